import Derived.Test.YtocphkfkdadhaaaZPk7
import Derived.Test.YtocphkfkdadhaaaZPk2
import Derived.Test.YtocphkfkdadhaaaZPk0
import Derived.Lib.SmallJoins
import Derived.ChangeSlices
import Derived.ChangeArms
import Derived.OpenShut
import Derived.SizedLaws
import Derived.ProofKit
namespace Go.Proofs.Ytocphkfkdadhaaa.H
open Go.RowKit Go.Proofs.YtocphkfkdadhaaaW.PrintWords Go.Proofs.YtocphkfkdadhaaaW.PrintLast Go.Proofs.YtocphkfkdadhaaaW.PrintMore
set_option linter.unusedVariables false
set_option linter.unusedSimpArgs false
theorem xor_bits (x : Nat) (hx : x < 1048576) : bits .xor .i64 (x : Int) 1 = ((x ^^^ 1 : Nat) : Int) := by
  have h1 : (BitVec.ofInt 64 (x : Int)).toNat = x := by
    rw [BitVec.ofInt_natCast, BitVec.toNat_ofNat]; exact Nat.mod_eq_of_lt (by omega)
  have h2 : (BitVec.ofInt 64 (1 : Int)).toNat = 1 := rfl
  have h3 : x ^^^ 1 < 1048576 := xor_lt (by decide) hx
  show IntKind.i64.wrap ((BitVec.ofInt 64 (x : Int) ^^^ BitVec.ofInt 64 1).toNat : Int) = _
  rw [BitVec.toNat_xor, h1, h2, IntWalk.i64_in _ (by omega)]
theorem upP_snoc (ss : List (List Int)) (s q : Nat) : upP ss (s + 1) q = upP ss s q ++ [at0 ss ((q / 2 ^ s) ^^^ 1)] := by
  rw [upP_eq, upP_eq, List.range_succ, List.map_append]; rfl
theorem upP_len (ss : List (List Int)) (s q : Nat) : (upP ss s q).length = s := by simp [upP_eq]
set_option maxHeartbeats 2000000 in
set_option maxRecDepth 100000 in
theorem path_any (D : Nat) (hD : D ≤ 12) (ws : List Int) (at_ : Nat) (ha : at_ < ws.length) {B : Nat} {w0 w : World} {L : List Item} {g : Nat} {v1 v2 : Value} {ss : List (List Int)} (hM : MemAt D ws ss) (HO : Own B w0 w (memL g v1 v2 ws ss L)) :
    Calls Try.prog 71 #[.pointer (some ⟨g, 0, none⟩), .int .i64 (at_ : Int)] w fun e w' => ∃ v, e = .returned v ∧ Own B w0 w' (.row kH 25 v (proofP D (leavesW ws) at_) :: memL g v1 v2 ws ss L) := by
  have hn4 : ws.length ≤ 4096 := by rw [hM.2.2.1]; exact Nat.pow_le_pow_right (by decide) hD
  have HEND : Aside0 (upP ss D (ws.length + at_) = proofP D (leavesW ws) at_) := ⟨by
    have := hM.1.path at_ (by rw [← hM.2.2.1]; exact ha)
    rwa [← hM.2.2.1] at this⟩
  generalize proofP D (leavesW ws) at_ = pf at *
  have hsl : ss.length = 2 * ws.length := by rw [hM.1.len, hM.2.2.1]
  obtain ⟨m, hm⟩ : ∃ m, m = 2 * ws.length := ⟨_, rfl⟩
  rw [← hm] at hsl
  obtain ⟨A1, c1, rfl, _, _⟩ := HO.reads 1 rfl
  obtain ⟨g2, c2, rfl, hc2⟩ := HO.form 2 rfl (by omega)
  rw [hsl] at HO ⊢
  have HD := Aside0.mk hM.2.2.1
  have HSS := Aside0.mk hM.2.1
  have HSL := Aside0.mk hsl
  have H0 := Aside0.mk (HO.null kH 25)
  have hcc0 : w.cell? ⟨g, 0, none⟩ = _ := memc0 HO
  clear HO hM hsl
  obtain ⟨n, hn⟩ : ∃ n, n = ws.length := ⟨_, rfl⟩
  rw [← hn] at hm ha hn4 HD HEND H0 hcc0 ⊢
  clear hn
  obtain ⟨q, hq⟩ : ∃ q, q = n + at_ := ⟨_, rfl⟩
  rw [← hq] at HEND
  have hwq : IntKind.i64.wrap ((n : Int) + (at_ : Int)) = (q : Int) := by rw [IntWalk.i64_in _ (by omega)]; omega
  have HQ := Aside0.mk hq
  have HMM := Aside0.mk hm
  clear hq hm
  have hi31 : (Try.prog.info? 25).map (·.size) = some 32 := by kernel_rfl
  go_enter Try.func71, Try.ntmps71
  go_wp2_with fail
  clear hwq hcc0
  go_loopw [5, 6] (fun v5 v6 wr => ∃ s : Nat, s ≤ D ∧ v6 = .int .i64 ((q / 2 ^ s : Nat) : Int) ∧ Aside0 (Own B w0 wr (.row kH 25 v5 (upP ss s q) :: memL g (.slice A1 n c1) (.slice (some ⟨g2, 0, none⟩) m c2) ws ss L))) (fun _ v6 _ => (intOf v6).toNat)
  case atStart => exact ⟨0, Nat.zero_le _, by rw [Nat.pow_zero, Nat.div_one], H0⟩
  case round =>
    clear H0
    obtain ⟨s, hs, rfl, HI⟩ := hrel
    obtain ⟨i, hi⟩ : ∃ i, i = q / 2 ^ s := ⟨_, rfl⟩
    rw [← hi]
    have HIQ := Aside0.mk hi
    clear hi
    have hb : 2 ^ (D - s) ≤ i ∧ i < 2 * 2 ^ (D - s) := by
      have e : 2 ^ D = 2 ^ (D - s) * 2 ^ s := by rw [← Nat.pow_add, Nat.sub_add_cancel hs]
      have h1 := HQ.out
      have h2 := HD.out
      rw [HIQ.out]
      have hp : 0 < 2 ^ s := Nat.two_pow_pos s
      constructor
      · rw [Nat.le_div_iff_mul_le hp, ← e]; omega
      · rw [Nat.div_lt_iff_lt_mul hp, Nat.mul_assoc, ← e]; omega
    have hmn : i < m := by
      have : 2 ^ (D - s) ≤ 2 ^ D := Nat.pow_le_pow_right (by decide) (Nat.sub_le _ _)
      have := HD.out
      have := HMM.out
      omega
    have hm8 : m ≤ 8192 := by have := HMM.out; omega
    by_cases hlt : s < D
    · have h2 : 2 ≤ 2 ^ (D - s) := by
        have := Nat.pow_le_pow_right (n := 2) (by decide) (show 1 ≤ D - s by omega)
        simpa using this
      have hi2 : 2 ≤ i := by omega
      have hd : decide (1 < (i : Int)) = true := decide_eq_true (by omega)
      clear h2 hb
      obtain ⟨j, hj⟩ : ∃ j, j = i ^^^ 1 := ⟨_, rfl⟩
      have hxb : bits .xor .i64 (i : Int) 1 = (j : Int) := by rw [hj]; exact xor_bits i (by omega)
      have hjm : j < m := by rw [hj]; exact xor_lt (by have := HMM.out; omega) hmn
      have HSN : Aside0 (upP ss (s + 1) q = upP ss s q ++ [at0 ss j]) := ⟨by rw [upP_snoc, hj, HIQ.out]⟩
      clear hj
      have HHX : Aside0 (Hsh (at0 ss j)) := ⟨Hshs_at HSS.out j (by have := HSL.out; omega)⟩
      have hcA : wr.cell? ⟨g, 1, none⟩ = some (.slice (some ⟨g2, 0, none⟩) m c2) := HI.out.cell 1 rfl 1 rfl
      have HCC := Aside0.mk (HI.out.cells_row 3 rfl j hjm).2
      have HUL : Aside0 (((upP ss s q).length + 1) * 32 ≤ 140737488355328) := ⟨by rw [upP_len]; omega⟩
      have HCX : Aside0 (ss.getD j [] = at0 ss j) := ⟨rfl⟩
      rw [HCX.out] at HCC
      clear HCX
      generalize at0 ss j = x at *
      have hj0 : (0 : Int) ≤ (j : Int) ∧ (j : Int) < (m : Int) := by omega
      go_wp2_with (first
        | fail
        | ((with_reducible refine gate_dst (N := 26) rfl ?_); refine load_H rfl 25 (.tmp 25) rfl ⟨g2, j * 32, none⟩ x rfl HCC.out Try.underlying25 (by rw [HHX.out.1]; exact hi31) ?_)
        | ((with_reducible refine gate_dst (N := 27) rfl ?_); refine Kd.event_run rfl (lit_H_run (.tmp 26) rfl x rfl HHX.out.1) ?_)
        | ((with_reducible refine gate_dst (N := 28) rfl ?_); refine own_append kH Flat_H HI.out 0 rfl rfl (.tmp 18) (.tmp 27) 26 (.agg (Array.replicate 32 (.int .u8 0))) 32 rfl Try.underlying26 infoH (by simp [Value.cells, kH]) (by decide) (by decide) x (x.map (Value.int .u8)) (fun _ => ⟨HHX.out.1, rfl⟩) rfl rfl HUL.out ?_; intro v3 w3 H3; replace H3 := Aside0.mk H3)
        )
      rw [← HSN.out] at H3
      go_roundw
      case rel => exact ⟨s + 1, hlt, by rw [Nat.pow_succ, ← Nat.div_div_eq_div_mul, ← HIQ.out, Int.natCast_ediv]; rfl, H3⟩
      case measure => simp [intOf]; omega
    · obtain rfl : s = D := by omega
      have hd : decide (1 < (i : Int)) = false := decide_eq_false (by rw [Nat.sub_self] at hb; omega)
      clear hb
      go_wp2_with fail
      go_ret
      exact ⟨_, rfl, by have h := HI.out; rw [HEND.out] at h; exact h⟩
set_option maxHeartbeats 1000000 in
set_option maxRecDepth 100000 in
theorem get_mem {D : Nat} (hD : D ≤ 12) {B : Nat} {w0 W : World} {L : List Item} {g : Nat} {v1 v2 : Value} {ws : List Int} {ss : List (List Int)} (hM : MemAt D ws ss) (h : Own B w0 W (memL g v1 v2 ws ss L)) (at_ : Nat) (ha : at_ ≤ 18446744073709551615) :
    Calls Try.prog 27 #[.pointer (some ⟨g, 0, none⟩), .int .u64 (at_ : Int)] W fun e w' => e = .returned (if at_ < ws.length then .tuple #[.int .u64 (ws.getD at_ 0), .int .i64 0] else .tuple #[.int .u64 0, .int .i64 2]) ∧ w' = W := by
  have HA := Aside0.mk (asked_mem hM h at_ ha)
  have hn4 : 1 ≤ ws.length ∧ ws.length ≤ 4096 := by rw [hM.2.2.1]; exact ⟨Nat.two_pow_pos D, Nat.pow_le_pow_right (by decide) hD⟩
  obtain ⟨g1, c1, rfl, _⟩ := h.form 1 rfl (by omega)
  have hc0 := memc0 h
  have HC := Aside0.mk (h.C_of 1 rfl)
  obtain ⟨r, hr⟩ : ∃ r : Value, r = if at_ < ws.length then .tuple #[.int .u64 (ws.getD at_ 0), .int .i64 0] else .tuple #[.int .u64 0, .int .i64 2] := ⟨_, rfl⟩
  rw [← hr]
  have HR := Aside0.mk hr
  clear hM h hr
  obtain ⟨n, hn⟩ : ∃ n, n = ws.length := ⟨_, rfl⟩
  rw [← hn] at HA hc0 hn4 HC HR
  have HN := Aside0.mk hn
  clear hn
  by_cases hlt : at_ < n
  · have HE : Aside0 (r = .tuple #[.int .u64 (ws.getD at_ 0), .int .i64 0]) := ⟨by rw [HR.out, if_pos hlt]⟩
    clear HR
    rw [if_pos hlt] at HA
    obtain ⟨ad, he, hcell⟩ := Kd.at_int HC.out (at_ : Int) (Int.natCast_nonneg at_) (by omega)
    injection he with he
    subst he
    rw [Int.toNat_natCast, show rd ws (at_ : Int) = ws.getD at_ 0 by simp [rd], add_plain] at hcell
    generalize ws.getD at_ 0 = x at *
    have hwa : IntKind.i64.wrap (at_ : Int) = (at_ : Int) := IntWalk.i64_in _ (by omega)
    go_enter Try.func27, Try.ntmps27
    go_wp2_with fail
    refine HA.out.mono ?_
    rintro e w1 ⟨rfl, rfl⟩
    go_wp2_with fail
    go_ret2
    exact ⟨by rw [HE.out]; rfl, rfl⟩
  · have HE : Aside0 (r = .tuple #[.int .u64 0, .int .i64 2]) := ⟨by rw [HR.out, if_neg hlt]⟩
    clear HR
    rw [if_neg hlt] at HA
    go_enter Try.func27, Try.ntmps27
    go_wp2_with fail
    refine HA.out.mono ?_
    rintro e w1 ⟨rfl, rfl⟩
    go_wp2_with fail
    go_ret2
    exact ⟨by rw [HE.out]; rfl, rfl⟩
theorem set_yes {D : Nat} (hD : D ≤ 12) {B : Nat} {w0 W : World} {L : List Item} {g : Nat} {v1 v2 : Value} {ws : List Int} {ss : List (List Int)} (hM : MemAt D ws ss) (h : Own B w0 W (memL g v1 v2 ws ss L)) (at_ x : Nat) (ha : at_ < ws.length) (hx : x ≤ 18446744073709551615) :
    Calls Try.prog 28 #[.pointer (some ⟨g, 0, none⟩), .int .u64 (at_ : Int), .int .u64 (x : Int)] W fun e w' => ∃ ss', e = .returned (.int .i64 0) ∧ MemAt D (ws.set at_ (x : Int)) ss' ∧ Own B w0 w' (memL g v1 v2 (ws.set at_ (x : Int)) ss' L) := by
  have hn4 : ws.length ≤ 4096 := by rw [hM.2.2.1]; exact Nat.pow_le_pow_right (by decide) hD
  have HA := Aside0.mk (asked_mem hM h at_ (by omega))
  have HP := Aside0.mk (put_any D hD ws x at_ hx ha hM h)
  rw [if_pos ha] at HA
  have hwa : IntKind.i64.wrap (at_ : Int) = (at_ : Int) := IntWalk.i64_in _ (by omega)
  clear hM h
  go_enter Try.func28, Try.ntmps28
  go_wp2_with fail
  refine HA.out.mono ?_
  rintro e w1 ⟨rfl, rfl⟩
  go_wp2_with fail
  refine HP.out.mono ?_
  rintro e w1 ⟨ss', rfl, hM', hO'⟩
  replace hM' := Aside0.mk hM'
  replace hO' := Aside0.mk hO'
  go_wp2_with fail
  go_ret
  exact ⟨ss', rfl, hM'.out, hO'.out⟩
theorem set_no {D : Nat} (hD : D ≤ 12) {B : Nat} {w0 W : World} {L : List Item} {g : Nat} {v1 v2 : Value} {ws : List Int} {ss : List (List Int)} (hM : MemAt D ws ss) (h : Own B w0 W (memL g v1 v2 ws ss L)) (at_ x : Nat) (ha : at_ ≤ 18446744073709551615) (hn : ¬ at_ < ws.length) :
    Calls Try.prog 28 #[.pointer (some ⟨g, 0, none⟩), .int .u64 (at_ : Int), .int .u64 (x : Int)] W fun e w' => e = .returned (.int .i64 2) ∧ w' = W := by
  have HA := Aside0.mk (asked_mem hM h at_ ha)
  rw [if_neg hn] at HA
  clear hM h
  go_enter Try.func28, Try.ntmps28
  go_wp2_with fail
  refine HA.out.mono ?_
  rintro e w1 ⟨rfl, rfl⟩
  go_wp2_with fail
  go_ret
  exact ⟨rfl, rfl⟩
theorem prove_yes {D : Nat} (hD : D ≤ 12) {B : Nat} {w0 W : World} {L : List Item} {g : Nat} {v1 v2 : Value} {ws : List Int} {ss : List (List Int)} (hM : MemAt D ws ss) (h : Own B w0 W (memL g v1 v2 ws ss L)) (at_ : Nat) (ha : at_ < ws.length) :
    Calls Try.prog 22 #[.pointer (some ⟨g, 0, none⟩), .int .u64 (at_ : Int)] W fun e w' => ∃ v, e = .returned (.tuple #[v, .int .i64 0]) ∧ Own B w0 w' (.row kH 25 v (proofP D (leavesW ws) at_) :: memL g v1 v2 ws ss L) := by
  have hn4 : ws.length ≤ 4096 := by rw [hM.2.2.1]; exact Nat.pow_le_pow_right (by decide) hD
  have HA := Aside0.mk (asked_mem hM h at_ (by omega))
  have HP := Aside0.mk (path_any D hD ws at_ ha hM h)
  rw [if_pos ha] at HA
  have hwa : IntKind.i64.wrap (at_ : Int) = (at_ : Int) := IntWalk.i64_in _ (by omega)
  clear hM h
  go_enter Try.func22, Try.ntmps22
  go_wp2_with fail
  refine HA.out.mono ?_
  rintro e w1 ⟨rfl, rfl⟩
  go_wp2_with fail
  refine HP.out.mono ?_
  rintro e w1 ⟨v, rfl, hO'⟩
  replace hO' := Aside0.mk hO'
  go_wp2_with fail
  go_ret2
  exact ⟨v, rfl, hO'.out⟩
theorem prove_no {D : Nat} (hD : D ≤ 12) {B : Nat} {w0 W : World} {L : List Item} {g : Nat} {v1 v2 : Value} {ws : List Int} {ss : List (List Int)} (hM : MemAt D ws ss) (h : Own B w0 W (memL g v1 v2 ws ss L)) (at_ : Nat) (ha : at_ ≤ 18446744073709551615) (hn : ¬ at_ < ws.length) :
    Calls Try.prog 22 #[.pointer (some ⟨g, 0, none⟩), .int .u64 (at_ : Int)] W fun e w' => e = .returned (.tuple #[.slice none 0 0, .int .i64 2]) ∧ w' = W := by
  have HA := Aside0.mk (asked_mem hM h at_ ha)
  rw [if_neg hn] at HA
  clear hM h
  go_enter Try.func22, Try.ntmps22
  go_wp2_with fail
  refine HA.out.mono ?_
  rintro e w1 ⟨rfl, rfl⟩
  go_wp2_with fail
  go_ret2
  exact ⟨rfl, rfl⟩
end Go.Proofs.Ytocphkfkdadhaaa.H

namespace Go.Proofs.Ytocphkfkdadhaaa.H
open Go.RowKit Go.Proofs.YtocphkfkdadhaaaW.PrintWords Go.Proofs.YtocphkfkdadhaaaW.PrintLast Go.Proofs.YtocphkfkdadhaaaW.PrintMore
set_option linter.unusedVariables false
set_option linter.unusedSimpArgs false
set_option maxHeartbeats 1000000 in
set_option maxRecDepth 100000 in
theorem part_ok (ls : List (List Int)) (f t : Nat) (hf : f < t) (ht : t ≤ ls.length) (A : Option Addr) (c : Nat) (hc : ls.length ≤ c) (hcm : ls.length ≤ 65536) (w : World) (hC : Kd.C kH w A ls.length ls) :
    Calls Try.prog 119 #[.slice A ls.length c, .int .i64 (f : Int), .int .i64 (t : Int)] w fun e w' => ∃ A' c', e = .returned (.slice A' (t - f) c') ∧ t - f ≤ c' ∧ Kd.C kH w A' (t - f) ((ls.drop f).take (t - f)) ∧ w' = w := by
  obtain ⟨b, o, rfl, _⟩ := elem_H hC (by omega)
  have HX : Aside0 (t - f ≤ c - f ∧ Kd.C kH w (some ⟨b, o + f * 32, none⟩) (t - f) ((ls.drop f).take (t - f))) := ⟨by omega, C_takeH (C_dropH hC f (by omega)) (t - f) (by omega)⟩
  generalize (ls.drop f).take (t - f) = lr at *
  clear hC
  generalize ls.length = n at *
  have hd : decide (n ≤ f) = false := decide_eq_false (by omega)
  have hmin : min (t : Int) (n : Int) = (t : Int) := by omega
  have hmin2 : min t n = t := by omega
  have hb1 : (0 : Int) ≤ (f : Int) ∧ (f : Int) ≤ (t : Int) ∧ (t : Int) ≤ (c : Int) ∧ (f : Int) ≤ (c : Int) := by omega
  have hnc : ¬ c = f := by omega
  go_enter Try.func119, Try.ntmps119
  go_wp2_with fail
  go_ret
  exact ⟨_, _, rfl, HX.out.1, HX.out.2, rfl⟩
theorem pow_le16 {k : Nat} (h : k ≤ 16) : 2 ^ k ≤ 65536 := Nat.le_trans (Nat.pow_le_pow_right (by decide) h) (Nat.le_refl (2 ^ 16))
theorem side_bounds {D k i n s q o f t : Nat} (hk : k < D) (hD : D ≤ 16) (hs : 2 ^ k = s) (hq : q = i / s) (ho : o = q ^^^ 1) (hf : f = o * s) (ht : t = (o + 1) * s) (hn : n = 2 ^ D) (hi : i < 2 ^ D) :
    1 ≤ s ∧ s ≤ 65536 ∧ q ≤ 65536 ∧ o ≤ 65537 ∧ n ≤ 65536 ∧ t ≤ n ∧ t - f = s ∧ f < t := by
  have hs1 : 1 ≤ s := by rw [← hs]; exact Nat.one_le_two_pow
  have hs2 : s ≤ 65536 := by rw [← hs]; exact pow_le16 (by omega)
  have hn6 : n ≤ 65536 := by rw [hn]; exact pow_le16 hD
  have hq2 : q ≤ 65536 := by
    have h2 : q ≤ i := by rw [hq]; exact Nat.div_le_self _ _
    omega
  have ho2 : o ≤ 65537 := by rw [ho, xor_one]; split <;> omega
  have e : 2 ^ D = 2 ^ (D - k) * s := by rw [← hs, ← Nat.pow_add, Nat.sub_add_cancel (by omega)]
  have h1 : q < 2 ^ (D - k) := by rw [hq, Nat.div_lt_iff_lt_mul hs1, ← e]; exact hi
  have h2 : o < 2 ^ (D - k) := by rw [ho]; exact xor_lt (by rw [show D - k = (D - k - 1) + 1 by omega, Nat.pow_succ, Nat.mul_mod_left]) h1
  have h3 : (o + 1) * s ≤ 2 ^ (D - k) * s := Nat.mul_le_mul_right s h2
  have h4 : t = f + s := by rw [ht, hf]; exact Nat.succ_mul o s
  rw [← e, ← ht, ← hn] at h3
  exact ⟨hs1, hs2, hq2, ho2, hn6, h3, by omega, by omega⟩
theorem wrap_u64_small (k : Nat) (h : k ≤ 16) : IntKind.u64.wrap (k : Int) = (k : Int) := by rw [IntKind.wrap_u64]; omega
theorem wrap64_nat (x : Nat) (h : x ≤ 9223372036854775807) : wrap64 (x : Int) = (x : Int) := by unfold wrap64; omega
theorem side_facts {i s q o f t : Nat} (hs1 : 1 ≤ s) (hs2 : s ≤ 65536) (hq2 : q ≤ 65536) (ho2 : o ≤ 65537) (hq : q = i / s) (ho : o = q ^^^ 1) (hf : f = o * s) (ht : t = (o + 1) * s) (ht2 : t ≤ 65536) (hft : f < t) :
    ¬ (s : Int) = 0 ∧ (i : Int) / (s : Int) = (q : Int) ∧ (i : Int).tdiv (s : Int) = (q : Int) ∧ bits .xor .i64 (q : Int) 1 = (o : Int) ∧ wrap64 ((o : Int) * (s : Int)) = (f : Int) ∧ wrap64 (((o : Int) + 1) * (s : Int)) = (t : Int) := by
  have h1 : (i : Int) / (s : Int) = (q : Int) := by rw [hq, Int.natCast_ediv]
  refine ⟨by clear hq ho hf ht; omega, h1, ?_, ?_, ?_, ?_⟩
  · rw [Int.tdiv_eq_ediv_of_nonneg (Int.natCast_nonneg i)]; exact h1
  · rw [ho]; exact xor_bits q (by clear hq ho hf ht; omega)
  · rw [← Int.natCast_mul, ← hf]; exact wrap64_nat f (by clear hq ho hf ht; omega)
  · rw [show ((o : Int) + 1) = ((o + 1 : Nat) : Int) from (Int.natCast_succ o).symm, ← Int.natCast_mul, ← ht]; exact wrap64_nat t (by clear hq ho hf ht; omega)
set_option maxHeartbeats 2000000 in
set_option maxRecDepth 100000 in
theorem proof04_ok (D : Nat) (hD : D ≤ 16) (ls : List (List Int)) (hl : ls.length = 2 ^ D) (i : Nat) (hi : i < 2 ^ D) (hls : Hshs ls) (A : Option Addr) (c : Nat) (hc : ls.length ≤ c) (w : World) (hC : Kd.C kH w A ls.length ls) :
    Calls Try.prog 72 #[.int .i64 (D : Int), .slice A ls.length c, .int .i64 (i : Int)] w fun e w' => ∃ v, e = .returned (.tuple #[v, .int .i64 0]) ∧ Own w.heap.size w w' [.row kH 25 v (proofP D ls i)] := by
  have h16 : 2 ^ D ≤ 65536 := Nat.pow_le_pow_right (by decide : 0 < 2) hD
  have HBD := Aside0.mk (fun W => bad_ok D ls.length hD (by omega) W)
  have HPT := Aside0.mk (fun f t hf ht W h => part_ok ls f t hf ht A c hc (by omega) W h)
  have HC := Aside0.mk hC
  have HLS := Aside0.mk hls
  have HL := Aside0.mk hl
  have H0 := Aside0.mk ((Own.start w).null kH 25)
  clear hC hls hl
  obtain ⟨n, hn⟩ : ∃ n, n = ls.length := ⟨_, rfl⟩
  rw [← hn] at HBD HPT HC hc HL ⊢
  have HN := Aside0.mk hn
  clear hn
  have HI := Aside0.mk hi
  have hwd : IntKind.u64.wrap (D : Int) = (D : Int) := by rw [IntKind.wrap_u64]; omega
  have hmd : min D 64 = D := Nat.min_eq_left (by omega)
  have hd2 : decide (16 < (D : Int)) = false := decide_eq_false (by omega)
  obtain ⟨p, hp⟩ : ∃ p, 2 ^ D = p := ⟨_, rfl⟩
  have hwp := wrap_pow D p hD hp
  have hd4 : decide (p ≤ i) = false := decide_eq_false (by rw [← hp]; omega)
  have HP := Aside0.mk hp
  clear hp h16 hi
  go_enter Try.func72, Try.ntmps72
  go_wp2_with (first
    | fail
    | (go_at_call 113; refine (HBD.out _).mono ?_; rintro e w2 ⟨rfl, rfl⟩)
    )
  clear hwd hmd hd2 hwp hd4 HP
  go_loopw [9, 10] (fun v9 v10 wr => ∃ k : Nat, k ≤ D ∧ v10 = .int .i64 (k : Int) ∧ Aside0 (Own w2.heap.size w2 wr [.row kH 25 v9 ((List.range k).map (sideP ls i))])) (fun _ v10 _ => D - (intOf v10).toNat)
  case atStart => exact ⟨0, Nat.zero_le _, rfl, H0⟩
  case round =>
    clear H0
    obtain ⟨k, hk, rfl, HR⟩ := hrel
    by_cases hlt : k < D
    · have hdl : decide (k < D) = true := decide_eq_true hlt
      obtain ⟨s, hs⟩ : ∃ s, 2 ^ k = s := ⟨_, rfl⟩
      obtain ⟨q, hq⟩ : ∃ q, q = i / s := ⟨_, rfl⟩
      obtain ⟨o, ho⟩ : ∃ o, o = q ^^^ 1 := ⟨_, rfl⟩
      obtain ⟨f, hf⟩ : ∃ f, f = o * s := ⟨_, rfl⟩
      obtain ⟨t, ht⟩ : ∃ t, t = (o + 1) * s := ⟨_, rfl⟩
      obtain ⟨hs1, hs2, hq2, ho2, hn6, hot⟩ := side_bounds hlt hD hs hq ho hf ht HL.out HI.out
      have HSN : Aside0 ((List.range (k + 1)).map (sideP ls i) = (List.range k).map (sideP ls i) ++ [rootP k ((ls.drop f).take s)]) := ⟨by
        rw [List.range_succ, List.map_append]
        congr 1
        simp only [List.map_cons, List.map_nil, sideP]
        rw [hs, ← hq, ← ho, ← hf]⟩
      have HEQ := Aside0.mk (And.intro hq (And.intro ho (And.intro hf ht)))
      have HK := Aside0.mk hs
      clear hq ho hf ht hs
      have HCW := Aside0.mk (Kd.C_below HC.out HR.out.below)
      have HPX := Aside0.mk (HPT.out f t hot.2.2 hot.1 wr HCW.out)
      rw [hot.2.1] at HPX
      have HSP : Aside0 (Hshs ((ls.drop f).take s)) := ⟨Hshs_take (Hshs_drop HLS.out f) s⟩
      have HSL : Aside0 (((ls.drop f).take s).length = s) := ⟨by rw [List.length_take, List.length_drop, ← HN.out]; omega⟩
      have HRT := Aside0.mk (fun A c W hC hc => root_any k (by omega) ((ls.drop f).take s) A c W HSP.out hC hc)
      have HHR := Aside0.mk (Hsh_root k ((ls.drop f).take s) HSP.out)
      have HUL : Aside0 ((((List.range k).map (sideP ls i)).length + 1) * 32 ≤ 140737488355328) := ⟨by rw [List.length_map, List.length_range]; omega⟩
      rw [HSL.out] at HRT
      generalize rootP k ((ls.drop f).take s) = x at *
      generalize (ls.drop f).take s = lp at *
      obtain ⟨hq, ho, hf, ht⟩ := HEQ.out
      have hs := HK.out
      have hwp := wrap_pow k s (Nat.le_trans (Nat.le_of_lt hlt) hD) hs
      have hwk := wrap_u64_small k (Nat.le_trans (Nat.le_of_lt hlt) hD)
      have hmk : min k 64 = k := Nat.min_eq_left (Nat.le_trans (Nat.le_trans (Nat.le_of_lt hlt) hD) (by decide))
      obtain ⟨hsz, hqd, hqt, hxo, hmf, hmt⟩ := side_facts hs1 hs2 hq2 ho2 hq ho hf ht (Nat.le_trans hot.1 hn6) hot.2.2
      clear hs hq ho hf ht
      go_upto_region 11 with (fail)
      simp only [hwp]
      clear hwp hwk hmk
      clear hot
      go_wp2_with (first
        | fail
        | (go_at_call 119; refine HPX.out.mono ?_; rintro e w3 ⟨A', c', rfl, hc', hC', rfl⟩; have HCX := Aside0.mk (And.intro hc' hC'); clear hc' hC')
        | (go_at_call 114; refine (HRT.out _ _ _ HCX.out.2 HCX.out.1).mono ?_; rintro e w4 ⟨rfl, hB4⟩; have H4 := Aside0.mk (HR.out.step hB4); clear hB4)
        | ((with_reducible refine gate_dst (N := 61) rfl ?_); refine Kd.event_run rfl (lit_H_run (.tmp 60) rfl x rfl HHR.out.1) ?_)
        | ((with_reducible refine gate_dst (N := 62) rfl ?_); refine own_append kH Flat_H H4.out 0 rfl rfl (.tmp 49) (.tmp 61) 26 (.agg (Array.replicate 32 (.int .u8 0))) 32 rfl Try.underlying26 infoH (by simp [Value.cells, kH]) (by decide) (by decide) x (x.map (Value.int .u8)) (fun _ => ⟨HHR.out.1, rfl⟩) rfl rfl HUL.out ?_; intro v5 w5 H5; replace H5 := Aside0.mk H5)
        )
      rw [← HSN.out] at H5
      go_roundw
      case rel => exact ⟨k + 1, hlt, by go_num, H5⟩
      case measure => simp [intOf]; omega
    · have hdl : decide (k < D) = false := decide_eq_false hlt
      obtain rfl : k = D := by omega
      go_wp2_with fail
      go_ret2
      exact ⟨_, rfl, HR.out⟩
end Go.Proofs.Ytocphkfkdadhaaa.H

namespace Go.Proofs.Ytocphkfkdadhaaa.H
open Go.RowKit Go.Proofs.YtocphkfkdadhaaaW.PrintWords Go.Proofs.YtocphkfkdadhaaaW.PrintLast Go.Proofs.YtocphkfkdadhaaaW.PrintMore
set_option linter.unusedVariables false
set_option linter.unusedSimpArgs false
set_option maxHeartbeats 1000000 in
set_option maxRecDepth 100000 in
theorem mroot_mem {D : Nat} (hD : D ≤ 12) {B : Nat} {w0 W : World} {L : List Item} {g : Nat} {v1 v2 : Value} {ws : List Int} {ss : List (List Int)} (hM : MemAt D ws ss) (h : Own B w0 W (memL g v1 v2 ws ss L)) :
    Calls Try.prog 25 #[.pointer (some ⟨g, 0, none⟩)] W fun e w' => e = .returned (.agg (cellsB (memroot D ws))) ∧ Below W.heap.size W w' := by
  have HN := Aside0.mk (fun W1 (hb : Below W.heap.size W W1) => none_mem hM (h.step hb))
  have hn4 : 1 ≤ ws.length := by rw [hM.2.2.1]; exact Nat.two_pow_pos D
  have hsl : ss.length = 2 * ws.length := by rw [hM.1.len, hM.2.2.1]
  obtain ⟨g2, c2, rfl, _⟩ := h.form 2 rfl (by omega)
  have HX : Aside0 (ss.getD 1 [] = memroot D ws) := ⟨hM.1.root⟩
  have HH := Aside0.mk (Hsh_memroot D ws)
  have H := Aside0.mk h
  have H0 := Aside0.mk (Own.start W)
  have HCC := Aside0.mk (fun W1 (hb : Below W.heap.size W W1) => ((h.step hb).cells_row 2 rfl 1 (by omega)).2)
  rw [HX.out] at HCC
  have hA := Aside0.mk (fun W1 (hb : Below W.heap.size W W1) => memc1 (h.step hb))
  have hm2 : (1 : Int) < (ss.length : Int) := by omega
  clear h hM HX
  generalize memroot D ws = r at *
  generalize ss.length = m at *
  have R32 : Aside0 (Arr 32 (Array.replicate 32 (.int .u8 0))) := ⟨Arr_rep _ _ rfl⟩
  have HA : Aside0 (Arr 32 (cellsB r)) := ⟨Arr_B HH.out.1⟩
  go_enter Try.func25, Try.ntmps25
  go_wp2_with (first
    | fail
    | ((with_reducible refine gate_dst (N := 2) rfl ?_); refine own_alloc H0.out rfl (N := 2) rfl (t := 25) rfl (Array.replicate 32 (.int .u8 0)) 32 (by kernel_rfl) ?_; intro g3 w1 H1 B1; replace H1 := Aside0.mk H1; replace B1 := Aside0.mk B1)
    )
  refine (HN.out _ H1.out.below).mono ?_
  rintro e w2 ⟨rfl, rfl⟩
  have hcA := hA.out _ H1.out.below
  have hcC := Aside0.mk (HCC.out _ H1.out.below)
  go_wp2_with (first
    | fail
    | ((with_reducible refine gate_dst (N := 12) rfl ?_); refine load_H rfl 25 (.tmp 11) rfl ⟨g2, 32, none⟩ r rfl hcC.out Try.underlying25 (by rw [HH.out.1]; kernel_rfl) ?_)
    | ((with_reducible refine own_store H1.out 0 g3 _ 25 rfl rfl (.tmp 2) (.tmp 12) rfl (cellsB r) ?_ ?_ 32 R32.out HA.out (by kernel_rfl) ?_); (case _ => rfl); (case _ => rfl); intro w3 H3; replace H3 := Aside0.mk H3)
    )
  refine bodyPost_ret (own_result rfl _ H3.out 0 g3 (cellsB r) rfl rfl Try.underlying25 32 HA.out (by kernel_rfl)) rfl ?_
  exact ⟨rfl, H3.out.below⟩
set_option maxHeartbeats 1000000 in
set_option maxRecDepth 100000 in
theorem words_mem {D : Nat} (hD : D ≤ 12) {B : Nat} {w0 W : World} {L : List Item} {g : Nat} {v1 v2 : Value} {ws : List Int} {ss : List (List Int)} (hM : MemAt D ws ss) (h : Own B w0 W (memL g v1 v2 ws ss L)) :
    Calls Try.prog 21 #[.pointer (some ⟨g, 0, none⟩)] W fun e w' => ∃ v, e = .returned v ∧ Own B w0 w' (.row kU 23 v ws :: memL g v1 v2 ws ss L) := by
  have HN := Aside0.mk (none_mem hM h)
  have hn4 : 1 ≤ ws.length ∧ ws.length ≤ 4096 := by rw [hM.2.2.1]; exact ⟨Nat.two_pow_pos D, Nat.pow_le_pow_right (by decide) hD⟩
  obtain ⟨g1, c1, rfl, hc1⟩ := h.form 1 rfl (by omega)
  have hc0 := memc0 h
  have HC := Aside0.mk (cloneU_any ws (by omega) _ c1 W (h.C_of 1 rfl) hc1 (by omega))
  have H := Aside0.mk h
  clear h hM
  generalize ws.length = n at *
  go_enter Try.func21, Try.ntmps21
  go_wp2_with fail
  refine HN.out.mono ?_
  rintro e w1 ⟨rfl, rfl⟩
  go_wp2_with fail
  refine HC.out.mono ?_
  rintro e w1 ⟨v, rfl, hO⟩
  have H1 := Aside0.mk (H.out.call hO)
  clear hO
  go_wp2_with fail
  go_ret
  exact ⟨v, rfl, H1.out⟩
set_option maxHeartbeats 1000000 in
set_option maxRecDepth 100000 in
theorem memroot_yes (D : Nat) (hD : D ≤ 12) (ws : List Int) (hl : ws.length = 2 ^ D) (hw : Wrd ws) (A : Option Addr) (c : Nat) (hc : ws.length ≤ c) (w : World) (hC : Kd.C kU w A ws.length ws) :
    Calls Try.prog 14 #[.slice A ws.length c] w fun e w' => e = .returned (.tuple #[.agg (cellsB (memroot D ws)), .int .i64 0]) ∧ Below w.heap.size w w' := by
  have H0 := Aside0.mk (Own.start w)
  have HN := Aside0.mk (fun W h => new_ok D hD ws hl hw A c hc W h)
  have HC := Aside0.mk hC
  have R32 : Aside0 (Arr 32 (Array.replicate 32 (.int .u8 0))) := ⟨Arr_rep _ _ rfl⟩
  have HA : Aside0 (Arr 32 (cellsB (memroot D ws))) := ⟨Arr_B (Hsh_memroot D ws).1⟩
  have HRT := Aside0.mk (fun B w0 W g v1 v2 ss L (hM : MemAt D ws ss) (h : Own B w0 W (memL g v1 v2 ws ss L)) => mroot_mem hD hM h)
  generalize memroot D ws = r at *
  clear hC hl
  generalize ws.length = n at *
  go_enter Try.func14, Try.ntmps14
  go_wp2_with (first
    | fail
    | ((with_reducible refine gate_dst (N := 2) rfl ?_); refine own_alloc H0.out rfl (N := 2) rfl (t := 25) rfl (Array.replicate 32 (.int .u8 0)) 32 (by kernel_rfl) ?_; intro g3 w1 H1 B1; replace H1 := Aside0.mk H1; replace B1 := Aside0.mk B1)
    )
  refine (HN.out _ (Kd.C_below HC.out H1.out.below)).mono ?_
  rintro e w2 ⟨g, v1, v2, ss, rfl, hM, hO⟩
  have HR2 := Aside0.mk (HRT.out _ _ _ _ _ _ _ _ hM hO)
  have H2 := Aside0.mk (H1.out.call hO)
  clear hM hO
  go_wp2_with fail
  refine HR2.out.mono ?_
  rintro e w3 ⟨rfl, hB3⟩
  have H3 := Aside0.mk (H2.out.step hB3)
  clear hB3
  go_wp2_with (first
    | fail
    | ((with_reducible refine own_store H3.out 3 g3 _ 25 rfl rfl (.tmp 2) (.tmp 12) rfl (cellsB r) ?_ ?_ 32 R32.out HA.out (by kernel_rfl) ?_); (case _ => rfl); (case _ => rfl); intro w4 H4; replace H4 := Aside0.mk H4)
    )
  refine bodyPost_ret (own_result_ct rfl _ H4.out 3 g3 (cellsB r) rfl rfl Try.underlying25 32 HA.out (by kernel_rfl) (.int .i64 0) rfl) rfl ?_
  exact ⟨rfl, H4.out.below⟩
end Go.Proofs.Ytocphkfkdadhaaa.H

namespace Go.Proofs.Ytocphkfkdadhaaa.H
open Go.RowKit Go.Proofs.YtocphkfkdadhaaaW.PrintWords Go.Proofs.YtocphkfkdadhaaaW.PrintLast Go.Proofs.YtocphkfkdadhaaaW.PrintMore
set_option linter.unusedVariables false
set_option linter.unusedSimpArgs false
section
variable {P : Program} {ops : Array Oper} {S : World → Prop} {o : Oper} {a : Act}
theorem yif_load_H (hw : Region.wanted o (yielded ops a.tmps) = true) (ty : TypeId) (x : Operand) (ho : o.op = .load ty x) (p : Addr) (xs : List Int) (hx : a.eval x = .pointer (some p))
    (hS : ∀ w, S w → ∀ j v, (xs.map (Value.int .u8))[j]? = some v → w.cell? (p.add j) = some v) {n : Nat} {el : TypeId} (hu : P.underlying ty = some (.array n el)) (hi : (P.info? ty).map (·.size) = some xs.length) : YieldsIf P ops S o (.agg (cellsB xs)) a :=
  .inl ⟨hw, fun w h => by
    unfold execOp
    simp only [ho, hx, Sem.run_bind, Sem.run_pure, Result.andThen_ok, loadAt_H (P := P) (W := w) ty p xs (hS w h) hu hi]⟩
theorem yif_loadV (hw : Region.wanted o (yielded ops a.tmps) = true) (ty : TypeId) (x : Operand) (ho : o.op = .load ty x) (g : Nat) (cs : Array Value) (hx : a.eval x = .pointer (some ⟨g, 0, none⟩))
    (hS : ∀ w, S w → w.heap[g]? = some (.cells cs ty (0, 0))) (d : TypeDesc) (hu : P.underlying ty = some d) (hd : isAggD d = true) (hi : (P.info? ty).map (·.size) = some cs.size) : YieldsIf P ops S o (.agg cs) a :=
  .inl ⟨hw, fun w h => by
    unfold execOp
    simp only [ho, hx, Instr.loadAt, Instr.sureAddr, Sem.run_bind, Sem.run_pure, Result.andThen_ok, run_loadVar_row w g ty ty cs (0, 0) d (hS w h) hu (by cases d <;> first | rfl | cases hd) hi]⟩
theorem yif_eq_H (hw : Region.wanted o (yielded ops a.tmps) = true) (t u : TypeId) (x y : Operand) (ho : o.op = .binOp .eql t x y u) (xs ys : List Int) (hx : a.eval x = .agg (cellsB xs)) (hy : a.eval y = .agg (cellsB ys)) {n : Nat} {e : TypeId} (ht : P.underlying t = some (.array n e)) (he : P.underlying e = some (.int .u8)) (hs : (P.info? e).map (·.size) = some 1) (hg : P.eqGuardType P.depth t = false) (lx : xs.length = n) (ly : ys.length = n) :
    YieldsIf P ops S o (.bool (xs == ys)) a :=
  .inl ⟨hw, fun w _ => by
    unfold execOp
    have := (run_eqH (P := P) 0 t e n ht he hs hg xs ys lx ly x y w).1
    simp only [Sem.run_bind] at this
    simp only [ho, hx, hy, Sem.run_bind, Sem.run_pure]
    rw [this]
    rfl⟩
theorem yif_neq_H (hw : Region.wanted o (yielded ops a.tmps) = true) (t u : TypeId) (x y : Operand) (ho : o.op = .binOp .neq t x y u) (xs ys : List Int) (hx : a.eval x = .agg (cellsB xs)) (hy : a.eval y = .agg (cellsB ys)) {n : Nat} {e : TypeId} (ht : P.underlying t = some (.array n e)) (he : P.underlying e = some (.int .u8)) (hs : (P.info? e).map (·.size) = some 1) (hg : P.eqGuardType P.depth t = false) (lx : xs.length = n) (ly : ys.length = n) :
    YieldsIf P ops S o (.bool (!(xs == ys))) a :=
  .inl ⟨hw, fun w _ => by
    unfold execOp
    have := (run_eqH (P := P) 0 t e n ht he hs hg xs ys lx ly x y w).2
    simp only [Sem.run_bind] at this
    simp only [ho, hx, hy, Sem.run_bind, Sem.run_pure]
    rw [this]
    rfl⟩
end
theorem yif_eqb {P : Program} {ops : Array Oper} {S : World → Prop} {o : Oper} {a : Act} (b : Bool) (hw : Region.wanted o (yielded ops a.tmps) = true) (t u : TypeId) (x y : Operand) (ho : o.op = .binOp .eql t x y u) (xs ys : List Int) (hx : a.eval x = .agg (cellsB xs)) (hy : a.eval y = .agg (cellsB ys)) {n : Nat} {e : TypeId} (ht : P.underlying t = some (.array n e)) (he : P.underlying e = some (.int .u8)) (hs : (P.info? e).map (·.size) = some 1) (hg : P.eqGuardType P.depth t = false) (lx : xs.length = n) (ly : ys.length = n) (hb : (xs == ys) = b) :
    YieldsIf P ops S o (.bool b) a := by
  rw [← hb]
  exact yif_eq_H hw t u x y ho xs ys hx hy ht he hs hg lx ly
theorem reps_H1 (W : World) (x : List Int) (hx : x.length = 32) : Reps (kH.K W) kH.sz [x] (x.map (Value.int .u8)) := by
  refine ⟨by simp [hx, kH], fun j p hj => ?_⟩
  have hj0 : j = 0 := by
    have := (List.getElem?_eq_some_iff.1 hj).1
    simpa using this
  subst hj0
  obtain rfl : x = p := by simpa using hj
  refine ⟨hx, ?_⟩
  rw [Nat.zero_mul, List.drop_zero]
  exact List.take_of_length_le (by rw [List.length_map, hx]; exact Nat.le_refl _)
theorem eq_of_all {α : Type} [DecidableEq α] (d : α) (xs ys : List α) (hl : xs.length = ys.length) (h : ∀ j, j < xs.length → xs.getD j d = ys.getD j d) : xs = ys := by
  refine List.ext_getElem hl fun i h1 h2 => ?_
  have := h i h1
  rwa [List.getD_eq_getElem?_getD, List.getD_eq_getElem?_getD, List.getElem?_eq_getElem h1, List.getElem?_eq_getElem h2] at this
set_option maxHeartbeats 2000000 in
set_option maxRecDepth 100000 in
theorem same04_any (xs ys : List (List Int)) (hxs : Hshs xs) (hys : Hshs ys) (A1 A2 : Option Addr) (c1 c2 : Nat) (w : World) (hC1 : Kd.C kH w A1 xs.length xs) (hC2 : Kd.C kH w A2 ys.length ys) :
    Calls Try.prog 26 #[.slice A1 xs.length c1, .slice A2 ys.length c2] w fun e w' => e = .returned (.bool (decide (xs = ys))) ∧ Below w.heap.size w w' := by
  have HA := Aside0.mk hC1
  have HB := Aside0.mk hC2
  have hm1 := hC1.2.1
  have HX := Aside0.mk hxs
  have HY := Aside0.mk hys
  clear hC1 hC2 hxs hys
  obtain ⟨res, hres⟩ : ∃ b, b = decide (xs = ys) := ⟨_, rfl⟩
  rw [← hres]
  have HR := Aside0.mk hres
  clear hres
  by_cases hl : xs.length = ys.length
  · obtain ⟨n, hn⟩ : ∃ n, n = xs.length := ⟨_, rfl⟩
    rw [← hl] at HB ⊢
    rw [← hn] at HA HB hm1 ⊢
    have HL := Aside0.mk (And.intro hn (hn.trans hl))
    clear hn hl
    have hbn : ((n : Int) != (n : Int)) = false := by simp
    go_enter Try.func26, Try.ntmps26
    go_wp2_with fail
    go_loopw [5] (fun v5 wr => ∃ i : Nat, i ≤ n ∧ v5 = .int .i64 (i : Int) ∧ Aside0 (∀ j, j < i → at0 xs j = at0 ys j) ∧ Aside0 (Below w.heap.size w wr)) (fun v5 _ => n - (intOf v5).toNat)
    case atStart => exact ⟨0, Nat.zero_le _, rfl, ⟨fun j hj => by omega⟩, ⟨Below.refl _ _⟩⟩
    case round =>
      obtain ⟨i, hi, rfl, HE, HW⟩ := hrel
      by_cases hlt : i < n
      · have hdl : decide (i < n) = true := decide_eq_true hlt
        obtain ⟨b1, o1, rfl, hel1⟩ := elem_H HA.out (by omega)
        obtain ⟨b2, o2, rfl, hel2⟩ := elem_H HB.out (by omega)
        have hHx : Aside0 (Hsh (at0 xs i)) := ⟨Hshs_at HX.out i (by have := HL.out.1; omega)⟩
        have hHy : Aside0 (Hsh (at0 ys i)) := ⟨Hshs_at HY.out i (by have := HL.out.2; omega)⟩
        have hx := Aside0.mk (fun W (hb : Below w.heap.size w W) => (hel1 W (Kd.C_below HA.out hb) i hlt).2)
        have hy := Aside0.mk (fun W (hb : Below w.heap.size w W) => (hel2 W (Kd.C_below HB.out hb) i hlt).2)
        obtain ⟨x, hxe⟩ : ∃ x, x = at0 xs i := ⟨_, rfl⟩
        obtain ⟨y, hye⟩ : ∃ y, y = at0 ys i := ⟨_, rfl⟩
        have HXE := Aside0.mk hxe
        have HYE := Aside0.mk hye
        rw [← hxe] at hHx
        rw [← hye] at hHy
        rw [show xs.getD i [] = x from hxe.symm] at hx
        rw [show ys.getD i [] = y from hye.symm] at hy
        clear hel1 hel2 hxe hye
        have hi0 : (0 : Int) ≤ (i : Int) ∧ (i : Int) < (n : Int) := by omega
        obtain ⟨nb, hnb⟩ : ∃ nb : Bool, nb = !(x == y) := ⟨_, rfl⟩
        have HNB := Aside0.mk hnb
        clear hnb
        go_wp2_with fail
        refine wp_region_held_drew (S := (fun W => Below w.heap.size w W)) (by kernel_rfl) ?_ (fun hHeld => ?_)
        · exact below_drew HW.out
        refine wpAnyH_take (i := 0) (oi := { dst := some 17, op := Go.Op.move (Go.Operand.tmp 0), type := 26, pos := "ref.go:116", after := #[], guard := none }) (v := ?_) rfl (by kernel_rfl) (by kernel_rfl) (by kernel_rfl) (fun _ _ _ h => h) (Or.inl ⟨by rfl, ?_⟩) (by assumption) ?_
        rotate_left
        · intro wS hSw; (try dsimp only at hSw); go_simp; (try with_reducible rfl)
        try simp only [Act.put, List.setIfInBounds_toArray, List.set_cons_zero, List.set_cons_succ]
        refine wpAnyH_take (i := 1) (oi := { dst := some 18, op := Go.Op.move (Go.Operand.tmp 5), type := 3, pos := "ref.go:116", after := #[], guard := none }) (v := ?_) rfl (by kernel_rfl) (by kernel_rfl) (by kernel_rfl) (fun _ _ _ h => h) (Or.inl ⟨by rfl, ?_⟩) (by assumption) ?_
        rotate_left
        · intro wS hSw; (try dsimp only at hSw); go_simp; (try with_reducible rfl)
        try simp only [Act.put, List.setIfInBounds_toArray, List.set_cons_zero, List.set_cons_succ]
        refine wpAnyH_take (i := 2) (oi := { dst := some 19, op := Go.Op.indexAddr 26 (Go.Operand.tmp 17) (Go.Operand.tmp 18), type := 0, pos := "ref.go:116", after := #[{ on := 0, ground := Go.Ground.data }, { on := 1, ground := Go.Ground.data }], guard := none }) (v := ?_) rfl (by kernel_rfl) (by kernel_rfl) (by kernel_rfl) (fun _ _ _ h => h) (Or.inl ⟨by rfl, ?_⟩) (by assumption) ?_
        rotate_left
        · intro wS hSw; (try dsimp only at hSw); go_simp; (try with_reducible rfl)
        try simp only [Act.put, List.setIfInBounds_toArray, List.set_cons_zero, List.set_cons_succ]
        refine wpAnyH_take (i := 3) (oi := { dst := some 20, op := Go.Op.load 25 (Go.Operand.tmp 19), type := 25, pos := "ref.go:116", after := #[{ on := 2, ground := Go.Ground.data }], guard := none }) (v := .agg (cellsB x)) rfl (by kernel_rfl) (by kernel_rfl) (by kernel_rfl) (fun _ _ _ h => h) (yif_load_H (by rfl) 25 (.tmp 19) rfl ⟨b1, o1 + i * 32, none⟩ x rfl (fun W h => hx.out W h) Try.underlying25 (by rw [hHx.out.1]; kernel_rfl)) (by assumption) ?_
        try simp only [Act.put, List.setIfInBounds_toArray, List.set_cons_zero, List.set_cons_succ]
        refine wpAnyH_take (i := 4) (oi := { dst := some 21, op := Go.Op.move (Go.Operand.tmp 1), type := 26, pos := "ref.go:116", after := #[], guard := none }) (v := ?_) rfl (by kernel_rfl) (by kernel_rfl) (by kernel_rfl) (fun _ _ _ h => h) (Or.inl ⟨by rfl, ?_⟩) (by assumption) ?_
        rotate_left
        · intro wS hSw; (try dsimp only at hSw); go_simp; (try with_reducible rfl)
        try simp only [Act.put, List.setIfInBounds_toArray, List.set_cons_zero, List.set_cons_succ]
        refine wpAnyH_take (i := 5) (oi := { dst := some 22, op := Go.Op.move (Go.Operand.tmp 5), type := 3, pos := "ref.go:116", after := #[], guard := none }) (v := ?_) rfl (by kernel_rfl) (by kernel_rfl) (by kernel_rfl) (fun _ _ _ h => h) (Or.inl ⟨by rfl, ?_⟩) (by assumption) ?_
        rotate_left
        · intro wS hSw; (try dsimp only at hSw); go_simp; (try with_reducible rfl)
        try simp only [Act.put, List.setIfInBounds_toArray, List.set_cons_zero, List.set_cons_succ]
        refine wpAnyH_take (i := 6) (oi := { dst := some 23, op := Go.Op.indexAddr 26 (Go.Operand.tmp 21) (Go.Operand.tmp 22), type := 0, pos := "ref.go:116", after := #[{ on := 4, ground := Go.Ground.data }, { on := 5, ground := Go.Ground.data }], guard := none }) (v := ?_) rfl (by kernel_rfl) (by kernel_rfl) (by kernel_rfl) (fun _ _ _ h => h) (Or.inl ⟨by rfl, ?_⟩) (by assumption) ?_
        rotate_left
        · intro wS hSw; (try dsimp only at hSw); go_simp; (try with_reducible rfl)
        try simp only [Act.put, List.setIfInBounds_toArray, List.set_cons_zero, List.set_cons_succ]
        refine wpAnyH_take (i := 7) (oi := { dst := some 24, op := Go.Op.load 25 (Go.Operand.tmp 23), type := 25, pos := "ref.go:116", after := #[{ on := 6, ground := Go.Ground.data }], guard := none }) (v := .agg (cellsB y)) rfl (by kernel_rfl) (by kernel_rfl) (by kernel_rfl) (fun _ _ _ h => h) (yif_load_H (by rfl) 25 (.tmp 23) rfl ⟨b2, o2 + i * 32, none⟩ y rfl (fun W h => hy.out W h) Try.underlying25 (by rw [hHy.out.1]; kernel_rfl)) (by assumption) ?_
        try simp only [Act.put, List.setIfInBounds_toArray, List.set_cons_zero, List.set_cons_succ]
        refine wpAnyH_take (i := 8) (oi := { dst := some 25, op := Go.Op.binOp Go.BinOp.neq 25 (Go.Operand.tmp 20) (Go.Operand.tmp 24) 25, type := 4, pos := "ref.go:116", after := #[{ on := 3, ground := Go.Ground.data }, { on := 7, ground := Go.Ground.data }], guard := none }) (v := .bool nb) rfl (by kernel_rfl) (by kernel_rfl) (by kernel_rfl) (fun _ _ _ h => h) (by rw [HNB.out]; exact yif_neq_H (by rfl) 25 _ (.tmp 20) (.tmp 24) rfl x y rfl rfl Try.underlying25 Try.underlying5 size1B guardH hHx.out.1 hHy.out.1) (by assumption) ?_
        try simp only [Act.put, List.setIfInBounds_toArray, List.set_cons_zero, List.set_cons_succ]
        refine wpAnyH_done (by kernel_rfl) ?_ _
        have HW2 := Aside0.mk (below_drew HW.out)
        clear hi0
        cases nb with
        | false =>
          have HE3 : Aside0 (∀ j, j < i + 1 → at0 xs j = at0 ys j) := ⟨fun j hj => by
            by_cases e : j = i
            · rw [e, ← HXE.out, ← HYE.out]; have := HNB.out; simpa using this.symm
            · exact HE.out j (by omega)⟩
          go_wp2_with fail
          go_roundw
          case rel => exact ⟨i + 1, hlt, by go_num, HE3, HW2⟩
          case measure => simp [intOf]; omega
        | true =>
          have HE3 : Aside0 (res = false) := ⟨by rw [HR.out]; exact decide_eq_false fun e => by have h := HNB.out; rw [HXE.out, HYE.out, e] at h; simp at h⟩
          go_wp2_with fail
          go_ret
          exact ⟨by rw [HE3.out]; rfl, HW2.out⟩
      · have hdl : decide (i < n) = false := decide_eq_false hlt
        obtain rfl : i = n := by omega
        have HE2 : Aside0 (res = true) := ⟨by rw [HR.out]; exact decide_eq_true (eq_of_all [] xs ys (by rw [← HL.out.1, ← HL.out.2]) (by rw [← HL.out.1]; exact HE.out))⟩
        go_wp2_with fail
        go_ret
        exact ⟨by rw [HE2.out]; rfl, HW.out⟩
  · have HE2 : Aside0 (res = false) := ⟨by rw [HR.out]; exact decide_eq_false fun e => hl (by rw [e])⟩
    rw [HE2.out]
    have hbn : ((xs.length : Int) != (ys.length : Int)) = true := by rw [bne_iff_ne]; omega
    clear hl HR HA HB
    generalize xs.length = n1 at *
    generalize ys.length = n2 at *
    go_enter Try.func26, Try.ntmps26
    go_wp2_with fail
    go_ret
    exact ⟨rfl, Below.refl _ _⟩
set_option maxHeartbeats 2000000 in
set_option maxRecDepth 100000 in
theorem same11_any (xs ys : List Int) (A1 A2 : Option Addr) (c1 c2 : Nat) (w : World) (hC1 : Kd.C kU w A1 xs.length xs) (hC2 : Kd.C kU w A2 ys.length ys) :
    Calls Try.prog 24 #[.slice A1 xs.length c1, .slice A2 ys.length c2] w fun e w' => e = .returned (.bool (decide (xs = ys))) ∧ Below w.heap.size w w' := by
  have HA := Aside0.mk hC1
  have HB := Aside0.mk hC2
  have hm1 := hC1.2.1
  clear hC1 hC2
  obtain ⟨res, hres⟩ : ∃ b, b = decide (xs = ys) := ⟨_, rfl⟩
  rw [← hres]
  have HR := Aside0.mk hres
  clear hres
  by_cases hl : xs.length = ys.length
  · obtain ⟨n, hn⟩ : ∃ n, n = xs.length := ⟨_, rfl⟩
    rw [← hl] at HB ⊢
    rw [← hn] at HA HB hm1 ⊢
    have HL := Aside0.mk (And.intro hn (hn.trans hl))
    clear hn hl
    have hbn : ((n : Int) != (n : Int)) = false := by simp
    go_enter Try.func24, Try.ntmps24
    go_wp2_with fail
    go_loopw [5] (fun v5 wr => ∃ i : Nat, i ≤ n ∧ v5 = .int .i64 (i : Int) ∧ Aside0 (∀ j, j < i → xs.getD j 0 = ys.getD j 0) ∧ Aside0 (Below w.heap.size w wr)) (fun v5 _ => n - (intOf v5).toNat)
    case atStart => exact ⟨0, Nat.zero_le _, rfl, ⟨fun j hj => by omega⟩, ⟨Below.refl _ _⟩⟩
    case round =>
      obtain ⟨i, hi, rfl, HE, HW⟩ := hrel
      by_cases hlt : i < n
      · have hdl : decide (i < n) = true := decide_eq_true hlt
        obtain ⟨a1, rfl, hx⟩ := Kd.at_int (Kd.C_below HA.out HW.out) (i : Int) (Int.natCast_nonneg i) (by omega)
        obtain ⟨a2, rfl, hy⟩ := Kd.at_int (Kd.C_below HB.out HW.out) (i : Int) (Int.natCast_nonneg i) (by omega)
        rw [Int.toNat_natCast] at hx hy
        have HXE : Aside0 (rd xs (i : Int) = xs.getD i 0) := ⟨by simp [rd]⟩
        have HYE : Aside0 (rd ys (i : Int) = ys.getD i 0) := ⟨by simp [rd]⟩
        generalize rd xs (i : Int) = x at *
        generalize rd ys (i : Int) = y at *
        have hi0 : (0 : Int) ≤ (i : Int) ∧ (i : Int) < (n : Int) := by omega
        obtain ⟨nb, hnb⟩ : ∃ nb : Bool, nb = (x != y) := ⟨_, rfl⟩
        have hnb' := hnb.symm
        have HNB := Aside0.mk hnb
        clear hnb
        go_wp2_with fail
        refine wp_region_held_drew (S := (fun W => W.cell? (a1.add i) = some (.int .u64 x) ∧ W.cell? (a2.add i) = some (.int .u64 y))) (by kernel_rfl) ?_ (fun hHeld => ?_)
        · exact ⟨hx, hy⟩
        refine wpAnyH_take (i := 0) (oi := { dst := some 17, op := Go.Op.move (Go.Operand.tmp 0), type := 22, pos := "law.go:32", after := #[], guard := none }) (v := ?_) rfl (by kernel_rfl) (by kernel_rfl) (by kernel_rfl) (fun _ _ _ h => h) (Or.inl ⟨by rfl, ?_⟩) (by assumption) ?_
        rotate_left
        · intro wS hSw; (try dsimp only at hSw); go_simp; (try with_reducible rfl)
        try simp only [Act.put, List.setIfInBounds_toArray, List.set_cons_zero, List.set_cons_succ]
        refine wpAnyH_take (i := 1) (oi := { dst := some 18, op := Go.Op.move (Go.Operand.tmp 5), type := 3, pos := "law.go:32", after := #[], guard := none }) (v := ?_) rfl (by kernel_rfl) (by kernel_rfl) (by kernel_rfl) (fun _ _ _ h => h) (Or.inl ⟨by rfl, ?_⟩) (by assumption) ?_
        rotate_left
        · intro wS hSw; (try dsimp only at hSw); go_simp; (try with_reducible rfl)
        try simp only [Act.put, List.setIfInBounds_toArray, List.set_cons_zero, List.set_cons_succ]
        refine wpAnyH_take (i := 2) (oi := { dst := some 19, op := Go.Op.indexAddr 22 (Go.Operand.tmp 17) (Go.Operand.tmp 18), type := 0, pos := "law.go:32", after := #[{ on := 0, ground := Go.Ground.data }, { on := 1, ground := Go.Ground.data }], guard := none }) (v := ?_) rfl (by kernel_rfl) (by kernel_rfl) (by kernel_rfl) (fun _ _ _ h => h) (Or.inl ⟨by rfl, ?_⟩) (by assumption) ?_
        rotate_left
        · intro wS hSw; (try dsimp only at hSw); go_simp; (try with_reducible rfl)
        try simp only [Act.put, List.setIfInBounds_toArray, List.set_cons_zero, List.set_cons_succ]
        refine wpAnyH_take (i := 3) (oi := { dst := some 20, op := Go.Op.load 23 (Go.Operand.tmp 19), type := 23, pos := "law.go:32", after := #[{ on := 2, ground := Go.Ground.data }], guard := none }) (v := ?_) rfl (by kernel_rfl) (by kernel_rfl) (by kernel_rfl) (fun _ _ _ h => h) (Or.inl ⟨by rfl, ?_⟩) (by assumption) ?_
        rotate_left
        · intro wS hSw; (try dsimp only at hSw); go_simp; (try with_reducible rfl)
        try simp only [Act.put, List.setIfInBounds_toArray, List.set_cons_zero, List.set_cons_succ]
        refine wpAnyH_take (i := 4) (oi := { dst := some 21, op := Go.Op.move (Go.Operand.tmp 1), type := 22, pos := "law.go:32", after := #[], guard := none }) (v := ?_) rfl (by kernel_rfl) (by kernel_rfl) (by kernel_rfl) (fun _ _ _ h => h) (Or.inl ⟨by rfl, ?_⟩) (by assumption) ?_
        rotate_left
        · intro wS hSw; (try dsimp only at hSw); go_simp; (try with_reducible rfl)
        try simp only [Act.put, List.setIfInBounds_toArray, List.set_cons_zero, List.set_cons_succ]
        refine wpAnyH_take (i := 5) (oi := { dst := some 22, op := Go.Op.move (Go.Operand.tmp 5), type := 3, pos := "law.go:32", after := #[], guard := none }) (v := ?_) rfl (by kernel_rfl) (by kernel_rfl) (by kernel_rfl) (fun _ _ _ h => h) (Or.inl ⟨by rfl, ?_⟩) (by assumption) ?_
        rotate_left
        · intro wS hSw; (try dsimp only at hSw); go_simp; (try with_reducible rfl)
        try simp only [Act.put, List.setIfInBounds_toArray, List.set_cons_zero, List.set_cons_succ]
        refine wpAnyH_take (i := 6) (oi := { dst := some 23, op := Go.Op.indexAddr 22 (Go.Operand.tmp 21) (Go.Operand.tmp 22), type := 0, pos := "law.go:32", after := #[{ on := 4, ground := Go.Ground.data }, { on := 5, ground := Go.Ground.data }], guard := none }) (v := ?_) rfl (by kernel_rfl) (by kernel_rfl) (by kernel_rfl) (fun _ _ _ h => h) (Or.inl ⟨by rfl, ?_⟩) (by assumption) ?_
        rotate_left
        · intro wS hSw; (try dsimp only at hSw); go_simp; (try with_reducible rfl)
        try simp only [Act.put, List.setIfInBounds_toArray, List.set_cons_zero, List.set_cons_succ]
        refine wpAnyH_take (i := 7) (oi := { dst := some 24, op := Go.Op.load 23 (Go.Operand.tmp 23), type := 23, pos := "law.go:32", after := #[{ on := 6, ground := Go.Ground.data }], guard := none }) (v := ?_) rfl (by kernel_rfl) (by kernel_rfl) (by kernel_rfl) (fun _ _ _ h => h) (Or.inl ⟨by rfl, ?_⟩) (by assumption) ?_
        rotate_left
        · intro wS hSw; (try dsimp only at hSw); go_simp; (try with_reducible rfl)
        try simp only [Act.put, List.setIfInBounds_toArray, List.set_cons_zero, List.set_cons_succ]
        refine wpAnyH_take (i := 8) (oi := { dst := some 25, op := Go.Op.binOp Go.BinOp.neq 23 (Go.Operand.tmp 20) (Go.Operand.tmp 24) 23, type := 4, pos := "law.go:32", after := #[{ on := 3, ground := Go.Ground.data }, { on := 7, ground := Go.Ground.data }], guard := none }) (v := ?_) rfl (by kernel_rfl) (by kernel_rfl) (by kernel_rfl) (fun _ _ _ h => h) (Or.inl ⟨by rfl, ?_⟩) (by assumption) ?_
        rotate_left
        · intro wS hSw; (try dsimp only at hSw); go_simp; (try with_reducible rfl)
        try simp only [Act.put, List.setIfInBounds_toArray, List.set_cons_zero, List.set_cons_succ]
        refine wpAnyH_done (by kernel_rfl) ?_ _
        have HW2 := Aside0.mk (below_drew HW.out)
        clear hi0 hHeld hx hy hnb'
        cases nb with
        | false =>
          have HE3 : Aside0 (∀ j, j < i + 1 → xs.getD j 0 = ys.getD j 0) := ⟨fun j hj => by
            by_cases e : j = i
            · rw [e, ← HXE.out, ← HYE.out]; have := HNB.out; simpa using this.symm
            · exact HE.out j (by omega)⟩
          go_wp2_with fail
          go_roundw
          case rel => exact ⟨i + 1, hlt, by go_num, HE3, HW2⟩
          case measure => simp [intOf]; omega
        | true =>
          have HE3 : Aside0 (res = false) := ⟨by rw [HR.out]; exact decide_eq_false fun e => by have h := HNB.out; rw [HXE.out, HYE.out, e] at h; simp at h⟩
          go_wp2_with fail
          go_ret
          exact ⟨by rw [HE3.out]; rfl, HW2.out⟩
      · have hdl : decide (i < n) = false := decide_eq_false hlt
        obtain rfl : i = n := by omega
        have HE2 : Aside0 (res = true) := ⟨by rw [HR.out]; exact decide_eq_true (eq_of_all 0 xs ys (by rw [← HL.out.1, ← HL.out.2]) (by rw [← HL.out.1]; exact HE.out))⟩
        go_wp2_with fail
        go_ret
        exact ⟨by rw [HE2.out]; rfl, HW.out⟩
  · have HE2 : Aside0 (res = false) := ⟨by rw [HR.out]; exact decide_eq_false fun e => hl (by rw [e])⟩
    rw [HE2.out]
    have hbn : ((xs.length : Int) != (ys.length : Int)) = true := by rw [bne_iff_ne]; omega
    clear hl HR HA HB
    generalize xs.length = n1 at *
    generalize ys.length = n2 at *
    go_enter Try.func24, Try.ntmps24
    go_wp2_with fail
    go_ret
    exact ⟨rfl, Below.refl _ _⟩
theorem prove11_no (ws : List Int) (at_ : Nat) (ha : at_ ≤ 18446744073709551615) (hn : ¬ at_ < ws.length) (hl : ws.length ≤ 9223372036854775807) (A : Option Addr) (c : Nat) (w : World) :
    Calls Try.prog 23 #[.slice A ws.length c, .int .u64 (at_ : Int)] w fun e w' => e = .returned (.tuple #[.slice none 0 0, .int .i64 2]) ∧ w' = w := by
  have hd : decide (ws.length ≤ at_) = true := decide_eq_true (by omega)
  have hw : IntKind.u64.wrap (ws.length : Int) = (ws.length : Int) := by rw [IntKind.wrap_u64]; omega
  generalize ws.length = n at *
  go_enter Try.func23, Try.ntmps23
  go_wp2_with fail
  go_ret2
  exact ⟨rfl, rfl⟩
set_option maxHeartbeats 1000000 in
set_option maxRecDepth 100000 in
theorem prove11_yes (D : Nat) (hD : D ≤ 12) (ws : List Int) (hl : ws.length = 2 ^ D) (hw : Wrd ws) (at_ : Nat) (ha : at_ < ws.length) (A : Option Addr) (c : Nat) (hc : ws.length ≤ c) (w : World) (hC : Kd.C kU w A ws.length ws) :
    Calls Try.prog 23 #[.slice A ws.length c, .int .u64 (at_ : Int)] w fun e w' => ∃ v, e = .returned (.tuple #[v, .int .i64 0]) ∧ Own w.heap.size w w' [.row kH 25 v (proofP D (leavesW ws) at_)] := by
  have hn4 : ws.length ≤ 4096 := by rw [hl]; exact Nat.pow_le_pow_right (by decide) hD
  have HD := Aside0.mk (fun W => depth_any D ws.length hD hl.symm W)
  have HLV := Aside0.mk (leaves_any ws hw A c w hC hc (by omega))
  have HPF := Aside0.mk (fun A c hc W h => proof04_ok D (by omega) (leavesW ws) (by rw [leavesW_len, hl]) at_ (by rw [← hl]; exact ha) (Hshs_leaves ws) A c hc W h)
  rw [leavesW_len] at HPF
  have H0 := Aside0.mk (Own.start w)
  have hd : decide (ws.length ≤ at_) = false := decide_eq_false (by omega)
  have hw : IntKind.u64.wrap (ws.length : Int) = (ws.length : Int) := by rw [IntKind.wrap_u64]; omega
  have hwa : IntKind.i64.wrap (at_ : Int) = (at_ : Int) := IntWalk.i64_in _ (by omega)
  generalize proofP D (leavesW ws) at_ = pf at *
  have HLL := Aside0.mk (leavesW_len ws)
  generalize leavesW ws = ls at *
  clear hC hl
  generalize ws.length = n at *
  go_enter Try.func23, Try.ntmps23
  go_wp2_with fail
  refine (HD.out _).mono ?_
  rintro e w1 ⟨rfl, rfl⟩
  go_wp2_with fail
  refine HLV.out.mono ?_
  rintro e w2 ⟨v, rfl, hO⟩
  obtain ⟨A2, c2, rfl, hc2, hC2⟩ := hO.reads 0 rfl
  rw [HLL.out] at hc2 hC2 hO ⊢
  have HX := Aside0.mk (HPF.out A2 c2 hc2 w2 hC2)
  have H2 := Aside0.mk (hO.erase 0)
  clear hc2 hC2 hO
  go_wp2_with fail
  refine HX.out.mono ?_
  rintro e w3 ⟨v, rfl, hO⟩
  have H3 := Aside0.mk (H2.out.call hO)
  clear hO
  go_wp2_with fail
  go_ret2
  exact ⟨v, rfl, H3.out⟩
end Go.Proofs.Ytocphkfkdadhaaa.H

namespace Go.Proofs.Ytocphkfkdadhaaa.H
open Go.RowKit Go.Proofs.YtocphkfkdadhaaaW.PrintWords Go.Proofs.YtocphkfkdadhaaaW.PrintLast Go.Proofs.YtocphkfkdadhaaaW.PrintMore
set_option linter.unusedVariables false
set_option linter.unusedSimpArgs false
theorem step_of_run {P : Program} {ops : Array Oper} {o : Oper} {a : Act} {Q : Exit → Act → World → Prop} {Kc : Act → World → Prop} {W W1 : World} {v : Value} (hw : Region.wanted o (yielded ops a.tmps) = true) (hrun : (execOp a.eval o).run P W = .ok (.value v) W1) (h : Kc (a.put o.dst v) W1) :
    if Region.wanted o (yielded ops a.tmps) = true then Oper.wp P o a W Kc Q else Kc (a.put o.dst undef) W := by
  rw [if_pos hw]
  unfold Oper.wp
  rw [hrun]
  exact h
theorem be8I_1 : be8I 1 = [0, 0, 0, 0, 0, 0, 0, 1] := by decide
theorem be8I_2 : be8I 2 = [0, 0, 0, 0, 0, 0, 0, 2] := by decide
theorem anch_root : memroot 1 [1, 2] = pairI (leafW 1) (leafW 2) := by
  show rootP 1 (leavesW [1, 2]) = _
  simp [rootP, leavesW]
theorem anch_yes : chkI (pairI (leafW 1) (leafW 2)) 1 2 [leafW 1] = true := by
  unfold chkI
  have : foldI 1 (leafW 2) [leafW 1] = pairI (leafW 1) (leafW 2) := rfl
  rw [this]; simp
theorem anch_no : chkI (pairI (leafW 1) (leafW 2)) 1 3 [leafW 1] = false := by
  decide +kernel
set_option maxHeartbeats 2000000 in
set_option maxRecDepth 100000 in
theorem anchored11 (w : World) : Calls Try.prog 18 #[] w fun e w' => e = .returned (.bool true) ∧ Below w.heap.size w w' := by
  have H0 := Aside0.mk (Own.start w)
  have R32 : Aside0 (Arr 32 (Array.replicate 32 (.int .u8 0))) := ⟨Arr_rep _ _ rfl⟩
  have HL1 := Aside0.mk (fun A c W hC hc => rleaf_any A c [0, 0, 0, 0, 0, 0, 0, 1] W (by unfold Byt; decide) hC hc (by decide))
  have HL2 := Aside0.mk (fun A c W hC hc => rleaf_any A c [0, 0, 0, 0, 0, 0, 0, 2] W (by unfold Byt; decide) hC hc (by decide))
  rw [← be8I_1] at HL1
  rw [← be8I_2] at HL2
  have e1 : leafI (be8I 1) = leafW 1 := rfl
  have e2 : leafI (be8I 2) = leafW 2 := rfl
  rw [e1] at HL1
  rw [e2] at HL2
  have HR : Aside0 (∀ A c W, Kd.C kU W A 2 [1, 2] → 2 ≤ c → Calls Try.prog 14 #[.slice A 2 c] W fun e w' => e = .returned (.tuple #[.agg (cellsB (pairI (leafW 1) (leafW 2))), .int .i64 0]) ∧ Below W.heap.size W w') := ⟨fun A c W hC hc => by
    have h := memroot_yes 1 (by decide) [1, 2] rfl (by unfold Wrd; decide) A c hc W hC
    rw [anch_root] at h
    exact h⟩
  have ha : Hsh (leafW 1) := Hsh_leaf 1
  have hb : Hsh (leafW 2) := Hsh_leaf 2
  have hr : Hsh (pairI (leafW 1) (leafW 2)) := Hsh_pair _ _
  have hps : Hshs [leafW 1] := by intro x hx; rw [List.mem_singleton.1 hx]; exact ha
  have HP := Aside0.mk (fun W => rpair_any (leafW 1) (leafW 2) ha.1 hb.1 ha.2 hb.2 W)
  have HY : Aside0 (∀ A c W, Kd.C kH W A 1 [leafW 1] → 1 ≤ c → Calls Try.prog 16 #[.agg (cellsB (pairI (leafW 1) (leafW 2))), .int .u64 1, .int .u64 2, .slice A 1 c] W fun e w' => e = .returned (.bool true) ∧ Below W.heap.size W w') := ⟨fun A c W hC hc => by
    have h := memcheck_any (pairI (leafW 1) (leafW 2)) 1 2 [leafW 1] (by decide) (by decide) hr hps A c hc W hC
    rw [anch_yes] at h
    exact h⟩
  have HN : Aside0 (∀ A c W, Kd.C kH W A 1 [leafW 1] → 1 ≤ c → Calls Try.prog 16 #[.agg (cellsB (pairI (leafW 1) (leafW 2))), .int .u64 1, .int .u64 3, .slice A 1 c] W fun e w' => e = .returned (.bool false) ∧ Below W.heap.size W w') := ⟨fun A c W hC hc => by
    have h := memcheck_any (pairI (leafW 1) (leafW 2)) 1 3 [leafW 1] (by decide) (by decide) hr hps A c hc W hC
    rw [anch_no] at h
    exact h⟩
  have HH := Aside0.mk (And.intro ha (And.intro hb hr))
  have HA := Aside0.mk (Arr_B ha.1)
  have HB := Aside0.mk (Arr_B hb.1)
  have HRA := Aside0.mk (Arr_B hr.1)
  have hl8 : (be8I 1).length = 8 := rfl
  have hl9 : (be8I 2).length = 8 := rfl
  rw [hl8] at HL1
  rw [hl9] at HL2
  rw [be8I_1] at HL1
  rw [be8I_2] at HL2
  clear e1 e2 ha hb hr hps hl8 hl9
  generalize leafW 1 = la at *
  generalize leafW 2 = lb at *
  generalize pairI la lb = r at *
  go_enter Try.func18, Try.ntmps18
  go_wp2_with (first
    | fail
    | ((with_reducible refine gate_dst (N := 5) rfl ?_); refine own_lit kB Flat_B H0.out 5 rfl (N := 5) rfl (xs := [0, 0, 0, 0, 0, 0, 0, 1]) (inner := ([0, 0, 0, 0, 0, 0, 0, 1]).map (Value.int .u8)) ?hr5 (Kd.reps_scalar _) (by simp) ?_; (case hr5 => first | (go_simp; done) | (go_simp; rfl)); intro A5 c5 w5 H5 B5; replace H5 := Aside0.mk H5; replace B5 := Aside0.mk B5)
    )
  refine (HL1.out A5 c5 w5 (H5.out.C_of 0 rfl) (by obtain ⟨A', c', he, hc', _⟩ := H5.out.reads 0 rfl; injection he with e1 e2 e3; subst e3; exact hc')).mono ?_
  rintro e w6 ⟨rfl, hB6⟩
  have H6 := Aside0.mk (H5.out.step hB6)
  clear hB6
  go_wp2_with (first
    | fail
    | ((with_reducible refine gate_dst (N := 7) rfl ?_); refine own_lit kB Flat_B H6.out 5 rfl (N := 7) rfl (xs := [0, 0, 0, 0, 0, 0, 0, 2]) (inner := ([0, 0, 0, 0, 0, 0, 0, 2]).map (Value.int .u8)) ?hr7 (Kd.reps_scalar _) (by simp) ?_; (case hr7 => first | (go_simp; done) | (go_simp; rfl)); intro A7 c7 w7 H7 B7; replace H7 := Aside0.mk H7; replace B7 := Aside0.mk B7)
    )
  refine (HL2.out A7 c7 w7 (H7.out.C_of 0 rfl) (by obtain ⟨A', c', he, hc', _⟩ := H7.out.reads 0 rfl; injection he with e1 e2 e3; subst e3; exact hc')).mono ?_
  rintro e w8 ⟨rfl, hB8⟩
  have H8 := Aside0.mk ((H7.out.step hB8).erase 0)
  clear hB8
  go_wp2_with (first
    | fail
    | ((with_reducible refine gate_dst (N := 1) rfl ?_); refine own_alloc H8.out rfl (N := 1) rfl (t := 25) rfl (Array.replicate 32 (.int .u8 0)) 32 (by kernel_rfl) ?_; intro g1 w9 H9 B9; replace H9 := Aside0.mk H9; replace B9 := Aside0.mk B9)
    | ((with_reducible refine gate_dst (N := 2) rfl ?_); refine own_alloc H9.out rfl (N := 2) rfl (t := 25) rfl (Array.replicate 32 (.int .u8 0)) 32 (by kernel_rfl) ?_; intro g2 w10 H10 B10; replace H10 := Aside0.mk H10; replace B10 := Aside0.mk B10)
    | ((with_reducible refine own_store H10.out 1 g1 _ 25 rfl rfl (.tmp 1) (.tmp 6) rfl (cellsB la) ?_ ?_ 32 R32.out HA.out (by kernel_rfl) ?_); (case _ => rfl); (case _ => rfl); intro w11 H11; replace H11 := Aside0.mk H11)
    | ((with_reducible refine own_store H11.out 0 g2 _ 25 rfl rfl (.tmp 2) (.tmp 8) rfl (cellsB lb) ?_ ?_ 32 R32.out HB.out (by kernel_rfl) ?_); (case _ => rfl); (case _ => rfl); intro w12 H12; replace H12 := Aside0.mk H12)
    | ((with_reducible refine gate_dst (N := 10) rfl ?_); refine own_lit kU Flat_U H12.out 23 rfl (N := 10) rfl (xs := ([1, 2] : List Int)) (inner := (([1, 2] : List Int)).map (Value.int .u64)) ?hr10 (Kd.reps_scalar _) (by simp) ?_; (case hr10 => first | (go_simp; done) | (go_simp; rfl)); intro A13 c13 w13 H13 B13; replace H13 := Aside0.mk H13; replace B13 := Aside0.mk B13)
    )
  refine (HR.out A13 c13 w13 (H13.out.C_of 0 rfl) (by obtain ⟨A', c', he, hc', _⟩ := H13.out.reads 0 rfl; injection he with e1 e2 e3; subst e3; exact hc')).mono ?_
  rintro e w14 ⟨rfl, hB14⟩
  have H14 := Aside0.mk ((H13.out.step hB14).erase 0)
  clear hB14
  go_wp2_with (first
    | fail
    | ((with_reducible refine gate_dst (N := 3) rfl ?_); refine own_alloc H14.out rfl (N := 3) rfl (t := 25) rfl (Array.replicate 32 (.int .u8 0)) 32 (by kernel_rfl) ?_; intro g3 w15 H15 B15; replace H15 := Aside0.mk H15; replace B15 := Aside0.mk B15)
    | ((with_reducible refine own_store H15.out 0 g3 _ 25 rfl rfl (.tmp 3) (.tmp 12) rfl (cellsB r) ?_ ?_ 32 R32.out HRA.out (by kernel_rfl) ?_); (case _ => rfl); (case _ => rfl); intro w16 H16; replace H16 := Aside0.mk H16)
    )
  have hhp := Try.underlying25
  have HS : Aside0 (∀ W L, Own w.heap.size w W (.blk g3 (cellsB r) 25 :: .blk g2 (cellsB lb) 25 :: .blk g1 (cellsB la) 25 :: L) → W.heap[g3]? = some (.cells (cellsB r) 25 (0, 0)) ∧ W.heap[g2]? = some (.cells (cellsB lb) 25 (0, 0)) ∧ W.heap[g1]? = some (.cells (cellsB la) 25 (0, 0))) := ⟨fun W L h => ⟨h.get 0 rfl, h.get 1 rfl, h.get 2 rfl⟩⟩
  have HZ : Aside0 (∀ xs : List Int, Hsh xs → (Try.prog.info? 25).map (·.size) = some (cellsB xs).size) := ⟨fun xs h => by rw [(Arr_B h.1).1]; kernel_rfl⟩
  refine wp_region_held_drew (S := (fun W => W.heap[g3]? = some (.cells (cellsB r) 25 (0, 0)) ∧ W.heap[g2]? = some (.cells (cellsB lb) 25 (0, 0)) ∧ W.heap[g1]? = some (.cells (cellsB la) 25 (0, 0)))) (by kernel_rfl) ?_ (fun hHeld => ?_)
  · exact HS.out _ _ H16.out.drew
  refine wpAnyH_take (i := 0) (oi := { dst := some 14, op := Go.Op.move (Go.Operand.tmp 4), type := 29, pos := "law.go:17", after := #[], guard := none }) (v := ?_) rfl (by kernel_rfl) (by kernel_rfl) (by kernel_rfl) (fun _ _ _ h => h) (Or.inl ⟨by rfl, ?_⟩) (by assumption) ?_
  rotate_left
  · intro wS hSw; (try dsimp only at hSw); go_simp; (try with_reducible rfl)
  try simp only [Act.put, List.setIfInBounds_toArray, List.set_cons_zero, List.set_cons_succ]
  refine wpAnyH_take (i := 1) (oi := { dst := some 15, op := Go.Op.binOp Go.BinOp.eql 29 (Go.Operand.tmp 14) (Go.Operand.const (Go.Value.int Go.IntKind.i64 0)) 29, type := 4, pos := "law.go:17", after := #[{ on := 0, ground := Go.Ground.data }], guard := none }) (v := ?_) rfl (by kernel_rfl) (by kernel_rfl) (by kernel_rfl) (fun _ _ _ h => h) (Or.inl ⟨by rfl, ?_⟩) (by assumption) ?_
  rotate_left
  · intro wS hSw; (try dsimp only at hSw); go_simp; (try with_reducible rfl)
  try simp only [Act.put, List.setIfInBounds_toArray, List.set_cons_zero, List.set_cons_succ]
  refine wpAnyH_take (i := 2) (oi := { dst := some 16, op := Go.Op.move (Go.Operand.tmp 15), type := 4, pos := "law.go:17", after := #[{ on := 1, ground := Go.Ground.data }], guard := none }) (v := ?_) rfl (by kernel_rfl) (by kernel_rfl) (by kernel_rfl) (fun _ _ _ h => h) (Or.inl ⟨by rfl, ?_⟩) (by assumption) ?_
  rotate_left
  · intro wS hSw; (try dsimp only at hSw); go_simp; (try with_reducible rfl)
  try simp only [Act.put, List.setIfInBounds_toArray, List.set_cons_zero, List.set_cons_succ]
  refine wpAnyH_take (i := 3) (oi := { dst := some 17, op := Go.Op.load 25 (Go.Operand.tmp 3), type := 25, pos := "law.go:17", after := #[{ on := 2, ground := Go.Ground.guard }], guard := some (2, true) }) (v := .agg (cellsB r)) rfl (by kernel_rfl) (by kernel_rfl) (by kernel_rfl) (fun _ _ _ h => h) (yif_loadV (by rfl) 25 (.tmp 3) rfl g3 _ rfl (fun W h => h.1) _ hhp rfl (HZ.out r HH.out.2.2)) (by assumption) ?_
  try simp only [Act.put, List.setIfInBounds_toArray, List.set_cons_zero, List.set_cons_succ]
  refine wpAnyH_take (i := 4) (oi := { dst := some 18, op := Go.Op.load 25 (Go.Operand.tmp 1), type := 25, pos := "law.go:17", after := #[{ on := 2, ground := Go.Ground.guard }], guard := some (2, true) }) (v := .agg (cellsB la)) rfl (by kernel_rfl) (by kernel_rfl) (by kernel_rfl) (fun _ _ _ h => h) (yif_loadV (by rfl) 25 (.tmp 1) rfl g1 _ rfl (fun W h => h.2.2) _ hhp rfl (HZ.out la HH.out.1)) (by assumption) ?_
  try simp only [Act.put, List.setIfInBounds_toArray, List.set_cons_zero, List.set_cons_succ]
  refine wpAnyH_take (i := 5) (oi := { dst := some 19, op := Go.Op.load 25 (Go.Operand.tmp 2), type := 25, pos := "law.go:17", after := #[{ on := 2, ground := Go.Ground.guard }], guard := some (2, true) }) (v := .agg (cellsB lb)) rfl (by kernel_rfl) (by kernel_rfl) (by kernel_rfl) (fun _ _ _ h => h) (yif_loadV (by rfl) 25 (.tmp 2) rfl g2 _ rfl (fun W h => h.2.1) _ hhp rfl (HZ.out lb HH.out.2.1)) (by assumption) ?_
  try simp only [Act.put, List.setIfInBounds_toArray, List.set_cons_zero, List.set_cons_succ]
  refine wpAnyH_ready (rs := [6]) (by kernel_rfl) (by simp) ?_
  refine AllReadyH.cons (o := { dst := some 20, op := Go.Op.call { callee := Go.Callee.value (Go.Operand.func 66), args := #[Go.Operand.tmp 18, Go.Operand.tmp 19], argTypes := #[25, 25] }, type := 25, pos := "law.go:17", after := #[{ on := 4, ground := Go.Ground.data }, { on := 5, ground := Go.Ground.data }, { on := 2, ground := Go.Ground.chain }, { on := 2, ground := Go.Ground.guard }], guard := some (2, true) }) rfl (fun K hK => ?_) AllReadyH.nil
  go_simp
  refine (HP.out _).mono ?_
  rintro e w20 ⟨rfl, hB20⟩
  have H20 := Aside0.mk (H16.out.drew.step hB20)
  clear hB20
  go_wp2_with fail
  refine hK.out _ _ ?_ (fun hHeld => ?_)
  · exact HS.out _ _ H20.out
  clear hK K
  try simp only [Act.put, List.setIfInBounds_toArray, List.set_cons_zero, List.set_cons_succ]
  refine wpAnyH_take (i := 7) (oi := { dst := some 21, op := Go.Op.binOp Go.BinOp.eql 25 (Go.Operand.tmp 17) (Go.Operand.tmp 20) 25, type := 4, pos := "law.go:17", after := #[{ on := 3, ground := Go.Ground.data }, { on := 6, ground := Go.Ground.data }, { on := 2, ground := Go.Ground.guard }], guard := some (2, true) }) (v := .bool true) rfl (by kernel_rfl) (by kernel_rfl) (by kernel_rfl) (fun _ _ _ h => h) (yif_eqb true (by rfl) 25 _ (.tmp 17) (.tmp 20) rfl r r rfl rfl Try.underlying25 Try.underlying5 size1B guardH HH.out.2.2.1 HH.out.2.2.1 (beq_self_eq_true r)) (by assumption) ?_
  try simp only [Act.put, List.setIfInBounds_toArray, List.set_cons_zero, List.set_cons_succ]
  refine wpAnyH_take (i := 8) (oi := { dst := some 22, op := Go.Op.pick (Go.Operand.tmp 16) (Go.Operand.tmp 21) (Go.Operand.const (Go.Value.bool false)), type := 4, pos := "law.go:17", after := #[{ on := 2, ground := Go.Ground.data }, { on := 7, ground := Go.Ground.data }], guard := none }) (v := ?_) rfl (by kernel_rfl) (by kernel_rfl) (by kernel_rfl) (fun _ _ _ h => h) (Or.inl ⟨by rfl, ?_⟩) (by assumption) ?_
  rotate_left
  · intro wS hSw; (try dsimp only at hSw); go_simp; (try with_reducible rfl)
  try simp only [Act.put, List.setIfInBounds_toArray, List.set_cons_zero, List.set_cons_succ]
  refine wpAnyH_take (i := 9) (oi := { dst := some 23, op := Go.Op.move (Go.Operand.tmp 22), type := 4, pos := "law.go:17", after := #[{ on := 8, ground := Go.Ground.data }, { on := 6, ground := Go.Ground.chain }], guard := none }) (v := ?_) rfl (by kernel_rfl) (by kernel_rfl) (by kernel_rfl) (fun _ _ _ h => h) (Or.inl ⟨by rfl, ?_⟩) (by assumption) ?_
  rotate_left
  · intro wS hSw; (try dsimp only at hSw); go_simp; (try with_reducible rfl)
  try simp only [Act.put, List.setIfInBounds_toArray, List.set_cons_zero, List.set_cons_succ]
  refine wpAnyH_take (i := 10) (oi := { dst := some 24, op := Go.Op.load 25 (Go.Operand.tmp 3), type := 25, pos := "law.go:17", after := #[{ on := 9, ground := Go.Ground.guard }], guard := some (9, true) }) (v := .agg (cellsB r)) rfl (by kernel_rfl) (by kernel_rfl) (by kernel_rfl) (fun _ _ _ h => h) (yif_loadV (by rfl) 25 (.tmp 3) rfl g3 _ rfl (fun W h => h.1) _ hhp rfl (HZ.out r HH.out.2.2)) (by assumption) ?_
  try simp only [Act.put, List.setIfInBounds_toArray, List.set_cons_zero, List.set_cons_succ]
  refine wpAnyH_take (i := 11) (oi := { dst := some 25, op := Go.Op.load 25 (Go.Operand.tmp 1), type := 25, pos := "law.go:17", after := #[{ on := 9, ground := Go.Ground.guard }], guard := some (9, true) }) (v := .agg (cellsB la)) rfl (by kernel_rfl) (by kernel_rfl) (by kernel_rfl) (fun _ _ _ h => h) (yif_loadV (by rfl) 25 (.tmp 1) rfl g1 _ rfl (fun W h => h.2.2) _ hhp rfl (HZ.out la HH.out.1)) (by assumption) ?_
  try simp only [Act.put, List.setIfInBounds_toArray, List.set_cons_zero, List.set_cons_succ]
  refine wpAnyH_ready (rs := [12]) (by kernel_rfl) (by simp) ?_
  refine AllReadyH.cons (o := { dst := some 26, op := Go.Op.buildSlice 26 1 #[(0, Go.Operand.tmp 25)], type := 26, pos := "law.go:17", after := #[{ on := 11, ground := Go.Ground.data }, { on := 9, ground := Go.Ground.guard }], guard := some (9, true) }) rfl (fun K hK => ?_) AllReadyH.nil
  refine step_of_run (by rfl) (lit_H_run (.tmp 25) rfl la rfl HH.out.1.1) ?_
  have H22 := Aside0.mk ((H20.out.lit kH Flat_H 25 [la] (la.map (Value.int .u8)) (reps_H1 _ la HH.out.1.1) (by simp)))
  have K22 := Aside0.mk (And.intro (H22.out.get 1 rfl) (And.intro (H22.out.get 2 rfl) (H22.out.get 3 rfl)))
  refine hK.out _ _ ?_ (fun hHeld => ?_)
  · exact K22.out
  clear hK K
  try simp only [Act.put, List.setIfInBounds_toArray, List.set_cons_zero, List.set_cons_succ]
  refine wpAnyH_ready (rs := [13]) (by kernel_rfl) (by simp) ?_
  refine AllReadyH.cons (o := { dst := some 27, op := Go.Op.call { callee := Go.Callee.value (Go.Operand.func 16), args := #[Go.Operand.tmp 24, Go.Operand.const (Go.Value.int Go.IntKind.u64 1), Go.Operand.const (Go.Value.int Go.IntKind.u64 2), Go.Operand.tmp 26], argTypes := #[25, 23, 23, 26] }, type := 4, pos := "law.go:17", after := #[{ on := 10, ground := Go.Ground.data }, { on := 12, ground := Go.Ground.data }, { on := 9, ground := Go.Ground.chain }, { on := 9, ground := Go.Ground.guard }], guard := some (9, true) }) rfl (fun K hK => ?_) AllReadyH.nil
  go_simp
  refine (HY.out _ _ _ (H22.out.C_of 0 rfl) (Nat.le_refl _)).mono ?_
  rintro e w23 ⟨rfl, hB23⟩
  have H23 := Aside0.mk ((H22.out.step hB23).erase 0)
  clear hB23
  go_wp2_with fail
  refine hK.out _ _ ?_ (fun hHeld => ?_)
  · exact HS.out _ _ H23.out
  clear hK K
  try simp only [Act.put, List.setIfInBounds_toArray, List.set_cons_zero, List.set_cons_succ]
  refine wpAnyH_take (i := 14) (oi := { dst := some 28, op := Go.Op.pick (Go.Operand.tmp 23) (Go.Operand.tmp 27) (Go.Operand.const (Go.Value.bool false)), type := 4, pos := "law.go:17", after := #[{ on := 9, ground := Go.Ground.data }, { on := 13, ground := Go.Ground.data }], guard := none }) (v := ?_) rfl (by kernel_rfl) (by kernel_rfl) (by kernel_rfl) (fun _ _ _ h => h) (Or.inl ⟨by rfl, ?_⟩) (by assumption) ?_
  rotate_left
  · intro wS hSw; (try dsimp only at hSw); go_simp; (try with_reducible rfl)
  try simp only [Act.put, List.setIfInBounds_toArray, List.set_cons_zero, List.set_cons_succ]
  refine wpAnyH_take (i := 15) (oi := { dst := some 29, op := Go.Op.move (Go.Operand.tmp 28), type := 4, pos := "law.go:17", after := #[{ on := 14, ground := Go.Ground.data }, { on := 13, ground := Go.Ground.chain }], guard := none }) (v := ?_) rfl (by kernel_rfl) (by kernel_rfl) (by kernel_rfl) (fun _ _ _ h => h) (Or.inl ⟨by rfl, ?_⟩) (by assumption) ?_
  rotate_left
  · intro wS hSw; (try dsimp only at hSw); go_simp; (try with_reducible rfl)
  try simp only [Act.put, List.setIfInBounds_toArray, List.set_cons_zero, List.set_cons_succ]
  refine wpAnyH_take (i := 16) (oi := { dst := some 30, op := Go.Op.load 25 (Go.Operand.tmp 3), type := 25, pos := "law.go:17", after := #[{ on := 15, ground := Go.Ground.guard }], guard := some (15, true) }) (v := .agg (cellsB r)) rfl (by kernel_rfl) (by kernel_rfl) (by kernel_rfl) (fun _ _ _ h => h) (yif_loadV (by rfl) 25 (.tmp 3) rfl g3 _ rfl (fun W h => h.1) _ hhp rfl (HZ.out r HH.out.2.2)) (by assumption) ?_
  try simp only [Act.put, List.setIfInBounds_toArray, List.set_cons_zero, List.set_cons_succ]
  refine wpAnyH_take (i := 17) (oi := { dst := some 31, op := Go.Op.load 25 (Go.Operand.tmp 1), type := 25, pos := "law.go:17", after := #[{ on := 15, ground := Go.Ground.guard }], guard := some (15, true) }) (v := .agg (cellsB la)) rfl (by kernel_rfl) (by kernel_rfl) (by kernel_rfl) (fun _ _ _ h => h) (yif_loadV (by rfl) 25 (.tmp 1) rfl g1 _ rfl (fun W h => h.2.2) _ hhp rfl (HZ.out la HH.out.1)) (by assumption) ?_
  try simp only [Act.put, List.setIfInBounds_toArray, List.set_cons_zero, List.set_cons_succ]
  refine wpAnyH_ready (rs := [18]) (by kernel_rfl) (by simp) ?_
  refine AllReadyH.cons (o := { dst := some 32, op := Go.Op.buildSlice 26 1 #[(0, Go.Operand.tmp 31)], type := 26, pos := "law.go:17", after := #[{ on := 17, ground := Go.Ground.data }, { on := 15, ground := Go.Ground.guard }], guard := some (15, true) }) rfl (fun K hK => ?_) AllReadyH.nil
  refine step_of_run (by rfl) (lit_H_run (.tmp 31) rfl la rfl HH.out.1.1) ?_
  have H32 := Aside0.mk ((H23.out.lit kH Flat_H 25 [la] (la.map (Value.int .u8)) (reps_H1 _ la HH.out.1.1) (by simp)))
  have K32 := Aside0.mk (And.intro (H32.out.get 1 rfl) (And.intro (H32.out.get 2 rfl) (H32.out.get 3 rfl)))
  refine hK.out _ _ ?_ (fun hHeld => ?_)
  · exact K32.out
  clear hK K
  try simp only [Act.put, List.setIfInBounds_toArray, List.set_cons_zero, List.set_cons_succ]
  refine wpAnyH_ready (rs := [19]) (by kernel_rfl) (by simp) ?_
  refine AllReadyH.cons (o := { dst := some 33, op := Go.Op.call { callee := Go.Callee.value (Go.Operand.func 16), args := #[Go.Operand.tmp 30, Go.Operand.const (Go.Value.int Go.IntKind.u64 1), Go.Operand.const (Go.Value.int Go.IntKind.u64 3), Go.Operand.tmp 32], argTypes := #[25, 23, 23, 26] }, type := 4, pos := "law.go:17", after := #[{ on := 16, ground := Go.Ground.data }, { on := 18, ground := Go.Ground.data }, { on := 15, ground := Go.Ground.chain }, { on := 15, ground := Go.Ground.guard }], guard := some (15, true) }) rfl (fun K hK => ?_) AllReadyH.nil
  go_simp
  refine (HN.out _ _ _ (H32.out.C_of 0 rfl) (Nat.le_refl _)).mono ?_
  rintro e w33 ⟨rfl, hB33⟩
  have H33 := Aside0.mk ((H32.out.step hB33).erase 0)
  clear hB33
  go_wp2_with fail
  refine hK.out _ _ ?_ (fun hHeld => ?_)
  · exact HS.out _ _ H33.out
  clear hK K
  try simp only [Act.put, List.setIfInBounds_toArray, List.set_cons_zero, List.set_cons_succ]
  refine wpAnyH_take (i := 20) (oi := { dst := some 34, op := Go.Op.unOp Go.UnOp.not 4 (Go.Operand.tmp 33), type := 4, pos := "law.go:17", after := #[{ on := 19, ground := Go.Ground.data }, { on := 15, ground := Go.Ground.guard }], guard := some (15, true) }) (v := ?_) rfl (by kernel_rfl) (by kernel_rfl) (by kernel_rfl) (fun _ _ _ h => h) (Or.inl ⟨by rfl, ?_⟩) (by assumption) ?_
  rotate_left
  · intro wS hSw; (try dsimp only at hSw); go_simp; (try with_reducible rfl)
  try simp only [Act.put, List.setIfInBounds_toArray, List.set_cons_zero, List.set_cons_succ]
  refine wpAnyH_take (i := 21) (oi := { dst := some 35, op := Go.Op.pick (Go.Operand.tmp 29) (Go.Operand.tmp 34) (Go.Operand.const (Go.Value.bool false)), type := 4, pos := "law.go:17", after := #[{ on := 15, ground := Go.Ground.data }, { on := 20, ground := Go.Ground.data }], guard := none }) (v := ?_) rfl (by kernel_rfl) (by kernel_rfl) (by kernel_rfl) (fun _ _ _ h => h) (Or.inl ⟨by rfl, ?_⟩) (by assumption) ?_
  rotate_left
  · intro wS hSw; (try dsimp only at hSw); go_simp; (try with_reducible rfl)
  try simp only [Act.put, List.setIfInBounds_toArray, List.set_cons_zero, List.set_cons_succ]
  refine wpAnyH_take (i := 22) (oi := { dst := some 0, op := Go.Op.assign (Go.Operand.tmp 35), type := 4, pos := "law.go:17", after := #[{ on := 21, ground := Go.Ground.data }, { on := 19, ground := Go.Ground.chain }, { on := 0, ground := Go.Ground.phase }, { on := 1, ground := Go.Ground.phase }, { on := 2, ground := Go.Ground.phase }, { on := 3, ground := Go.Ground.phase }, { on := 4, ground := Go.Ground.phase }, { on := 5, ground := Go.Ground.phase }, { on := 6, ground := Go.Ground.phase }, { on := 7, ground := Go.Ground.phase }, { on := 8, ground := Go.Ground.phase }, { on := 9, ground := Go.Ground.phase }, { on := 10, ground := Go.Ground.phase }, { on := 11, ground := Go.Ground.phase }, { on := 12, ground := Go.Ground.phase }, { on := 13, ground := Go.Ground.phase }, { on := 14, ground := Go.Ground.phase }, { on := 15, ground := Go.Ground.phase }, { on := 16, ground := Go.Ground.phase }, { on := 17, ground := Go.Ground.phase }, { on := 18, ground := Go.Ground.phase }, { on := 19, ground := Go.Ground.phase }, { on := 20, ground := Go.Ground.phase }, { on := 21, ground := Go.Ground.phase }], guard := none }) (v := ?_) rfl (by kernel_rfl) (by kernel_rfl) (by kernel_rfl) (fun _ _ _ h => h) (Or.inl ⟨by rfl, ?_⟩) (by assumption) ?_
  rotate_left
  · intro wS hSw; (try dsimp only at hSw); go_simp; (try with_reducible rfl)
  try simp only [Act.put, List.setIfInBounds_toArray, List.set_cons_zero, List.set_cons_succ]
  refine wpAnyH_done (by kernel_rfl) ?_ _
  clear hHeld
  go_wp2_with fail
  go_ret
  exact ⟨rfl, H33.out.below⟩
end Go.Proofs.Ytocphkfkdadhaaa.H

namespace Go.Proofs.Ytocphkfkdadhaaa.H
open Go.RowKit Go.Proofs.YtocphkfkdadhaaaW.PrintWords Go.Proofs.YtocphkfkdadhaaaW.PrintLast Go.Proofs.YtocphkfkdadhaaaW.PrintMore
open Go.ChangeShapes Go.WideShapes Go.ChangeAt
set_option linter.unusedVariables false
set_option linter.unusedSimpArgs false
theorem choose_list {α : Type} (Q : Nat → α → Prop) : ∀ n : Nat, (∀ i, i < n → ∃ y, Q i y) → ∃ xs : List α, xs.length = n ∧ ∀ i p, xs[i]? = some p → Q i p
  | 0, _ => ⟨[], rfl, fun i p h => by simp at h⟩
  | n + 1, h => by
    obtain ⟨xs, hl, hx⟩ := choose_list Q n (fun i hi => h i (by omega))
    obtain ⟨y, hy⟩ := h n (by omega)
    refine ⟨xs ++ [y], by rw [List.length_append, hl]; rfl, fun i p hp => ?_⟩
    by_cases hi : i < xs.length
    · rw [List.getElem?_append_left hi] at hp
      exact hx i p hp
    · rw [List.getElem?_append_right (by omega)] at hp
      by_cases h0 : i - xs.length = 0
      · rw [h0] at hp
        simp at hp
        subst hp
        rw [show i = n by omega]
        exact hy
      · rw [List.getElem?_eq_none (by simp; omega)] at hp
        cases hp
def Opens {α : Type} (T : TypeId) (d : Kd α) (ok : α → Prop) : Prop :=
  ∀ {H : Type} {enc : TypeId × Value → H} {W : World} {fuel : Nat} {cs : List Value} {x : DataW H × List MemPlace}, DataW.trod enc Try.prog W 0 (fun _ => true) true fuel T cs = some x → ∃ y, d.K W y cs ∧ ok y
theorem opens_int {T : TypeId} {k : IntKind} (hT : Try.prog.underlying T = some (.int k)) : Opens T (Kd.int k) (fun n => (Lit.int k n).wf = true) := by
  intro H enc W fuel cs x h
  obtain ⟨n, e, _, w⟩ := DataW.trod_int hT h
  exact ⟨n, e, w⟩
theorem opens_row {α : Type} {T e : TypeId} {d : Kd α} {ok : α → Prop} (hT : Try.prog.underlying T = some (.slice e)) (hs : Try.prog.cellsOf e = d.sz) (he : Opens e d ok)
    {H : Type} {enc : TypeId × Value → H} {W : World} {fuel : Nat} {cs : List Value} {x : DataW H × List MemPlace} (h : DataW.trod enc Try.prog W 0 (fun _ => true) true fuel T cs = some x) :
    ∃ A l c, cs = [.slice A l.length c] ∧ l.length ≤ c ∧ d.C W A l.length l ∧ (∀ y ∈ l, ok y) ∧ ((l = [] ∧ x.1 = .nil) ∨ ∃ es rs : List (DataW H), x.1 = .slice es rs ∧ es.length = l.length) := by
  rcases DataW.trod_slice hT h with ⟨hc2, hx⟩ | ⟨a, len, cap, elems, rest, m, hm, hc2, hx, _, hlc, hcm, hle, hel, _, _⟩
  · exact ⟨none, [], 0, hc2, Nat.le_refl _, Kd.C_nil _ _, by simp, .inl ⟨rfl, by rw [hx]⟩⟩
  · rw [hs] at hel
    have each : ∀ i, i < len → ∃ y : α, (∃ c, c.length = d.sz ∧ d.K W y c ∧ ∀ j u, c[j]? = some u → W.cell? (a.add (i * d.sz + j)) = some u) ∧ ok y := by
      intro i hi
      have h3 := hel i hi
      rw [List.getElem?_eq_getElem (by omega), Option.bind_eq_some_iff] at h3
      obtain ⟨c, hc, ht⟩ := h3
      obtain ⟨y, hK, hBy⟩ := he ht
      obtain ⟨_, hcl, hcc⟩ := World.cells?_some hc
      refine ⟨y, ⟨c, hcl, hK, fun j u hj => ?_⟩, hBy⟩
      have hj3 : j < d.sz := by have := (List.getElem?_eq_some_iff.1 hj).1; omega
      rw [← hj, ← hcc j hj3, Addr.add_add]
    obtain ⟨ys, hyl, hys⟩ := choose_list _ len each
    subst hyl
    refine ⟨some a, ys, cap, hc2, hlc, ⟨rfl, ?_, fun _ => ⟨a, rfl, fun j p hj => (hys j p hj).1⟩⟩, ?_, .inr ⟨elems.map (·.1), rest.map (·.1), by rw [hx], by rw [List.length_map]; exact hle⟩⟩
    · have : maxLen ≤ 9223372036854775807 := by decide
      show ys.length ≤ 9223372036854775807
      omega
    · intro y hy
      obtain ⟨i, hi⟩ := List.getElem?_of_mem hy
      exact (hys i y hi).2
noncomputable def offs : List TypeId → Nat → Nat
  | [] => fun _ => 0
  | t :: ts => fun i => match i with
    | 0 => 0
    | i + 1 => Try.prog.cellsOf t + offs ts i
def Many {α : Type} (ts : List TypeId) (d : Kd α) (ok : α → Prop) : Prop :=
  ∀ {H : Type} {enc : TypeId × Value → H} {W : World} {n : Nat} {cs : List Value}, cs.length = d.sz → (∀ i t, ts[i]? = some t → ∃ x : DataW H × List MemPlace, DataW.trod enc Try.prog W 0 (fun _ => true) true n t ((cs.drop (offs ts i)).take (Try.prog.cellsOf t)) = some x) → ∃ y, d.K W y cs ∧ ok y
theorem many_one {α : Type} {T : TypeId} {d : Kd α} {ok : α → Prop} (h : Opens T d ok) (hs : Try.prog.cellsOf T = d.sz) : Many [T] d ok := by
  intro H enc W n cs hl hf
  obtain ⟨x, hx⟩ := hf 0 T rfl
  rw [show offs [T] 0 = 0 from rfl, List.drop_zero, List.take_of_length_le (by omega)] at hx
  exact h hx
theorem many_cons {α β : Type} {T : TypeId} {ts : List TypeId} {a : Kd α} {b : Kd β} {ok1 : α → Prop} {ok2 : β → Prop} (h : Opens T a ok1) (hs : Try.prog.cellsOf T = a.sz) (hm : Many ts b ok2) : Many (T :: ts) (Kd.pair a b) (fun y => ok1 y.1 ∧ ok2 y.2) := by
  intro H enc W n cs hl hf
  have hl' : cs.length = a.sz + b.sz := hl
  obtain ⟨x, hx⟩ := hf 0 T rfl
  rw [show offs (T :: ts) 0 = 0 from rfl, List.drop_zero, hs] at hx
  obtain ⟨y1, hK1, ho1⟩ := h hx
  obtain ⟨y2, hK2, ho2⟩ := hm (cs := cs.drop a.sz) (by rw [List.length_drop]; omega) (fun i t ht => by
    obtain ⟨x, hx⟩ := hf (i + 1) t (by simpa using ht)
    refine ⟨x, ?_⟩
    rw [show offs (T :: ts) (i + 1) = Try.prog.cellsOf T + offs ts i from rfl, hs, ← List.drop_drop] at hx
    exact hx)
  exact ⟨(y1, y2), ⟨cs.take a.sz, cs.drop a.sz, (List.take_append_drop _ _).symm, hK1, hK2⟩, ho1, ho2⟩
theorem opens_struct {α : Type} {T : TypeId} {fs : Array Field} {ts : List TypeId} {d : Kd α} {ok : α → Prop} (hT : Try.prog.underlying T = some (.struct fs)) (hm : Many ts d ok) (hsz : Try.prog.cellsOf T = d.sz)
    (hts : (List.range ts.length).map (fun i => (fs[i]?).map fun f => (f.type, f.offset)) = (List.range ts.length).map (fun i => (ts[i]?).map fun t => (t, offs ts i))) : Opens T d ok := by
  intro H enc W fuel cs x h
  obtain ⟨xs, n, hfu, _, hl, hlen, hf⟩ := DataW.trod_struct hT h
  refine hm (H := H) (enc := enc) (W := W) (n := n) (by rw [hl, hsz]) (fun i t ht => ?_)
  have hi := (List.getElem?_eq_some_iff.1 ht).1
  have h1 := congrArg (fun l => l[i]?) hts
  simp only [List.getElem?_map, List.getElem?_range hi, Option.map_some, ht] at h1
  have h2 := Option.some.inj h1
  obtain ⟨f, hfe, hfo⟩ := Option.map_eq_some_iff.1 h2
  simp only [Prod.mk.injEq] at hfo
  have h3 := hf i f hfe
  have hfi : i < fs.size := by
    have := (Array.getElem?_eq_some_iff.1 hfe).1
    exact this
  rw [List.getElem?_eq_getElem (by omega)] at h3
  rw [hfo.1, hfo.2] at h3
  exact ⟨_, h3⟩
set_option maxRecDepth 100000 in
theorem open_row {α : Type} {T e : TypeId} {d : Kd α} {ok : α → Prop} (hT : Try.prog.underlying T = some (.slice e)) (hs : Try.prog.cellsOf e = d.sz) (ho : Opens e d ok) {H : Type} {enc : TypeId × Value → H} {W : World} {r : Reach} {b0 : Nat} {v : Value} {x : DataW H} {p : List MemPlace}
    (hv : Value.okWide Try.prog W r b0 T v) (h : DataW.Trod enc Try.prog W 0 (fun _ => true) true T v x p) {ts : List TypeId} {ds : List (DataW H)} {j : Nat} (hsz : (DataW.weightsEach Try.prog ts ds).all (· ≤ reachBytes) = true) (ht : ts[j]? = some T) (hd : ds[j]? = some x) :
    ∃ (A : Option Addr) (l : List α) (c : Nat), v = .slice A l.length c ∧ l.length ≤ c ∧ d.C W A l.length l ∧ (∀ y ∈ l, ok y) ∧ l.length * Try.prog.bytesOf e ≤ 140737488351232 := by
  obtain ⟨a, len, cap, rfl⟩ := okWide_slice hT hv
  obtain ⟨fuel, hf⟩ := h
  obtain ⟨A, l, c, hc, h1, h2, h3, h4⟩ := opens_row hT hs ho hf
  simp only [Value.cells, List.cons.injEq, and_true] at hc
  refine ⟨A, l, c, hc, h1, h2, h3, ?_⟩
  rcases h4 with ⟨rfl, _⟩ | ⟨es, rs, hx, hl⟩
  · simp
  · have h5 := sized_slice hsz ht (by rw [hd]; exact congrArg some hx) hT
    have h6 : reachBytes = 140737488351232 := rfl
    rw [hl, h6] at h5
    exact Nat.le_trans (Nat.mul_le_mul_right _ (Nat.le_add_right _ _)) h5
end Go.Proofs.Ytocphkfkdadhaaa.H

namespace Go.Proofs.Ytocphkfkdadhaaa.H
open Go.RowKit Go.Proofs.YtocphkfkdadhaaaW.PrintWords Go.Proofs.YtocphkfkdadhaaaW.PrintLast Go.Proofs.YtocphkfkdadhaaaW.PrintMore
set_option linter.unusedVariables false
set_option linter.unusedSimpArgs false
theorem wf_u64 {n : Int} (h : (Lit.int .u64 n).wf = true) : 0 ≤ n ∧ n ≤ 18446744073709551615 := by
  simp [Lit.wf, IntKind.min, IntKind.max, IntKind.signed, IntKind.bits] at h
  omega
theorem wf_u8 {n : Int} (h : (Lit.int .u8 n).wf = true) : 0 ≤ n ∧ n ≤ 255 := by
  simp [Lit.wf, IntKind.min, IntKind.max, IntKind.signed, IntKind.bits] at h
  omega
theorem size_ways (n : Nat) : sizeB n = false ∨ ∃ D, D ≤ 12 ∧ n = 2 ^ D := by
  cases h : sizeB n with
  | false => exact .inl rfl
  | true => exact .inr (sizeB_yes h)
end Go.Proofs.Ytocphkfkdadhaaa.H

namespace Go.Proofs.Ytocphkfkdadhaaa.H
open Go.RowKit Go.Proofs.YtocphkfkdadhaaaW.PrintWords Go.Proofs.YtocphkfkdadhaaaW.PrintLast Go.Proofs.YtocphkfkdadhaaaW.PrintMore
set_option linter.unusedVariables false
set_option linter.unusedSimpArgs false
theorem o_u64 : Opens 23 kU (fun n => (Lit.int .u64 n).wf = true) := opens_int Try.underlying23
theorem Wrd_of {l : List Int} (h : ∀ y ∈ l, (Lit.int .u64 y).wf = true) : Wrd l := fun x hx => wf_u64 (h x hx)
end Go.Proofs.Ytocphkfkdadhaaa.H

namespace Go.Proofs.Ytocphkfkdadhaaa.H
open Go.RowKit Go.Proofs.YtocphkfkdadhaaaW.PrintWords Go.Proofs.YtocphkfkdadhaaaW.PrintLast Go.Proofs.YtocphkfkdadhaaaW.PrintMore
set_option linter.unusedVariables false
set_option linter.unusedSimpArgs false
theorem Own.under {B : Nat} {w0 W : World} {L : List Item} {g : Nat} {v1 v2 : Value} {ws : List Int} {ss : List (List Int)} {it : Item} (h : Own B w0 W (it :: memL g v1 v2 ws ss L)) : Own B w0 W (memL g v1 v2 ws ss (it :: L)) :=
  h.perm (List.perm_middle (l₁ := [Item.blk g #[v1, v2, leafF] TM, Item.row kU 23 v1 ws, Item.row kH 25 v2 ss])).symm
end Go.Proofs.Ytocphkfkdadhaaa.H

