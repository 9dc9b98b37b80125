import Derived.Test.YtocphkfkdadhaaaZPk4
import Derived.Test.YtocphkfkdadhaaaZPk2
import Derived.Deep.RegionHeld3
import Derived.Deep.MidRow
import Derived.BigQuiet
import Derived.Test.YtocphkfkdadhaaaZPk0
import Derived.Deep.DeepCutAuto
import Derived.Laws.EntriesVeiled
namespace Go.Proofs.Ytocphkfkdadhaaa.H
open Go.RowKit Go.Proofs.YtocphkfkdadhaaaW.PrintWords Go.Proofs.YtocphkfkdadhaaaW.PrintLast Go.Proofs.YtocphkfkdadhaaaW.PrintMore
set_option linter.unusedVariables false
set_option linter.unusedSimpArgs false
def Hsh (x : List Int) : Prop := x.length = 32 ∧ Byt x
def Hshs (l : List (List Int)) : Prop := ∀ x ∈ l, Hsh x
theorem Hsh_pair (x y : List Int) : Hsh (pairI x y) := ⟨pairI_len x y, pairI_byt x y⟩
theorem Hsh_leaf (m : Nat) : Hsh (leafW m) := ⟨leafW_len m, leafW_byt m⟩
theorem Hshs_at {l : List (List Int)} (h : Hshs l) (i : Nat) (hi : i < l.length) : Hsh (l.getD i []) := by
  rw [List.getD_eq_getElem?_getD, List.getElem?_eq_getElem hi]
  exact h _ (List.getElem_mem hi)
def foldStep (b : Nat) (l h : List Int) : List Int := if b % 2 = 0 then pairI l h else pairI h l
def foldI : Nat → List Int → List (List Int) → List Int
  | _, l, [] => l
  | i, l, h :: ps => foldI (i / 2) (foldStep i l h) ps
theorem foldI_snoc : ∀ (ps : List (List Int)) (i : Nat) (l h : List Int), foldI i l (ps ++ [h]) = foldStep (i / 2 ^ ps.length) (foldI i l ps) h
  | [], i, l, h => by simp [foldI]
  | p :: ps, i, l, h => by
    show foldI (i / 2) _ (ps ++ [h]) = foldStep _ (foldI (i / 2) _ ps) h
    rw [foldI_snoc ps, Nat.div_div_eq_div_mul, List.length_cons, Nat.pow_succ, Nat.mul_comm 2]
theorem foldI_take (ps : List (List Int)) (i : Nat) (l : List Int) (k : Nat) (h : k < ps.length) : foldI i l (ps.take (k + 1)) = foldStep (i / 2 ^ k) (foldI i l (ps.take k)) (ps.getD k []) := by
  rw [List.take_succ_eq_append_getElem h, foldI_snoc, List.length_take, Nat.min_eq_left (by omega)]
  simp [h]
theorem Hsh_step {b : Nat} {l h : List Int} : Hsh (foldStep b l h) := by
  unfold foldStep; split <;> exact Hsh_pair _ _
theorem Hsh_foldI : ∀ (ps : List (List Int)) (i : Nat) (l : List Int), Hsh l → Hsh (foldI i l ps)
  | [], _, _, h => h
  | _ :: ps, _, _, _ => Hsh_foldI ps _ _ Hsh_step
theorem spot_of_cell {W : World} {a : Addr} {v : Value} (h : W.cell? a = some v) : a.spot = none := by
  unfold World.cell? at h
  split at h
  · split at h
    · cases h
    · rename_i hs; simpa using hs
  · cases h
theorem elem_H {W : World} {A : Option Addr} {n : Nat} {xs : List (List Int)} (h : Kd.C kH W A n xs) (hn : 0 < n) :
    ∃ b o, A = some ⟨b, o, none⟩ ∧ ∀ (W' : World), Kd.C kH W' A n xs → ∀ i, i < n → (xs.getD i []).length = 32 ∧ ∀ j u, ((xs.getD i []).map (Value.int .u8))[j]? = some u → W'.cell? ((⟨b, o + i * 32, none⟩ : Addr).add j) = some u := by
  obtain ⟨⟨b, o, s⟩, rfl, hl, hc⟩ := cells_H h 0 hn
  have hs : s = none := by
    have h0 := hc 0 (.int .u8 ((xs.getD 0 [])[0]'(by omega))) (by simp [show 0 < (xs.getD 0 []).length by omega])
    have := spot_of_cell h0
    simpa [Addr.add] using this
  subst hs
  refine ⟨b, o, rfl, fun W' hW i hi => ?_⟩
  obtain ⟨ad, he, hl', hc'⟩ := cells_H hW i hi
  injection he with he
  subst he
  refine ⟨hl', fun j u hu => ?_⟩
  have := hc' j u hu
  rw [add_at] at this
  exact this
theorem wrap_pow (n p : Nat) (hn : n ≤ 16) (hp : 2 ^ n = p) : wrap64 ((2 : Int) ^ n) = (p : Int) := by
  have h16 : 2 ^ n ≤ 65536 := Nat.pow_le_pow_right (by decide : 0 < 2) hn
  have e : (2 : Int) ^ n = ((2 ^ n : Nat) : Int) := (Int.natCast_pow 2 n).symm
  rw [e, hp]
  unfold wrap64
  omega
set_option maxHeartbeats 2000000 in
set_option maxRecDepth 100000 in
theorem asked_ok (n i : Nat) (hn : n ≤ 16) (hi : i < 2 ^ n) (w : World) :
    Calls Try.prog 150 #[.int .i64 (n : Int), .int .i64 (i : Int), .int .i64 0] w fun e w' => e = .returned (.int .i64 0) ∧ w' = w := by
  have h16 : 2 ^ n ≤ 65536 := Nat.pow_le_pow_right (by decide : 0 < 2) hn
  generalize hP : 2 ^ n = p at *
  have hsh := wrap_pow n p hn hP
  have HP := Aside0.mk hP
  clear hP
  have hd1 : decide (n ≤ 16) = true := decide_eq_true hn
  have hd2 : decide (p ≤ i) = false := decide_eq_false (by omega)
  have hd3 : decide (p < 0) = false := decide_eq_false (by omega)
  go_enter Try.func150, Try.ntmps150
  go_wp2
  go_ret
  exact ⟨rfl, rfl⟩
end Go.Proofs.Ytocphkfkdadhaaa.H

namespace Go.Proofs.Ytocphkfkdadhaaa.H
open Go.RowKit Go.Proofs.YtocphkfkdadhaaaW.PrintWords Go.Proofs.YtocphkfkdadhaaaW.PrintLast Go.Proofs.YtocphkfkdadhaaaW.PrintMore
set_option linter.unusedVariables false
set_option linter.unusedSimpArgs false
theorem own_result_ct {fn : Func} {p u : Tmp} {ty : TypeId} (h : fn.results = #[.cell p ty, .tmp u]) (tmps : Array Value) {B : Nat} {w0 W : World} {L : List Item} (H : Own B w0 W L) (k : Nat) (g : Nat) (cs : Array Value) (hk : L[k]? = some (.blk g cs ty))
    (hp : tmps.getD p undef = .pointer (some ⟨g, 0, none⟩)) {P : Program} {m : Nat} {el : TypeId} (hu : P.underlying ty = some (.array m el)) (n : Nat) (hn : Arr n cs) (hi : (P.info? ty).map (·.size) = some n) (v : Value) (hv : tmps.getD u undef = v) :
    (results fn tmps).run P W = .ok (.tuple #[.agg cs, v]) W := by
  subst hv
  exact results_ct h tmps W g ty cs (0, 0) _ hp (H.get k hk) hu rfl (by rw [hn.1]; exact hi)
theorem and_one (x : Nat) (hx : x < 65536) : bits .and .i64 (x : Int) 1 = ((x % 2 : Nat) : Int) := by
  have h1 : (BitVec.ofInt 64 (x : Int)).toNat = x := by
    rw [BitVec.ofInt_natCast, BitVec.toNat_ofNat]; exact Nat.mod_eq_of_lt (by omega)
  have h2 : (BitVec.ofInt 64 (1 : Int)).toNat = 1 := rfl
  show IntKind.i64.wrap ((BitVec.ofInt 64 (x : Int) &&& BitVec.ofInt 64 1).toNat : Int) = _
  rw [BitVec.toNat_and, h1, h2, Nat.and_one_is_mod, IntWalk.i64_in _ (by omega)]
theorem cast_div2 (i k : Nat) : ((i / 2 ^ k : Nat) : Int) = (i : Int) / 2 ^ k := by
  simp only [Int.natCast_ediv, Int.natCast_pow]; rfl
theorem foldStep_yes {b : Nat} {l h : List Int} (e : b % 2 = 0) : foldStep b l h = pairI l h := by unfold foldStep; rw [if_pos e]
theorem foldStep_no {b : Nat} {l h : List Int} (e : ¬ b % 2 = 0) : foldStep b l h = pairI h l := by unfold foldStep; rw [if_neg e]
set_option maxHeartbeats 2000000 in
set_option maxRecDepth 100000 in
theorem fold_ok (i : Nat) (lf : List Int) (ps : List (List Int)) (hl : ps.length ≤ 16) (hi : i < 2 ^ ps.length) (hlf : Hsh lf) (hps : Hshs ps) (A : Option Addr) (c : Nat) (hc : ps.length ≤ c) (w : World) (hC : Kd.C kH w A ps.length ps) :
    Calls Try.prog 115 #[.int .i64 (i : Int), .agg (cellsB lf), .slice A ps.length c] w fun e w' => e = .returned (.tuple #[.agg (cellsB (foldI i lf ps)), .int .i64 0]) ∧ Below w.heap.size w w' := by
  have h16 : 2 ^ ps.length ≤ 65536 := Nat.pow_le_pow_right (by decide : 0 < 2) hl
  have HI := Aside0.mk hi
  have HAS := Aside0.mk (fun W => asked_ok ps.length i hl hi W)
  have HPS := Aside0.mk (fun k h => Hshs_at hps k h)
  have HFT := Aside0.mk (fun k h => foldI_take ps i lf k h)
  have HFH := Aside0.mk (fun k => Hsh_foldI (ps.take k) i lf hlf)
  have HC := Aside0.mk hC
  have hbig : i < 65536 := by omega
  clear hi h16
  have H0 := Aside0.mk (Own.start w)
  have R32 : Aside0 (Arr 32 (Array.replicate 32 (.int .u8 0))) := ⟨Arr_rep _ _ rfl⟩
  have HLF := Aside0.mk (Arr_B hlf.1)
  obtain ⟨n, hn⟩ : ∃ n, n = ps.length := ⟨_, rfl⟩
  have HN := Aside0.mk hn
  rw [← hn] at hl hc HAS HC ⊢
  clear hn
  have hgt : decide (16 < n) = false := decide_eq_false (by omega)
  go_enter Try.func115, Try.ntmps115
  go_wp2_with (first
    | fail
    | ((with_reducible refine gate_dst (N := 4) rfl ?_); refine own_box H0.out rfl (N := 4) rfl (t := 25) rfl (.agg (cellsB lf)) rfl ?_; intro g4 w1 H1 B1; replace H1 := Aside0.mk H1; replace B1 := Aside0.mk B1)
    | ((with_reducible refine gate_dst (N := 6) rfl ?_); refine own_alloc H1.out rfl (N := 6) rfl (t := 25) rfl (Array.replicate 32 (.int .u8 0)) 32 (by kernel_rfl) ?_; intro g6 w2 H2 B2; replace H2 := Aside0.mk H2; replace B2 := Aside0.mk B2)
    | (go_at_call 150; refine (HAS.out _).mono ?_; rintro e w3 ⟨rfl, rfl⟩)
    )
  have H3 : Aside0 (Own w.heap.size w w3 [.blk g4 (cellsB (foldI i lf (ps.take 0))) 25, .blk g6 (Array.replicate 32 (.int .u8 0)) 25]) := ⟨H2.out.perm (List.Perm.swap _ _ _)⟩
  clear H1 H2 HLF
  go_loopw [23] (fun v23 wr => ∃ k : Nat, k ≤ n ∧ v23 = .int .i64 (k : Int) ∧ Aside0 (Own w.heap.size w wr [.blk g4 (cellsB (foldI i lf (ps.take k))) 25, .blk g6 (Array.replicate 32 (.int .u8 0)) 25])) (fun v23 _ => n - (intOf v23).toNat)
  case atStart => exact ⟨0, Nat.zero_le _, rfl, H3⟩
  case round =>
    obtain ⟨k, hk, rfl, HR⟩ := hrel
    by_cases hlt : k < n
    · have hdl : decide (k < n) = true := decide_eq_true hlt
      have hil : k < ps.length := by have := HN.out; omega
      have HCr := Aside0.mk (Kd.C_below HC.out HR.out.below)
      obtain ⟨b, o, rfl, hel⟩ := elem_H HCr.out (by omega)
      obtain ⟨hel1, hel2⟩ := hel wr HCr.out k hlt
      have HEL := Aside0.mk hel2
      have HS := Aside0.mk (HFT.out k hil)
      have HHP := Aside0.mk (HPS.out k hil)
      have HHF := Aside0.mk (HFH.out k)
      have HHN := Aside0.mk (HFH.out (k + 1))
      have hq : i / 2 ^ k < 65536 := Nat.lt_of_le_of_lt (Nat.div_le_self _ _) hbig
      have hand := and_one (i / 2 ^ k) hq
      rw [cast_div2] at hand
      have HLEN := Aside0.mk hel1
      clear hel hel1 hel2
      generalize ps.getD k [] = h at *
      generalize foldI i lf (ps.take k) = s at *
      have HAs := Aside0.mk (Arr_B HHF.out.1)
      have HAh := Aside0.mk (Arr_B HLEN.out)
      have hk64 : (k : Int) ≤ 64 := by omega
      by_cases hbit : i / 2 ^ k % 2 = 0
      · rw [hbit] at hand
        have HPR := Aside0.mk (fun W => pair_any s h HHF.out.1 HHP.out.1 HHF.out.2 HHP.out.2 W)
        rw [foldStep_yes hbit] at HS
        rw [HS.out] at HHN
        have HAn := Aside0.mk (Arr_B HHN.out.1)
        clear hbit
        generalize pairI s h = r at *
        go_wp2_with (first
          | fail
          | ((with_reducible refine gate_dst (N := 27) rfl ?_); refine load_H rfl 25 (.tmp 26) rfl (⟨b, o + k * 32, none⟩) (h) rfl (HEL.out) Try.underlying25 (by rw [HLEN.out]; kernel_rfl) ?_)
          | ((with_reducible refine gate_dst (N := 9) rfl ?_); refine own_alloc HR.out rfl (N := 9) rfl (t := 25) rfl (Array.replicate 32 (.int .u8 0)) 32 (by kernel_rfl) ?_; intro g9 w4 H4 B4; replace H4 := Aside0.mk H4; replace B4 := Aside0.mk B4)
          | ((with_reducible refine own_store H4.out 0 g9 _ 25 rfl rfl (.tmp 9) (.tmp 27) rfl (cellsB h) ?_ ?_ 32 R32.out HAh.out (by kernel_rfl) ?_); (case _ => rfl); (case _ => rfl); intro w5 H5; replace H5 := Aside0.mk H5)
          | ((with_reducible refine gate_dst (N := 33) rfl ?_); refine own_load H5.out 1 g4 _ 25 rfl rfl (.tmp 4) rfl (by rfl) Try.underlying25 32 HAs.out (by kernel_rfl) ?_)
          | ((with_reducible refine gate_dst (N := 34) rfl ?_); refine own_load H5.out 0 g9 _ 25 rfl rfl (.tmp 9) rfl (by rfl) Try.underlying25 32 HAh.out (by kernel_rfl) ?_)
          | (go_at_call 118; refine (HPR.out _).mono ?_; rintro e w6 ⟨rfl, hB6⟩; have H6 := Aside0.mk (H5.out.step hB6); clear hB6)
          | ((with_reducible refine own_store H6.out 1 g4 _ 25 rfl rfl (.tmp 4) (.tmp 35) rfl (cellsB r) ?_ ?_ 32 HAs.out HAn.out (by kernel_rfl) ?_); (case _ => rfl); (case _ => rfl); intro w7 H7; replace H7 := Aside0.mk H7)
          )
        go_roundw
        case rel => exact ⟨k + 1, hlt, by go_num, ⟨by rw [HS.out]; exact H7.out.erase 0⟩⟩
        case measure => simp [intOf]; omega
      · rw [show i / 2 ^ k % 2 = 1 by omega] at hand
        have HPR := Aside0.mk (fun W => pair_any h s HHP.out.1 HHF.out.1 HHP.out.2 HHF.out.2 W)
        rw [foldStep_no hbit] at HS
        rw [HS.out] at HHN
        have HAn := Aside0.mk (Arr_B HHN.out.1)
        clear hbit
        generalize pairI h s = r at *
        go_wp2_with (first
          | fail
          | ((with_reducible refine gate_dst (N := 27) rfl ?_); refine load_H rfl 25 (.tmp 26) rfl (⟨b, o + k * 32, none⟩) (h) rfl (HEL.out) Try.underlying25 (by rw [HLEN.out]; kernel_rfl) ?_)
          | ((with_reducible refine gate_dst (N := 9) rfl ?_); refine own_alloc HR.out rfl (N := 9) rfl (t := 25) rfl (Array.replicate 32 (.int .u8 0)) 32 (by kernel_rfl) ?_; intro g9 w4 H4 B4; replace H4 := Aside0.mk H4; replace B4 := Aside0.mk B4)
          | ((with_reducible refine own_store H4.out 0 g9 _ 25 rfl rfl (.tmp 9) (.tmp 27) rfl (cellsB h) ?_ ?_ 32 R32.out HAh.out (by kernel_rfl) ?_); (case _ => rfl); (case _ => rfl); intro w5 H5; replace H5 := Aside0.mk H5)
          | ((with_reducible refine gate_dst (N := 37) rfl ?_); refine own_load H5.out 1 g4 _ 25 rfl rfl (.tmp 4) rfl (by rfl) Try.underlying25 32 HAs.out (by kernel_rfl) ?_)
          | ((with_reducible refine gate_dst (N := 36) rfl ?_); refine own_load H5.out 0 g9 _ 25 rfl rfl (.tmp 9) rfl (by rfl) Try.underlying25 32 HAh.out (by kernel_rfl) ?_)
          | (go_at_call 118; refine (HPR.out _).mono ?_; rintro e w6 ⟨rfl, hB6⟩; have H6 := Aside0.mk (H5.out.step hB6); clear hB6)
          | ((with_reducible refine own_store H6.out 1 g4 _ 25 rfl rfl (.tmp 4) (.tmp 38) rfl (cellsB r) ?_ ?_ 32 HAs.out HAn.out (by kernel_rfl) ?_); (case _ => rfl); (case _ => rfl); intro w7 H7; replace H7 := Aside0.mk H7)
          )
        go_roundw
        case rel => exact ⟨k + 1, hlt, by go_num, ⟨by rw [HS.out]; exact H7.out.erase 0⟩⟩
        case measure => simp [intOf]; omega
    · have hdl : decide (k < n) = false := decide_eq_false hlt
      have hke : k = n := by omega
      subst hke
      clear hlt
      have HHF := Aside0.mk (HFH.out k)
      have HE : Aside0 (foldI i lf (ps.take k) = foldI i lf ps) := ⟨by rw [List.take_of_length_le (by rw [← HN.out]; exact Nat.le_refl _)]⟩
      rw [HE.out] at HR HHF
      obtain ⟨s, hs⟩ : ∃ s, s = foldI i lf ps := ⟨_, rfl⟩
      rw [← hs] at HR HHF
      have HSE := Aside0.mk hs
      clear hs HE
      have HAs := Aside0.mk (Arr_B HHF.out.1)
      go_wp2_with (first
        | fail
        | ((with_reducible refine gate_dst (N := 40) rfl ?_); refine own_load HR.out 0 g4 _ 25 rfl rfl (.tmp 4) rfl (by rfl) Try.underlying25 32 HAs.out (by kernel_rfl) ?_)
        | ((with_reducible refine own_store HR.out 1 g6 _ 25 rfl rfl (.tmp 6) (.tmp 40) rfl (cellsB s) ?_ ?_ 32 R32.out HAs.out (by kernel_rfl) ?_); (case _ => rfl); (case _ => rfl); intro w7 H7; replace H7 := Aside0.mk H7)
        )
      refine bodyPost_ret (own_result_ct rfl _ H7.out 1 g6 (cellsB s) rfl rfl Try.underlying25 32 HAs.out (by kernel_rfl) (.int .i64 0) rfl) rfl ?_
      exact ⟨by rw [HSE.out], H7.out.below⟩
end Go.Proofs.Ytocphkfkdadhaaa.H

namespace Go.Proofs.Ytocphkfkdadhaaa.H
open Go.RowKit Go.Proofs.YtocphkfkdadhaaaW.PrintWords Go.Proofs.YtocphkfkdadhaaaW.PrintLast Go.Proofs.YtocphkfkdadhaaaW.PrintMore
set_option linter.unusedVariables false
set_option linter.unusedSimpArgs false
theorem loadAt_H {P : Program} {W : World} (ty : TypeId) (p : Addr) (xs : List Int) {n : Nat} {el : TypeId} (hc : ∀ j v, (xs.map (Value.int .u8))[j]? = some v → W.cell? (p.add j) = some v) (hu : P.underlying ty = some (.array n el)) (hi : (P.info? ty).map (·.size) = some xs.length) :
    (Instr.loadAt ty (.pointer (some p))).run P W = .ok (.agg (cellsB xs)) W := by
  simp only [Instr.loadAt, Instr.sureAddr, Sem.run_bind, Sem.run_pure, Result.andThen_ok, run_loadVar_at (P := P) (W := W) p ty (xs.map (Value.int .u8)) _ hc hu rfl (by rw [List.length_map]; exact hi)]
  rfl
theorem cells_blkB {W : World} {g : Nat} {t : TypeId} {xs : List Int} (h : W.heap[g]? = some (.cells (cellsB xs) t (0, 0))) : ∀ j v, (xs.map (Value.int .u8))[j]? = some v → W.cell? ((⟨g, 0, none⟩ : Addr).add j) = some v := fun j v hv => by
  rw [add_plain, blk_cell h j]
  simpa [cellsB] using hv
end Go.Proofs.Ytocphkfkdadhaaa.H

namespace Go.Proofs.Ytocphkfkdadhaaa.H
open Go.RowKit Go.Proofs.YtocphkfkdadhaaaW.PrintWords Go.Proofs.YtocphkfkdadhaaaW.PrintLast Go.Proofs.YtocphkfkdadhaaaW.PrintMore
set_option linter.unusedVariables false
set_option linter.unusedSimpArgs false
section
variable {P : Program} {ops : Array Oper} {rest : List Oper} {o : Oper} {a : Act} {Q : Exit → Act → World → Prop} {W : World}
theorem wpList_wanted (hw : Region.wanted o (yielded ops a.tmps) = true) (h : ∀ K : Act → World → Prop, (∀ a w, wpList P ops Q rest a w → K a w) → o.wp P a W K Q) : wpList P ops Q (o :: rest) a W :=
  wpList_step fun K hK => by rw [if_pos hw]; exact h K hK
theorem gload_H (hw : Region.wanted o (yielded ops a.tmps) = true) (ty : TypeId) (x : Operand) (ho : o.op = .load ty x) (p : Addr) (xs : List Int) {n : Nat} {el : TypeId} (hx : a.eval x = .pointer (some p)) (hc : ∀ j v, (xs.map (Value.int .u8))[j]? = some v → W.cell? (p.add j) = some v) (hu : P.underlying ty = some (.array n el))
    (hi : (P.info? ty).map (·.size) = some xs.length) (h : wpList P ops Q rest (a.put o.dst (.agg (cellsB xs))) W) : wpList P ops Q (o :: rest) a W :=
  wpList_wanted hw fun _ hK => by
    unfold Oper.wp execOp
    simp only [ho, hx, Sem.run_bind, Sem.run_pure, Result.andThen_ok, loadAt_H (P := P) (W := W) ty p xs hc hu hi]
    exact hK _ _ h
theorem geq_H (hw : Region.wanted o (yielded ops a.tmps) = true) (t u : TypeId) (x y : Operand) (ho : o.op = .binOp .eql t x y u) (xs ys : List Int) (hx : a.eval x = .agg (cellsB xs)) (hy : a.eval y = .agg (cellsB ys)) {n : Nat} {e : TypeId} (ht : P.underlying t = some (.array n e)) (he : P.underlying e = some (.int .u8)) (hs : (P.info? e).map (·.size) = some 1) (hg : P.eqGuardType P.depth t = false) (lx : xs.length = n) (ly : ys.length = n)
    (h : wpList P ops Q rest (a.put o.dst (.bool (xs == ys))) W) : wpList P ops Q (o :: rest) a W :=
  wpList_wanted hw fun _ hK => by
    unfold Oper.wp execOp
    have := (run_eqH (P := P) 0 t e n ht he hs hg xs ys lx ly x y W).1
    simp only [Sem.run_bind] at this
    simp only [ho, hx, hy, Sem.run_bind, Sem.run_pure]
    rw [this]
    exact hK _ _ h
end
set_option maxHeartbeats 1000000 in
set_option maxRecDepth 100000 in
theorem mcheck_ok (i : Nat) (root lf : List Int) (ps : List (List Int)) (hl : ps.length ≤ 16) (hi : i < 2 ^ ps.length) (hr : Hsh root) (hlf : Hsh lf) (hps : Hshs ps) (A : Option Addr) (c : Nat) (hc : ps.length ≤ c) (w : World) (hC : Kd.C kH w A ps.length ps) :
    Calls Try.prog 61 #[.agg (cellsB root), .int .i64 (i : Int), .agg (cellsB lf), .slice A ps.length c] w fun e w' => e = .returned (.bool (foldI i lf ps == root)) ∧ Below w.heap.size w w' := by
  have HF := Aside0.mk (fun W h => fold_ok i lf ps hl hi hlf hps A c hc W h)
  have HC := Aside0.mk hC
  have H0 := Aside0.mk (Own.start w)
  have R32 : Aside0 (Arr 32 (Array.replicate 32 (.int .u8 0))) := ⟨Arr_rep _ _ rfl⟩
  have HAl := Aside0.mk (Arr_B hlf.1)
  have Hr := Aside0.mk hr
  have HS := Aside0.mk (Hsh_foldI ps i lf hlf)
  generalize foldI i lf ps = s at *
  have HAs := Aside0.mk (Arr_B HS.out.1)
  clear hC hl hi hr hlf hps hc
  generalize ps.length = n at *
  go_enter Try.func61, Try.ntmps61
  go_wp2_with (first
    | fail
    | ((with_reducible refine gate_dst (N := 4) rfl ?_); refine own_box H0.out rfl (N := 4) rfl (t := 25) rfl (.agg (cellsB root)) rfl ?_; intro g4 w1 H1 B1; replace H1 := Aside0.mk H1; replace B1 := Aside0.mk B1)
    | ((with_reducible refine gate_dst (N := 6) rfl ?_); refine own_box H1.out rfl (N := 6) rfl (t := 25) rfl (.agg (cellsB lf)) rfl ?_; intro g6 w2 H2 B2; replace H2 := Aside0.mk H2; replace B2 := Aside0.mk B2)
    | ((with_reducible refine gate_dst (N := 13) rfl ?_); refine own_load H2.out 0 g6 _ 25 rfl rfl (.tmp 6) rfl (by rfl) Try.underlying25 32 HAl.out (by kernel_rfl) ?_)
    | (go_at_call 115; refine (HF.out _ (Kd.C_below HC.out H2.out.below)).mono ?_; rintro e w3 ⟨rfl, hB3⟩; have H3 := Aside0.mk (H2.out.step hB3); clear hB3)
    | ((with_reducible refine gate_dst (N := 9) rfl ?_); refine own_alloc H3.out rfl (N := 9) rfl (t := 25) rfl (Array.replicate 32 (.int .u8 0)) 32 (by kernel_rfl) ?_; intro g9 w4 H4 B4; replace H4 := Aside0.mk H4; replace B4 := Aside0.mk B4)
    | ((with_reducible refine own_store H4.out 0 g9 _ 25 rfl rfl (.tmp 9) (.tmp 16) rfl (cellsB s) ?_ ?_ 32 R32.out HAs.out (by kernel_rfl) ?_); (case _ => rfl); (case _ => rfl); intro w5 H5; replace H5 := Aside0.mk H5)
    | ((with_reducible refine gate_dst (N := 21) rfl ?_); refine gload_H (by rfl) 25 (.tmp 9) rfl ⟨g9, 0, none⟩ s rfl (cells_blkB (H5.out.get 0 rfl)) Try.underlying25 (by rw [HS.out.1]; kernel_rfl) ?_)
    | ((with_reducible refine gate_dst (N := 22) rfl ?_); refine gload_H (by rfl) 25 (.tmp 4) rfl ⟨g4, 0, none⟩ root rfl (cells_blkB (H5.out.get 2 rfl)) Try.underlying25 (by rw [Hr.out.1]; kernel_rfl) ?_)
    | ((with_reducible refine gate_dst (N := 23) rfl ?_); refine geq_H (by rfl) 25 _ (.tmp 21) (.tmp 22) rfl s root rfl rfl Try.underlying25 Try.underlying5 size1B guardH HS.out.1 Hr.out.1 ?_)
    )
  go_ret
  exact ⟨rfl, H5.out.below⟩
end Go.Proofs.Ytocphkfkdadhaaa.H

namespace Go.Proofs.Ytocphkfkdadhaaa.H
open Go.RowKit Go.Proofs.YtocphkfkdadhaaaW.PrintWords Go.Proofs.YtocphkfkdadhaaaW.PrintLast Go.Proofs.YtocphkfkdadhaaaW.PrintMore
set_option linter.unusedVariables false
set_option linter.unusedSimpArgs false
def chkI (root : List Int) (at_ m : Nat) (ps : List (List Int)) : Bool := decide (ps.length ≤ 12) && (decide (at_ < 2 ^ ps.length) && (foldI at_ (leafW m) ps == root))
theorem wrapu_pow (n p : Nat) (hn : n ≤ 16) (hp : 2 ^ n = p) : IntKind.u64.wrap ((2 : Int) ^ n) = (p : Int) := by
  have h16 : 2 ^ n ≤ 65536 := Nat.pow_le_pow_right (by decide : 0 < 2) hn
  have e : (2 : Int) ^ n = ((2 ^ n : Nat) : Int) := (Int.natCast_pow 2 n).symm
  rw [e, hp, IntKind.wrap_u64]
  omega
theorem wrapu_pow' (n p : Nat) (hn : n ≤ 16) (hp : 2 ^ n = p) : (2 : Int) ^ n % 18446744073709551616 = (p : Int) := by
  have := wrapu_pow n p hn hp
  rwa [IntKind.wrap_u64] at this
set_option maxHeartbeats 2000000 in
set_option maxRecDepth 100000 in
theorem memcheck_any (root : List Int) (at_ m : Nat) (ps : List (List Int)) (ha : at_ ≤ 18446744073709551615) (hm : m ≤ 18446744073709551615) (hr : Hsh root) (hps : Hshs ps) (A : Option Addr) (c : Nat) (hc : ps.length ≤ c) (w : World) (hC : Kd.C kH w A ps.length ps) :
    Calls Try.prog 16 #[.agg (cellsB root), .int .u64 (at_ : Int), .int .u64 (m : Int), .slice A ps.length c] w fun e w' => e = .returned (.bool (chkI root at_ m ps)) ∧ Below w.heap.size w w' := by
  have hlm := hC.2.1
  have H0 := Aside0.mk (Own.start w)
  have HRES : Aside0 (chkI root at_ m ps = (decide (ps.length ≤ 12) && (decide (at_ < 2 ^ ps.length) && (foldI at_ (leafW m) ps == root)))) := ⟨rfl⟩
  by_cases h12 : ps.length ≤ 12
  · obtain ⟨p, hp⟩ : ∃ p, 2 ^ ps.length = p := ⟨_, rfl⟩
    have hw1 := wrapu_pow ps.length p (by omega) hp
    have hw2 := wrapu_pow' ps.length p (by omega) hp
    have hp4 : p ≤ 4096 := by rw [← hp]; exact Nat.pow_le_pow_right (by decide : 0 < 2) h12
    by_cases hat : at_ < p
    · have HCK := Aside0.mk (fun W h => mcheck_ok at_ root (leafW m) ps (by omega) (by rw [hp]; exact hat) hr (Hsh_leaf m) hps A c hc W h)
      have HLF := Aside0.mk (fun W => memleaf_any m hm W)
      have HE : Aside0 (chkI root at_ m ps = (foldI at_ (leafW m) ps == root)) := ⟨by rw [HRES.out, hp, decide_eq_true h12, decide_eq_true hat]; rfl⟩
      rw [HE.out]
      have HC := Aside0.mk hC
      have HR := Aside0.mk hr
      generalize (foldI at_ (leafW m) ps == root) = res at *
      generalize leafW m = lf at *
      clear HRES HE hC hr hps hp
      generalize ps.length = n at *
      have hd1 : decide ((n : Int) ≤ 12) = true := decide_eq_true (by omega)
      have hwa : IntKind.i64.wrap (at_ : Int) = (at_ : Int) := IntWalk.i64_in _ (by omega)
      have hd2 : decide (at_ < p) = true := decide_eq_true hat
      go_enter Try.func16, Try.ntmps16
      go_wp2_with (first
        | fail
        | ((with_reducible refine gate_dst (N := 4) rfl ?_); refine own_box H0.out rfl (N := 4) rfl (t := 25) rfl (.agg (cellsB root)) rfl ?_; intro g4 w1 H1 B1; replace H1 := Aside0.mk H1; replace B1 := Aside0.mk B1)
        )
      have hu := Try.underlying25
      obtain ⟨cs, hcs⟩ : ∃ cs : List Value, cs = root.map (Value.int .u8) := ⟨_, rfl⟩
      have HCS : Aside0 (cs.toArray = cellsB root) := ⟨by rw [hcs]; rfl⟩
      have hcl : cs.length = 32 := by rw [hcs, List.length_map]; exact HR.out.1
      have hi : (Try.prog.info? 25).map (·.size) = some cs.length := by rw [hcl]; kernel_rfl
      have hra : w1.rangeAt g4 0 cs := fun j v hv => by rw [Nat.zero_add]; have := cells_blkB (H1.out.get 0 rfl) j v (by rw [← hcs]; exact hv); rwa [add_plain] at this
      clear hcs
      rw [← HCS.out] at HCK
      go_region_held3 (fun W => W.rangeAt g4 0 cs) (first | exact K9.out | exact K10.out | go_keep_ranges) (first
        | (go_at_call 62; refine (HLF.out _).mono ?_; rintro e w9 ⟨rfl, hB9⟩; have H9 := Aside0.mk (H1.out.drew.step hB9); have K9 : Aside0 (w9.rangeAt g4 0 cs) := ⟨fun j v hv => pw_cell_below hB9 (hra j v hv)⟩; clear hB9)
        | (go_at_call 61; refine (HCK.out _ (Kd.C_below HC.out H9.out.below)).mono ?_; rintro e w10 ⟨rfl, hB10⟩; have H10 := Aside0.mk (H9.out.step hB10); have K10 : Aside0 (w10.rangeAt g4 0 cs) := ⟨fun j v hv => pw_cell_below hB10 (K9.out j v hv)⟩; clear hB10))
      go_wp2_with fail
      go_ret
      exact ⟨rfl, H10.out.below⟩
    · have HE : Aside0 (chkI root at_ m ps = false) := ⟨by rw [HRES.out, hp, decide_eq_true h12, decide_eq_false hat]; rfl⟩
      rw [HE.out]
      clear HRES HE hC hp
      generalize ps.length = n at *
      have hd1 : decide ((n : Int) ≤ 12) = true := decide_eq_true (by omega)
      have hd2 : decide (at_ < p) = false := decide_eq_false hat
      go_enter Try.func16, Try.ntmps16
      go_wp2_with (first
        | fail
        | ((with_reducible refine gate_dst (N := 4) rfl ?_); refine own_box H0.out rfl (N := 4) rfl (t := 25) rfl (.agg (cellsB root)) rfl ?_; intro g4 w1 H1 B1; replace H1 := Aside0.mk H1; replace B1 := Aside0.mk B1)
        )
      go_quiet (fail)
      go_wp2_with fail
      go_ret
      exact ⟨rfl, (H1.out.drewN nq).below⟩
  · have HE : Aside0 (chkI root at_ m ps = false) := ⟨by rw [HRES.out, decide_eq_false h12]; rfl⟩
    rw [HE.out]
    clear HRES HE hC
    generalize ps.length = n at *
    have hd1 : decide ((n : Int) ≤ 12) = false := decide_eq_false (by omega)
    go_enter Try.func16, Try.ntmps16
    go_wp2_with (first
      | fail
      | ((with_reducible refine gate_dst (N := 4) rfl ?_); refine own_box H0.out rfl (N := 4) rfl (t := 25) rfl (.agg (cellsB root)) rfl ?_; intro g4 w1 H1 B1; replace H1 := Aside0.mk H1; replace B1 := Aside0.mk B1)
      )
    go_quiet (fail)
    go_wp2_with fail
    go_ret
    exact ⟨rfl, (H1.out.drewN nq).below⟩
end Go.Proofs.Ytocphkfkdadhaaa.H

namespace Go.Proofs.Ytocphkfkdadhaaa.H
open Go.RowKit Go.Proofs.YtocphkfkdadhaaaW.PrintWords Go.Proofs.YtocphkfkdadhaaaW.PrintLast Go.Proofs.YtocphkfkdadhaaaW.PrintMore
set_option linter.unusedVariables false
set_option linter.unusedSimpArgs false
def zero32 : List Int := List.replicate 32 0
theorem Hsh_zero : Hsh zero32 := ⟨by simp [zero32], fun x hx => by have := List.eq_of_mem_replicate hx; omega⟩
def rootP : Nat → List (List Int) → List Int
  | 0, ls => ls.getD 0 zero32
  | d + 1, ls => if ls.length = 0 then pairI (rootP d []) (rootP d []) else if ls.length ≤ 2 ^ d then pairI (rootP d ls) (rootP d []) else pairI (rootP d (ls.take (2 ^ d))) (rootP d (ls.drop (2 ^ d)))
theorem Hsh_root (d : Nat) (ls : List (List Int)) (h : Hshs ls) : Hsh (rootP d ls) := by
  cases d with
  | zero =>
    show Hsh (ls.getD 0 zero32)
    by_cases hl : 0 < ls.length
    · rw [List.getD_eq_getElem?_getD, List.getElem?_eq_getElem hl]; exact h _ (List.getElem_mem hl)
    · rw [List.getD_eq_getElem?_getD, List.getElem?_eq_none (by omega)]; exact Hsh_zero
  | succ d =>
    unfold rootP
    split
    · exact Hsh_pair _ _
    · split <;> exact Hsh_pair _ _
end Go.Proofs.Ytocphkfkdadhaaa.H

namespace Go.Proofs.Ytocphkfkdadhaaa.H
open Go.RowKit Go.Proofs.YtocphkfkdadhaaaW.PrintWords Go.Proofs.YtocphkfkdadhaaaW.PrintLast Go.Proofs.YtocphkfkdadhaaaW.PrintMore
set_option linter.unusedVariables false
set_option linter.unusedSimpArgs false
def sizeB (n : Nat) : Bool := (List.range 13).any fun d => n == 2 ^ d
theorem sizeB_of {d : Nat} (h : d ≤ 12) : sizeB (2 ^ d) = true := List.any_eq_true.2 ⟨d, List.mem_range.2 (by omega), by simp⟩
end Go.Proofs.Ytocphkfkdadhaaa.H

namespace Go.Proofs.Ytocphkfkdadhaaa.H
open Go.RowKit Go.Proofs.YtocphkfkdadhaaaW.PrintWords Go.Proofs.YtocphkfkdadhaaaW.PrintLast Go.Proofs.YtocphkfkdadhaaaW.PrintMore
set_option linter.unusedVariables false
set_option linter.unusedSimpArgs false
theorem leavesW_len (ws : List Int) : (leavesW ws).length = ws.length := by simp [leavesW]
theorem Hshs_leaves (ws : List Int) : Hshs (leavesW ws) := by
  intro x hx
  obtain ⟨m, _, rfl⟩ := List.mem_map.1 hx
  exact Hsh_leaf _
def memroot (D : Nat) (ws : List Int) : List Int := rootP D (leavesW ws)
theorem Hsh_memroot (D : Nat) (ws : List Int) : Hsh (memroot D ws) := Hsh_root D _ (Hshs_leaves ws)
end Go.Proofs.Ytocphkfkdadhaaa.H

namespace Go.Proofs.Ytocphkfkdadhaaa.H
open Go.RowKit Go.Proofs.YtocphkfkdadhaaaW.PrintWords Go.Proofs.YtocphkfkdadhaaaW.PrintLast Go.Proofs.YtocphkfkdadhaaaW.PrintMore
set_option linter.unusedVariables false
set_option linter.unusedSimpArgs false
theorem R_block {α : Type} {d : Kd α} {e : Nat} {W : World} {base : Nat} {ok : Nat → Prop} {g n cap : Nat} {xs : List α} (h : d.R e W base ok (.slice (some ⟨g, 0, none⟩) n cap) xs) :
    n = xs.length ∧ ∃ cur inner, W.heap[g]? = some (.cells cur e (0, 0)) ∧ cur.size = cap * d.sz ∧ n ≤ cap ∧ cur.toList.take (n * d.sz) = inner ∧ Reps (d.M W base (fun k => ok k ∧ some k ≠ (Value.slice (some ⟨g, 0, none⟩) n cap).ownBlock)) d.sz xs inner := by
  have hn := (Kd.R_reads' h).1
  obtain ⟨hok, inner, ho, hr⟩ := h
  refine ⟨hn, ?_⟩
  rcases ho.2 with ⟨he, _⟩ | ⟨g', cap', cur, he, hb, hh, hc1, hc2, hc3, hc4⟩
  · cases he
  · injection he with h1 h2 h3
    injection h1 with h1
    injection h1 with h1
    subst h1 h3 hn
    exact ⟨cur, inner, hh, hc3, hc1, hc4, hr⟩
theorem R_there {α : Type} {d : Kd α} {e : Nat} {W : World} {base : Nat} {ok : Nat → Prop} {g n cap : Nat} {xs : List α} (h : d.R e W base ok (.slice (some ⟨g, 0, none⟩) n cap) xs) (i : Nat) (hi : i < n) : W.there g (i * d.sz) d.sz := by
  obtain ⟨hn, cur, inner, hh, hc3, hc1, hc4, hr⟩ := R_block h
  have hm : i * d.sz + d.sz ≤ cap * d.sz := by rw [← Nat.succ_mul]; exact Nat.mul_le_mul_right _ (by omega)
  intro j hj
  refine ⟨?_, blk_frozen hh _⟩
  rw [blk_cell hh, Array.getElem?_eq_getElem (by omega)]
  rfl
theorem R_putC {α : Type} {d : Kd α} {e : Nat} {W : World} {base : Nat} {ok : Nat → Prop} {g n cap : Nat} {xs : List α} (h : d.R e W base ok (.slice (some ⟨g, 0, none⟩) n cap) xs) (i : Nat) (hi : i < n) {x : α} {seg : List Value}
    (hF : Flat d) (hx : ∀ W, d.K W x seg) : d.R e (W.setCells g (i * d.sz) seg) base ok (.slice (some ⟨g, 0, none⟩) n cap) (xs.set i x) ∧ W.grownBy (W.setCells g (i * d.sz) seg) (some g) := by
  obtain ⟨s1, s2, s3, s4⟩ := setCells_same g seg (i * d.sz) W
  have hgr : W.grownBy (W.setCells g (i * d.sz) seg) (some g) := ⟨s1, s2, s3, by omega, fun k _ hk => setCells_far seg _ k (fun e => hk (by rw [e]))⟩
  refine ⟨?_, hgr⟩
  have hb := R_block h
  obtain ⟨hok, inner0, ho, _⟩ := h
  obtain ⟨hn, cur, inner, hh, hc3, hc1, hc4, hr⟩ := hb
  have hl := d.K_len (hx W)
  have hm : i * d.sz + d.sz ≤ n * d.sz := by rw [← Nat.succ_mul]; exact Nat.mul_le_mul_right _ (by omega)
  have hm2 : n * d.sz ≤ cap * d.sz := Nat.mul_le_mul_right _ hc1
  have hcl : cur.toList.length = cap * d.sz := by rw [Array.length_toList, hc3]
  obtain ⟨cur', h1, h2, h3⟩ := setCells_row (e := e) seg (i * d.sz) W cur hh (by omega)
  have hr2 := Kd.reps_set (Reps.imp_ (R' := d.M (W.setCells g (i * d.sz) seg) base (fun k => ok k ∧ some k ≠ (Value.slice (some ⟨g, 0, none⟩) n cap).ownBlock)) hr fun p cs hp => d.M_move (fun k hk => setCells_far seg _ k fun e => hk.2 (by rw [e]; rfl)) hp) (i := i) (by omega) (x := x) (seg := seg) (d.M_mono (fun k hk => hk.elim) (hF (hx _))) hl
  have hln : (xs.set i x).length = n := by rw [List.length_set, ← hn]
  refine ⟨hok, _, ?_, hr2⟩
  rw [hln]
  refine ⟨?_, .inr ⟨g, cap, cur', rfl, ?_, h1, hc1, ?_, ?_, ?_⟩⟩
  · rw [hr2.1, List.length_set, ← hn]
  · rcases ho.2 with ⟨he, _⟩ | ⟨g', cap', _, he, hb, _⟩
    · cases he
    · injection he with h1 h2 h3
      injection h1 with h1
      injection h1 with h1
      subst h1
      exact hb
  · rcases ho.2 with ⟨he, _⟩ | ⟨g', cap', _, he, hb, _, _, hmx, _⟩
    · cases he
    · injection he with h1 h2 h3
      subst h3
      exact hmx
  · rw [h2, hc3]
  · rw [h3, ← hc4]
    have e1 : (cur.toList.take (n * d.sz)).take (i * d.sz) = cur.toList.take (i * d.sz) := by rw [List.take_take, Nat.min_eq_left (by omega)]
    rw [e1]
    have e2 : (cur.toList.take (n * d.sz)).drop (i * d.sz + seg.length) = (cur.toList.drop (i * d.sz + seg.length)).take (n * d.sz - (i * d.sz + seg.length)) := by rw [List.drop_take]
    rw [e2, List.take_append, List.take_append]
    rw [List.take_of_length_le (l := cur.toList.take (i * d.sz)) (by rw [List.length_take]; omega)]
    rw [List.take_of_length_le (l := seg) (by rw [List.length_take]; omega)]
    congr 2
    simp only [List.length_append, List.length_take]
    omega
namespace Own
variable {B : Nat} {w0 W : World} {L : List Item} {α : Type} {d : Kd α}
theorem putC (h : Own B w0 W L) (k : Nat) {g n cap e : Nat} {xs : List α} (hk : L[k]? = some (.row d e (.slice (some ⟨g, 0, none⟩) n cap) xs)) (i : Nat) (hi : i < n) {x : α} {seg : List Value} (hF : Flat d) (hx : ∀ W, d.K W x seg) :
    Own B w0 (W.setCells g (i * d.sz) seg) (L.set k (.row d e (.slice (some ⟨g, 0, none⟩) n cap) (xs.set i x))) := by
  obtain ⟨S, _, hR, hch⟩ := h.focus k hk
  have hR : Kd.R d e W 0 S _ xs := hR
  obtain ⟨h1, h2⟩ := R_putC hR i hi hF hx
  exact hch _ _ (some g) h2 (fun g' he => by injection he with he; subst he; exact hR.1 g rfl) (Kd.R_mono h1 fun i hi => .inl hi)
theorem there_row (h : Own B w0 W L) (k : Nat) {g n cap e : Nat} {xs : List α} (hk : L[k]? = some (.row d e (.slice (some ⟨g, 0, none⟩) n cap) xs)) (i : Nat) (hi : i < n) : W.there g (i * d.sz) d.sz := by
  obtain ⟨S, _, hR⟩ := h.look k hk
  exact R_there (d := d) hR i hi
theorem cells_row (h : Own B w0 W L) (k : Nat) {g n cap e : Nat} {xs : List (List Int)} (hk : L[k]? = some (.row kH e (.slice (some ⟨g, 0, none⟩) n cap) xs)) (i : Nat) (hi : i < n) :
    (xs.getD i []).length = 32 ∧ ∀ (j : Nat) (u : Value), ((xs.getD i []).map (Value.int .u8))[j]? = some u → W.cell? ((⟨g, i * 32, none⟩ : Addr).add j) = some u := by
  obtain ⟨S, _, hR⟩ := h.look k hk
  have hR : Kd.R kH e W 0 S _ xs := hR
  obtain ⟨hn, _, h3⟩ := Kd.R_reads' hR
  obtain ⟨_, _, hc⟩ := h3
  obtain ⟨ad, he, hc⟩ := hc (by omega)
  injection he with he
  subst he
  have hl : i < xs.length := by omega
  obtain ⟨c, h4, h5, h6⟩ := hc i _ (List.getElem?_eq_getElem hl)
  have e1 : xs.getD i [] = xs[i] := by rw [List.getD_eq_getElem?_getD, List.getElem?_eq_getElem hl]; rfl
  rw [e1]
  refine ⟨h5.1, fun j u hu => ?_⟩
  have := h6 j u (by rw [h5.2]; exact hu)
  rw [add_at] at this ⊢
  rw [← this]
  congr 2
  show i * 32 + j = 0 + (i * 32 + j)
  omega
theorem range_row (h : Own B w0 W L) (k : Nat) {g n cap e : Nat} {xs : List (List Int)} (hk : L[k]? = some (.row kH e (.slice (some ⟨g, 0, none⟩) n cap) xs)) (i : Nat) (hi : i < n) {x : List Int} (hx : xs.getD i [] = x) {cs : List Value} (hc : cs = x.map (Value.int .u8)) : W.rangeAt g (i * 32) cs := by
  intro j v hv
  have := (h.cells_row k hk i hi).2 j v (by rw [hx, ← hc]; exact hv)
  rwa [add_at] at this
end Own
section
variable {P : Program} {ops : Array Oper} {rest : List Oper} {o : Oper} {a : Act} {Q : Exit → Act → World → Prop} {B : Nat} {w0 W : World} {L : List Item}
end
set_option maxHeartbeats 1000000 in
set_option maxRecDepth 100000 in
theorem cloneU_any (ws : List Int) (hp : 0 < ws.length) (A : Option Addr) (c : Nat) (w : World) (hC : Kd.C kU w A ws.length ws) (hc : ws.length ≤ c) (hl : ws.length ≤ 1000000) :
    Calls Try.prog 69 #[.slice A ws.length c] w fun e w' => ∃ v, e = .returned v ∧ Own w.heap.size w w' [.row kU 23 v ws] := by
  obtain ⟨ad, rfl, _⟩ := hC.2.2 hp
  have HC := Aside0.mk hC
  have H0 := Aside0.mk (Own.start w)
  have HL := Aside0.mk hl
  have hq := fun W => Lib.run_eql_slice_nil (P := Try.prog) W 22 23 (some ad) ws.length c 0 0 Try.underlying22
  simp only [Option.isNone_some] at hq
  clear hC hl hp
  obtain ⟨n, hn⟩ : ∃ n, n = ws.length := ⟨_, rfl⟩
  rw [← hn] at HC hc HL hq ⊢
  clear hn
  go_enter Try.func69, Try.ntmps69
  go_wp2_with (first
    | fail
    | ((with_reducible refine gate_dst (N := 5) rfl ?_); refine own_lit kU Flat_U H0.out 23 rfl (N := 5) rfl (xs := ([] : List Int)) (inner := (([] : List Int)).map (Value.int .u64)) ?hr5 (Kd.reps_scalar _) (by simp) ?_; (case hr5 => first | (go_simp; done) | (go_simp; rfl)); intro A1 c1 w1 H1 B1; replace H1 := Aside0.mk H1; replace B1 := Aside0.mk B1)
    | ((with_reducible refine gate_dst (N := 7) rfl ?_); (with_reducible refine gate_builtin (b := .append) (xs := #[.tmp 5, .tmp 6]) rfl ?_); refine own_append_row kU Flat_U H1.out 0 rfl rfl (.tmp 5) (.tmp 6) 22 (.int .u64 0) 8 rfl Try.underlying22 infoU rfl (by decide) (by decide) ws _ _ _ rfl rfl (Kd.C_below HC.out B1.out) ?_ ?_; (case _ => have := HL.out; simp only [List.length_nil]; omega); intro v2 w2 H2; replace H2 := Aside0.mk H2)
    )
  go_ret
  exact ⟨_, rfl, by have h := H2.out; rw [List.nil_append] at h; exact h⟩
end Go.Proofs.Ytocphkfkdadhaaa.H

namespace Go.Proofs.Ytocphkfkdadhaaa.H
open Go.RowKit Go.Proofs.YtocphkfkdadhaaaW.PrintWords Go.Proofs.YtocphkfkdadhaaaW.PrintLast Go.Proofs.YtocphkfkdadhaaaW.PrintMore
set_option linter.unusedVariables false
set_option linter.unusedSimpArgs false
abbrev at0 (ss : List (List Int)) (i : Nat) : List Int := ss.getD i []
theorem at0_set (ss : List (List Int)) (i k : Nat) (x : List Int) (hi : i < ss.length) : at0 (ss.set i x) k = if i = k then x else at0 ss k := by
  unfold at0
  rw [List.getD_eq_getElem?_getD, List.getElem?_set, List.getD_eq_getElem?_getD]
  split
  · rfl
  · rfl
structure Tree (n : Nat) (lf : List (List Int)) (ss : List (List Int)) (out : Nat → Prop) : Prop where
  len : ss.length = 2 * n
  lfn : lf.length = n
  leaf : ∀ i, i < n → at0 ss (n + i) = at0 lf i
  node : ∀ i, 1 ≤ i → i < n → ¬ out i → at0 ss i = pairI (at0 ss (2 * i)) (at0 ss (2 * i + 1))
theorem Tree.mono {n : Nat} {lf ss : List (List Int)} {o o' : Nat → Prop} (h : Tree n lf ss o) (hm : ∀ i, 1 ≤ i → i < n → o i → o' i) : Tree n lf ss o' :=
  ⟨h.len, h.lfn, h.leaf, fun i h1 h2 h3 => h.node i h1 h2 fun h4 => h3 (hm i h1 h2 h4)⟩
theorem Tree.sum {n : Nat} {lf ss : List (List Int)} {o : Nat → Prop} (h : Tree n lf ss o) (i : Nat) (h1 : 1 ≤ i) (h2 : i < n) :
    Tree n lf (ss.set i (pairI (at0 ss (2 * i)) (at0 ss (2 * i + 1)))) (fun k => (o k ∧ k ≠ i) ∨ k = i / 2) := by
  have hl := h.len
  refine ⟨by rw [List.length_set, hl], h.lfn, fun k hk => ?_, fun k k1 k2 k3 => ?_⟩
  · rw [at0_set _ _ _ _ (by omega), if_neg (by omega)]; exact h.leaf k hk
  · rw [at0_set _ _ _ _ (by omega), at0_set _ _ _ _ (by omega), at0_set _ _ _ _ (by omega)]
    have n1 : ¬ i = 2 * k := fun e => k3 (.inr (by omega))
    have n2 : ¬ i = 2 * k + 1 := fun e => k3 (.inr (by omega))
    rw [if_neg n1, if_neg n2]
    split
    · next e => subst e; rfl
    · next e => exact h.node k k1 k2 fun ho => k3 (.inl ⟨ho, fun h => e h.symm⟩)
theorem Tree.put {n : Nat} {lf ss : List (List Int)} {o : Nat → Prop} (h : Tree n lf ss o) (i : Nat) (hi : i < n) (x : List Int) :
    Tree n (lf.set i x) (ss.set (n + i) x) (fun k => o k ∨ k = (n + i) / 2) := by
  have hl := h.len
  have hf := h.lfn
  refine ⟨by rw [List.length_set, hl], by rw [List.length_set, hf], fun k hk => ?_, fun k k1 k2 k3 => ?_⟩
  · rw [at0_set _ _ _ _ (by omega), at0_set _ _ _ _ (by omega)]
    by_cases e : i = k
    · subst e; rw [if_pos rfl, if_pos rfl]
    · rw [if_neg (by omega), if_neg e]; exact h.leaf k hk
  · rw [at0_set _ _ _ _ (by omega), at0_set _ _ _ _ (by omega), at0_set _ _ _ _ (by omega)]
    have n1 : ¬ n + i = 2 * k := fun e => k3 (.inr (by omega))
    have n2 : ¬ n + i = 2 * k + 1 := fun e => k3 (.inr (by omega))
    rw [if_neg n1, if_neg n2, if_neg (by omega)]
    exact h.node k k1 k2 fun ho => k3 (.inl ho)
theorem Tree.sub {D : Nat} {lf ss : List (List Int)} (h : Tree (2 ^ D) lf ss (fun _ => False)) : ∀ k, k ≤ D → ∀ j, j < 2 ^ (D - k) →
    at0 ss (2 ^ (D - k) + j) = rootP k ((lf.drop (j * 2 ^ k)).take (2 ^ k)) := by
  intro k
  induction k with
  | zero =>
    intro _ j hj
    rw [Nat.sub_zero] at hj ⊢
    rw [h.leaf j hj, Nat.pow_zero, Nat.mul_one]
    have hjl : j < lf.length := by rw [h.lfn]; exact hj
    unfold rootP at0
    rw [List.getD_eq_getElem?_getD, List.getD_eq_getElem?_getD, List.getElem?_take, List.getElem?_drop, Nat.add_zero, if_pos (by decide), List.getElem?_eq_getElem hjl]
    rfl
  | succ k ih =>
    intro hk j hj
    have e2 : 2 ^ (D - k) = 2 * 2 ^ (D - (k + 1)) := by rw [show D - k = (D - (k + 1)) + 1 by omega, Nat.pow_succ, Nat.mul_comm]
    have e3 : 2 ^ (D - (k + 1)) * 2 ^ (k + 1) = 2 ^ D := by rw [← Nat.pow_add, Nat.sub_add_cancel hk]
    have e4 : 2 ^ (k + 1) = 2 ^ k + 2 ^ k := by rw [Nat.pow_succ]; omega
    have hp : 0 < 2 ^ (D - (k + 1)) := Nat.two_pow_pos _
    have hq : 0 < 2 ^ k := Nat.two_pow_pos _
    have hle : 2 ^ (D - (k + 1)) + j < 2 ^ D := by
      have : 2 ^ (D - k) ≤ 2 ^ D := Nat.pow_le_pow_right (by decide) (Nat.sub_le _ _)
      omega
    rw [h.node _ (by omega) hle (fun x => x)]
    have i1 := ih (by omega) (2 * j) (by omega)
    have i2 := ih (by omega) (2 * j + 1) (by omega)
    rw [show 2 * (2 ^ (D - (k + 1)) + j) = 2 ^ (D - k) + 2 * j by omega, i1, show 2 ^ (D - k) + 2 * j + 1 = 2 ^ (D - k) + (2 * j + 1) by omega, i2]
    have hjm : (j + 1) * 2 ^ (k + 1) ≤ 2 ^ D := by rw [← e3]; exact Nat.mul_le_mul_right _ (by omega)
    have hjm' : j * 2 ^ (k + 1) + 2 ^ (k + 1) ≤ 2 ^ D := by rw [← Nat.succ_mul]; exact hjm
    have hlen : ((lf.drop (j * 2 ^ (k + 1))).take (2 ^ (k + 1))).length = 2 ^ (k + 1) := by
      rw [List.length_take, List.length_drop, h.lfn]; omega
    conv => rhs; unfold rootP
    rw [hlen, if_neg (by omega), if_neg (by omega), List.take_take, List.drop_take, List.drop_drop, Nat.min_eq_left (by omega)]
    have a1 : 2 * j * 2 ^ k = j * 2 ^ (k + 1) := by rw [Nat.pow_succ, Nat.mul_comm 2 j, Nat.mul_assoc, Nat.mul_comm 2 (2 ^ k)]
    have a2 : (2 * j + 1) * 2 ^ k = j * 2 ^ (k + 1) + 2 ^ k := by rw [Nat.add_mul, a1, Nat.one_mul]
    rw [a1, a2, show 2 ^ (k + 1) - 2 ^ k = 2 ^ k by omega]
theorem Tree.root {D : Nat} {lf ss : List (List Int)} (h : Tree (2 ^ D) lf ss (fun _ => False)) : at0 ss 1 = rootP D lf := by
  have := h.sub D (Nat.le_refl _) 0 (by rw [Nat.sub_self]; decide)
  rw [Nat.sub_self, Nat.pow_zero, Nat.add_zero, Nat.zero_mul, List.drop_zero, List.take_of_length_le (by rw [h.lfn]; exact Nat.le_refl _)] at this
  exact this
end Go.Proofs.Ytocphkfkdadhaaa.H

namespace Go.Proofs.Ytocphkfkdadhaaa.H
open Go.RowKit Go.Proofs.YtocphkfkdadhaaaW.PrintWords Go.Proofs.YtocphkfkdadhaaaW.PrintLast Go.Proofs.YtocphkfkdadhaaaW.PrintMore
set_option linter.unusedVariables false
set_option linter.unusedSimpArgs false
def isAggD : TypeDesc → Bool
  | .struct _ => true
  | .array _ _ => true
  | _ => false
section
variable {P : Program} {ops : Array Oper} {rest : List Oper} {o : Oper} {a : Act} {Q : Exit → Act → World → Prop} {B : Nat} {w0 W : World} {L : List Item}
theorem own_loadV (H : Own B w0 W L) (k : Nat) (g : Nat) (cs : Array Value) (ty : TypeId) (hk : L[k]? = some (.blk g cs ty)) (hgd : o.guard = none) (x : Operand) (ho : o.op = .load ty x) (d : TypeDesc)
    (hx : a.eval x = .pointer (some ⟨g, 0, none⟩)) (hu : P.underlying ty = some d) (hd : isAggD d = true) (hi : (P.info? ty).map (·.size) = some cs.size)
    (h : wpList P ops Q rest (a.put o.dst (.agg cs)) W) : wpList P ops Q (o :: rest) a W :=
  wpList_load_row hgd ty x ho g hx ty cs (0, 0) d (H.get k hk) hu (by cases d <;> first | rfl | cases hd) hi h
end
theorem own_resultV_t {fn : Func} {p u : Tmp} {ty : TypeId} (h : fn.results = #[.cell p ty, .tmp u]) (tmps : Array Value) {B : Nat} {w0 W : World} {L : List Item} (H : Own B w0 W L) (k : Nat) (g : Nat) (cs : Array Value) (hk : L[k]? = some (.blk g cs ty))
    (hp : tmps.getD p undef = .pointer (some ⟨g, 0, none⟩)) {P : Program} (d : TypeDesc) (hu : P.underlying ty = some d) (hd : isAggD d = true) (hi : (P.info? ty).map (·.size) = some cs.size) (v : Value) (hv : tmps.getD u undef = v) :
    (results fn tmps).run P W = .ok (.tuple #[.agg cs, v]) W := by
  subst hv
  exact results_ct h tmps W g ty cs (0, 0) d hp (H.get k hk) hu (by cases d <;> first | rfl | cases hd) hi
theorem perm_front {α : Type} : ∀ (l : List α) (k : Nat) (x : α), l[k]? = some x → l.Perm (x :: l.eraseIdx k)
  | [], k, x, h => by simp at h
  | y :: l, 0, x, h => by
    obtain rfl : y = x := by simpa using h
    exact List.Perm.refl _
  | y :: l, k + 1, x, h => ((perm_front l k x (by simpa using h)).cons y).trans (List.Perm.swap x y _)
theorem Own.bring {B : Nat} {w0 W : World} {L : List Item} (h : Own B w0 W L) (k : Nat) {it : Item} (hk : L[k]? = some it) : Own B w0 W (it :: L.eraseIdx k) := h.perm (perm_front L k it hk)
theorem pow_all : (List.range 4097).all (fun n => (decide (1 ≤ n) && ((n &&& (n - 1)) == 0)) == sizeB n) = true := by decide +kernel
theorem and_pred (n : Nat) (h : n ≤ 4096) (h1 : 1 ≤ n) : bits .and .i64 (n : Int) ((n : Int) - 1) = ((n &&& (n - 1) : Nat) : Int) := by
  have e0 : ((n : Int) - 1) = ((n - 1 : Nat) : Int) := by omega
  rw [e0]
  have h1 : (BitVec.ofInt 64 (n : Int)).toNat = n := by
    rw [BitVec.ofInt_natCast, BitVec.toNat_ofNat]; exact Nat.mod_eq_of_lt (by omega)
  have h2 : (BitVec.ofInt 64 ((n - 1 : Nat) : Int)).toNat = n - 1 := by
    rw [BitVec.ofInt_natCast, BitVec.toNat_ofNat]; exact Nat.mod_eq_of_lt (by omega)
  show IntKind.i64.wrap ((BitVec.ofInt 64 (n : Int) &&& BitVec.ofInt 64 ((n - 1 : Nat) : Int)).toNat : Int) = _
  have h3 : n &&& (n - 1) ≤ n := Nat.and_le_left
  rw [BitVec.toNat_and, h1, h2, IntWalk.i64_in _ (by omega)]
theorem size_and (n : Nat) (h : n ≤ 4096) (h1 : 1 ≤ n) : (bits .and .i64 (n : Int) ((n : Int) - 1) == 0) = sizeB n := by
  have := List.all_eq_true.1 pow_all n (List.mem_range.2 (by omega))
  rw [and_pred n h h1, ← eq_of_beq this, decide_eq_true h1, Bool.true_and]
  rw [Bool.eq_iff_iff, beq_iff_eq, beq_iff_eq]
  omega
theorem size_and' (n : Nat) (h : n ≤ 4096) (h1 : 1 ≤ n) : (bits .and .i64 (n : Int) ((n : Int) - 1) != 0) = !sizeB n := by
  rw [← size_and n h h1]; rfl
abbrev leafF : Value := .func (.func 62) #[] #[]
theorem make_run (m : Nat) (hm : m ≤ 8192) : ∃ Z : Array Value, Aside0 (∀ W, Reps (kH.K W) 32 (List.replicate m zero32) Z.toList) ∧
    ∀ w, (Instr.makeSlice 26 (.int .i64 (m : Int)) (.int .i64 (m : Int))).run Try.prog w = .ok (.slice (some ⟨w.heap.size, 0, none⟩) m m) (w.alloc (.cells Z 25)) := by
  obtain ⟨ie, hie, hz⟩ := Option.map_eq_some_iff.1 infoH
  simp only [Prod.mk.injEq] at hz
  obtain ⟨hz0, hz1, hz2⟩ := hz
  refine ⟨madeCells (Array.replicate 32 (.int .u8 0)) (m * 32), ⟨fun W => ?_⟩, fun w => ?_⟩
  · exact Kd.reps_made (z := .agg (Array.replicate 32 (.int .u8 0))) (by simp [Value.cells]) (by decide) ⟨by simp [zero32], by simp [zero32, Value.cells]⟩ m
  · have hr := run_make (P := Try.prog) w 26 25 ie _ Try.underlying26 hie hz0 .i64 .i64 (m : Int) (m : Int) (by omega) (by omega) (by rw [hz2]; omega) (by omega)
    simp only [Int.toNat_natCast] at hr
    rw [hz1] at hr
    exact hr
theorem bcell {W w1 : World} (hb : Below W.heap.size W w1) : (∀ b o, b < W.heap.size → w1.cell? ⟨b, o, none⟩ = W.cell? ⟨b, o, none⟩) ∧ (∀ b o, b < W.heap.size → w1.frozen? ⟨b, o, none⟩ = W.frozen? ⟨b, o, none⟩) :=
  ⟨fun b o h => hb.cell (p := ⟨b, o, none⟩) h, fun b o h => hb.frozen (p := ⟨b, o, none⟩) h⟩
abbrev T0 : TypeId := 127
set_option maxHeartbeats 2000000 in
set_option maxRecDepth 100000 in
theorem grown_ok (D : Nat) (hD : D ≤ 12) (ws : List Int) (hl : ws.length = 2 ^ D) (hw : Wrd ws) (A : Option Addr) (c : Nat) (hc : ws.length ≤ c) (w : World) (hC : Kd.C kU w A ws.length ws) :
    Calls Try.prog 67 #[.slice A ws.length c, leafF] w fun e w' => ∃ v1 v2 ss, e = .returned (.tuple #[.agg #[v1, v2, leafF], .bool true]) ∧ Tree (2 ^ D) (leavesW ws) ss (fun _ => False) ∧ Hshs ss ∧
      Own w.heap.size w w' [.row kU 23 v1 ws, .row kH 25 v2 ss] := by
  have hn1 : 1 ≤ ws.length ∧ ws.length ≤ 4096 := by rw [hl]; exact ⟨Nat.one_le_two_pow, Nat.pow_le_pow_right (by decide) hD⟩
  have hand := size_and' ws.length hn1.2 hn1.1
  rw [hl, sizeB_of hD, ← hl] at hand
  have hand2 : (bits .and .i64 (ws.length : Int) ((ws.length : Int) - 1) != 0) = false := hand
  clear hand
  have H0 := Aside0.mk (Own.start w)
  have HCL := Aside0.mk (fun W h => cloneU_any ws (by omega) A c W h hc (by omega))
  have HC := Aside0.mk hC
  clear hC
  generalize hn : ws.length = n at *
  have HN := Aside0.mk hn
  clear hn
  obtain ⟨m, hm⟩ : ∃ m, m = 2 * n := ⟨_, rfl⟩
  obtain ⟨Z, HZ, hmk⟩ := make_run m (by omega)
  have hwm : IntKind.i64.wrap (2 * (n : Int)) = (m : Int) := by rw [IntWalk.i64_in _ (by omega)]; omega
  have HM := Aside0.mk hm
  clear hm
  have hd1 : decide ((n : Int) < 1) = false := decide_eq_false (by omega)
  have hd2 : decide (4096 < (n : Int)) = false := decide_eq_false (by omega)
  have HLL := Aside0.mk hl
  clear hl
  unfold leafF
  go_enter Try.func67, Try.ntmps67
  go_upto_region 4 with (first
    | fail
    | ((with_reducible refine gate_dst (N := 4) rfl ?_); refine own_alloc H0.out rfl (N := 4) rfl (t := T0) rfl (#[.slice none 0 0, .slice none 0 0, .nilFunc]) 3 (by kernel_rfl) ?_; intro g4 w1 H1 B1; replace H1 := Aside0.mk H1; replace B1 := Aside0.mk B1)
    )
  go_cut [7] (fun v7 wc => ∃ (g7 : Nat) (v1 v2 : Value), v7 = .pointer (some ⟨g7, 0, none⟩) ∧ Aside0 (Own w.heap.size w wc [.blk g7 #[v1, v2, leafF] T0, .row kU 23 v1 ws, .row kH 25 v2 (List.replicate m zero32), .blk g4 #[.slice none 0 0, .slice none 0 0, .nilFunc] T0]))
  case first =>
    go_region_held3 (fun _ => True) (trivial) (first
      | (go_at_call 69; refine (HCL.out _ ?hcl).mono ?_; (case hcl => first | exact Kd.C_below HC.out H1.out.drew.below | exact Kd.C_below HC.out (H1.out.drew.alloc _).below | exact Kd.C_below HC.out ((H1.out.drew.alloc _).alloc _).below); rintro e w5 ⟨v5, rfl, hO5⟩; obtain ⟨A5, c5, rfl, _, _⟩ := hO5.reads 0 rfl; obtain ⟨hbc, hbf⟩ := bcell hO5.below; have hbs := hO5.base; (try simp at hbs); (try replace hbs := Nat.lt_of_succ_le hbs); replace hO5 := Aside0.mk hO5))
    all_goals go_wp2_with fail
    all_goals go_meet
    all_goals
      have mkZ : ∀ (W : World) (L : List Item), Own w.heap.size w W L → Own w.heap.size w (W.alloc (.cells Z 25)) (.row kH 25 (.slice (some ⟨W.heap.size, 0, none⟩) m m) (List.replicate m zero32) :: L) := fun W L h => by
        have := h.lit kH Flat_H 25 (List.replicate m zero32) Z.toList (HZ.out W) (by rw [List.length_replicate]; have := HM.out; omega)
        rwa [List.length_replicate] at this
    all_goals
      first
        | exact ⟨_, .slice A5 ws.length c5, .slice (some ⟨w5.heap.size, 0, none⟩) m m, rfl, ⟨by have h1 := H1.out.drew.call hO5.out; have h2 := mkZ _ _ h1; have h3 := h2.new (#[.slice A5 ws.length c5, .slice (some ⟨w5.heap.size, 0, none⟩) m m, leafF]) T0; rw [World.size_alloc] at h3; exact (h3.bring 2 rfl).bring 1 rfl⟩⟩
        | exact ⟨_, .slice A5 ws.length c5, .slice (some ⟨w5.heap.size + 1, 0, none⟩) m m, rfl, ⟨by have h1 := H1.out.drew.call hO5.out; have h2 := h1.new (#[.slice A5 ws.length c5, .slice (some ⟨w5.heap.size + 1, 0, none⟩) m m, leafF]) T0; have h3 := mkZ _ _ h2; rw [World.size_alloc] at h3; exact (h3.bring 2 rfl).bring 2 rfl⟩⟩
        | exact ⟨_, .slice A5 ws.length c5, .slice (some ⟨w1.heap.size, 0, none⟩) m m, rfl, ⟨by have h1 := mkZ _ _ H1.out; have h2 := h1.drew.call hO5.out; have h3 := h2.new (#[.slice A5 ws.length c5, .slice (some ⟨w1.heap.size, 0, none⟩) m m, leafF]) T0; exact h3⟩⟩
        | exact ⟨_, .slice A5 ws.length c5, .slice (some ⟨w1.heap.size, 0, none⟩) m m, rfl, ⟨by have h1 := mkZ _ _ H1.out; have h2 := h1.new (#[.slice none 0 0, .slice none 0 0, .nilFunc]) T0; have h3 := h2.drew.call hO5.out; rw [World.size_alloc] at h3; have p1 := h3.put 1 rfl 0 (.slice A5 ws.length c5) rfl; have p2 := p1.put 1 rfl 1 (.slice (some ⟨w1.heap.size, 0, none⟩) m m) rfl; have p3 := p2.put 1 rfl 2 leafF rfl; exact p3.bring 1 rfl⟩⟩
        | exact ⟨_, .slice A5 ws.length c5, .slice (some ⟨w5.heap.size, 0, none⟩) m m, rfl, ⟨by have h1 := H1.out.new (#[.slice none 0 0, .slice none 0 0, .nilFunc]) T0; have h3 := h1.drew.call hO5.out; have p1 := h3.put 1 rfl 0 (.slice A5 ws.length c5) rfl; have p2 := p1.put 1 rfl 1 (.slice (some ⟨w5.heap.size, 0, none⟩) m m) rfl; have p3 := p2.put 1 rfl 2 leafF rfl; have h4 := mkZ _ _ p3; simp only [World.size_setCell] at h4; exact (h4.bring 1 rfl).bring 2 rfl⟩⟩
        | exact ⟨_, .slice A5 ws.length c5, .slice (some ⟨w1.heap.size + 1, 0, none⟩) m m, rfl, ⟨by have h1 := H1.out.new (#[.slice none 0 0, .slice none 0 0, .nilFunc]) T0; have h2 := mkZ _ _ h1; rw [World.size_alloc] at h2; have h3 := h2.drew.call hO5.out; have p1 := h3.put 2 rfl 0 (.slice A5 ws.length c5) rfl; have p2 := p1.put 2 rfl 1 (.slice (some ⟨w1.heap.size + 1, 0, none⟩) m m) rfl; have p3 := p2.put 2 rfl 2 leafF rfl; exact p3.bring 2 rfl⟩⟩
  case rest =>
    obtain ⟨g7, v1, v2, rfl, HC1⟩ := hcut
    obtain ⟨g6, cap, rfl, _⟩ := HC1.out.form 2 rfl (by rw [List.length_replicate]; have := HM.out; omega)
    rw [List.length_replicate] at HC1
    obtain ⟨A1, c1, rfl, _, _⟩ := HC1.out.reads 1 rfl
    obtain ⟨v1, hv1⟩ : ∃ v : Value, v = .slice A1 ws.length c1 := ⟨_, rfl⟩
    rw [← hv1] at HC1
    have HAG : Aside0 (Arr 3 #[v1, .slice (some ⟨g6, 0, none⟩) m cap, leafF]) := ⟨by rw [hv1]; exact ⟨rfl, by simp [Value.oneCell']⟩⟩
    have HA0 : Aside0 (Arr 3 #[.slice none 0 0, .slice none 0 0, .nilFunc]) := ⟨rfl, by simp [Value.oneCell']⟩
    clear hv1
    go_wp2_with fail
    go_loopw [36] (fun v36 wr => ∃ (i : Nat) (ss : List (List Int)), i ≤ n ∧ v36 = .int .i64 (i : Int) ∧ Aside0 (ss.length = m ∧ Hshs ss ∧ ∀ j, j < i → at0 ss (n + j) = at0 (leavesW ws) j) ∧ Aside0 (Own w.heap.size w wr [.blk g7 #[v1, .slice (some ⟨g6, 0, none⟩) m cap, leafF] T0, .row kU 23 v1 ws, .row kH 25 (.slice (some ⟨g6, 0, none⟩) m cap) ss, .blk g4 #[.slice none 0 0, .slice none 0 0, .nilFunc] T0])) (fun v36 _ => n - (intOf v36).toNat)
    case atStart => exact ⟨0, _, Nat.zero_le _, rfl, ⟨by simp, by intro x hx; rw [List.eq_of_mem_replicate hx]; exact Hsh_zero, fun j hj => by omega⟩, HC1⟩
    case round =>
      obtain ⟨i, ss, hi, rfl, HS, HI⟩ := hrel
      by_cases hlt : i < n
      · have hdl : decide (i < n) = true := decide_eq_true hlt
        have hil : i < ws.length := by have := HN.out; omega
        have HCi := Aside0.mk (Kd.C_below HC.out HI.out.below)
        obtain ⟨ad, rfl, hcell⟩ := Kd.at_int HCi.out (i : Int) (Int.natCast_nonneg i) (by omega)
        rw [Int.toNat_natCast, show rd ws (i : Int) = ws.getD i 0 by simp [rd]] at hcell
        obtain ⟨b1, b2⟩ := hw _ (show ws.getD i 0 ∈ ws by rw [List.getD_eq_getElem?_getD, List.getElem?_eq_getElem hil]; exact List.getElem_mem hil)
        have HTi : Aside0 (at0 (leavesW ws) i = leafW (ws.getD i 0).toNat) := ⟨by simp [leavesW, at0, hil]⟩
        generalize ws.getD i 0 = x at *
        obtain ⟨k, rfl⟩ := Int.eq_ofNat_of_zero_le b1
        rw [Int.toNat_natCast] at HTi
        have HLF := Aside0.mk (fun W => memleaf_any k (by omega) W)
        have HLH := Aside0.mk (Hsh_leaf k)
        generalize leafW k = lf at *
        obtain ⟨cs, hcs⟩ : ∃ cs : List Value, cs = lf.map (Value.int .u8) := ⟨_, rfl⟩
        have HCS : Aside0 (cellsB lf = cs.toArray) := ⟨by rw [hcs]; rfl⟩
        have HCT := Aside0.mk hcs
        have hcl : cs.length = 32 := by rw [hcs, List.length_map]; exact HLH.out.1
        have hc1 : ∀ v ∈ cs, v.oneCell' = true := by rw [hcs]; intro v hv; obtain ⟨z, _, rfl⟩ := List.mem_map.1 hv; rfl
        rw [HCS.out] at HLF
        clear hcs
        go_wp2_with fail
        clear hcell
        obtain ⟨q, hq⟩ : ∃ q, q = n + i := ⟨_, rfl⟩
        have hwq : IntKind.i64.wrap ((n : Int) + (i : Int)) = (q : Int) := by rw [IntWalk.i64_in _ (by omega)]; omega
        have hqm : q < m := by have := HM.out; omega
        have hq0 : (0 : Int) ≤ (q : Int) ∧ (q : Int) < (m : Int) := by omega
        have HQ := Aside0.mk hq
        clear hq
        have hcA := HI.out.cell 0 rfl 1 rfl
        have hth : wr.there g6 (q * 32) 32 := HI.out.there_row (d := kH) 2 rfl q hqm
        have hu := Try.underlying25
        have hif : (Try.prog.info? 25).map (·.size) = some cs.length := by rw [hcl]; kernel_rfl
        go_region_held3 (fun W => W.cell? ⟨g7, 1, none⟩ = some (.slice (some ⟨g6, 0, none⟩) m cap) ∧ W.there g6 (q * 32) 32) (first | exact ⟨hcA, hth⟩ | exact K8.out | exact K9.out | go_keep_ranges) (first
          | (go_at_call 62; refine (HLF.out _).mono ?_; rintro e w8 ⟨rfl, hB8⟩; have H8 := Aside0.mk (HI.out.drew.step hB8); clear hB8; have K8 := Aside0.mk (And.intro (H8.out.cell 0 rfl 1 rfl) (H8.out.there_row (d := kH) 2 rfl q hqm)); have K9 := Aside0.mk (And.intro ((H8.out.putC (d := kH) 2 rfl q hqm Flat_H (fun _ => ⟨HLH.out.1, HCT.out⟩)).cell 0 rfl 1 rfl) ((H8.out.putC (d := kH) 2 rfl q hqm Flat_H (fun _ => ⟨HLH.out.1, HCT.out⟩)).there_row (d := kH) 2 rfl q hqm))))
        have H9 := Aside0.mk (H8.out.putC (d := kH) 2 rfl q hqm Flat_H (fun _ => ⟨HLH.out.1, HCT.out⟩))
        clear hcA hth hq0 hwq hqm
        go_wp2_with fail
        go_roundw
        case rel =>
          refine ⟨i + 1, ss.set q lf, hlt, by go_num, ⟨by rw [List.length_set]; exact HS.out.1, ?_, fun j hj => ?_⟩, H9⟩
          · intro x hx
            rcases List.mem_or_eq_of_mem_set hx with h | h
            · exact HS.out.2.1 x h
            · rw [h]; exact HLH.out
          · have hsl := HS.out.1
            have := HQ.out
            have := HM.out
            rw [at0_set _ _ _ _ (by omega)]
            by_cases e : j = i
            · subst e; rw [if_pos (by omega)]; exact HTi.out.symm
            · rw [if_neg (by omega)]; exact HS.out.2.2 j (by omega)
        case measure => simp [intOf]; omega
      · have hdl : decide (i < n) = false := decide_eq_false hlt
        obtain rfl : i = n := by omega
        have HT0 : Aside0 (Tree i (leavesW ws) ss (fun k => k ≤ i - 1) ∧ Hshs ss) := ⟨⟨by rw [HS.out.1, HM.out], by rw [leavesW_len, HN.out], HS.out.2.2, fun k k1 k2 k3 => absurd (by omega) k3⟩, HS.out.2.1⟩
        clear HS
        go_wp2_with fail
        go_loopw [10] (fun v10 wr => ∃ (k : Nat) (ss : List (List Int)), k < i ∧ v10 = .int .i64 (k : Int) ∧ Aside0 (Tree i (leavesW ws) ss (fun j => j ≤ k) ∧ Hshs ss) ∧ Aside0 (Own w.heap.size w wr [.blk g7 #[v1, .slice (some ⟨g6, 0, none⟩) m cap, leafF] T0, .row kU 23 v1 ws, .row kH 25 (.slice (some ⟨g6, 0, none⟩) m cap) ss, .blk g4 #[.slice none 0 0, .slice none 0 0, .nilFunc] T0])) (fun v10 _ => (intOf v10).toNat)
        case atStart => exact ⟨i - 1, ss, by omega, by rw [show ((i : Int) - 1) = ((i - 1 : Nat) : Int) by omega], HT0, HI⟩
        case round =>
          clear ss HI HT0
          obtain ⟨k, ss, hk, rfl, HT, HI⟩ := hrel
          by_cases h1 : 1 ≤ k
          · have hdk : decide (1 ≤ (k : Int)) = true := decide_eq_true (by omega)
            have hsl := HT.out.1.len
            obtain ⟨p, hp⟩ : ∃ p, p = 2 * k := ⟨_, rfl⟩
            obtain ⟨q, hq⟩ : ∃ q, q = p + 1 := ⟨_, rfl⟩
            have hwp : IntKind.i64.wrap (2 * (k : Int)) = (p : Int) := by rw [IntWalk.i64_in _ (by omega)]; omega
            have hwq : IntKind.i64.wrap ((p : Int) + 1) = (q : Int) := by rw [IntWalk.i64_in _ (by omega)]; omega
            have hpm : p < m := by have := HM.out; omega
            have hqm : q < m := by have := HM.out; omega
            have hkm : k < m := by omega
            have hi0 : (0 : Int) ≤ (p : Int) ∧ (p : Int) < (m : Int) ∧ (0 : Int) ≤ (q : Int) ∧ (q : Int) < (m : Int) ∧ (0 : Int) ≤ (k : Int) ∧ (k : Int) < (m : Int) := by omega
            have HPN := Aside0.mk (HT.out.1.sum k h1 hk)
            rw [← hp, ← hq] at HPN
            have hml : ss.length = m := by rw [hsl, HM.out]
            have hat : ∀ j, j < m → Hsh (at0 ss j) := fun j hj => Hshs_at HT.out.2 j (by rw [hml]; exact hj)
            obtain ⟨x, hx⟩ : ∃ x, x = at0 ss p := ⟨_, rfl⟩
            obtain ⟨y, hy⟩ : ∃ y, y = at0 ss q := ⟨_, rfl⟩
            have hHx : Hsh x := by rw [hx]; exact hat p hpm
            have hHy : Hsh y := by rw [hy]; exact hat q hqm
            rw [← hx, ← hy] at HPN
            have HPR := Aside0.mk (fun W => pair_any x y hHx.1 hHy.1 hHx.2 hHy.2 W)
            have HRH := Aside0.mk (Hsh_pair x y)
            generalize pairI x y = r at *
            obtain ⟨cx, hcx⟩ : ∃ cs : List Value, cs = x.map (Value.int .u8) := ⟨_, rfl⟩
            obtain ⟨cy, hcy⟩ : ∃ cs : List Value, cs = y.map (Value.int .u8) := ⟨_, rfl⟩
            obtain ⟨cr, hcr⟩ : ∃ cs : List Value, cs = r.map (Value.int .u8) := ⟨_, rfl⟩
            have hlx : cx.length = 32 := by rw [hcx, List.length_map]; exact hHx.1
            have hly : cy.length = 32 := by rw [hcy, List.length_map]; exact hHy.1
            have hlr : cr.length = 32 := by rw [hcr, List.length_map]; exact HRH.out.1
            have hc1 : ∀ v ∈ cr, v.oneCell' = true := by rw [hcr]; intro v hv; obtain ⟨z, _, rfl⟩ := List.mem_map.1 hv; rfl
            rw [show cellsB x = cx.toArray by rw [hcx]; rfl, show cellsB y = cy.toArray by rw [hcy]; rfl, show cellsB r = cr.toArray by rw [hcr]; rfl] at HPR
            have HF : Aside0 (∀ W', Own w.heap.size w W' [.blk g7 #[v1, .slice (some ⟨g6, 0, none⟩) m cap, leafF] T0, .row kU 23 v1 ws, .row kH 25 (.slice (some ⟨g6, 0, none⟩) m cap) ss, .blk g4 #[.slice none 0 0, .slice none 0 0, .nilFunc] T0] →
                W'.cell? ⟨g7, 1, none⟩ = some (.slice (some ⟨g6, 0, none⟩) m cap) ∧ W'.rangeAt g6 (p * 32) cx ∧ W'.rangeAt g6 (q * 32) cy ∧ W'.there g6 (k * 32) 32) := ⟨fun W' h => ⟨h.cell 0 rfl 1 rfl, h.range_row 2 rfl p hpm hx.symm hcx, h.range_row 2 rfl q hqm hy.symm hcy, h.there_row (d := kH) 2 rfl k hkm⟩⟩
            have HG : Aside0 (∀ W', Own w.heap.size w W' [.blk g7 #[v1, .slice (some ⟨g6, 0, none⟩) m cap, leafF] T0, .row kU 23 v1 ws, .row kH 25 (.slice (some ⟨g6, 0, none⟩) m cap) (ss.set k r), .blk g4 #[.slice none 0 0, .slice none 0 0, .nilFunc] T0] →
                W'.cell? ⟨g7, 1, none⟩ = some (.slice (some ⟨g6, 0, none⟩) m cap) ∧ W'.rangeAt g6 (p * 32) cx ∧ W'.rangeAt g6 (q * 32) cy ∧ W'.there g6 (k * 32) 32) := ⟨fun W' h => ⟨h.cell 0 rfl 1 rfl, h.range_row 2 rfl p hpm (by have e := at0_set ss k p r (by omega); rw [if_neg (by omega)] at e; exact e.trans hx.symm) hcx, h.range_row 2 rfl q hqm (by have e := at0_set ss k q r (by omega); rw [if_neg (by omega)] at e; exact e.trans hy.symm) hcy, h.there_row (d := kH) 2 rfl k hkm⟩⟩
            have HCR := Aside0.mk hcr
            have hi1 : (Try.prog.info? 25).map (·.size) = some cx.length := by rw [hlx]; kernel_rfl
            have hi2 : (Try.prog.info? 25).map (·.size) = some cy.length := by rw [hly]; kernel_rfl
            have hi3 : (Try.prog.info? 25).map (·.size) = some cr.length := by rw [hlr]; kernel_rfl
            have hu := Try.underlying25
            clear hx hy hcx hcy hcr hsl hml hat hp hq
            have HF0 := HF.out _ HI.out
            go_wp2_with fail
            refine wp_region_held_drew (S := (fun W => W.cell? ⟨g7, 1, none⟩ = some (.slice (some ⟨g6, 0, none⟩) m cap) ∧ W.rangeAt g6 (p * 32) cx ∧ W.rangeAt g6 (q * 32) cy ∧ W.there g6 (k * 32) 32)) (by kernel_rfl) ?_ (fun hHeld => ?_)
            · exact HF0
            refine wpAnyH_take (i := 0) (oi := { dst := some 57, op := Go.Op.fieldAddr 127 (Go.Operand.tmp 7) 1, type := 0, pos := "mem.go:50", after := #[], guard := none }) (v := ?_) rfl (by kernel_rfl) (by kernel_rfl) (by kernel_rfl) (fun _ _ _ h => h) (Or.inl ⟨by rfl, ?_⟩) (by assumption) ?_
            rotate_left
            · intro wS hSw; (try dsimp only at hSw); go_simp; (try with_reducible rfl)
            try simp only [Act.put, List.setIfInBounds_toArray, List.set_cons_zero, List.set_cons_succ]
            refine wpAnyH_take (i := 1) (oi := { dst := some 58, op := Go.Op.load 26 (Go.Operand.tmp 57), type := 26, pos := "mem.go:50", after := #[{ on := 0, ground := Go.Ground.data }], guard := none }) (v := ?_) rfl (by kernel_rfl) (by kernel_rfl) (by kernel_rfl) (fun _ _ _ h => h) (Or.inl ⟨by rfl, ?_⟩) (by assumption) ?_
            rotate_left
            · intro wS hSw; (try dsimp only at hSw); go_simp; (try with_reducible rfl)
            try simp only [Act.put, List.setIfInBounds_toArray, List.set_cons_zero, List.set_cons_succ]
            refine wpAnyH_take (i := 2) (oi := { dst := some 59, op := Go.Op.move (Go.Operand.tmp 10), type := 3, pos := "mem.go:50", after := #[], guard := none }) (v := ?_) rfl (by kernel_rfl) (by kernel_rfl) (by kernel_rfl) (fun _ _ _ h => h) (Or.inl ⟨by rfl, ?_⟩) (by assumption) ?_
            rotate_left
            · intro wS hSw; (try dsimp only at hSw); go_simp; (try with_reducible rfl)
            try simp only [Act.put, List.setIfInBounds_toArray, List.set_cons_zero, List.set_cons_succ]
            refine wpAnyH_take (i := 3) (oi := { dst := some 60, op := Go.Op.fieldAddr 127 (Go.Operand.tmp 7) 1, type := 0, pos := "mem.go:50", after := #[], guard := none }) (v := ?_) rfl (by kernel_rfl) (by kernel_rfl) (by kernel_rfl) (fun _ _ _ h => h) (Or.inl ⟨by rfl, ?_⟩) (by assumption) ?_
            rotate_left
            · intro wS hSw; (try dsimp only at hSw); go_simp; (try with_reducible rfl)
            try simp only [Act.put, List.setIfInBounds_toArray, List.set_cons_zero, List.set_cons_succ]
            refine wpAnyH_take (i := 4) (oi := { dst := some 61, op := Go.Op.load 26 (Go.Operand.tmp 60), type := 26, pos := "mem.go:50", after := #[{ on := 3, ground := Go.Ground.data }], guard := none }) (v := ?_) rfl (by kernel_rfl) (by kernel_rfl) (by kernel_rfl) (fun _ _ _ h => h) (Or.inl ⟨by rfl, ?_⟩) (by assumption) ?_
            rotate_left
            · intro wS hSw; (try dsimp only at hSw); go_simp; (try with_reducible rfl)
            try simp only [Act.put, List.setIfInBounds_toArray, List.set_cons_zero, List.set_cons_succ]
            refine wpAnyH_take (i := 5) (oi := { dst := some 62, op := Go.Op.move (Go.Operand.tmp 10), type := 3, pos := "mem.go:50", after := #[], guard := none }) (v := ?_) rfl (by kernel_rfl) (by kernel_rfl) (by kernel_rfl) (fun _ _ _ h => h) (Or.inl ⟨by rfl, ?_⟩) (by assumption) ?_
            rotate_left
            · intro wS hSw; (try dsimp only at hSw); go_simp; (try with_reducible rfl)
            try simp only [Act.put, List.setIfInBounds_toArray, List.set_cons_zero, List.set_cons_succ]
            refine wpAnyH_take (i := 6) (oi := { dst := some 63, op := Go.Op.binOp Go.BinOp.mul 3 (Go.Operand.const (Go.Value.int Go.IntKind.i64 2)) (Go.Operand.tmp 62) 3, type := 3, pos := "mem.go:50", after := #[{ on := 5, ground := Go.Ground.data }], guard := none }) (v := ?_) rfl (by kernel_rfl) (by kernel_rfl) (by kernel_rfl) (fun _ _ _ h => h) (Or.inl ⟨by rfl, ?_⟩) (by assumption) ?_
            rotate_left
            · intro wS hSw; (try dsimp only at hSw); go_simp; (try with_reducible rfl)
            try simp only [Act.put, List.setIfInBounds_toArray, List.set_cons_zero, List.set_cons_succ]
            refine wpAnyH_take (i := 7) (oi := { dst := some 64, op := Go.Op.indexAddr 26 (Go.Operand.tmp 61) (Go.Operand.tmp 63), type := 0, pos := "mem.go:50", after := #[{ on := 4, ground := Go.Ground.data }, { on := 6, ground := Go.Ground.data }], guard := none }) (v := ?_) rfl (by kernel_rfl) (by kernel_rfl) (by kernel_rfl) (fun _ _ _ h => h) (Or.inl ⟨by rfl, ?_⟩) (by assumption) ?_
            rotate_left
            · intro wS hSw; (try dsimp only at hSw); go_simp; (try with_reducible rfl)
            try simp only [Act.put, List.setIfInBounds_toArray, List.set_cons_zero, List.set_cons_succ]
            refine wpAnyH_take (i := 8) (oi := { dst := some 65, op := Go.Op.load 25 (Go.Operand.tmp 64), type := 25, pos := "mem.go:50", after := #[{ on := 7, ground := Go.Ground.data }], guard := none }) (v := .agg (cx).toArray) rfl (by kernel_rfl) (by kernel_rfl) (by kernel_rfl) (fun _ _ _ h => h) (yieldsIf_load_mid (by rfl) _ _ rfl (g6) (p * 32) rfl (cx) _ (fun w h => h.2.1) (hu) rfl (hi1)) (by assumption) ?_
            try simp only [Act.put, List.setIfInBounds_toArray, List.set_cons_zero, List.set_cons_succ]
            refine wpAnyH_take (i := 9) (oi := { dst := some 66, op := Go.Op.fieldAddr 127 (Go.Operand.tmp 7) 1, type := 0, pos := "mem.go:50", after := #[], guard := none }) (v := ?_) rfl (by kernel_rfl) (by kernel_rfl) (by kernel_rfl) (fun _ _ _ h => h) (Or.inl ⟨by rfl, ?_⟩) (by assumption) ?_
            rotate_left
            · intro wS hSw; (try dsimp only at hSw); go_simp; (try with_reducible rfl)
            try simp only [Act.put, List.setIfInBounds_toArray, List.set_cons_zero, List.set_cons_succ]
            refine wpAnyH_take (i := 10) (oi := { dst := some 67, op := Go.Op.load 26 (Go.Operand.tmp 66), type := 26, pos := "mem.go:50", after := #[{ on := 9, ground := Go.Ground.data }], guard := none }) (v := ?_) rfl (by kernel_rfl) (by kernel_rfl) (by kernel_rfl) (fun _ _ _ h => h) (Or.inl ⟨by rfl, ?_⟩) (by assumption) ?_
            rotate_left
            · intro wS hSw; (try dsimp only at hSw); go_simp; (try with_reducible rfl)
            try simp only [Act.put, List.setIfInBounds_toArray, List.set_cons_zero, List.set_cons_succ]
            refine wpAnyH_take (i := 11) (oi := { dst := some 68, op := Go.Op.move (Go.Operand.tmp 10), type := 3, pos := "mem.go:50", after := #[], guard := none }) (v := ?_) rfl (by kernel_rfl) (by kernel_rfl) (by kernel_rfl) (fun _ _ _ h => h) (Or.inl ⟨by rfl, ?_⟩) (by assumption) ?_
            rotate_left
            · intro wS hSw; (try dsimp only at hSw); go_simp; (try with_reducible rfl)
            try simp only [Act.put, List.setIfInBounds_toArray, List.set_cons_zero, List.set_cons_succ]
            refine wpAnyH_take (i := 12) (oi := { dst := some 69, op := Go.Op.binOp Go.BinOp.mul 3 (Go.Operand.const (Go.Value.int Go.IntKind.i64 2)) (Go.Operand.tmp 68) 3, type := 3, pos := "mem.go:50", after := #[{ on := 11, ground := Go.Ground.data }], guard := none }) (v := ?_) rfl (by kernel_rfl) (by kernel_rfl) (by kernel_rfl) (fun _ _ _ h => h) (Or.inl ⟨by rfl, ?_⟩) (by assumption) ?_
            rotate_left
            · intro wS hSw; (try dsimp only at hSw); go_simp; (try with_reducible rfl)
            try simp only [Act.put, List.setIfInBounds_toArray, List.set_cons_zero, List.set_cons_succ]
            refine wpAnyH_take (i := 13) (oi := { dst := some 70, op := Go.Op.binOp Go.BinOp.add 3 (Go.Operand.tmp 69) (Go.Operand.const (Go.Value.int Go.IntKind.i64 1)) 3, type := 3, pos := "mem.go:50", after := #[{ on := 12, ground := Go.Ground.data }], guard := none }) (v := ?_) rfl (by kernel_rfl) (by kernel_rfl) (by kernel_rfl) (fun _ _ _ h => h) (Or.inl ⟨by rfl, ?_⟩) (by assumption) ?_
            rotate_left
            · intro wS hSw; (try dsimp only at hSw); go_simp; (try with_reducible rfl)
            try simp only [Act.put, List.setIfInBounds_toArray, List.set_cons_zero, List.set_cons_succ]
            refine wpAnyH_take (i := 14) (oi := { dst := some 71, op := Go.Op.indexAddr 26 (Go.Operand.tmp 67) (Go.Operand.tmp 70), type := 0, pos := "mem.go:50", after := #[{ on := 10, ground := Go.Ground.data }, { on := 13, ground := Go.Ground.data }], guard := none }) (v := ?_) rfl (by kernel_rfl) (by kernel_rfl) (by kernel_rfl) (fun _ _ _ h => h) (Or.inl ⟨by rfl, ?_⟩) (by assumption) ?_
            rotate_left
            · intro wS hSw; (try dsimp only at hSw); go_simp; (try with_reducible rfl)
            try simp only [Act.put, List.setIfInBounds_toArray, List.set_cons_zero, List.set_cons_succ]
            refine wpAnyH_take (i := 15) (oi := { dst := some 72, op := Go.Op.load 25 (Go.Operand.tmp 71), type := 25, pos := "mem.go:50", after := #[{ on := 14, ground := Go.Ground.data }], guard := none }) (v := .agg (cy).toArray) rfl (by kernel_rfl) (by kernel_rfl) (by kernel_rfl) (fun _ _ _ h => h) (yieldsIf_load_mid (by rfl) _ _ rfl (g6) (q * 32) rfl (cy) _ (fun w h => h.2.2.1) (hu) rfl (hi2)) (by assumption) ?_
            try simp only [Act.put, List.setIfInBounds_toArray, List.set_cons_zero, List.set_cons_succ]
            refine wpAnyH_ready (rs := [16]) (by kernel_rfl) (by simp) ?_
            refine AllReadyH.cons (o := { dst := some 73, op := Go.Op.call { callee := Go.Callee.value (Go.Operand.func 118), args := #[Go.Operand.tmp 65, Go.Operand.tmp 72], argTypes := #[25, 25] }, type := 25, pos := "mem.go:50", after := #[{ on := 8, ground := Go.Ground.data }, { on := 15, ground := Go.Ground.data }], guard := none }) rfl (fun K hK => ?_) AllReadyH.nil
            go_simp
            refine (HPR.out _).mono ?_
            rintro e w8 ⟨rfl, hB8⟩
            have H8 := Aside0.mk (HI.out.drew.step hB8)
            clear hB8
            have K8 := Aside0.mk (HF.out _ H8.out)
            go_wp2_with fail
            refine hK.out _ _ ?_ (fun hHeld => ?_)
            · exact K8.out
            clear hK K
            try simp only [Act.put, List.setIfInBounds_toArray, List.set_cons_zero, List.set_cons_succ]
            refine wpAnyH_take (i := 17) (oi := { dst := some 74, op := Go.Op.indexAddr 26 (Go.Operand.tmp 58) (Go.Operand.tmp 59), type := 0, pos := "mem.go:50", after := #[{ on := 1, ground := Go.Ground.data }, { on := 2, ground := Go.Ground.data }, { on := 0, ground := Go.Ground.phase }, { on := 1, ground := Go.Ground.phase }, { on := 2, ground := Go.Ground.phase }, { on := 3, ground := Go.Ground.phase }, { on := 4, ground := Go.Ground.phase }, { on := 5, ground := Go.Ground.phase }, { on := 6, ground := Go.Ground.phase }, { on := 7, ground := Go.Ground.phase }, { on := 8, ground := Go.Ground.phase }, { on := 9, ground := Go.Ground.phase }, { on := 10, ground := Go.Ground.phase }, { on := 11, ground := Go.Ground.phase }, { on := 12, ground := Go.Ground.phase }, { on := 13, ground := Go.Ground.phase }, { on := 14, ground := Go.Ground.phase }, { on := 15, ground := Go.Ground.phase }, { on := 16, ground := Go.Ground.phase }], guard := none }) (v := ?_) rfl (by kernel_rfl) (by kernel_rfl) (by kernel_rfl) (fun _ _ _ h => h) (Or.inl ⟨by rfl, ?_⟩) (by assumption) ?_
            rotate_left
            · intro wS hSw; (try dsimp only at hSw); go_simp; (try with_reducible rfl)
            try simp only [Act.put, List.setIfInBounds_toArray, List.set_cons_zero, List.set_cons_succ]
            have H9 := Aside0.mk (H8.out.putC (d := kH) 2 rfl k hkm Flat_H (fun _ => ⟨HRH.out.1, HCR.out⟩))
            have K9 := Aside0.mk (HG.out _ H9.out)
            refine wpAnyH_ready (rs := [18]) (by kernel_rfl) (by simp) ?_
            refine AllReadyH.cons (o := { dst := none, op := Go.Op.store 25 (Go.Operand.tmp 74) (Go.Operand.tmp 73), type := 0, pos := "mem.go:50", after := #[{ on := 17, ground := Go.Ground.data }, { on := 16, ground := Go.Ground.data }, { on := 16, ground := Go.Ground.chain }, { on := 0, ground := Go.Ground.phase }, { on := 1, ground := Go.Ground.phase }, { on := 2, ground := Go.Ground.phase }, { on := 3, ground := Go.Ground.phase }, { on := 4, ground := Go.Ground.phase }, { on := 5, ground := Go.Ground.phase }, { on := 6, ground := Go.Ground.phase }, { on := 7, ground := Go.Ground.phase }, { on := 8, ground := Go.Ground.phase }, { on := 9, ground := Go.Ground.phase }, { on := 10, ground := Go.Ground.phase }, { on := 11, ground := Go.Ground.phase }, { on := 12, ground := Go.Ground.phase }, { on := 13, ground := Go.Ground.phase }, { on := 14, ground := Go.Ground.phase }, { on := 15, ground := Go.Ground.phase }, { on := 16, ground := Go.Ground.phase }], guard := none }) rfl (fun K hK => ?_) AllReadyH.nil
            rw [if_pos (by rfl)]
            refine wp_store_mid _ _ _ rfl _ _ (List.toArray _) rfl rfl ?_ ?_ (all_oneCell_toArray hc1) ?_
            · (rw [List.size_toArray, hlr]; exact K8.out.2.2.2)
            · (rw [List.size_toArray]; exact hi3)
            simp only [Act.put, List.setIfInBounds_toArray, List.set_cons_zero, List.set_cons_succ, List.toList_toArray]
            refine hK.out _ _ ?_ (fun hHeld => ?_)
            · exact K9.out
            clear hK K
            try simp only [Act.put, List.setIfInBounds_toArray, List.set_cons_zero, List.set_cons_succ]
            refine wpAnyH_done (by kernel_rfl) ?_ _
            clear hi0 hwp hwq HF0 hHeld
            go_wp2_with fail
            go_roundw
            case rel =>
              refine ⟨k - 1, ss.set k r, by omega, by rw [show ((k : Int) - 1) = ((k - 1 : Nat) : Int) by omega], ⟨HPN.out.mono (fun j h1 h2 h3 => by omega), ?_⟩, H9⟩
              intro z hz
              rcases List.mem_or_eq_of_mem_set hz with h | h
              · exact HT.out.2 z h
              · rw [h]; exact HRH.out
            case measure => simp [intOf]; omega
          · have hdk : decide (1 ≤ (k : Int)) = false := decide_eq_false (by omega)
            have hk0 : k = 0 := by omega
            have HTF : Aside0 (Tree i (leavesW ws) ss (fun _ => False)) := ⟨HT.out.1.mono fun j h1 h2 h3 => by omega⟩
            clear hk0
            go_wp2_with (first
              | fail
              | ((with_reducible refine gate_dst (N := 75) rfl ?_); refine own_loadV HI.out 0 g7 _ T0 rfl rfl (.tmp 7) rfl _ rfl Try.underlying127 rfl (by kernel_rfl) ?_)
              | ((with_reducible refine own_store HI.out 3 g4 _ T0 rfl rfl (.tmp 4) (.tmp 75) rfl (#[v1, .slice (some ⟨g6, 0, none⟩) m cap, leafF]) ?_ ?_ 3 HA0.out HAG.out (by kernel_rfl) ?_); (case _ => rfl); (case _ => rfl); intro w9 H9; replace H9 := Aside0.mk H9)
              )
            refine bodyPost_ret (own_resultV_t rfl _ H9.out 3 g4 _ rfl rfl _ Try.underlying127 rfl (by kernel_rfl) (.bool true) rfl) rfl ?_
            exact ⟨v1, .slice (some ⟨g6, 0, none⟩) m cap, ss, rfl, by rw [← HLL.out]; exact HTF.out, HT.out.2, (H9.out.erase 3).erase 0⟩
end Go.Proofs.Ytocphkfkdadhaaa.H

namespace Go.Proofs.Ytocphkfkdadhaaa.H
open Go.RowKit Go.Proofs.YtocphkfkdadhaaaW.PrintWords Go.Proofs.YtocphkfkdadhaaaW.PrintLast Go.Proofs.YtocphkfkdadhaaaW.PrintMore
set_option linter.unusedVariables false
set_option linter.unusedSimpArgs false
abbrev tree0 : Array Value := #[.slice none 0 0, .slice none 0 0, .nilFunc]
theorem Arr_tree0 : Arr 3 tree0 := ⟨rfl, by simp [Value.oneCell']⟩
abbrev TM : TypeId := 131
def MemAt (D : Nat) (ws : List Int) (ss : List (List Int)) : Prop := Tree (2 ^ D) (leavesW ws) ss (fun _ => False) ∧ Hshs ss ∧ ws.length = 2 ^ D ∧ Wrd ws
abbrev memL (g : Nat) (v1 v2 : Value) (ws : List Int) (ss : List (List Int)) (L : List Item) : List Item := .blk g #[v1, v2, leafF] TM :: .row kU 23 v1 ws :: .row kH 25 v2 ss :: L
set_option maxHeartbeats 1000000 in
set_option maxRecDepth 100000 in
theorem new_ok (D : Nat) (hD : D ≤ 12) (ws : List Int) (hl : ws.length = 2 ^ D) (hw : Wrd ws) (A : Option Addr) (c : Nat) (hc : ws.length ≤ c) (w : World) (hC : Kd.C kU w A ws.length ws) :
    Calls Try.prog 19 #[.slice A ws.length c] w fun e w' => ∃ g v1 v2 ss, e = .returned (.tuple #[.pointer (some ⟨g, 0, none⟩), .int .i64 0]) ∧ MemAt D ws ss ∧ Own w.heap.size w w' (memL g v1 v2 ws ss []) := by
  have HG := Aside0.mk (grown_ok D hD ws hl hw A c hc w hC)
  have HX : Aside0 (∀ ss, Tree (2 ^ D) (leavesW ws) ss (fun _ => False) → Hshs ss → MemAt D ws ss) := ⟨fun ss h1 h2 => ⟨h1, h2, hl, hw⟩⟩
  have H0 := Aside0.mk (Own.start w)
  clear hC hl
  generalize ws.length = n at *
  unfold leafF at HG
  go_enter Try.func19, Try.ntmps19
  go_wp2_with fail
  refine HG.out.mono ?_
  rintro e w1 ⟨v1, v2, ss, rfl, hT, hS, hO⟩
  have HO := Aside0.mk (H0.out.call hO)
  have HT := Aside0.mk Arr_tree0
  have HTS := Aside0.mk (And.intro hT hS)
  obtain ⟨A1, c1, rfl, _, _⟩ := hO.reads 0 rfl
  obtain ⟨A2, c2, rfl, _, _⟩ := hO.reads 1 rfl
  clear hT hS hO
  generalize ss.length = m2 at *
  generalize ws.length = m1 at *
  have HAG : Aside0 (Arr 3 #[.slice A1 m1 c1, .slice A2 m2 c2, leafF]) := ⟨rfl, by simp [Value.oneCell']⟩
  go_wp2_with (first
    | fail
    | ((with_reducible refine gate_dst (N := 4) rfl ?_); refine own_alloc HO.out rfl (N := 4) rfl (t := T0) rfl (tree0) 3 (by kernel_rfl) ?_; intro g4 w2 H2 B2; replace H2 := Aside0.mk H2; replace B2 := Aside0.mk B2)
    | ((with_reducible refine own_store H2.out 0 g4 _ T0 rfl rfl (.tmp 4) (.tmp 9) rfl (#[.slice A1 m1 c1, .slice A2 m2 c2, leafF]) ?_ ?_ 3 HT.out HAG.out (by kernel_rfl) ?_); (case _ => rfl); (case _ => rfl); intro w3 H3; replace H3 := Aside0.mk H3)
    | ((with_reducible refine gate_dst (N := 13) rfl ?_); refine own_loadV H3.out 0 g4 _ T0 rfl rfl (.tmp 4) rfl _ rfl Try.underlying127 rfl (by kernel_rfl) ?_)
    | ((with_reducible refine gate_dst (N := 15) rfl ?_); refine own_box H3.out rfl (N := 15) rfl (t := TM) rfl (.agg #[.slice A1 m1 c1, .slice A2 m2 c2, leafF]) rfl ?_; intro g5 w4 H4 B4; replace H4 := Aside0.mk H4; replace B4 := Aside0.mk B4)
    )
  go_ret2
  refine ⟨g5, .slice A1 m1 c1, .slice A2 m2 c2, ss, rfl, HX.out ss HTS.out.1 HTS.out.2, H4.out.erase 1⟩
section
variable {B : Nat} {w0 W : World} {L : List Item} {g : Nat} {v1 v2 : Value} {ws : List Int} {ss : List (List Int)}
theorem memc0 (h : Own B w0 W (memL g v1 v2 ws ss L)) : W.cell? ⟨g, 0, none⟩ = some v1 := h.cell 0 rfl 0 rfl
theorem memc1 (h : Own B w0 W (memL g v1 v2 ws ss L)) : W.cell? ⟨g, 1, none⟩ = some v2 := h.cell 0 rfl 1 rfl
end
theorem none_mem {D : Nat} {B : Nat} {w0 W : World} {L : List Item} {g : Nat} {v1 v2 : Value} {ws : List Int} {ss : List (List Int)} (hM : MemAt D ws ss) (h : Own B w0 W (memL g v1 v2 ws ss L)) :
    Calls Try.prog 68 #[.pointer (some ⟨g, 0, none⟩)] W fun e w' => e = .returned (.bool false) ∧ w' = W := by
  obtain ⟨A1, c1, rfl, _, _⟩ := h.reads 1 rfl
  have hc0 := memc0 h
  have hp : 0 < ws.length := by rw [hM.2.2.1]; exact Nat.two_pow_pos D
  have hb : ((ws.length : Int) == 0) = false := by rw [beq_eq_false_iff_ne]; omega
  clear hM h
  generalize ws.length = n at *
  go_enter Try.func68, Try.ntmps68
  go_wp2_with fail
  go_ret
  exact ⟨rfl, rfl⟩
theorem none_nil (W : World) : Calls Try.prog 68 #[.pointer none] W fun e w' => e = .returned (.bool true) ∧ w' = W := by
  go_enter Try.func68, Try.ntmps68
  go_wp2_with fail
  go_ret
  exact ⟨rfl, rfl⟩
theorem asked_nil (W : World) (at_ : Int) : Calls Try.prog 70 #[.pointer none, .int .u64 at_] W fun e w' => e = .returned (.int .i64 1) ∧ w' = W := by
  have HN := Aside0.mk (none_nil W)
  go_enter Try.func70, Try.ntmps70
  go_wp2_with fail
  refine HN.out.mono ?_
  rintro e w1 ⟨rfl, rfl⟩
  go_wp2_with fail
  go_ret
  exact ⟨rfl, rfl⟩
end Go.Proofs.Ytocphkfkdadhaaa.H

namespace Go.Proofs.Ytocphkfkdadhaaa.H
open Go.RowKit Go.Proofs.YtocphkfkdadhaaaW.PrintWords Go.Proofs.YtocphkfkdadhaaaW.PrintLast Go.Proofs.YtocphkfkdadhaaaW.PrintMore
set_option linter.unusedVariables false
set_option linter.unusedSimpArgs false
namespace Own
variable {B : Nat} {w0 W : World} {L : List Item} {α : Type} {d : Kd α}
end Own
def Anc (k j : Nat) : Prop := ∃ s, j = k / 2 ^ s
theorem Anc.zero {j : Nat} (h : Anc 0 j) : j = 0 := by
  obtain ⟨s, rfl⟩ := h
  exact Nat.zero_div _
end Go.Proofs.Ytocphkfkdadhaaa.H

namespace Go.Proofs.Ytocphkfkdadhaaa.H
open Go.RowKit Go.Proofs.YtocphkfkdadhaaaW.PrintWords Go.Proofs.YtocphkfkdadhaaaW.PrintLast Go.Proofs.YtocphkfkdadhaaaW.PrintMore
set_option linter.unusedVariables false
set_option linter.unusedSimpArgs false
theorem get_nil (W : World) (at_ : Int) : Calls Try.prog 27 #[.pointer none, .int .u64 at_] W fun e w' => e = .returned (.tuple #[.int .u64 0, .int .i64 1]) ∧ w' = W := by
  have HA := Aside0.mk (asked_nil W at_)
  go_enter Try.func27, Try.ntmps27
  go_wp2_with fail
  refine HA.out.mono ?_
  rintro e w1 ⟨rfl, rfl⟩
  go_wp2_with fail
  go_ret2
  exact ⟨rfl, rfl⟩
theorem set_nil (W : World) (at_ x : Int) : Calls Try.prog 28 #[.pointer none, .int .u64 at_, .int .u64 x] W fun e w' => e = .returned (.int .i64 1) ∧ w' = W := by
  have HA := Aside0.mk (asked_nil W at_)
  go_enter Try.func28, Try.ntmps28
  go_wp2_with fail
  refine HA.out.mono ?_
  rintro e w1 ⟨rfl, rfl⟩
  go_wp2_with fail
  go_ret
  exact ⟨rfl, rfl⟩
theorem prove_nil (W : World) (at_ : Int) : Calls Try.prog 22 #[.pointer none, .int .u64 at_] W fun e w' => e = .returned (.tuple #[.slice none 0 0, .int .i64 1]) ∧ w' = W := by
  have HA := Aside0.mk (asked_nil W at_)
  go_enter Try.func22, Try.ntmps22
  go_wp2_with fail
  refine HA.out.mono ?_
  rintro e w1 ⟨rfl, rfl⟩
  go_wp2_with fail
  go_ret2
  exact ⟨rfl, rfl⟩
end Go.Proofs.Ytocphkfkdadhaaa.H

