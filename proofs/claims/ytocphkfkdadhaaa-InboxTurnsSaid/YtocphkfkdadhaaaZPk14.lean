import Derived.Test.YtocphkfkdadhaaaZPk13
import Derived.Test.YtocphkfkdadhaaaZPk8
import Derived.Test.YtocphkfkdadhaaaZPk10
import Derived.Test.YtocphkfkdadhaaaZPk2
import Derived.Test.YtocphkfkdadhaaaZPk9
set_option maxHeartbeats 8000000
set_option linter.unusedVariables false
set_option linter.unusedSimpArgs false
set_option maxRecDepth 100000
namespace Go.Proofs.Ytocphkfkdadhaaa.H
open Go.RowKit Go.Proofs.YtocphkfkdadhaaaW.PrintWords Go.Proofs.YtocphkfkdadhaaaW.PrintLast Go.Proofs.YtocphkfkdadhaaaW.PrintMore
def rwbP (n t : Nat) (ms : List (List Int)) : List Int × Int := if ms.length ≤ 4096 ∧ longP ms = false then K.encP (batchItem n t ms) else ([], 2)
theorem rwritebatch_any (n t : Nat) (ms : List (List Int)) (hn : n ≤ 18446744073709551615) (ht : t ≤ 18446744073709551615) (Am : Option Addr) (cm : Nat) (w : World) (hC : Kd.C kL w Am ms.length ms) (hc : ms.length ≤ cm) :
 Calls Try.prog 54 #[.agg #[.int .u64 (n : Int), .int .u64 (t : Int), .slice Am ms.length cm]] w fun e w' => ∃ v, e = .returned (.tuple #[v, .int .i64 (rwbP n t ms).2]) ∧ Own w.heap.size w w' [.row kB 5 v (rwbP n t ms).1] := by
 have H0 := Aside0.mk (Own.start w)
 have HC := Aside0.mk hC
 have HSH := Aside0.mk (fun W (h : Below w.heap.size w W) => rshort_any ms Am cm W (Kd.C_below hC h) hc)
 obtain ⟨r, hr⟩ : ∃ r, r = rwbP n t ms := ⟨_, rfl⟩
 rw [← hr]
 have HR := Aside0.mk hr
 clear hr hC
 obtain ⟨m, hm⟩ : ∃ m, m = ms.length := ⟨_, rfl⟩
 have HM := Aside0.mk hm
 rw [← hm] at HC hc HSH ⊢
 clear hm
 have HNn := Aside0.mk (rnum_any n hn)
 have HNt := Aside0.mk (rnum_any t ht)
 generalize (K.bigP n).length = ln at HNn
 generalize (K.bigP t).length = lt at HNt
 obtain ⟨lg, hlg⟩ : ∃ lg, lg = longP ms := ⟨_, rfl⟩
 have HLG := Aside0.mk hlg
 rw [← hlg] at HSH
 clear hlg
 go_enter Try.func54, Try.ntmps54
 by_cases hbig : m ≤ 4096
 case neg =>
  have hdb : decide (4096 < (m : Int)) = true := decide_eq_true (by omega)
  obtain rfl : r = ([], 2) := by rw [HR.out, rwbP, if_neg (by rintro ⟨h, _⟩; rw [← HM.out] at h; exact hbig h)]
  clear HR
  go_wp2_with (first
   | fail
   | ((with_reducible refine Gd 1 ?_); refine OB H0 108 (#[.int .u64 (n : Int), .int .u64 (t : Int), .slice Am m cm]) ?_; intro g1 w1 H1 B1)
   | ((with_reducible refine Gd 7 ?_); refine OD 6 71 H1 0 g1 2 (.slice Am m cm) Try.underlying71 ?_)
   | ((with_reducible refine Gd 12 ?_); refine GD 11 71 H1 0 g1 2 (.slice Am m cm) Try.underlying71 ?_)
   | (go_at_call 85; refine (HSH.out _ H1.out.below).mono ?_; rintro e w2 ⟨rfl, hB2⟩; have H2 := Aside0.mk (H1.out.step hB2); clear hB2)
   )
  go_ret2
  exact ⟨_, rfl, (H1.out.erase 0).null kB _⟩
 have hdb : decide (4096 < (m : Int)) = false := decide_eq_false (by omega)
 cases lg
 case true =>
  obtain rfl : r = ([], 2) := by rw [HR.out, rwbP, if_neg (by rintro ⟨_, h⟩; rw [← HLG.out] at h; cases h)]
  clear HR
  go_wp2_with (first
   | fail
   | ((with_reducible refine Gd 1 ?_); refine OB H0 108 (#[.int .u64 (n : Int), .int .u64 (t : Int), .slice Am m cm]) ?_; intro g1 w1 H1 B1)
   | ((with_reducible refine Gd 7 ?_); refine OD 6 71 H1 0 g1 2 (.slice Am m cm) Try.underlying71 ?_)
   | ((with_reducible refine Gd 12 ?_); refine GD 11 71 H1 0 g1 2 (.slice Am m cm) Try.underlying71 ?_)
   | (go_at_call 85; refine (HSH.out _ H1.out.below).mono ?_; rintro e w2 ⟨rfl, hB2⟩; have H2 := Aside0.mk (H1.out.step hB2); clear hB2)
   )
  go_ret2
  exact ⟨_, rfl, (H2.out.erase 0).null kB _⟩
 replace HR : Aside0 (r = K.encP (batchItem n t ms)) := ⟨by rw [HR.out, rwbP, if_pos ⟨by rw [← HM.out]; exact hbig, HLG.out.symm⟩]⟩
 have HSM : Aside0 (∀ x ∈ ms, x.length ≤ 65536) := ⟨by
  intro x hx
  have h := HLG.out.symm
  unfold longP at h
  rw [List.any_eq_false] at h
  have := h x hx
  simpa using this⟩
 go_wp2_with (first
  | fail
  | ((with_reducible refine Gd 1 ?_); refine OB H0 108 (#[.int .u64 (n : Int), .int .u64 (t : Int), .slice Am m cm]) ?_; intro g1 w1 H1 B1)
  | ((with_reducible refine Gd 7 ?_); refine OD 6 71 H1 0 g1 2 (.slice Am m cm) Try.underlying71 ?_)
  | ((with_reducible refine Gd 12 ?_); refine GD 11 71 H1 0 g1 2 (.slice Am m cm) Try.underlying71 ?_)
  | (go_at_call 85; refine (HSH.out _ H1.out.below).mono ?_; rintro e w2 ⟨rfl, hB2⟩; have H2 := Aside0.mk (H1.out.step hB2); clear hB2)
  )
 replace H2 : Aside0 (Own w.heap.size w w2 [.row kI 159 (.slice none 0 0) ((ms.take 0).map msgI), .blk g1 #[.int .u64 (n : Int), .int .u64 (t : Int), .slice Am m cm] 108]) := ⟨H2.out.null _ _⟩
 clear H0 H1 B1 HSH
 go_loopw [4, 5] (fun v4 v5 wr => ∃ (j : Nat), j ≤ m ∧ v5 = .int .i64 (j : Int) ∧ Aside0 (Own w.heap.size w wr [.row kI 159 v4 ((ms.take j).map msgI), .blk g1 #[.int .u64 (n : Int), .int .u64 (t : Int), .slice Am m cm] 108])) (fun _ v5 _ => m - (intOf v5).toNat)
 case atStart => exact ⟨0, Nat.zero_le _, rfl, H2⟩
 case round =>
  clear H2
  obtain ⟨j, hj, rfl, HI⟩ := hrel
  obtain ⟨A5, c5, rfl, hc5, _⟩ := HI.out.reads 0 rfl
  have hlen : ((ms.take j).map msgI).length = j := by rw [List.length_map, List.length_take, ← HM.out]; omega
  rw [hlen] at HI hc5 ⊢
  by_cases hlt : j < m
  ·have hdl : decide (j < m) = true := decide_eq_true hlt
   have hib : (0 : Int) ≤ (j : Int) ∧ (j : Int) < (m : Int) := by omega
   have hjl : j < ms.length := by rw [← HM.out]; exact hlt
   obtain ⟨ad, cs, rfl, hK, hp⟩ := elemP HC.out j hlt hjl
   obtain ⟨A0, c0, rfl, hc0, hC0⟩ := kL_open hK
   have k1 : wr.cell? (ad.add j) = some (.slice A0 ms[j].length c0) := by
    have h := hp wr HI.out.below 0 _ rfl
    rw [add_add_, show kL.sz = 1 from rfl, Nat.mul_one, Nat.add_zero] at h
    exact h
   have HRW := Aside0.mk (raw_any ms[j] A0 c0 wr (Kd.C_below hC0 HI.out.below) hc0 (HSM.out _ (List.getElem_mem hjl)))
   have HMS : Aside0 ((ms.take (j + 1)).map msgI = (ms.take j).map msgI ++ [msgI ms[j]]) := ⟨by rw [List.take_succ_eq_append_getElem hjl, List.map_append]; rfl⟩
   clear hK hp hc0 hC0
   generalize ms[j].length = lj at *
   generalize msgI ms[j] = mj at *
   go_wp2_with (first
    | fail
    | ((with_reducible refine Gd 18 ?_); refine OD 17 71 HI 1 g1 2 (.slice (some ad) m cm) Try.underlying71 ?_)
    | ((with_reducible refine Gd 25 ?_); refine OD 24 71 HI 1 g1 2 (.slice (some ad) m cm) Try.underlying71 ?_)
    | (go_at_call 102; refine HRW.out.mono ?_; rintro e w5 ⟨A1, c1, A2, c2, rfl, hO5⟩; have H5 := Aside0.mk ((HI.out.call hO5).bring 1 rfl); clear hO5)
    | ((with_reducible refine gate_dst (N := 31) rfl ?_); (with_reducible refine gate_builtin (b := .append) (xs := #[.tmp 23, .tmp 30]) rfl ?_); refine own_append_it kI H5.out rfl (.tmp 23) (.tmp 30) 157 (.agg #[.bool false, .slice none 0 0, .slice none 0 0]) 56 rfl Try.underlying157 PRF.info159 rfl (show 0 < 3 by decide) (by decide) mj [.bool false, .slice A1 lj c1, .slice A2 0 c2] (by rfl) (by rfl) (fun ok h => h) (by rw [hlen]; omega) ?_; intro v8 w8 H8; replace H8 := Aside0.mk H8)
    )
   go_roundw
   case rel => exact ⟨j + 1, hlt, by go_num, ⟨by rw [HMS.out]; exact H8.out⟩⟩
   case measure => simp [intOf]; omega
  ·have hdl : decide (j < m) = false := decide_eq_false hlt
   obtain rfl : m = j := by omega
   have HI2 : Aside0 (Own w.heap.size w wr [.row kI 159 (.slice A5 m c5) (ms.map msgI), .blk g1 #[.int .u64 (n : Int), .int .u64 (t : Int), .slice Am m cm] 108]) := ⟨by
    have h := HI.out
    rwa [List.take_of_length_le (by rw [← HM.out]; exact Nat.le_refl _)] at h⟩
   have k1 : wr.cell? ⟨g1, 2, none⟩ = some (.slice Am m cm) := HI.out.cell 1 rfl 2 rfl
   clear HI hlen
   go_wp2_with fail
   clear k1
   have HD := Aside0.mk HI2.out.drew
   refine St (fun W => W.cell? ⟨g1, 0, none⟩ = some (.int .u64 (n : Int)) ∧ W.cell? ⟨g1, 1, none⟩ = some (.int .u64 (t : Int))) (fun hHeld => ?_) (by exact ⟨HD.out.cell 1 rfl 0 rfl, HD.out.cell 1 rfl 1 rfl⟩)
   refine Tk 0 ?_
   refine Tk 1 ?_
   refine Tk 3 ?_
   refine Tk 4 ?_
   refine Tk 6 ?_
   clear HI2
   generalize wr.drew = wd at *
   refine Rd 2 fun K hK => ?_
   go_simp
   refine (HNn.out _).mono ?_
   rintro e w5 ⟨A1, c1, A2, c2, rfl, hc1, hO5⟩
   have H5 := Aside0.mk (HD.out.call hO5)
   clear hO5
   go_wp2_with fail
   refine Ag hK (fun hHeld => ?_) (by exact ⟨H5.out.cell 2 rfl 0 rfl, H5.out.cell 2 rfl 1 rfl⟩)
   clear hK K
   refine Rd 5 fun K hK => ?_
   go_simp
   refine (HNt.out _).mono ?_
   rintro e w6 ⟨A3, c3, A4, c4, rfl, hc3, hO6⟩
   have H6 := Aside0.mk (H5.out.call hO6)
   clear hO6
   go_wp2_with fail
   refine Ag hK (fun hHeld => ?_) (by exact ⟨H6.out.cell 3 rfl 0 rfl, H6.out.cell 3 rfl 1 rfl⟩)
   clear hK K
   refine Rd 7 fun K hK => ?_
   go_simp
   refine (list_any _ _ _ _).mono ?_
   rintro e w7 ⟨rfl, hB7⟩
   have H7 := Aside0.mk (H6.out.step hB7)
   clear hB7
   go_wp2_with fail
   refine Ag hK (fun hHeld => ?_) (by exact ⟨H7.out.cell 3 rfl 0 rfl, H7.out.cell 3 rfl 1 rfl⟩)
   clear hK K
   have HX := Aside0.mk (H7.out.new #[.bool false, .slice A1 ln c1, .slice A2 0 c2, .bool false, .slice A3 lt c3, .slice A4 0 c4, .bool true, .slice none 0 0, .slice A5 m c5] 159)
   have HCX : Aside0 (Kd.C kI (w7.alloc (.cells #[.bool false, .slice A1 ln c1, .slice A2 0 c2, .bool false, .slice A3 lt c3, .slice A4 0 c4, .bool true, .slice none 0 0, .slice A5 m c5] 159)) (some ⟨w7.heap.size, 0, none⟩) 3 (batchItem n t ms).f2) := ⟨by
    refine C_blk (HX.out.get 0 rfl) ?_ (by simp [batchItem])
    have hrow := HX.out.reads 3 rfl
    obtain ⟨Az, cz, hz, hz2, hz3⟩ := hrow
    injection hz with hz0 hz1 hz4
    subst hz0 hz4
    rw [← hz1] at hz2 hz3
    have hR := reps_cons (HX.out.memK 2 rfl) rfl (reps_cons (HX.out.memK 1 rfl) rfl (reps_cons (PRF.k159_mk _ ⟨true, [], ms.map msgI⟩ (A1 := none) (c1 := 0) (Nat.le_refl _) (Kd.C_nil _ _) (A2 := A5) (c2 := c5) (by rw [← hz1]; exact hz2) (by rw [← hz1]; exact hz3)) rfl reps_nil))
    have he : (ms.map msgI).length = m := hz1.symm
    simp only [he] at hR
    exact hR⟩
   have HEN : Aside0 (∀ W, Below (w7.alloc (.cells #[.bool false, .slice A1 ln c1, .slice A2 0 c2, .bool false, .slice A3 lt c3, .slice A4 0 c4, .bool true, .slice none 0 0, .slice A5 m c5] 159)).heap.size (w7.alloc (.cells #[.bool false, .slice A1 ln c1, .slice A2 0 c2, .bool false, .slice A3 lt c3, .slice A4 0 c4, .bool true, .slice none 0 0, .slice A5 m c5] 159)) W → Calls Try.prog 103 #[.agg #[.bool true, .slice none 0 0, .slice (some ⟨w7.heap.size, 0, none⟩) 3 3]] W fun e w' => ∃ v, e = .returned (.tuple #[v, .int .i64 r.2]) ∧ Own W.heap.size W w' [.row kB 5 v r.1]) := ⟨fun W hbW => by
    refine (rencode_any (batchItem n t ms) none (some ⟨w7.heap.size, 0, none⟩) 0 3 W (Kd.C_nil _ _) (Nat.le_refl _) (Kd.C_below HCX.out hbW) (Nat.le_refl _)).mono ?_
    rintro e w' ⟨v, rfl, hr1, hb⟩
    exact ⟨v, by rw [HR.out], hb, hb.size, _, fun _ hi => hi, Kd.R_lower (Kd.R_mono (Kd.R_bound (by rw [HR.out]; exact hr1)) fun k hk => ⟨hk.2.1, hk.2.2.1⟩) (Nat.zero_le _), trivial⟩⟩
   refine Rd 8 fun K hK => ?_
   refine step_of_run (W1 := w7.alloc (.cells #[.bool false, .slice A1 ln c1, .slice A2 0 c2, .bool false, .slice A3 lt c3, .slice A4 0 c4, .bool true, .slice none 0 0, .slice A5 m c5] 159)) (v := .slice (some ⟨w7.heap.size, 0, none⟩) 3 3) (by rfl) (by first | (go_simp; done) | (go_simp; rfl)) ?_
   refine Ag hK (fun hHeld => ?_) (by exact ⟨HX.out.cell 4 rfl 0 rfl, HX.out.cell 4 rfl 1 rfl⟩)
   clear hK K
   refine Rd 9 fun K hK => ?_
   go_simp
   refine (list_any _ _ _ _).mono ?_
   rintro e w8 ⟨rfl, hB8⟩
   have H8 := Aside0.mk (HX.out.step hB8)
   replace HEN := Aside0.mk (HEN.out w8 hB8)
   clear hB8
   go_wp2_with fail
   refine Ag hK (fun hHeld => ?_) (by exact ⟨H8.out.cell 4 rfl 0 rfl, H8.out.cell 4 rfl 1 rfl⟩)
   clear hK K
   refine Rd 10 fun K hK => ?_
   go_simp
   refine HEN.out.mono ?_
   rintro e w9 ⟨v9, rfl, hO9⟩
   have H9 := Aside0.mk (H8.out.call hO9)
   obtain ⟨A7, c7, rfl, _, _⟩ := hO9.reads 0 rfl
   clear hO9
   generalize r.1.length = lr at *
   go_wp2_with fail
   refine Ag hK (fun hHeld => ?_) (by exact ⟨H9.out.cell 5 rfl 0 rfl, H9.out.cell 5 rfl 1 rfl⟩)
   clear hK K
   refine Tk 11 ?_
   refine Tk 12 ?_
   refine Tk 13 ?_
   refine Tk 14 ?_
   refine Dn ?_
   go_wp2_with fail
   go_ret2
   exact ⟨_, rfl, (((((H9.out.erase 1).erase 1).erase 1).erase 1).erase 1)⟩
theorem formP_ge {m : List Int} (h : 1 < m.length) : m.length ≤ (K.formP (msgI m)).length := by
 rw [K.formP_str _ rfl]
 unfold K.strP msgI
 split
 ·exact Nat.le_refl _
 ·simp
theorem formP_mem {x : SI} {xs : List SI} (h : x ∈ xs) : (K.formP x).length ≤ (K.formP ⟨true, [], xs⟩).length := by
 rw [K.formP_list ⟨true, [], xs⟩ rfl, List.length_append]
 have := K.forms_mem_le xs x h
 show _ ≤ _ + (K.formsP xs).length
 omega
theorem rwbP_eq (n t : Nat) (ms : List (List Int)) : rwbP n t ms = wbP n t ms := by
 unfold rwbP wbP
 by_cases h1 : ms.length ≤ 4096
 ·cases h2 : longP ms
  ·rw [if_pos ⟨h1, rfl⟩, if_pos h1]
  ·rw [if_neg (by rintro ⟨_, h⟩; cases h), if_pos h1]
   unfold longP at h2
   rw [List.any_eq_true] at h2
   obtain ⟨m, hm, hl⟩ := h2
   have hl : 65536 < m.length := by simpa using hl
   have e1 := formP_ge (m := m) (by omega)
   have e2 := formP_mem (x := msgI m) (xs := ms.map msgI) (List.mem_map_of_mem hm)
   have e3 := formP_mem (x := ⟨true, [], ms.map msgI⟩) (xs := [K.numI n, K.numI t, ⟨true, [], ms.map msgI⟩]) (by simp)
   unfold K.encP
   rw [if_neg]
   unfold K.vP
   intro h
   rw [Bool.and_eq_true, decide_eq_true_eq] at h
   have := h.2
   unfold batchItem at this
   omega
 ·rw [if_neg (fun h => h1 h.1), if_neg h1]
end Go.Proofs.Ytocphkfkdadhaaa.H
namespace Go.Proofs.Ytocphkfkdadhaaa.K
open Go.RowKit Go.Proofs.YtocphkfkdadhaaaW.PrintWords Go.Proofs.YtocphkfkdadhaaaW.PrintLast Go.Proofs.YtocphkfkdadhaaaW.PrintMore Go.Proofs.Ytocphkfkdadhaaa.PRF
attribute [local go_sem] max2_int min2_int max_two min_two max_three min_three max_four min_four
theorem F_all {w : World} {A : Option Addr} {n : Nat} {xs : List Int} (h : Kd.C (Kd.int .u8) w A n xs) : Kd.F (Kd.int .u8) w (fun _ => True) A n xs := by
 intro W' hW
 have hsz : w.heap.size ≤ W'.heap.size := by
  by_cases hlt : W'.heap.size < w.heap.size
  ·have := heap_lt (hW _ trivial hlt) hlt
   omega
  ·omega
 exact Kd.C_keep 0 h ⟨hsz, fun i hi _ _ => hW i trivial hi⟩ (Kd.far_C 0 h (Nat.le_refl _))
theorem rdecode_any (A : Option Addr) (c : Nat) (l : List Int) (w : World) (hC : Kd.C (Kd.int .u8) w A l.length l) (hc : l.length ≤ c) (hB : Byt l) :
 Calls Try.prog 109 #[.slice A l.length c] w (DecodePost (decodeP l) w) := by
 have HB := Aside0.mk (Below.refl w.heap.size w)
 have HC := Aside0.mk hC
 have HBy := Aside0.mk hB
 have hm := hC.2.1
 clear hC hB
 obtain ⟨res, hres⟩ : ∃ res, res = decodeP l := ⟨_, rfl⟩
 rw [← hres]
 have HRES := Aside0.mk hres
 clear hres
 by_cases hbig : 65536 < l.length
 ·have hd : decide ((65536 : Int) < (l.length : Int)) = true := decide_eq_true (by omega)
  have hd' : decide (65536 < l.length) = true := decide_eq_true (by omega)
  obtain rfl : res = .error 4 := by rw [HRES.out, decodeP, if_pos hbig]
  go_enter Try.func109, Try.ntmps109
  go_wp2_with (first
   | ((with_reducible refine gate_dst (N := 2) rfl ?_); refine alloc_ev rfl (N := 2) rfl (cs := #[.bool false, .slice none 0 0, .slice none 0 0]) (t := 159) HB ?hr ?_; (case hr => first | (go_simp; done) | (go_simp; rfl)); intro g2 w1 HG2 HGe2 HE1 HB1; have hcf2 := cf3 HG2))
  have hg2 : w.heap.size ≤ g2 := Nat.le_of_eq HGe2.out
  refine bodyPost_ret (results_ct rfl _ _ g2 159 #[.bool false, .slice none 0 0, .slice none 0 0] (0, 0) _ rfl (put3 HG2.out) Try.underlying159 rfl (by kernel_rfl)) rfl ?_
  exact ⟨below3 HB1.out hg2, rfl⟩
 ·have hd : decide ((65536 : Int) < (l.length : Int)) = false := decide_eq_false (by omega)
  have hd' : decide (65536 < l.length) = false := decide_eq_false (by omega)
  have hl65 : l.length ≤ 65536 := by omega
  rw [decodeP, if_neg hbig] at HRES
  obtain ⟨K, hK⟩ := read_spec 16 (Nat.le_refl _) l HBy.out (by omega)
  have hk := hK K (Nat.le_refl _)
  simp only at hk
  unfold resR at hk
  go_enter Try.func109, Try.ntmps109
  go_wp2_with (first
   | ((with_reducible refine gate_dst (N := 2) rfl ?_); refine alloc_ev rfl (N := 2) rfl (cs := #[.bool false, .slice none 0 0, .slice none 0 0]) (t := 159) HB ?hr ?_; (case hr => first | (go_simp; done) | (go_simp; rfl)); intro g2 w1 HG2 HGe2 HE1 HB1; have hcf2 := cf3 HG2))
  have hg2 : w.heap.size ≤ g2 := Nat.le_of_eq HGe2.out
  cases hit : itemP 16 l with
  | error k =>
   rw [hit] at hk HRES
   obtain rfl : res = .error k := HRES.out
   have hke := itemP_err hit
   have hk1 : (k == 0) = false := by simpa using hke
   have hk2 : (k != 0) = true := by simpa using hke
   refine (proctorref02_read.calls K (fun _ => True) A c l 16 _ _ _ _ _ _ (Kd.V_mk hc (F_all (Kd.C_below HC.out HB1.out))) hk).mono ?_
   clear hK hk hit
   rintro e w3 ⟨v1, v2, rfl, hR1, hR2, hbe⟩
   obtain ⟨Ab1, cb1, rfl⟩ := Kd.R_slice hR1
   obtain ⟨Ab2, cb2, rfl⟩ := Kd.R_slice hR2
   have HB3 := Aside0.mk (below_step HB1.out hbe)
   have HG2b := Aside0.mk (blk_below HG2.out hbe)
   have hcf3 := cf3 HG2b
   clear hR1 hR2 hbe hcf2
   go_wp2_with (first
    | ((with_reducible refine gate_dst (N := 4) rfl ?_); refine alloc_ev rfl (N := 4) rfl (cs := #[.bool false, .slice none 0 0, .slice none 0 0]) (t := 159) HB3 ?hr4 ?_; (case hr4 => first | (go_simp; done) | (go_simp; rfl)); intro g4 w4 HG4 HGe4 HE4 HB4; have HG2c := Aside0.mk (blk_below HG2b.out HE4.out); have hcf4 := cf3 HG4; have hcf5 := cf3 HG2c; have n1 : ¬ g2 = g4 := (by have := blk_lt HG2b.out; have := HGe4.out; omega); have n2 : ¬ g4 = g2 := fun h => n1 h.symm))
   have hg4 : w.heap.size ≤ g4 := by have := HGe4.out; have := HB3.out.size; omega
   have q1 := ((keep3 (w := w4) (g := g4) (x := .bool false) (y := .slice Ab1 0 cb1) (z := .slice Ab2 0 cb2)).2 g2 (blk_lt HG2c.out) n1 (by simp)).trans HG2c.out
   refine bodyPost_ret (results_ct rfl _ _ g2 159 #[.bool false, .slice none 0 0, .slice none 0 0] (0, 0) _ rfl (put3 q1) Try.underlying159 rfl (by kernel_rfl)) rfl ?_
   exact ⟨below3 (below3 HB4.out hg4) hg2, rfl⟩
  | ok q =>
   rw [hit] at hk HRES
   obtain ⟨x, r⟩ := q
   refine (proctorref02_read.calls K (fun _ => True) A c l 16 _ _ _ _ _ _ (Kd.V_mk hc (F_all (Kd.C_below HC.out HB1.out))) hk).mono ?_
   have hrl := itemP_len hit
   clear hK hk hit
   rintro e w3 ⟨v1, v2, rfl, hR1, hR2, hbe⟩
   obtain ⟨Ab1, cb1, rfl⟩ := Kd.R_slice hR1
   obtain ⟨Ab2, cb2, rfl⟩ := Kd.R_slice hR2
   have HB3 := Aside0.mk (below_step HB1.out hbe)
   have HG2b := Aside0.mk (blk_below HG2.out hbe)
   have HR1 := Aside0.mk hR1
   have HR2 := Aside0.mk hR2
   have hcf3 := cf3 HG2b
   clear hR1 hR2 hbe hcf2
   by_cases hr0 : r = []
   ·subst hr0
    obtain rfl : res = .ok x := HRES.out
    obtain ⟨x0, x1, x2⟩ := x
    simp only at *
    have hd3 : decide (((l.length : Int) - (([] : List Int).length : Int)) < (l.length : Int)) = false := decide_eq_false (by simp)
    simp only [List.length_nil, Int.sub_zero, Int.natCast_zero, Int.ofNat_zero] at hd3 ⊢
    go_wp2_with (first
     | ((with_reducible refine gate_dst (N := 4) rfl ?_); refine alloc_ev rfl (N := 4) rfl (cs := #[.bool false, .slice none 0 0, .slice none 0 0]) (t := 159) HB3 ?hr4 ?_; (case hr4 => first | (go_simp; done) | (go_simp; rfl)); intro g4 w4 HG4 HGe4 HE4 HB4; have HG2c := Aside0.mk (blk_below HG2b.out HE4.out); have hcf4 := cf3 HG4; have hcf5 := cf3 HG2c; have n1 : ¬ g2 = g4 := (by have := blk_lt HG2b.out; have := HGe4.out; omega); have n2 : ¬ g4 = g2 := fun h => n1 h.symm))
    have hg4 : w.heap.size ≤ g4 := by have := HGe4.out; have := HB3.out.size; omega
    have q1 := ((keep3 (w := w4) (g := g4) (x := .bool x0) (y := .slice Ab1 x1.length cb1) (z := .slice Ab2 x2.length cb2)).2 g2 (blk_lt HG2c.out) n1 (by simp)).trans HG2c.out
    refine bodyPost_ret (results_ct rfl _ _ g2 159 #[.bool x0, .slice Ab1 x1.length cb1, .slice Ab2 x2.length cb2] (0, 0) _ rfl (put3 q1) Try.underlying159 rfl (by kernel_rfl)) rfl ?_
    have hfar : ∀ k, w1.heap.size ≤ k ∧ k < w3.heap.size → k ≠ g2 ∧ k ≠ g4 := fun k hk => ⟨by have := blk_lt HG2.out; omega, by have := HGe4.out; omega⟩
    refine ⟨below3 (below3 HB4.out hg4) hg2, _, _, rfl, ?_, ?_⟩
    ·refine Kd.R_lower (Kd.R_mono (Kd.R_step (Kd.R_below (Kd.R_mono (Kd.R_bound HR1.out) (ok' := fun k => w1.heap.size ≤ k ∧ k < w3.heap.size) (fun k hk => ⟨hk.2.1, hk.2.2.1⟩)) HE4.out) (fun k hk _ => ?_)) (fun _ _ => trivial)) HB1.out.size
     iterate 6 rw [Below.heap_setCell _ _ _ _ (by first | exact (hfar k hk).1 | exact (hfar k hk).2)]
    ·refine Kd.R_lower (Kd.R_mono (Kd.R_step (Kd.R_below (Kd.R_mono (Kd.R_bound HR2.out) (ok' := fun k => w1.heap.size ≤ k ∧ k < w3.heap.size) (fun k hk => ⟨hk.2.1, hk.2.2.1⟩)) HE4.out) (fun k hk _ => ?_)) (fun _ _ => trivial)) HB1.out.size
     iterate 6 rw [Below.heap_setCell _ _ _ _ (by first | exact (hfar k hk).1 | exact (hfar k hk).2)]
   ·obtain rfl : res = .error 8 := by rw [HRES.out]; simp [Except.bind, hr0]
    obtain ⟨x0, x1, x2⟩ := x
    simp only at *
    obtain ⟨d, hd0⟩ : ∃ d, d = (l.length : Int) - (r.length : Int) := ⟨_, rfl⟩
    have hd3 : decide (d < (l.length : Int)) = true := decide_eq_true (by have : 0 < r.length := List.length_pos_iff.mpr hr0; omega)
    rw [← hd0]
    clear hd0
    go_wp2_with (first
     | ((with_reducible refine gate_dst (N := 4) rfl ?_); refine alloc_ev rfl (N := 4) rfl (cs := #[.bool false, .slice none 0 0, .slice none 0 0]) (t := 159) HB3 ?hr4 ?_; (case hr4 => first | (go_simp; done) | (go_simp; rfl)); intro g4 w4 HG4 HGe4 HE4 HB4; have HG2c := Aside0.mk (blk_below HG2b.out HE4.out); have hcf4 := cf3 HG4; have hcf5 := cf3 HG2c; have n1 : ¬ g2 = g4 := (by have := blk_lt HG2b.out; have := HGe4.out; omega); have n2 : ¬ g4 = g2 := fun h => n1 h.symm))
    have hg4 : w.heap.size ≤ g4 := by have := HGe4.out; have := HB3.out.size; omega
    have q1 := ((keep3 (w := w4) (g := g4) (x := .bool x0) (y := .slice Ab1 x1.length cb1) (z := .slice Ab2 x2.length cb2)).2 g2 (blk_lt HG2c.out) n1 (by simp)).trans HG2c.out
    refine bodyPost_ret (results_ct rfl _ _ g2 159 #[.bool false, .slice none 0 0, .slice none 0 0] (0, 0) _ rfl (put3 q1) Try.underlying159 rfl (by kernel_rfl)) rfl ?_
    exact ⟨below3 (below3 HB4.out hg4) hg2, rfl⟩
end Go.Proofs.Ytocphkfkdadhaaa.K
namespace Go.Proofs.Ytocphkfkdadhaaa.H
open Go.RowKit Go.Proofs.YtocphkfkdadhaaaW.PrintWords Go.Proofs.YtocphkfkdadhaaaW.PrintLast Go.Proofs.YtocphkfkdadhaaaW.PrintMore
theorem C_shM {α : Type} {d : Kd α} {w W : World} {S : Nat → Prop} {A : Option Addr} {n : Nat} {xs : List α} (h : Kd.C (shM d w S) W A n xs) (hb : Below w.heap.size w W) : Kd.C d W A n xs := by
 obtain ⟨h1, h2, h3⟩ := h
 refine ⟨h1, h2, fun hp => ?_⟩
 obtain ⟨ad, e, hc⟩ := h3 hp
 refine ⟨ad, e, fun j p hj => ?_⟩
 obtain ⟨c, k1, k2, k3⟩ := hc j p hj
 exact ⟨c, k1, d.K_below hb k2, k3⟩
theorem batchItem_bytI (n t : Nat) (ms : List (List Int)) (h : ∀ m ∈ ms, ∀ z ∈ m, 0 ≤ z ∧ z ≤ 255) : K.BytI (batchItem n t ms) := by
 refine .mk _ (fun z hz => by cases hz) fun y hy => ?_
 simp only [batchItem, List.mem_cons, List.not_mem_nil, or_false] at hy
 rcases hy with rfl | rfl | rfl
 ·exact .mk _ (K.bigP_byt n) (fun y hy => by cases hy)
 ·exact .mk _ (K.bigP_byt t) (fun y hy => by cases hy)
 ·refine .mk _ (fun z hz => by cases hz) fun y hy => ?_
  obtain ⟨m, hm, rfl⟩ := List.mem_map.1 hy
  exact .mk _ (h m hm) (fun y hy => by cases hy)
theorem encP_byt {x : SI} (h : K.BytI x) : K.Byt (K.encP x).1 := by
 unfold K.encP
 split
 ·rename_i hv
  refine K.formP_byt _ x (Nat.le_refl _) h ?_
  unfold K.vP at hv
  rw [Bool.and_eq_true, decide_eq_true_eq] at hv
  omega
 ·intro z hz; cases hz
theorem rwbP_byt (n t : Nat) (ms : List (List Int)) (h : ∀ m ∈ ms, ∀ z ∈ m, 0 ≤ z ∧ z ≤ 255) : K.Byt (rwbP n t ms).1 := by
 unfold rwbP
 split
 ·exact encP_byt (batchItem_bytI n t ms h)
 ·intro z hz; cases hz
theorem wfP_mem : ∀ {d : Nat} {x y : SI}, K.wfP d x = true → x.f0 = true → y ∈ x.f2 → ∃ d', K.wfP d' y = true
 | 0, x, y, h, h0, _ => by rw [K.wfP_zero x h0] at h; cases h
 | d + 1, x, y, h, h0, hy => by
  rw [K.wfP_list d x h0, Bool.and_eq_true, List.all_eq_true] at h
  exact ⟨d, h.2 y hy⟩
theorem decodeP_len {l : List Int} {x : SI} (hb : K.Byt l) (h : K.decodeP l = .ok x) : ∀ y ∈ x.f2, y.f2.length ≤ 65536 := by
 obtain ⟨h1, h2⟩ := K.decode_form l x hb h
 unfold K.vP at h2
 rw [Bool.and_eq_true, decide_eq_true_eq] at h2
 intro y hy
 cases hx : x.f0 with
 | false =>
  have := h2.1
  rw [K.wfP_str _ _ hx, List.isEmpty_iff] at this
  rw [this] at hy; cases hy
 | true =>
  obtain ⟨d', hd⟩ := wfP_mem h2.1 hx hy
  have h3 := K.forms_mem_le _ y hy
  rw [K.formP_list x hx, List.length_append] at h2
  cases hy0 : y.f0 with
  | false =>
   rw [K.wfP_str _ _ hy0, List.isEmpty_iff] at hd
   rw [hd]; exact Nat.zero_le _
  | true =>
   rw [K.formP_list y hy0, List.length_append] at h3
   have := K.formsP_ge y.f2
   omega
def ritemsB (b : List Int) (y0 y1 y2 : SI) : BatchI × Int :=
 if (K.rnumP y0).2 = 0 ∧ (K.rnumP y1).2 = 0 then
  (if (rwbP (K.rnumP y0).1.toNat (K.rnumP y1).1.toNat (y2.f2.map fun y => y.f1)).2 = 0 ∧ (rwbP (K.rnumP y0).1.toNat (K.rnumP y1).1.toNat (y2.f2.map fun y => y.f1)).1 = b then (⟨(K.rnumP y0).1, (K.rnumP y1).1, y2.f2.map fun y => y.f1⟩, 0) else (zeroBt, 8))
 else (zeroBt, 8)
def rshapeB (bs : List Int) (b : Bool) (l : List SI) : BatchI × Int :=
 match b, l with
 | true, [y0, y1, y2] => ritemsB bs y0 y1 y2
 | _, _ => (zeroBt, 8)
theorem rshapeB_bad {bs : List Int} {b : Bool} {l : List SI} (h : b = false ∨ l.length ≠ 3) : rshapeB bs b l = (zeroBt, 8) := by
 unfold rshapeB
 split
 ·rcases h with h | h
  ·cases h
  ·exact absurd rfl h
 ·rfl
def rbatchP (b : List Int) : BatchI × Int :=
 match K.decodeP b with
 | .error e => (zeroBt, e)
 | .ok x => rshapeB b x.f0 x.f2
theorem rreadnum_any (y : SI) (hb : K.Byt y.f1) (A1 : Option Addr) (c1 : Nat) (A2 : Option Addr) (c2 : Nat) (W : World) (h1 : Kd.C kB W A1 y.f1.length y.f1) (h2 : y.f1.length ≤ c1) (h3 : Kd.C kI W A2 y.f2.length y.f2) (h4 : y.f2.length ≤ c2) :
 Calls Try.prog 110 #[.agg #[.bool y.f0, .slice A1 y.f1.length c1, .slice A2 y.f2.length c2]] W fun e w' => e = .returned (.tuple #[.int .u64 (K.rnumP y).1, .int .i64 (K.rnumP y).2]) ∧ Below W.heap.size W w' := by
 obtain ⟨k, hk⟩ := K.rreadnum_f y hb
 exact PRF.proctorref02_ReadNum.calls k y.f0 A1 c1 y.f1 A2 c2 y.f2 _ _ W h1 h2 h3 h4 hk
theorem same01_any (a b : List Int) (ha : ∀ z ∈ a, 0 ≤ z ∧ z ≤ 255) (hb : ∀ z ∈ b, 0 ≤ z ∧ z ≤ 255) (A1 A2 : Option Addr) (c1 c2 : Nat) (W : World) (h1 : Kd.C kB W A1 a.length a) (k1 : a.length ≤ c1) (h2 : Kd.C kB W A2 b.length b) (k2 : b.length ≤ c2) :
 Calls Try.prog 47 #[.slice A1 a.length c1, .slice A2 b.length c2] W fun e w' => e = .returned (.bool (decide (a = b))) ∧ Below W.heap.size W w' :=
 (PRF.proctorref01_Same.calls A1 c1 a A2 c2 b _ W h1 k1 h2 k2 (K.same01_f a b ha hb)).mono fun e w' ⟨h1, h2⟩ => ⟨h1, h2.below⟩
theorem rnumP_nat (y : SI) (hb : K.Byt y.f1) : ((K.rnumP y).1.toNat : Int) = (K.rnumP y).1 ∧ (K.rnumP y).1.toNat ≤ 18446744073709551615 := by
 unfold K.rnumP
 split
 ·exact ⟨rfl, by decide⟩
 ·rename_i h
  have := K.num_small y.f1 hb (by omega)
  exact ⟨by simp, by simpa using this⟩
theorem rreadbatch_any (b : List Int) (A : Option Addr) (c : Nat) (w : World) (hB : ∀ x ∈ b, 0 ≤ x ∧ x ≤ 255) (hC : Kd.C kB w A b.length b) (hc : b.length ≤ c) :
 Calls Try.prog 56 #[.slice A b.length c] w (BatchPost w (rbatchP b)) := by
 have H0 := Aside0.mk (Own.start w)
 have HD := Aside0.mk (fun W (h : Below w.heap.size w W) => K.rdecode_any A c b W (Kd.C_below hC h) hc hB)
 have HSB := Aside0.mk (fun (W : World) (a : List Int) (A1 : Option Addr) (c1 : Nat) (h : Below w.heap.size w W) (ha : ∀ z ∈ a, 0 ≤ z ∧ z ≤ 255) (h1 : Kd.C kB W A1 a.length a) (k1 : a.length ≤ c1) => same01_any a b ha hB A1 A c1 c W h1 k1 (Kd.C_below hC h) hc)
 obtain ⟨r, hr⟩ : ∃ r, r = rbatchP b := ⟨_, rfl⟩
 rw [← hr]
 unfold rbatchP at hr
 have HBI := fun (x : SI) (h : K.decodeP b = .ok x) => decodeP_byt hB h
 have HER := fun (e : Int) (h : K.decodeP b = .error e) => decodeP_err h
 have HLB := fun (x : SI) (h : K.decodeP b = .ok x) => decodeP_len hB h
 clear hC hc hB
 generalize K.decodeP b = dec at *
 generalize b.length = nb at *
 have HZ3 := z3_one
 have HZB := zB_one
 cases dec with
 | error e =>
  obtain rfl : r = (zeroBt, e) := hr
  have he : (e != 0) = true := by have := HER e rfl; simpa using this
  clear HBI HER HLB
  go_enter Try.func56, Try.ntmps56
  go_wp2_with (first
   | fail
   | ((with_reducible refine Gd 2 ?_); refine OA H0 108 #[.int .u64 0, .int .u64 0, .slice none 0 0] 3 ?_; intro g2 w1 H1 B1)
   | (go_at_call 109; refine (HD.out _ H1.out.below).mono ?_; rintro e' w3 ⟨hB3, rfl⟩; have H3 := Aside0.mk (H1.out.step hB3); clear hB3)
   | ((with_reducible refine Gd 4 ?_); refine OA H3 159 #[.bool false, .slice none 0 0, .slice none 0 0] 3 ?_; intro g4 w4 H4 B4)
   | ((with_reducible refine Gs 159 4 ?_); refine OS 4 16 H4 0 g4 159 #[.bool false, .slice none 0 0, .slice none 0 0] 3 HZ3 HZ3 ?_; intro w5 H5)
   | ((with_reducible refine Gs 108 2 ?_); refine OS 2 20 H5 1 g2 108 #[.int .u64 0, .int .u64 0, .slice none 0 0] 3 HZB HZB ?_; intro w6 H6)
   )
  refine bodyPost_ret (own_resultV_t rfl _ H6.out 1 g2 _ rfl rfl _ Try.underlying108 rfl (by kernel_rfl) _ rfl) rfl ?_
  exact ⟨_, rfl, ((H6.out.erase 0).erase 0).null kL _⟩
 | ok x =>
 obtain ⟨f0, f1, f2⟩ := x
 have hbi := HBI _ rfl
 have hlb := HLB _ rfl
 clear HBI HER HLB
 replace HD : Aside0 (∀ W, Below w.heap.size w W → Calls Try.prog 109 #[.slice A nb c] W fun e w' => ∃ v1 v2, e = .returned (.tuple #[.agg #[.bool f0, v1, v2], .int .i64 0]) ∧ Below W.heap.size W w' ∧ v1.oneCell' = true ∧ ∃ A2 c2, v2 = .slice A2 f2.length c2 ∧ f2.length ≤ c2 ∧ Kd.R kI 159 w' W.heap.size (fun _ => True) (.slice A2 f2.length c2) f2) := ⟨fun W h => (HD.out W h).mono fun e w' hp => by
  obtain ⟨hb, v1, v2, he, hr1, hr2⟩ := hp
  obtain ⟨A2, c2, rfl, hc2, _⟩ := Kd.R_reads hr2
  exact ⟨v1, _, he, hb, R_one hr1, A2, c2, rfl, hc2, hr2⟩⟩
 have HR : Aside0 (r = rshapeB b f0 f2) := ⟨hr⟩
 clear hr
 by_cases hl : f2.length = 3
 case neg =>
  have hl3 : ((f2.length : Int) != 3) = true := by simp; omega
  obtain ⟨n2, hn2⟩ : ∃ n2, n2 = f2.length := ⟨_, rfl⟩
  rw [← hn2] at HD hl3
  clear hn2 hlb
  cases f0
  ·
   obtain rfl : r = (zeroBt, 8) := HR.out.trans (rshapeB_bad (by first | exact Or.inl rfl | exact Or.inr hl))
   clear HR hbi
   go_enter Try.func56, Try.ntmps56
   go_upto_region 4 with (first
    | fail
    | ((with_reducible refine Gd 2 ?_); refine OA H0 108 #[.int .u64 0, .int .u64 0, .slice none 0 0] 3 ?_; intro g2 w1 H1 B1)
    | (go_at_call 109; refine (HD.out _ H1.out.below).mono ?_; rintro e' wd ⟨v1, v2, rfl, hB3, hv1, A2, c2, rfl, hc2, hR2⟩; have HBD := Aside0.mk hB3; have H3 := Aside0.mk (Own.start wd); replace hR2 := Aside0.mk hR2; clear hB3)
    | ((with_reducible refine Gd 4 ?_); refine OA H3 159 #[.bool false, .slice none 0 0, .slice none 0 0] 3 ?_; intro g4 w4 H4 B4)
    | ((with_reducible refine gate_store (t := 159) (p := 4) rfl ?_); have HX3 : Aside0 (Arr 3 #[.bool false, v1, .slice A2 n2 c2]) := ⟨arr3_ hv1⟩; refine own_store H4.out 0 g4 _ 159 rfl rfl (.tmp 4) (.tmp 16) rfl #[.bool false, v1, .slice A2 n2 c2] (by rfl) (by rfl) 3 HZ3.out HX3.out (by kernel_rfl) ?_; intro w5 H5; replace H5 := Aside0.mk H5)
    )
   have H8 := Aside0.mk (H1.out.step (below_step HBD.out H5.out.below))
   go_wp2_with (first
    | fail
    | ((with_reducible refine Gd 23 ?_); refine OD 22 4 H5 0 g4 0 (.bool false) Try.underlying4 ?_)
    | ((with_reducible refine Gd 27 ?_); refine GD 26 157 H5 0 g4 2 (.slice A2 n2 c2) Try.underlying157 ?_)
    | ((with_reducible refine Gs 108 2 ?_); refine OS 2 31 H8 0 g2 108 #[.int .u64 0, .int .u64 0, .slice none 0 0] 3 HZB HZB ?_; intro w9 H9)
    )
   refine bodyPost_ret (own_resultV_t rfl _ H9.out 0 g2 _ rfl rfl _ Try.underlying108 rfl (by kernel_rfl) _ rfl) rfl ?_
   exact ⟨_, rfl, (H9.out.erase 0).null kL _⟩
  ·
   obtain rfl : r = (zeroBt, 8) := HR.out.trans (rshapeB_bad (by first | exact Or.inl rfl | exact Or.inr hl))
   clear HR hbi
   go_enter Try.func56, Try.ntmps56
   go_upto_region 4 with (first
    | fail
    | ((with_reducible refine Gd 2 ?_); refine OA H0 108 #[.int .u64 0, .int .u64 0, .slice none 0 0] 3 ?_; intro g2 w1 H1 B1)
    | (go_at_call 109; refine (HD.out _ H1.out.below).mono ?_; rintro e' wd ⟨v1, v2, rfl, hB3, hv1, A2, c2, rfl, hc2, hR2⟩; have HBD := Aside0.mk hB3; have H3 := Aside0.mk (Own.start wd); replace hR2 := Aside0.mk hR2; clear hB3)
    | ((with_reducible refine Gd 4 ?_); refine OA H3 159 #[.bool false, .slice none 0 0, .slice none 0 0] 3 ?_; intro g4 w4 H4 B4)
    | ((with_reducible refine gate_store (t := 159) (p := 4) rfl ?_); have HX3 : Aside0 (Arr 3 #[.bool true, v1, .slice A2 n2 c2]) := ⟨arr3_ hv1⟩; refine own_store H4.out 0 g4 _ 159 rfl rfl (.tmp 4) (.tmp 16) rfl #[.bool true, v1, .slice A2 n2 c2] (by rfl) (by rfl) 3 HZ3.out HX3.out (by kernel_rfl) ?_; intro w5 H5; replace H5 := Aside0.mk H5)
    )
   have H8 := Aside0.mk (H1.out.step (below_step HBD.out H5.out.below))
   go_wp2_with (first
    | fail
    | ((with_reducible refine Gd 23 ?_); refine OD 22 4 H5 0 g4 0 (.bool true) Try.underlying4 ?_)
    | ((with_reducible refine Gd 27 ?_); refine GD 26 157 H5 0 g4 2 (.slice A2 n2 c2) Try.underlying157 ?_)
    | ((with_reducible refine Gs 108 2 ?_); refine OS 2 31 H8 0 g2 108 #[.int .u64 0, .int .u64 0, .slice none 0 0] 3 HZB HZB ?_; intro w9 H9)
    )
   refine bodyPost_ret (own_resultV_t rfl _ H9.out 0 g2 _ rfl rfl _ Try.underlying108 rfl (by kernel_rfl) _ rfl) rfl ?_
   exact ⟨_, rfl, (H9.out.erase 0).null kL _⟩
 cases f0
 ·
  rw [hl] at HD
  clear hlb
  obtain rfl : r = (zeroBt, 8) := HR.out.trans (rshapeB_bad (by first | exact Or.inl rfl | exact Or.inr hl))
  clear HR hbi
  go_enter Try.func56, Try.ntmps56
  go_upto_region 4 with (first
   | fail
   | ((with_reducible refine Gd 2 ?_); refine OA H0 108 #[.int .u64 0, .int .u64 0, .slice none 0 0] 3 ?_; intro g2 w1 H1 B1)
   | (go_at_call 109; refine (HD.out _ H1.out.below).mono ?_; rintro e' wd ⟨v1, v2, rfl, hB3, hv1, A2, c2, rfl, hc2, hR2⟩; have HBD := Aside0.mk hB3; have H3 := Aside0.mk (Own.start wd); replace hR2 := Aside0.mk hR2; clear hB3)
   | ((with_reducible refine Gd 4 ?_); refine OA H3 159 #[.bool false, .slice none 0 0, .slice none 0 0] 3 ?_; intro g4 w4 H4 B4)
   | ((with_reducible refine gate_store (t := 159) (p := 4) rfl ?_); have HX3 : Aside0 (Arr 3 #[.bool false, v1, .slice A2 3 c2]) := ⟨arr3_ hv1⟩; refine own_store H4.out 0 g4 _ 159 rfl rfl (.tmp 4) (.tmp 16) rfl #[.bool false, v1, .slice A2 3 c2] (by rfl) (by rfl) 3 HZ3.out HX3.out (by kernel_rfl) ?_; intro w5 H5; replace H5 := Aside0.mk H5)
   )
  have H8 := Aside0.mk (H1.out.step (below_step HBD.out H5.out.below))
  go_wp2_with (first
   | fail
   | ((with_reducible refine Gd 23 ?_); refine OD 22 4 H5 0 g4 0 (.bool false) Try.underlying4 ?_)
   | ((with_reducible refine Gd 27 ?_); refine GD 26 157 H5 0 g4 2 (.slice A2 3 c2) Try.underlying157 ?_)
   | ((with_reducible refine Gs 108 2 ?_); refine OS 2 31 H8 0 g2 108 #[.int .u64 0, .int .u64 0, .slice none 0 0] 3 HZB HZB ?_; intro w9 H9)
   )
  refine bodyPost_ret (own_resultV_t rfl _ H9.out 0 g2 _ rfl rfl _ Try.underlying108 rfl (by kernel_rfl) _ rfl) rfl ?_
  exact ⟨_, rfl, (H9.out.erase 0).null kL _⟩
 obtain ⟨y0, y1, y2, rfl⟩ : ∃ y0 y1 y2, f2 = [y0, y1, y2] := by
  match f2, hl with
  | [a, b, c], _ => exact ⟨a, b, c, rfl⟩
 replace HR : Aside0 (r = ritemsB b y0 y1 y2) := ⟨HR.out⟩
 have hb0 := BytI_f1 (BytI_f2 hbi y0 (by simp))
 have hb1 := BytI_f1 (BytI_f2 hbi y1 (by simp))
 have HMB : Aside0 (∀ m ∈ y2.f2.map (fun y => y.f1), ∀ z ∈ m, 0 ≤ z ∧ z ≤ 255) := ⟨fun m hm => by
  obtain ⟨y, hy, rfl⟩ := List.mem_map.1 hm
  exact BytI_f1 (BytI_f2 (BytI_f2 hbi y2 (by simp)) y hy)⟩
 have hly : y2.f2.length ≤ 65536 := hlb y2 (by simp)
 clear hbi hl hlb
 go_enter Try.func56, Try.ntmps56
 go_upto_region 4 with (first
  | fail
  | ((with_reducible refine Gd 2 ?_); refine OA H0 108 #[.int .u64 0, .int .u64 0, .slice none 0 0] 3 ?_; intro g2 w1 H1 B1)
  | (go_at_call 109; refine (HD.out _ H1.out.below).mono ?_; rintro e' wd ⟨v1, v2, rfl, hB3, hv1, A2, c2, rfl, hc2, hR2⟩; have HBD := Aside0.mk hB3; have H3 := Aside0.mk (Own.start wd); replace hR2 := Aside0.mk hR2; clear hB3)
  | ((with_reducible refine Gd 4 ?_); refine OA H3 159 #[.bool false, .slice none 0 0, .slice none 0 0] 3 ?_; intro g4 w4 H4 B4)
  | ((with_reducible refine gate_store (t := 159) (p := 4) rfl ?_); have HX3 : Aside0 (Arr 3 #[.bool true, v1, .slice A2 3 c2]) := ⟨arr3_ hv1⟩; refine own_store H4.out 0 g4 _ 159 rfl rfl (.tmp 4) (.tmp 16) rfl #[.bool true, v1, .slice A2 3 c2] (by rfl) (by rfl) 3 HZ3.out HX3.out (by kernel_rfl) ?_; intro w5 H5; replace H5 := Aside0.mk H5)
  )
 obtain ⟨gI, cap, a1, d1, a2, d2, he, hcap, q1, q2, q3, q4, hcl0⟩ := R_item hR2.out 0 (by simp)
 injection he with he1 he2 he3
 subst he1 he3
 obtain ⟨_, _, b1, e1, b2, e2, he, _, p1, p2, p3, p4, hcl1⟩ := R_item hR2.out 1 (by simp)
 injection he with he1 he2 he3
 injection he1 with he1
 injection he1 with he1
 subst he1 he3
 obtain ⟨_, _, f1', g1', f2', g2', he, _, s1, s2, s3, s4, hcl2⟩ := R_item hR2.out 2 (by simp)
 injection he with he1 he2 he3
 injection he1 with he1
 injection he1 with he1
 subst he1 he3
 simp only [List.getElem_cons_zero, List.getElem_cons_succ, Nat.zero_mul, Nat.one_mul, Nat.zero_add] at *
 have HCL0 : Aside0 (∀ W, Below wd.heap.size wd W → ∀ (j : Nat) (u : Value), [Value.bool y0.f0, .slice a1 y0.f1.length d1, .slice a2 y0.f2.length d2][j]? = some u → W.cell? ((⟨gI, 0, none⟩ : Addr).add j) = some u) := ⟨fun W hb j u hj => by rw [Addr.add_mid, Nat.zero_add]; exact pw_cell_below hb (hcl0 j u hj)⟩
 have HCL1 : Aside0 (∀ W, Below wd.heap.size wd W → ∀ (j : Nat) (u : Value), [Value.bool y1.f0, .slice b1 y1.f1.length e1, .slice b2 y1.f2.length e2][j]? = some u → W.cell? ((⟨gI, 3, none⟩ : Addr).add j) = some u) := ⟨fun W hb j u hj => by rw [Addr.add_mid]; exact pw_cell_below hb (hcl1 j u hj)⟩
 have HCL2 : Aside0 (∀ W, Below wd.heap.size wd W → W.cell? ⟨gI, 8, none⟩ = some (.slice f2' y2.f2.length g2')) := ⟨fun W hb => pw_cell_below hb (hcl2 2 _ rfl)⟩
 have HN0 : Aside0 (∀ W, Below wd.heap.size wd W → Calls Try.prog 110 #[.agg #[.bool y0.f0, .slice a1 y0.f1.length d1, .slice a2 y0.f2.length d2]] W fun e w' => e = .returned (.tuple #[.int .u64 (K.rnumP y0).1, .int .i64 (K.rnumP y0).2]) ∧ Below W.heap.size W w') := ⟨fun W h => by
  obtain ⟨_, _, x1, _, x3⟩ := Kd.R_reads q1
  injection x1 with x1 _ _
  subst x1
  obtain ⟨_, _, x1, _, x4⟩ := Kd.R_reads q2
  injection x1 with x1 _ _
  subst x1
  exact rreadnum_any y0 hb0 _ d1 _ d2 W (Kd.C_below x3 h) q3 (Kd.C_below x4 h) q4⟩
 have HN1 : Aside0 (∀ W, Below wd.heap.size wd W → Calls Try.prog 110 #[.agg #[.bool y1.f0, .slice b1 y1.f1.length e1, .slice b2 y1.f2.length e2]] W fun e w' => e = .returned (.tuple #[.int .u64 (K.rnumP y1).1, .int .i64 (K.rnumP y1).2]) ∧ Below W.heap.size W w') := ⟨fun W h => by
  obtain ⟨_, _, x1, _, x3⟩ := Kd.R_reads p1
  injection x1 with x1 _ _
  subst x1
  obtain ⟨_, _, x1, _, x4⟩ := Kd.R_reads p2
  injection x1 with x1 _ _
  subst x1
  exact rreadnum_any y1 hb1 _ e1 _ e2 W (Kd.C_below x3 h) p3 (Kd.C_below x4 h) p4⟩
 have HV0 := Aside0.mk (rnumP_nat y0 hb0)
 have HV1 := Aside0.mk (rnumP_nat y1 hb1)
 have HS2 := Aside0.mk s2
 unfold ritemsB at HR
 clear hb0 hb1 hcl0 hcl1 hcl2 q1 q2 q3 q4 p1 p2 p3 p4 s1 s2 s3 hR2 HD B4 H3 H4
 generalize y0.f1.length = x1 at *
 generalize y0.f2.length = x2 at *
 generalize y1.f1.length = x3 at *
 generalize y1.f2.length = x4 at *
 generalize y0.f0 = k0 at *
 generalize y1.f0 = k1 at *
 generalize K.rnumP y0 = rn0 at *
 generalize K.rnumP y1 = rn1 at *
 obtain ⟨n0, er0⟩ := rn0
 obtain ⟨n1, er1⟩ := rn1
 dsimp only at HR HN0 HN1 HV0 HV1
 obtain ⟨n5, hn5⟩ : ∃ n5, n5 = y2.f2.length := ⟨_, rfl⟩
 have HN5 := Aside0.mk hn5
 rw [← hn5] at HCL2 HS2 hly s4
 clear hn5
 go_upto_region 10 with (first
  | fail
  | ((with_reducible refine Gd 23 ?_); refine OD 22 4 H5 0 g4 0 (.bool true) Try.underlying4 ?_)
  | ((with_reducible refine Gd 27 ?_); refine GD 26 157 H5 0 g4 2 (.slice (some ⟨gI, 0, none⟩) 3 c2) Try.underlying157 ?_)
  | ((with_reducible refine Gd 34 ?_); refine OD 33 157 H5 0 g4 2 (.slice (some ⟨gI, 0, none⟩) 3 c2) Try.underlying157 ?_)
  | ((with_reducible refine gate_dst (N := 36) rfl ?_); refine ld_at rfl 159 (.tmp 35) rfl (⟨gI, 0, none⟩) ([.bool k0, .slice a1 x1 d1, .slice a2 x2 d2]) _ rfl (HCL0.out _ H5.out.below) Try.underlying159 rfl (by kernel_rfl) ?_)
  )
 refine (HN0.out _ H5.out.below).mono ?_
 rintro e w6 ⟨rfl, hB6⟩
 have H6 := Aside0.mk (H5.out.step hB6)
 clear hB6
 go_upto_region 10 with (first
  | fail
  | ((with_reducible refine Gd 42 ?_); refine OD 41 157 H6 0 g4 2 (.slice (some ⟨gI, 0, none⟩) 3 c2) Try.underlying157 ?_)
  | ((with_reducible refine gate_dst (N := 44) rfl ?_); refine ld_at rfl 159 (.tmp 43) rfl (⟨gI, 3, none⟩) ([.bool k1, .slice b1 x3 e1, .slice b2 x4 e2]) _ rfl (HCL1.out _ H6.out.below) Try.underlying159 rfl (by kernel_rfl) ?_)
  )
 refine (HN1.out _ H6.out.below).mono ?_
 rintro e w7 ⟨rfl, hB7⟩
 have H7 := Aside0.mk (H6.out.step hB7)
 clear hB7 H6 HN0 HN1 HCL0 HCL1 H5
 by_cases hz0 : er0 = 0
 case neg =>
  have hzb : (er0 != 0) = true := by simpa using hz0
  obtain rfl : r = (zeroBt, 8) := by rw [HR.out, if_neg (by rintro ⟨h1, h2⟩; exact hz0 h1)]
  clear HR
  have H8 := Aside0.mk (H1.out.step (below_step HBD.out H7.out.below))
  go_wp2_with (first
   | fail
   | ((with_reducible refine Gs 108 2 ?_); refine OS 2 54 H8 0 g2 108 #[.int .u64 0, .int .u64 0, .slice none 0 0] 3 HZB HZB ?_; intro w9 H9)
   )
  refine bodyPost_ret (own_resultV_t rfl _ H9.out 0 g2 _ rfl rfl _ Try.underlying108 rfl (by kernel_rfl) _ rfl) rfl ?_
  exact ⟨_, rfl, (H9.out.erase 0).null kL _⟩
 by_cases hz1 : er1 = 0
 case neg =>
  have hzb : (er0 != 0) = false := by simp [hz0]
  have hzc : (er1 != 0) = true := by simpa using hz1
  obtain rfl : r = (zeroBt, 8) := by rw [HR.out, if_neg (by rintro ⟨h1, h2⟩; exact hz1 h2)]
  clear HR
  replace hz0 := Aside0.mk hz0
  have H8 := Aside0.mk (H1.out.step (below_step HBD.out H7.out.below))
  go_wp2_with (first
   | fail
   | ((with_reducible refine Gs 108 2 ?_); refine OS 2 54 H8 0 g2 108 #[.int .u64 0, .int .u64 0, .slice none 0 0] 3 HZB HZB ?_; intro w9 H9)
   )
  refine bodyPost_ret (own_resultV_t rfl _ H9.out 0 g2 _ rfl rfl _ Try.underlying108 rfl (by kernel_rfl) _ rfl) rfl ?_
  exact ⟨_, rfl, (H9.out.erase 0).null kL _⟩
 subst hz0 hz1
 obtain ⟨m0, hm0⟩ : ∃ m0 : Nat, (m0 : Int) = n0 := ⟨_, HV0.out.1⟩
 obtain ⟨m1, hm1⟩ : ∃ m1 : Nat, (m1 : Int) = n1 := ⟨_, HV1.out.1⟩
 subst hm0 hm1
 replace HV0 : Aside0 (m0 ≤ 18446744073709551615) := ⟨by have := HV0.out.2; simpa using this⟩
 replace HV1 : Aside0 (m1 ≤ 18446744073709551615) := ⟨by have := HV1.out.2; simpa using this⟩
 replace HR : Aside0 (r = if (rwbP m0 m1 (y2.f2.map fun y => y.f1)).2 = 0 ∧ (rwbP m0 m1 (y2.f2.map fun y => y.f1)).1 = b then (⟨(m0 : Int), (m1 : Int), y2.f2.map fun y => y.f1⟩, 0) else (zeroBt, 8)) := ⟨by rw [HR.out, if_pos ⟨rfl, rfl⟩]; simp only [Int.toNat_natCast]⟩
 have HXM : Aside0 (Arr 3 #[.int .u64 (m0 : Int), .int .u64 (m1 : Int), .slice none 0 0]) := ⟨rfl, by simp [Value.oneCell']⟩
 go_wp2_with (first
  | fail
  | ((with_reducible refine Gd 9 ?_); refine OA H7 108 #[.int .u64 0, .int .u64 0, .slice none 0 0] 3 ?_; intro g9 w8 H8 B8)
  | ((with_reducible refine Gs 108 9 ?_); refine OS 9 57 H8 0 g9 108 (#[.int .u64 (m0 : Int), .int .u64 (m1 : Int), .slice none 0 0]) 3 HZB HXM ?_; intro w9 H9)
  )
 replace H9 : Aside0 (Own wd.heap.size wd w9 [.row (shM kL wd (fun k => w1.heap.size ≤ k)) 74 (.slice none 0 0) ((y2.f2.take 0).map fun y => y.f1), .blk g9 #[.int .u64 (m0 : Int), .int .u64 (m1 : Int), .slice none 0 0] 108, .blk g4 #[.bool true, v1, .slice (some ⟨gI, 0, none⟩) 3 c2] 159]) := ⟨H9.out.null _ _⟩
 clear H7 H8 B8 H0
 go_loopw [10] (fun v10 wr => ∃ (j : Nat) (vm : Value), j ≤ n5 ∧ v10 = .int .i64 (j : Int) ∧ Aside0 (Own wd.heap.size wd wr [.row (shM kL wd (fun k => w1.heap.size ≤ k)) 74 vm ((y2.f2.take j).map fun y => y.f1), .blk g9 #[.int .u64 (m0 : Int), .int .u64 (m1 : Int), vm] 108, .blk g4 #[.bool true, v1, .slice (some ⟨gI, 0, none⟩) 3 c2] 159])) (fun v10 _ => n5 - (intOf v10).toNat)
 case atStart => exact ⟨0, _, Nat.zero_le _, rfl, H9⟩
 case round =>
  clear H9
  obtain ⟨j, vm, hj, rfl, HI⟩ := hrel
  obtain ⟨A5, c5, hv5, hc5, _⟩ := HI.out.reads 0 rfl
  have hlen : ((y2.f2.take j).map fun y => y.f1).length = j := by rw [List.length_map, List.length_take, ← HN5.out]; omega
  rw [hlen] at hv5 hc5
  subst hv5
  have kz := HCL2.out wr HI.out.below
  have kx : wr.cell? ⟨g4, 2, none⟩ = some (.slice (some ⟨gI, 0, none⟩) 3 c2) := HI.out.cell 2 rfl 2 rfl
  by_cases hlt : j < n5
  ·have hdl : decide (j < n5) = true := decide_eq_true hlt
   have hib : (0 : Int) ≤ (j : Int) ∧ (j : Int) < (n5 : Int) := by omega
   have hjl : j < y2.f2.length := by rw [← HN5.out]; exact hlt
   obtain ⟨gL, cap, m1', k1', m2, k2, he, hcap, hr1, hr2, hm1, hm2, hcl⟩ := R_item HS2.out j hjl
   injection he with he he2 he3
   subst he he3
   clear he2
   have HMS := Aside0.mk (f1s_snoc y2.f2 j hjl)
   have HP : Aside0 (∀ w : World, (shM kL wd (fun k => w1.heap.size ≤ k)).M w 0 (fun _ => False) y2.f2[j].f1 [.slice m1' y2.f2[j].f1.length k1']) := ⟨fun _ => ⟨_, rfl, Kd.R_lower (Kd.R_mono (Kd.R_bound hr1) fun k hk => hk.2.1) (Nat.zero_le _)⟩⟩
   have HKJ : Aside0 (∀ W, Below wd.heap.size wd W → W.cell? ⟨gL, j * 3 + 1, none⟩ = some (.slice m1' y2.f2[j].f1.length k1')) := ⟨fun W h => pw_cell_below h (hcl 1 _ rfl)⟩
   have kj : wr.cell? ⟨gL, j * 3 + 1, none⟩ = some (.slice m1' y2.f2[j].f1.length k1') := pw_cell_below HI.out.below (hcl 1 _ rfl)
   have km : wr.cell? ⟨g9, 2, none⟩ = some (.slice A5 j c5) := HI.out.cell 1 rfl 2 rfl
   have HL1 : Aside0 (((y2.f2.take j).map (fun y => y.f1) ++ [y2.f2[j].f1]).length = j + 1) := ⟨by rw [List.length_append, hlen]; rfl⟩
   clear hr1 hr2 hm1 hm2 hcl hcap
   generalize y2.f2[j].f1.length = l1 at *
   generalize y2.f2[j].f1 = msg at *
   go_wp2_with fail
   have HD := Aside0.mk HI.out.drew
   refine StS ((fun W => W.cell? ⟨g4, 2, none⟩ = some (.slice (some ⟨gI, 0, none⟩) 3 c2) ∧ W.cell? ⟨gI, 8, none⟩ = some (.slice (some ⟨gL, 0, none⟩) n5 g2') ∧ W.cell? ⟨gL, j * 3 + 1, none⟩ = some (.slice m1' l1 k1'))) ((fun W => W.cell? ⟨g9, 2, none⟩ = some (.slice A5 j c5))) [14] (by exact ⟨kx, kz, kj⟩) (by exact km) fun hHeld => ?_
   refine TkS 0 ?_
   refine TtS 1 [12, 13, 14] ?_
   refine TkS 2 ?_
   refine TkS 3 ?_
   refine TkS 4 ?_
   refine TkS 5 ?_
   refine TkS 6 ?_
   refine TkS 7 ?_
   refine TkS 8 ?_
   refine TkS 9 ?_
   refine TkS 10 ?_
   have HCZ : Aside0 (∀ W, Below wd.heap.size wd W → W.cell? ⟨gI, 8, none⟩ = some (.slice (some ⟨gL, 0, none⟩) n5 g2') ∧ W.cell? ⟨gL, j * 3 + 1, none⟩ = some (.slice m1' l1 k1')) := ⟨fun W h => ⟨HCL2.out W h, HKJ.out W h⟩⟩
   clear kx kz kj km HI
   generalize wr.drew = wq at *
   refine RdS 11 fun K hK => ?_
   have HX := Aside0.mk (HD.out.new #[.slice m1' l1 k1'] 74)
   refine step_of_run (W1 := wq.alloc (.cells #[.slice m1' l1 k1'] 74)) (v := .slice (some ⟨wq.heap.size, 0, none⟩) 1 1) (by rfl) (by first | (go_simp; done) | (go_simp; rfl)) ?_
   refine AgS hK (HoldS.now (⟨HX.out.cell 3 rfl 2 rfl, HCZ.out _ HX.out.below⟩) (HX.out.cell 2 rfl 2 rfl)) fun hHeld => ?_
   clear hK K
   refine RdS 12 fun K hK => ?_
   refine own_append_any_step (shM kL wd (fun k => w1.heap.size ≤ k)) HD.out 0 rfl (by rfl) (.tmp 69) (.tmp 79) 71 (.slice none 0 0) 24 rfl Try.underlying71 PRF.info74 rfl (show 0 < 1 by decide) (by decide) msg [.slice m1' l1 k1'] HP.out (by rfl) (by rfl) (by rw [hlen]; omega) ?_
   intro v8 w8 H8
   obtain ⟨A8, c8, hv8, _, _⟩ := H8.reads 0 rfl
   rw [HL1.out] at hv8
   subst hv8
   replace H8 := Aside0.mk H8
   have k8 : w8.cell? ⟨g9, 2, none⟩ = some (.slice A5 j c5) ∧ w8.frozen? ⟨g9, 2, none⟩ = false := ⟨H8.out.cell 1 rfl 2 rfl, H8.out.fz 1 rfl 2⟩
   refine AgS hK (HoldS.now (⟨H8.out.cell 2 rfl 2 rfl, HCZ.out _ H8.out.below⟩) (k8.1)) fun hHeld => ?_
   clear hK K
   have H9 := Aside0.mk (H8.out.put 1 rfl 2 (.slice A8 (j + 1) c8) rfl)
   refine TkS 13 ?_
   refine RdS 14 fun K hK => ?_
   go_simp
   refine AgS hK (Pst (⟨H9.out.cell 2 rfl 2 rfl, HCZ.out _ H9.out.below⟩)) fun hHeld => ?_
   clear hK K
   refine DnS ?_
   go_wp2_with fail
   go_roundw
   case rel => exact ⟨j + 1, _, hlt, by go_num, ⟨by rw [HMS.out]; exact H9.out⟩⟩
   case measure => simp [intOf]; omega
  ·have hdl : decide (j < n5) = false := decide_eq_false hlt
   obtain rfl : n5 = j := by omega
   have HI2 : Aside0 (Own wd.heap.size wd wr [.row (shM kL wd (fun k => w1.heap.size ≤ k)) 74 (.slice A5 n5 c5) (y2.f2.map fun y => y.f1), .blk g9 #[.int .u64 (m0 : Int), .int .u64 (m1 : Int), .slice A5 n5 c5] 108, .blk g4 #[.bool true, v1, .slice (some ⟨gI, 0, none⟩) 3 c2] 159]) := ⟨by
    have h := HI.out
    rwa [List.take_of_length_le (by rw [← HN5.out]; exact Nat.le_refl _)] at h⟩
   clear HI hlen HS2
   generalize hms : (y2.f2.map fun y => y.f1) = ms at *
   have hml : ms.length = n5 := by rw [← hms, List.length_map, HN5.out]
   have HWB : Aside0 (Calls Try.prog 54 #[.agg #[.int .u64 (m0 : Int), .int .u64 (m1 : Int), .slice A5 n5 c5]] wr fun e w' => ∃ v, e = .returned (.tuple #[v, .int .i64 (rwbP m0 m1 ms).2]) ∧ Own wr.heap.size wr w' [.row kB 5 v (rwbP m0 m1 ms).1]) := ⟨by
    obtain ⟨Az, cz, hz, hz2, hz3⟩ := HI2.out.reads 0 rfl
    injection hz with hz0 hz1 hz4
    subst hz0 hz4
    have h := rwritebatch_any m0 m1 ms HV0.out HV1.out A5 c5 wr (C_shM hz3 HI2.out.below) (by omega)
    rw [hml] at h
    exact h⟩
   have HBY := Aside0.mk (rwbP_byt m0 m1 ms HMB.out)
   have HXB : Aside0 (Arr 3 #[.int .u64 (m0 : Int), .int .u64 (m1 : Int), .slice A5 n5 c5]) := ⟨rfl, by simp [Value.oneCell']⟩
   clear hms HMB HN5 hml
   generalize rwbP m0 m1 ms = re at *
   obtain ⟨again, er⟩ := re
   dsimp only at HR HWB HBY
   go_upto_region 16 with (first
    | fail
    | ((with_reducible refine Gd 83 ?_); refine OV 9 HI2 1 g9 108 rfl Try.underlying108 (by kernel_rfl) ?_)
    | (go_at_call 54; refine HWB.out.mono ?_; rintro e w8 ⟨v8, rfl, hO8⟩; obtain ⟨A8, c8, rfl, hc8, hC8⟩ := hO8.reads 0 rfl; have H8 := Aside0.mk (HI2.out.call hO8); have HSA := Aside0.mk (HSB.out w8 again A8 c8 (below_step H1.out.below (below_step HBD.out H8.out.below)) HBY.out hC8 hc8); clear hO8 hC8)
    )
   clear HWB HI2 HBY
   generalize again.length = la at *
   by_cases hz : er = 0
   case neg =>
    have hzb : (er != 0) = true := by simpa using hz
    obtain rfl : r = (zeroBt, 8) := by rw [HR.out, if_neg (by rintro ⟨h, _⟩; exact hz h)]
    clear HR
    have HG8 := Aside0.mk (H1.out.step (below_step HBD.out H8.out.below))
    go_wp2_with (first
     | fail
     | (go_at_call 47; refine HSA.out.mono ?_; rintro e w9 ⟨rfl, hB9⟩; have H9 := Aside0.mk (H8.out.step hB9); have HG9 := Aside0.mk (H1.out.step (below_step HBD.out H9.out.below)); have HF := Aside0.mk (H1.out.call ((H9.out.bring 1 rfl).shM_up HBD.out (fun k hk => hk))); clear hB9)
     | ((with_reducible refine Gs 108 2 ?_); refine OS 2 95 HG8 0 g2 108 #[.int .u64 0, .int .u64 0, .slice none 0 0] 3 HZB HZB ?_; intro w10 H10)
     | ((with_reducible refine Gd 96 ?_); refine OV 9 H9 2 g9 108 rfl Try.underlying108 (by kernel_rfl) ?_)
     | ((with_reducible refine Gs 108 2 ?_); refine OS 2 96 HF 4 g2 108 (#[.int .u64 (m0 : Int), .int .u64 (m1 : Int), .slice A5 n5 c5]) 3 HZB HXB ?_; intro w10 H10)
     )
    refine bodyPost_ret (own_resultV_t rfl _ H10.out 0 g2 _ rfl rfl _ Try.underlying108 rfl (by kernel_rfl) _ rfl) rfl ?_
    exact ⟨_, rfl, (H10.out.erase 0).null kL _⟩
   subst hz
   by_cases heq : again = b
   ·have hdq : decide (again = b) = true := decide_eq_true heq
    rw [hdq] at HSA
    obtain rfl : r = (⟨(m0 : Int), (m1 : Int), ms⟩, 0) := by rw [HR.out, if_pos ⟨rfl, heq⟩]
    clear HR heq hdq
    go_wp2_with (first
     | fail
     | (go_at_call 47; refine HSA.out.mono ?_; rintro e w9 ⟨rfl, hB9⟩; have H9 := Aside0.mk (H8.out.step hB9); have HG9 := Aside0.mk (H1.out.step (below_step HBD.out H9.out.below)); have HF := Aside0.mk (H1.out.call ((H9.out.bring 1 rfl).shM_up HBD.out (fun k hk => hk))); clear hB9)
     | ((with_reducible refine Gs 108 2 ?_); refine OS 2 95 HG9 0 g2 108 #[.int .u64 0, .int .u64 0, .slice none 0 0] 3 HZB HZB ?_; intro w10 H10)
     | ((with_reducible refine Gd 96 ?_); refine OV 9 H9 2 g9 108 rfl Try.underlying108 (by kernel_rfl) ?_)
     | ((with_reducible refine Gs 108 2 ?_); refine OS 2 96 HF 4 g2 108 (#[.int .u64 (m0 : Int), .int .u64 (m1 : Int), .slice A5 n5 c5]) 3 HZB HXB ?_; intro w10 H10)
     )
    refine bodyPost_ret (own_resultV_t rfl _ H10.out 4 g2 _ rfl rfl _ Try.underlying108 rfl (by kernel_rfl) _ rfl) rfl ?_
    exact ⟨_, rfl, ((((H10.out.erase 1).erase 1).erase 1).erase 1)⟩
   ·have hdq : decide (again = b) = false := decide_eq_false heq
    rw [hdq] at HSA
    obtain rfl : r = (zeroBt, 8) := by rw [HR.out, if_neg (by rintro ⟨_, h⟩; exact heq h)]
    clear HR heq hdq
    go_wp2_with (first
     | fail
     | (go_at_call 47; refine HSA.out.mono ?_; rintro e w9 ⟨rfl, hB9⟩; have H9 := Aside0.mk (H8.out.step hB9); have HG9 := Aside0.mk (H1.out.step (below_step HBD.out H9.out.below)); have HF := Aside0.mk (H1.out.call ((H9.out.bring 1 rfl).shM_up HBD.out (fun k hk => hk))); clear hB9)
     | ((with_reducible refine Gs 108 2 ?_); refine OS 2 95 HG9 0 g2 108 #[.int .u64 0, .int .u64 0, .slice none 0 0] 3 HZB HZB ?_; intro w10 H10)
     | ((with_reducible refine Gd 96 ?_); refine OV 9 H9 2 g9 108 rfl Try.underlying108 (by kernel_rfl) ?_)
     | ((with_reducible refine Gs 108 2 ?_); refine OS 2 96 HF 4 g2 108 (#[.int .u64 (m0 : Int), .int .u64 (m1 : Int), .slice A5 n5 c5]) 3 HZB HXB ?_; intro w10 H10)
     )
    refine bodyPost_ret (own_resultV_t rfl _ H10.out 0 g2 _ rfl rfl _ Try.underlying108 rfl (by kernel_rfl) _ rfl) rfl ?_
    exact ⟨_, rfl, (H10.out.erase 0).null kL _⟩
theorem rnumP_num {y : SI} (hb : K.Byt y.f1) (h : (K.rnumP y).2 = 0) : y = K.numI (K.rnumP y).1.toNat := by
 unfold K.rnumP at h ⊢
 split at h
 ·cases h
 ·rename_i hc
  rw [if_neg hc]
  obtain ⟨f0, f1, f2⟩ := y
  dsimp only at *
  have h0 : f0 = false := by cases f0 with | false => rfl | true => exact absurd (Or.inl rfl) hc
  have h2 : f2 = [] := List.length_eq_zero_iff.1 (by omega)
  subst h0 h2
  have hbig := K.bigP_of_num f1 hb (by omega) (fun hne => by
   intro hh
   cases f1 with
   | nil => exact hne rfl
   | cons a l =>
    refine hc (.inr (.inr (.inr ⟨by simp, ?_⟩)))
    simp only [List.headD_cons] at hh
    rw [hh]; rfl)
  unfold K.numI
  simp only [Int.toNat_natCast]
  rw [hbig]
theorem msgI_eq {y : SI} {d : Nat} (hw : K.wfP d y = true) (h : y.f0 = false) : y = msgI y.f1 := by
 rw [K.wfP_str _ _ h, List.isEmpty_iff] at hw
 obtain ⟨f0, f1, f2⟩ := y
 dsimp only at h hw
 subst h hw
 rfl
theorem map_msgI : ∀ {l : List SI}, (∀ y ∈ l, y = msgI y.f1) → l = (l.map fun y => y.f1).map msgI
 | [], _ => rfl
 | y :: l, h => by
  rw [List.map_cons, List.map_cons, ← h y (by simp), ← map_msgI (fun z hz => h z (List.mem_cons_of_mem _ hz))]
theorem enc_inj {x y : SI} {b : List Int} (hx : K.BytI x) (hy : K.BytI y) (hvy : K.vP 16 65536 y = true) (hf : K.formP y = b) (h1 : (K.encP x).2 = 0) (h2 : (K.encP x).1 = b) : x = y := by
 unfold K.encP at h1 h2
 split at h1
 ·rename_i hvx
  rw [if_pos hvx] at h2
  exact K.form_inj x y hx hy hvx hvy (h2.trans hf.symm)
 ·cases h1
theorem rbatchP_eq (b : List Int) (hb : K.Byt b) : rbatchP b = batchP b := by
 unfold rbatchP batchP
 cases hd : K.decodeP b with
 | error e => rfl
 | ok x =>
  show rshapeB b x.f0 x.f2 = shapeB x.f0 x.f2
  obtain ⟨hf, hv⟩ := K.decode_form b x hb hd
  have hbi := decodeP_byt hb hd
  by_cases hsh : x.f0 = false ∨ x.f2.length ≠ 3
  ·rw [rshapeB_bad hsh, shapeB_bad hsh]
  obtain ⟨f0, f1, f2⟩ := x
  dsimp only at hsh
  have h0 : f0 = true := by cases f0 with | true => rfl | false => exact absurd (Or.inl rfl) hsh
  have h3 : f2.length = 3 := by
   by_cases h : f2.length = 3
   ·exact h
   ·exact absurd (Or.inr h) hsh
  subst h0
  obtain ⟨y0, y1, y2, rfl⟩ : ∃ y0 y1 y2, f2 = [y0, y1, y2] := by
   match f2, h3 with
   | [a, b, c], _ => exact ⟨a, b, c, rfl⟩
  show ritemsB b y0 y1 y2 = itemsB y0 y1 y2
  have hv1 := hv
  unfold K.vP at hv1
  rw [Bool.and_eq_true] at hv1
  have hw := hv1.1
  rw [K.wfP_list 15 _ rfl, Bool.and_eq_true, List.isEmpty_iff] at hw
  obtain ⟨hw1, hw2⟩ := hw
  dsimp only at hw1 hw2
  subst hw1
  rw [List.all_eq_true] at hw2
  have hy2 := hw2 y2 (by simp)
  unfold ritemsB itemsB
  by_cases hn : (K.rnumP y0).2 = 0 ∧ (K.rnumP y1).2 = 0
  case neg =>
   rw [if_neg hn, if_neg (fun h => hn ⟨h.1, h.2.1⟩)]
  rw [if_pos hn]
  have e0 := rnumP_num (BytI_f1 (BytI_f2 hbi y0 (by simp))) hn.1
  have e1 := rnumP_num (BytI_f1 (BytI_f2 hbi y1 (by simp))) hn.2
  have hms : ∀ m ∈ y2.f2.map (fun y => y.f1), ∀ z ∈ m, 0 ≤ z ∧ z ≤ 255 := fun m hm => by
   obtain ⟨y, hy, rfl⟩ := List.mem_map.1 hm
   exact BytI_f1 (BytI_f2 (BytI_f2 hbi y2 (by simp)) y hy)
  generalize hn0 : (K.rnumP y0).1.toNat = m0 at *
  generalize hn1 : (K.rnumP y1).1.toNat = m1 at *
  by_cases hg : y2.f0 = true ∧ y2.f2.length ≤ 4096 ∧ (y2.f2.all fun y => !y.f0) = true
  ·have hy2l : y2 = ⟨true, [], (y2.f2.map fun y => y.f1).map msgI⟩ := by
    obtain ⟨g0, g1, g2⟩ := y2
    obtain ⟨q0, q1, q2⟩ := hg
    dsimp only at q0 q1 q2
    subst q0
    rw [K.wfP_list 14 _ rfl, Bool.and_eq_true, List.isEmpty_iff] at hy2
    obtain ⟨r1, r2⟩ := hy2
    dsimp only at r1 r2
    subst r1
    rw [List.all_eq_true] at r2 q2
    have := map_msgI (l := g2) (fun y hy => msgI_eq (r2 y hy) (by simpa using q2 y hy))
    show (⟨true, [], g2⟩ : SI) = ⟨true, [], (g2.map fun y => y.f1).map msgI⟩
    rw [← this]
   have hx : (⟨true, [], [y0, y1, y2]⟩ : SI) = batchItem m0 m1 (y2.f2.map fun y => y.f1) := by
    unfold batchItem
    rw [← e0, ← e1, ← hy2l]
   have hA : (rwbP m0 m1 (y2.f2.map fun y => y.f1)).2 = 0 ∧ (rwbP m0 m1 (y2.f2.map fun y => y.f1)).1 = b := by
    rw [rwbP_eq]
    unfold wbP
    rw [if_pos (by rw [List.length_map]; exact hg.2.1), ← hx]
    unfold K.encP
    rw [if_pos hv]
    exact ⟨rfl, hf⟩
   rw [if_pos hA, if_pos ⟨hn.1, hn.2, hg⟩]
  ·have hA : ¬ ((rwbP m0 m1 (y2.f2.map fun y => y.f1)).2 = 0 ∧ (rwbP m0 m1 (y2.f2.map fun y => y.f1)).1 = b) := by
    rintro ⟨h1, h2⟩
    apply hg
    rw [rwbP_eq] at h1 h2
    unfold wbP at h1 h2
    split at h1
    ·rename_i hlen
     rw [if_pos hlen] at h2
     have hinj := enc_inj (batchItem_bytI m0 m1 (y2.f2.map fun y => y.f1) hms) hbi hv hf h1 h2
     unfold batchItem at hinj
     injection hinj with _ _ hl
     injection hl with _ hl
     injection hl with _ hl
     injection hl with hl _
     rw [← hl]
     refine ⟨rfl, by simpa using hlen, ?_⟩
     rw [List.all_eq_true]
     intro y hy
     obtain ⟨m, _, rfl⟩ := List.mem_map.1 hy
     rfl
    ·cases h1
   rw [if_neg hA, if_neg (fun h => hg h.2.2)]
theorem rdQ (q : List SQ) (i : Nat) (h : i < q.length) : PRF.rd_T78 q (i : Int) = q[i] := by simp [PRF.rd_T78, List.getD_eq_getElem?_getD, h]
theorem rdL (l : List (List Int)) (i : Nat) (h : i < l.length) : PRF.rd_L2 l (i : Int) = l[i] := by simp [PRF.rd_L2, List.getD_eq_getElem?_getD, h]
theorem w1_ (i : Nat) (h : i < 9223372036854775807) : wrap64 ((i : Int) + 1) = ((i + 1 : Nat) : Int) := by rw [K.wrap64_in _ (by omega)]; omega
theorem short_ev (l : List (List Int)) (hl : l.length ≤ 9223372036854775807) : K.Ev (fun k => PRF.proctorref20_short.f k l) (!longP l) :=
 K.Ev.of_mono (fun k => PRF.proctorref20_short.mono l k) (short_f l hl)
theorem may20_ev (q : List SQ) (tk : Int) (l : List (List Int)) (nx : Int) (hq : q.length ≤ 9223372036854775807) (hl : l.length ≤ 9223372036854775807) : ∃ k, PRF.proctorref20_May.f k q tk l nx = some (mayI q tk l) := by
 obtain ⟨M, hM⟩ := short_ev l hl
 have key : ∀ (d i : Nat) (last : Int), i + d = q.length → ∀ k, d + 1 + M ≤ k → PRF.proctorref20_May.l0 k last (i : Int) q tk l nx = some (riseP last (q.drop i) && !longP l) := by
  intro d
  induction d with
  | zero =>
   intro i last h k hk
   obtain ⟨k, rfl⟩ : ∃ k', k = k' + 1 := ⟨k - 1, by omega⟩
   rw [PRF.proctorref20_May.l0, if_neg (by omega), show PRF.proctorref20_short.f k l = _ from hM k (by omega), List.drop_of_length_le (by omega)]
   rfl
  | succ d ih =>
   intro i last h k hk
   obtain ⟨k, rfl⟩ : ∃ k', k = k' + 1 := ⟨k - 1, by omega⟩
   have hi : i < q.length := by omega
   rw [PRF.proctorref20_May.l0, if_pos (by omega), if_pos (by omega), rdQ q i hi, List.drop_eq_getElem_cons hi]
   by_cases h1 : q[i].f0 < last
   ·rw [if_pos h1]
    have : decide (last ≤ q[i].f0) = false := decide_eq_false (by omega)
    simp only [riseP, this, Bool.false_and]
   ·rw [if_neg h1]
    have e1 : decide (last ≤ q[i].f0) = true := decide_eq_true (by omega)
    by_cases h2 : (q[i].f1.length : Int) > 65536
    ·rw [if_pos h2]
     have : decide (q[i].f1.length ≤ 65536) = false := decide_eq_false (by omega)
     simp only [riseP, this, Bool.and_false, Bool.false_and]
    ·rw [if_neg h2, w1_ i (by omega), ih (i + 1) _ (by omega) k (by omega)]
     have : decide (q[i].f1.length ≤ 65536) = true := decide_eq_true (by omega)
     simp only [riseP, this, e1, Bool.true_and]
 refine ⟨q.length + 2 + M, ?_⟩
 unfold PRF.proctorref20_May.f mayI
 by_cases h1 : (q.length : Int) > 4096
 ·rw [if_pos h1, show q.length + 2 + M = (q.length + 1 + M) + 1 by omega, PRF.proctorref20_May.j0, if_pos rfl]
  have : decide (q.length ≤ 4096) = false := decide_eq_false (by omega)
  rw [this]; rfl
 rw [if_neg h1]
 by_cases h2 : (l.length : Int) > 4096
 ·rw [if_pos h2, show q.length + 2 + M = (q.length + 1 + M) + 1 by omega, PRF.proctorref20_May.j0, if_pos rfl]
  have : decide (l.length ≤ 4096) = false := decide_eq_false (by omega)
  rw [this]; simp
 rw [if_neg h2]
 have e1 : decide (q.length ≤ 4096) = true := decide_eq_true (by omega)
 have e2 : decide (l.length ≤ 4096) = true := decide_eq_true (by omega)
 by_cases h3 : tk < 0
 ·rw [if_pos h3, show q.length + 2 + M = (q.length + 1 + M) + 1 by omega, PRF.proctorref20_May.j0, if_pos rfl]
  have : decide (0 ≤ tk) = false := decide_eq_false (by omega)
  rw [this]; simp
 rw [if_neg h3]
 have e3 : decide (0 ≤ tk) = true := decide_eq_true (by omega)
 by_cases h4 : tk > (q.length : Int)
 ·rw [decide_eq_true h4, show q.length + 2 + M = (q.length + 1 + M) + 1 by omega, PRF.proctorref20_May.j0, if_pos rfl]
  have : decide (tk ≤ (q.length : Int)) = false := decide_eq_false (by omega)
  rw [this]; simp
 have e4 : decide (tk ≤ (q.length : Int)) = true := decide_eq_true (by omega)
 rw [decide_eq_false h4, show q.length + 2 + M = (q.length + 1 + M) + 1 by omega, PRF.proctorref20_May.j0, if_neg (by decide), e1, e2, e3, e4]
 have := key q.length 0 0 (by omega) (q.length + 1 + M) (Nat.le_refl _)
 rw [List.drop_zero] at this
 rw [show ((0 : Nat) : Int) = 0 from rfl] at this
 rw [this]
 rfl
theorem copy01_f (m : List Int) (h : m.length ≤ 140737488351232) : PRF.proctorref01_Copy.f m = some m := by
 rw [PRF.proctorref01_Copy.f]
 simp only [Option.bind_some, List.nil_append]
 rw [if_pos (by simp; omega)]
theorem copylist_ev (l : List (List Int)) (hl : l.length ≤ 5864062014800) (hm : ∀ m ∈ l, m.length ≤ 140737488351232) : ∀ k, l.length + 1 ≤ k → PRF.proctorref20_CopyList.f k l = some l := by
 have key : ∀ (d i : Nat), i + d = l.length → ∀ k, d + 1 ≤ k → PRF.proctorref20_CopyList.l0 k l (l.take i) (i : Int) = some l := by
  intro d
  induction d with
  | zero =>
   intro i h k hk
   obtain ⟨k, rfl⟩ : ∃ k', k = k' + 1 := ⟨k - 1, by omega⟩
   rw [PRF.proctorref20_CopyList.l0, if_neg (by omega), List.take_of_length_le (by omega)]
  | succ d ih =>
   intro i h k hk
   obtain ⟨k, rfl⟩ : ∃ k', k = k' + 1 := ⟨k - 1, by omega⟩
   have hi : i < l.length := by omega
   rw [PRF.proctorref20_CopyList.l0, if_pos (by omega), if_pos (by omega), rdL l i hi, copy01_f _ (hm _ (List.getElem_mem hi)), Option.bind_some, if_pos (by rw [List.length_take]; omega), w1_ i (by omega), ← List.take_succ_eq_append_getElem hi]
   exact ih (i + 1) (by omega) k (by omega)
 intro k hk
 have := key l.length 0 (by omega) k hk
 rw [List.take_zero] at this
 exact this
theorem copy20_ev (x : Box) (hq : x.q.length ≤ 4398046511100) (hl : x.l.length ≤ 5864062014800) (hqm : ∀ d ∈ x.q, d.f1.length ≤ 140737488351232) (hm : ∀ m ∈ x.l, m.length ≤ 140737488351232) : ∃ k, PRF.proctorref20_Copy.f k x.q x.tk x.l x.nx = some (x.q, x.tk, x.l, x.nx) := by
 obtain ⟨q, tk, l, nx⟩ := x
 dsimp only at *
 have key : ∀ (d i : Nat), i + d = q.length → ∀ k, d + 1 + (l.length + 1) ≤ k → PRF.proctorref20_Copy.l0 k (q.take i) (i : Int) q tk l nx = some (q, tk, l, nx) := by
  intro d
  induction d with
  | zero =>
   intro i h k hk
   obtain ⟨k, rfl⟩ : ∃ k', k = k' + 1 := ⟨k - 1, by omega⟩
   rw [PRF.proctorref20_Copy.l0, if_neg (by omega), List.take_of_length_le (by omega), copylist_ev l hl hm k (by omega)]
   rfl
  | succ d ih =>
   intro i h k hk
   obtain ⟨k, rfl⟩ : ∃ k', k = k' + 1 := ⟨k - 1, by omega⟩
   have hi : i < q.length := by omega
   rw [PRF.proctorref20_Copy.l0, if_pos (by omega), if_pos (by omega), rdQ q i hi, copy01_f _ (hqm _ (List.getElem_mem hi)), Option.bind_some, if_pos (by rw [List.length_take]; omega), w1_ i (by omega)]
   have e : q.take i ++ [(⟨q[i].f0, q[i].f1⟩ : SQ)] = q.take (i + 1) := (List.take_succ_eq_append_getElem hi).symm
   rw [e]
   exact ih (i + 1) (by omega) k (by omega)
 refine ⟨q.length + 1 + (l.length + 1), ?_⟩
 have := key q.length 0 (by omega) _ (Nat.le_refl _)
 rw [List.take_zero] at this
 exact this
theorem lists_ev2 (a b : List (List Int)) (hl : a.length ≤ 4611686018427387904) (ha : ∀ m ∈ a, K.Byt m) (hb : ∀ m ∈ b, K.Byt m) : ∀ k, a.length + 1 ≤ k → PRF.proctorref20_Lists.f k a b = some (eqL eqB a b) := by
 intro k hk
 unfold PRF.proctorref20_Lists.f
 by_cases h : (a.length : Int) = (b.length : Int)
 case neg => rw [if_neg h, eqL_len _ _ _ (by omega)]
 rw [if_pos h]
 have key : ∀ (d i : Nat), i + d = a.length → ∀ k, d + 1 ≤ k → PRF.proctorref20_Lists.l0 k a b (i : Int) = some (eqL eqB (a.drop i) (b.drop i)) := by
  intro d
  induction d with
  | zero =>
   intro i h k hk
   obtain ⟨k, rfl⟩ : ∃ k', k = k' + 1 := ⟨k - 1, by omega⟩
   rw [PRF.proctorref20_Lists.l0, if_neg (by omega), List.drop_of_length_le (by omega), List.drop_of_length_le (by omega)]
   rfl
  | succ d ih =>
   intro i h k hk
   obtain ⟨k, rfl⟩ : ∃ k', k = k' + 1 := ⟨k - 1, by omega⟩
   have hi : i < a.length := by omega
   have hi2 : i < b.length := by omega
   rw [PRF.proctorref20_Lists.l0, if_pos (by omega), if_pos (by omega), if_pos (by omega), rdL a i hi, rdL b i hi2, K.same01_f _ _ (ha _ (List.getElem_mem hi)) (hb _ (List.getElem_mem hi2)), Option.bind_some, eqL_drop _ _ _ _ hi hi2]
   by_cases he : a[i] = b[i]
   ·rw [decide_eq_true he, if_pos rfl, w1_ i (by omega), ih (i + 1) (by omega) k (by omega)]
    have : eqB a[i] b[i] = true := by rw [he]; exact beq_self_eq_true _
    rw [this]; rfl
   ·rw [decide_eq_false he, if_neg (by decide)]
    have : eqB a[i] b[i] = false := beq_eq_false_iff_ne.2 he
    rw [this]; rfl
 exact key a.length 0 (by omega) k hk
theorem same20_ev (x y : Box) (hx : BytB x) (hy : BytB y) (hq : x.q.length ≤ 4611686018427387904) (hl : x.l.length ≤ 4611686018427387904) :
 PRF.proctorref20_Same.f (x.q.length + x.l.length + 4) x.q x.tk x.l x.nx y.q y.tk y.l y.nx = some (sameI x y) := by
 have hbad : ∀ k, PRF.proctorref20_Same.j0 (k + 1) true x.q x.tk x.l x.nx y.q y.tk y.l y.nx = some false := fun k => by rw [PRF.proctorref20_Same.j0, if_pos rfl]
 unfold PRF.proctorref20_Same.f sameI
 rw [show x.q.length + x.l.length + 4 = (x.q.length + x.l.length + 3) + 1 by omega]
 by_cases h1 : (x.q.length : Int) = (y.q.length : Int)
 case neg =>
  rw [if_neg h1, hbad, eqL_len eqD _ _ (by omega)]
  simp
 rw [if_pos h1]
 by_cases h2 : x.tk = y.tk
 case neg =>
  rw [if_neg h2, hbad, beq_eq_false_iff_ne.2 h2]
  rfl
 rw [if_pos h2, h2, beq_self_eq_true, Bool.true_and]
 by_cases h3 : x.nx = y.nx
 case neg =>
  rw [show (x.nx != y.nx) = true by simpa using h3]
  rw [h2] at hbad
  rw [hbad, beq_eq_false_iff_ne.2 h3]
  rfl
 rw [show (x.nx != y.nx) = false by simpa using h3, PRF.proctorref20_Same.j0, if_neg (by decide), h3, beq_self_eq_true, Bool.true_and]
 have key : ∀ (d i : Nat), i + d = x.q.length → ∀ k, d + 2 + x.l.length ≤ k → PRF.proctorref20_Same.l0 k (i : Int) x.q y.tk x.l y.nx y.q y.tk y.l y.nx = some (eqL eqD (x.q.drop i) (y.q.drop i) && eqL eqB x.l y.l) := by
  intro d
  induction d with
  | zero =>
   intro i h k hk
   obtain ⟨k, rfl⟩ : ∃ k', k = k' + 1 := ⟨k - 1, by omega⟩
   rw [PRF.proctorref20_Same.l0, if_neg (by omega), lists_ev2 x.l y.l hl hx.2 hy.2 k (by omega), List.drop_of_length_le (by omega), List.drop_of_length_le (by omega)]
   rfl
  | succ d ih =>
   intro i h k hk
   obtain ⟨k, rfl⟩ : ∃ k', k = k' + 1 := ⟨k - 1, by omega⟩
   have hi : i < x.q.length := by omega
   have hi2 : i < y.q.length := by omega
   rw [PRF.proctorref20_Same.l0, if_pos (by omega), if_pos (by omega), if_pos (by omega), rdQ x.q i hi, rdQ y.q i hi2, eqL_drop _ _ _ _ hi hi2]
   by_cases hf : x.q[i].f0 = y.q[i].f0
   ·rw [if_pos hf, K.same01_f _ _ (hx.1 _ (List.getElem_mem hi)) (hy.1 _ (List.getElem_mem hi2)), Option.bind_some]
    by_cases he : x.q[i].f1 = y.q[i].f1
    ·rw [decide_eq_true he, if_pos rfl, w1_ i (by omega), ih (i + 1) (by omega) k (by omega)]
     have : eqD x.q[i] y.q[i] = true := by unfold eqD; rw [hf, he, beq_self_eq_true, beq_self_eq_true]; rfl
     rw [this]; rfl
    ·rw [decide_eq_false he, if_neg (by decide)]
     have : eqD x.q[i] y.q[i] = false := by unfold eqD; rw [beq_eq_false_iff_ne.2 he, Bool.and_false]
     rw [this]; rfl
   ·rw [if_neg hf]
    have : eqD x.q[i] y.q[i] = false := by unfold eqD; rw [beq_eq_false_iff_ne.2 hf, Bool.false_and]
    rw [this]; rfl
 exact key x.q.length 0 (by omega) _ (by omega)
theorem rsame_any (x y : Box) (A1 A2 A3 A4 : Option Addr) (c1 c2 c3 c4 : Nat) (w : World) (h1 : Kd.C kQ w A1 x.q.length x.q) (h2 : Kd.C kL w A2 x.l.length x.l) (h3 : Kd.C kQ w A3 y.q.length y.q) (h4 : Kd.C kL w A4 y.l.length y.l)
 (k1 : x.q.length ≤ c1) (k2 : x.l.length ≤ c2) (k3 : y.q.length ≤ c3) (k4 : y.l.length ≤ c4) (hx : BytB x) (hy : BytB y) (hq : x.q.length ≤ 4611686018427387904) (hl : x.l.length ≤ 4611686018427387904) :
 Calls Try.prog 46 #[.agg #[.slice A1 x.q.length c1, .int .i64 x.tk, .slice A2 x.l.length c2, .int .u64 x.nx], .agg #[.slice A3 y.q.length c3, .int .i64 y.tk, .slice A4 y.l.length c4, .int .u64 y.nx]] w fun e w' => e = .returned (.bool (sameI x y)) ∧ Below w.heap.size w w' :=
 PRF.proctorref20_Same.calls _ A1 c1 x.q x.tk A2 c2 x.l x.nx A3 c3 y.q y.tk A4 c4 y.l y.nx _ w h1 k1 h2 k2 h3 k3 h4 k4 (same20_ev x y hx hy hq hl)
theorem sameI_refl (x : Box) : sameI x x = true := by
 unfold sameI
 rw [eqL_refl (fun d => by unfold eqD; rw [beq_self_eq_true, beq_self_eq_true]; rfl), eqL_refl (fun d => show eqB d d = true by simp [eqB]), beq_self_eq_true, beq_self_eq_true]
 rfl
end Go.Proofs.Ytocphkfkdadhaaa.H
