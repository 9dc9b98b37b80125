import Derived.Test.YtocphkfkdadhaaaZPk2
import Derived.Test.YtocphkfkdadhaaaZPk3
import Derived.Test.YtocphkfkdadhaaaZPk5
set_option maxHeartbeats 8000000
set_option linter.unusedVariables false
set_option linter.unusedSimpArgs false
set_option maxRecDepth 100000
namespace Go.Proofs.Ytocphkfkdadhaaa.PRF
open Go.RowKit Go.Proofs.YtocphkfkdadhaaaW.PrintWords Go.Proofs.YtocphkfkdadhaaaW.PrintLast Go.Proofs.YtocphkfkdadhaaaW.PrintMore
attribute [local go_sem] max2_int min2_int max_two min_two max_three min_three max_four min_four
mutual
def proctorref02_form.j2 : Nat → Int → Int → Bool → Bool → List Int → List (S159) → Option (List Int × Bool)
 | 0, _, _, _, _, _, _ => none
 | k + 1, x1, x2, x61, x268000, x268001, x268002 => if x61 = true then (some (([] : List Int), false)) else (proctorref02_form.l0 k x1 x2 ([] : List Int) 0 x268000 x268001 x268002)
def proctorref02_form.l0 : Nat → Int → Int → List Int → Int → Bool → List Int → List (S159) → Option (List Int × Bool)
 | 0, _, _, _, _, _, _, _ => none
 | k + 1, x1, x2, x8, x9, x268000, x268001, x268002 => if x9 < (x268002.length : Int) then (if 0 ≤ x9 then ((proctorref02_form.f k ((rd_T159 x268002 x9).f0) ((rd_T159 x268002 x9).f1) ((rd_T159 x268002 x9).f2) (wrap64 (x1 - (x8.length : Int))) (wrap64 (x2 - 1))).bind fun bt279 => (if bt279.2 = true then (if (wrap64 ((x8.length : Int) + (bt279.1.length : Int))) > x1 then (some (([] : List Int), false)) else (if x8.length + bt279.1.length < 140737488355328 then (proctorref02_form.l0 k x1 x2 (x8 ++ bt279.1) (wrap64 (x9 + 1)) x268000 x268001 x268002) else (none))) else (some (([] : List Int), false)))) else (none)) else ((proctorref02_head.f k 192 (x8.length : Int)).bind fun t286 => (if t286.length + x8.length < 140737488355328 then (some ((t286 ++ x8), true)) else (none)))
def proctorref02_form.j0 : Nat → Bool → Bool → List Int → List (S159) → Option (List Int × Bool)
 | 0, _, _, _, _ => none
 | k + 1, x25, x268000, x268001, x268002 => if x25 = true then (some (([] : List Int), false)) else (if (x268001.length : Int) = 1 then (if 0 < (x268001.length : Int) then (proctorref02_form.j1 k (decide ((rd x268001 0) < 128)) x268000 x268001 x268002) else (none)) else (proctorref02_form.j1 k false x268000 x268001 x268002))
def proctorref02_form.j1 : Nat → Bool → Bool → List Int → List (S159) → Option (List Int × Bool)
 | 0, _, _, _, _ => none
 | k + 1, x36, x268000, x268001, x268002 => if x36 = true then ((proctorref01_Copy.f x268001).bind fun t269 => (some (t269, true))) else ((proctorref02_head.f k 128 (x268001.length : Int)).bind fun t272 => (if t272.length + x268001.length < 140737488355328 then (some ((t272 ++ x268001), true)) else (none)))
def proctorref02_form.f : Nat → Bool → List Int → List (S159) → Int → Int → Option (List Int × Bool)
 | 0, _, _, _, _, _ => none
 | k + 1, a0_0, l0_1, l0_2, a1, a2 => if a0_0 = true then (if (l0_1.length : Int) > 0 then (proctorref02_form.j2 k a1 a2 true a0_0 l0_1 l0_2) else (if a2 = 0 then (proctorref02_form.j2 k a1 a2 true a0_0 l0_1 l0_2) else (proctorref02_form.j2 k a1 a2 (decide ((l0_2.length : Int) > a1)) a0_0 l0_1 l0_2))) else (if (l0_2.length : Int) > 0 then (proctorref02_form.j0 k true a0_0 l0_1 l0_2) else (proctorref02_form.j0 k (decide ((l0_1.length : Int) > a1)) a0_0 l0_1 l0_2))
end
def proctorref02_form.T6 : Bool × List (List Nat × List Nat) := (true, [([], []), ([0], [0]), ([1], [1]), ([2], [2]), ([], []), ([4], [4]), ([3, 5, 3], [3, 5]), ([6, 6, 0, 1, 2, 3, 4, 5, 6], [6]), ([7, 0, 1, 2, 3, 4, 5, 6, 7], [])])
def proctorref02_form.B6 : List Nat := [0, 1, 3, 7, 0, 16, 63, 127, 255]
theorem proctorref02_form.tab6 : rtab .any (opsOf Try.f142 6) = proctorref02_form.T6 := by kernel_rfl
theorem proctorref02_form.bits6 : waitsOk proctorref02_form.T6.2 proctorref02_form.B6 = true := by kernel_rfl
theorem proctorref02_form.calls (k : Nat) : ∀ (a0_0 : Bool) (A0_1 : Option Addr) (c0_1 : Nat) (l0_1 : List Int) (A0_2 : Option Addr) (c0_2 : Nat) (l0_2 : List (S159)) (a1 : Int) (a2 : Int) (r1 : List Int) (r2 : Bool) (w : World) (hr0_1 : Kd.C (Kd.int .u8) w A0_1 l0_1.length l0_1) (hc0_1 : l0_1.length ≤ c0_1) (hr0_2 : Kd.C k159 w A0_2 l0_2.length l0_2) (hc0_2 : l0_2.length ≤ c0_2) (h : proctorref02_form.f k a0_0 l0_1 l0_2 a1 a2 = some (r1, r2)),
 Calls Try.prog 142 #[.agg #[.bool a0_0, .slice A0_1 l0_1.length c0_1, .slice A0_2 l0_2.length c0_2], .int .i64 a1, .int .i64 a2] w fun e w' => ∃ v0_ : Value, e = .returned (.tuple #[v0_, .bool r2]) ∧ Kd.R (Kd.int .u8) 5 w' w.heap.size (fun _ => True) v0_ r1 ∧ Below w.heap.size w w' := by
 induction k using Nat.strongRecOn with
 | _ k ih =>
 intro a0_0 A0_1 c0_1 l0_1 A0_2 c0_2 l0_2 a1 a2 r1 r2 w hr0_1 hc0_1 hr0_2 hc0_2 h
 cases k with
 | zero => exact absurd h (by simp [proctorref02_form.f])
 | succ k =>
 simp only [proctorref02_form.f] at h
 have hu159 := Try.underlying159
 have HR0_1 := Aside0.mk hr0_1
 have HC0_1 := Aside0.mk hc0_1
 clear hr0_1 hc0_1
 have HR0_2 := Aside0.mk hr0_2
 have HC0_2 := Aside0.mk hc0_2
 clear hr0_2 hc0_2
 have HB := Aside0.mk (Below.refl w.heap.size w)
 have H : (if a0_0 = true then (if (l0_1.length : Int) > 0 then (proctorref02_form.j2 k a1 a2 true a0_0 l0_1 l0_2) else (if a2 = 0 then (proctorref02_form.j2 k a1 a2 true a0_0 l0_1 l0_2) else (proctorref02_form.j2 k a1 a2 (decide ((l0_2.length : Int) > a1)) a0_0 l0_1 l0_2))) else (if (l0_2.length : Int) > 0 then (proctorref02_form.j0 k true a0_0 l0_1 l0_2) else (proctorref02_form.j0 k (decide ((l0_1.length : Int) > a1)) a0_0 l0_1 l0_2))) = some (r1, r2) := h
 clear h
 by_cases c4 : a0_0 = true
 ·subst c4
  have H1 : (if (l0_1.length : Int) > 0 then (proctorref02_form.j2 k a1 a2 true true l0_1 l0_2) else (if a2 = 0 then (proctorref02_form.j2 k a1 a2 true true l0_1 l0_2) else (proctorref02_form.j2 k a1 a2 (decide ((l0_2.length : Int) > a1)) true l0_1 l0_2))) = some (r1, r2) := by rw [if_pos rfl] at H; exact H
  clear H
  have H := H1
  clear H1
  have HC5 := Aside0.mk H
  clear H
  go_enter Try.func142, Try.ntmps142
  go_upto_region 7 with (first | ((with_reducible refine gate_dst (N := 3) rfl ?_); (try (refine gate_guard (by rfl) ?_; dsimp only)); refine zx 3 #[.bool true, .slice A0_1 l0_1.length c0_1, .slice A0_2 l0_2.length c0_2] 159 ?_; intro gb267 hg w6 hbox hb; have BK267 := Aside0.mk (hbox); have GW267 := Aside0.mk ((zG hg HB)); have GE267 := Aside0.mk ((zG hg HB)); replace HB := Aside0.mk (below_step (zB HB) hb); clear hb hbox hg; have hcz7_0 : w6.cell? ⟨gb267, 0, none⟩ = some (.bool true) := (blk_cell BK267.out 0).trans rfl; have hcz7_1 : w6.cell? ⟨gb267, 1, none⟩ = some (.slice A0_1 l0_1.length c0_1) := (blk_cell BK267.out 1).trans rfl; have hcz7_2 : w6.cell? ⟨gb267, 2, none⟩ = some (.slice A0_2 l0_2.length c0_2) := (blk_cell BK267.out 2).trans rfl; have hfz7_0 := blk_frozen BK267.out 0; have hfz7_1 := blk_frozen BK267.out 1; have hfz7_2 := blk_frozen BK267.out 2))
  (try simp only [Act.put, List.setIfInBounds_toArray, List.set_cons_zero, List.set_cons_succ])
  go_cut [61] (fun v61 wc => ∃ (kq : Nat) (x61_4 : Bool), v61 = .bool x61_4 ∧ Aside0 (proctorref02_form.j2 kq a1 a2 x61_4 true l0_1 l0_2 = some (r1, r2)) ∧ Aside0 (kq ≤ k) ∧ Aside0 (wc.heap[gb267]? = some (.cells #[.bool true, (.slice A0_1 l0_1.length c0_1), (.slice A0_2 l0_2.length c0_2)] 159 (0, 0))) ∧ Aside0 (Below w.heap.size w wc))
  case first =>
   have H := HC5.out
   clear HC5
   by_cases c8 : (l0_1.length : Int) > 0
   ·rw [if_pos c8] at H
    have c8b0 : decide (0 < (l0_1.length : Int)) = true := decide_eq_true c8
    have c8b1 : decide (0 < l0_1.length) = true := decide_eq_true (by omega)
    clear c8
    (first | rw [c8b0] | (simp only [i64_w, i32_w]; rw [c8b0]) | skip)
    have H' := Aside0.mk H
    clear H
    have hcz9_0 : w6.cell? ⟨gb267, 0, none⟩ = some (.bool true) := (blk_cell BK267.out 0).trans rfl
    have hcz9_1 : w6.cell? ⟨gb267, 1, none⟩ = some (.slice A0_1 l0_1.length c0_1) := (blk_cell BK267.out 1).trans rfl
    have hcz9_2 : w6.cell? ⟨gb267, 2, none⟩ = some (.slice A0_2 l0_2.length c0_2) := (blk_cell BK267.out 2).trans rfl
    have hfz9_0 := blk_frozen BK267.out 0
    have hfz9_1 := blk_frozen BK267.out 1
    have hfz9_2 := blk_frozen BK267.out 2
    go_wp2
    go_meet
    case rel => exact ⟨_, (true), zX, H', ⟨by first | omega | exact Nat.le_refl _⟩, ⟨zK BK267⟩, ⟨zB1 HB GE267⟩⟩
   ·rw [if_neg c8] at H
    have c8b0 : decide (0 < (l0_1.length : Int)) = false := decide_eq_false c8
    have c8b1 : decide (0 < l0_1.length) = false := decide_eq_false (by omega)
    clear c8
    (first | rw [c8b0] | (simp only [i64_w, i32_w]; rw [c8b0]) | skip)
    by_cases c10 : a2 = 0
    ·rw [if_pos c10] at H
     have c10b0 : (a2 == 0) = true := beq_iff_eq.mpr c10
     have c10b1 : (a2 != 0) = false := bne_eq_false_iff_eq.mpr c10
     clear c10
     have H' := Aside0.mk H
     clear H
     have hcz11_0 : w6.cell? ⟨gb267, 0, none⟩ = some (.bool true) := (blk_cell BK267.out 0).trans rfl
     have hcz11_1 : w6.cell? ⟨gb267, 1, none⟩ = some (.slice A0_1 l0_1.length c0_1) := (blk_cell BK267.out 1).trans rfl
     have hcz11_2 : w6.cell? ⟨gb267, 2, none⟩ = some (.slice A0_2 l0_2.length c0_2) := (blk_cell BK267.out 2).trans rfl
     have hfz11_0 := blk_frozen BK267.out 0
     have hfz11_1 := blk_frozen BK267.out 1
     have hfz11_2 := blk_frozen BK267.out 2
     go_wp2
     go_meet
     case rel => exact ⟨_, (true), zX, H', ⟨by first | omega | exact Nat.le_refl _⟩, ⟨zK BK267⟩, ⟨zB1 HB GE267⟩⟩
    ·rw [if_neg c10] at H
     have c10b0 : (a2 == 0) = false := beq_eq_false_iff_ne.mpr c10
     have c10b1 : (a2 != 0) = true := bne_iff_ne.mpr c10
     have H' := Aside0.mk H
     clear H
     have hcz12_0 : w6.cell? ⟨gb267, 0, none⟩ = some (.bool true) := (blk_cell BK267.out 0).trans rfl
     have hcz12_1 : w6.cell? ⟨gb267, 1, none⟩ = some (.slice A0_1 l0_1.length c0_1) := (blk_cell BK267.out 1).trans rfl
     have hcz12_2 : w6.cell? ⟨gb267, 2, none⟩ = some (.slice A0_2 l0_2.length c0_2) := (blk_cell BK267.out 2).trans rfl
     have hfz12_0 := blk_frozen BK267.out 0
     have hfz12_1 := blk_frozen BK267.out 1
     have hfz12_2 := blk_frozen BK267.out 2
     go_wp2
     go_meet
     case rel => exact ⟨_, (decide ((l0_2.length : Int) > a1)), zX, H', ⟨by first | omega | exact Nat.le_refl _⟩, ⟨zK BK267⟩, ⟨zB1 HB GE267⟩⟩
  case rest =>
   clear HC5
   try clear hcz7_0
   try clear hcz7_1
   try clear hcz7_2
   try clear hfz7_0
   try clear hfz7_1
   try clear hfz7_2
   obtain ⟨kq, x61_4, rfl, HA, HJ4, BK267, HB⟩ := hcut
   cases kq with
   | zero => exact absurd HA.out (by simp [proctorref02_form.j2])
   | succ kj4 =>
    have H := HA.out
    clear HA
    simp only [proctorref02_form.j2] at H
    by_cases c13 : x61_4 = true
    ·subst c13
     have H1 : (some (([] : List Int), false)) = some (r1, r2) := by rw [if_pos rfl] at H; exact H
     clear H
     have H := H1
     clear H1
     simp only [Option.some.injEq, Prod.mk.injEq] at H
     obtain ⟨rfl, rfl⟩ := H
     go_wp2
     go_ret2
     exact ⟨_, zE, zL, zB1 HB GE267⟩
    ·replace c13 := Bool.eq_false_iff.mpr c13
     subst c13
     have H1 : (proctorref02_form.l0 kj4 a1 a2 ([] : List Int) 0 true l0_1 l0_2) = some (r1, r2) := by rw [if_neg (show ¬ (false = true) by decide)] at H; exact H
     clear H
     have H := H1
     clear H1
     have H' := Aside0.mk H
     clear H
     go_wp2
     go_loopg [8, 9] kj4 (fun kq v8 v9 w' => ∃ (x8_2 : List Int) (x9_2 : Int), v9 = .int .i64 x9_2 ∧ Aside0 (proctorref02_form.l0 kq a1 a2 x8_2 x9_2 true l0_1 l0_2 = some (r1, r2)) ∧ Aside0 (kq ≤ kj4) ∧ Aside0 (Kd.R (Kd.int .u8) 5 w' w.heap.size (fun _ => True) v8 x8_2) ∧ Aside0 (w'.heap[gb267]? = some (.cells #[.bool true, (.slice A0_1 l0_1.length c0_1), (.slice A0_2 l0_2.length c0_2)] 159 (0, 0))) ∧ Aside0 (Below w.heap.size w w'))
     case atStart => exact ⟨(([] : List Int)), (0), zX, H', ⟨Nat.le_refl _⟩, ⟨zL⟩, ⟨zK BK267⟩, ⟨zB1 HB GE267⟩⟩
     case round =>
      clear H'
      obtain ⟨x8_2, x9_2, rfl, HA, HK2, HO_8, BK267, HB⟩ := hrel
      cases gk with
      | zero => exact absurd HA.out (by simp [proctorref02_form.l0])
      | succ k2 =>
       have H := HA.out
       clear HA
       simp only [proctorref02_form.l0] at H
       by_cases c14 : x9_2 < (l0_2.length : Int)
       ·rw [if_pos c14] at H
        have c14b0 : decide (x9_2 < (l0_2.length : Int)) = true := decide_eq_true c14
        clear c14
        by_cases c15 : 0 ≤ x9_2
        ·rw [if_pos c15] at H
         have c15b0 : decide (0 ≤ x9_2) = true := decide_eq_true c15
         clear c15
         replace H := Option.bind_eq_some_iff.mp H
         obtain ⟨⟨t279, t282⟩, A160, H⟩ := H
         replace H : (if t282 = true then (if (wrap64 ((x8_2.length : Int) + (t279.length : Int))) > a1 then (some (([] : List Int), false)) else (if x8_2.length + t279.length < 140737488355328 then (proctorref02_form.l0 k2 a1 a2 (x8_2 ++ t279) (wrap64 (x9_2 + 1)) true l0_1 l0_2) else (none))) else (some (([] : List Int), false))) = some (r1, r2) := H
         have A16 := Aside0.mk A160
         clear A160
         by_cases c17 : t282 = true
         ·subst c17
          have H1 : (if (wrap64 ((x8_2.length : Int) + (t279.length : Int))) > a1 then (some (([] : List Int), false)) else (if x8_2.length + t279.length < 140737488355328 then (proctorref02_form.l0 k2 a1 a2 (x8_2 ++ t279) (wrap64 (x9_2 + 1)) true l0_1 l0_2) else (none))) = some (r1, r2) := by rw [if_pos rfl] at H; exact H
          clear H
          have H := H1
          clear H1
          by_cases c18 : (wrap64 ((x8_2.length : Int) + (t279.length : Int))) > a1
          ·rw [if_pos c18] at H
           have c18b0 : decide (a1 < (wrap64 ((x8_2.length : Int) + (t279.length : Int)))) = true := decide_eq_true c18
           clear c18
           simp only [Option.some.injEq, Prod.mk.injEq] at H
           obtain ⟨rfl, rfl⟩ := H
           have hcz19_0 : wr.cell? ⟨gb267, 0, none⟩ = some (.bool true) := (blk_cell BK267.out 0).trans rfl
           have hcz19_1 : wr.cell? ⟨gb267, 1, none⟩ = some (.slice A0_1 l0_1.length c0_1) := (blk_cell BK267.out 1).trans rfl
           have hcz19_2 : wr.cell? ⟨gb267, 2, none⟩ = some (.slice A0_2 l0_2.length c0_2) := (blk_cell BK267.out 2).trans rfl
           have hfz19_0 := blk_frozen BK267.out 0
           have hfz19_1 := blk_frozen BK267.out 1
           have hfz19_2 := blk_frozen BK267.out 2
           have p278 : 0 ≤ (x9_2 : Int) := of_decide_eq_true zA
           have q278 : x9_2 < (l0_2.length : Int) := of_decide_eq_true zA
           obtain ⟨ad278, A278_1, c278_1, A278_2, c278_2, e278, hx278_0, hx278_1, hx278_2, hl278_1, hi278_1, hl278_2, hi278_2⟩ := at_T159 HR0_2.out x9_2 p278 q278
           cases e278
           replace hx278_0 := (HB.out.cell (World.block_lt_of_cell? w _ hx278_0)).trans hx278_0
           replace hx278_1 := (HB.out.cell (World.block_lt_of_cell? w _ hx278_1)).trans hx278_1
           replace hx278_2 := (HB.out.cell (World.block_lt_of_cell? w _ hx278_2)).trans hx278_2
           have HR278_1 := Aside0.mk hi278_1
           have HC278_1 := Aside0.mk hl278_1
           clear hi278_1 hl278_1
           have HR278_2 := Aside0.mk hi278_2
           have HC278_2 := Aside0.mk hl278_2
           clear hi278_2 hl278_2
           replace p278 := eq_true p278
           replace q278 := eq_true q278
           obtain ⟨Ao20, co20, eo20⟩ := Kd.R_slice HO_8.out
           subst eo20
           go_wp2_with (first | ((with_reducible refine gate_callee (f := 142) rfl ?_); refine goesL_ (some 81) rfl rfl Try.func142 (by kernel_rfl) rfl #[.agg #[.bool ((rd_T159 l0_2 x9_2).f0), .slice A278_1 ((rd_T159 l0_2 x9_2).f1).length c278_1, .slice A278_2 ((rd_T159 l0_2 x9_2).f2).length c278_2], .int .i64 (wrap64 (a1 - (x8_2.length : Int))), .int .i64 (wrap64 (a2 - 1))] rfl zM ?_; (with_reducible refine (ih k2 (by have := HJ4.out; have := HK2.out; omega) ((rd_T159 l0_2 x9_2).f0) _ _ ((rd_T159 l0_2 x9_2).f1) _ _ ((rd_T159 l0_2 x9_2).f2) (wrap64 (a1 - (x8_2.length : Int))) (wrap64 (a2 - 1)) t279 true _ ?side1 ?side2 ?side3 ?side4 A16.out).mono ?_); (case side1 => exact zY (Kd.C_below HR278_1.out HB.out)); (case side2 => exact HC278_1.out); (case side3 => exact zY (Kd.C_below HR278_2.out HB.out)); (case side4 => exact HC278_2.out); rintro e w21 ⟨v280, rfl, ho0, hb⟩; refine ⟨_, rfl, ?_⟩; have HO281 := Aside0.mk (Kd.R_lower (Kd.R_new' ho0 (Kd.R_lt (zR HO_8))) (below_size (zB1 HB GE267))); replace HO_8 := Aside0.mk (Kd.R_elder' (zR HO_8) (Kd.R_base ho0) hb); replace BK267 := Aside0.mk (zb BK267 hb); replace HB := Aside0.mk (below_step (zB1 HB GE267) hb); (try clear hb); (try clear ho0); obtain ⟨Ao22, co22, eo22⟩ := Kd.R_slice HO281.out; subst eo22))
           go_ret2
           exact ⟨_, zE, zL, zB1 HB GE267⟩
          ·rw [if_neg c18] at H
           have c18b0 : decide (a1 < (wrap64 ((x8_2.length : Int) + (t279.length : Int)))) = false := decide_eq_false c18
           clear c18
           by_cases c23 : x8_2.length + t279.length < 140737488355328
           ·rw [if_pos c23] at H
            have LMc23 := Aside0.mk c23
            clear c23
            obtain ⟨y283, hy283⟩ : ∃ y_ : List Int, y_ = (x8_2 ++ t279) := ⟨_, rfl⟩
            replace H : (proctorref02_form.l0 k2 a1 a2 y283 (wrap64 (x9_2 + 1)) true l0_1 l0_2) = some (r1, r2) := by first | (rw [hy283]; with_reducible exact H) | (have H2_ := (Option.bind_some _ _).symm.trans H; rw [hy283]; with_reducible exact H2_) | (have H2_ := (Option.bind_some _ _).symm.trans H; with_reducible exact H2_) | with_reducible exact H | (rw [hy283]; exact H) | exact H
            have Ny283 := Aside0.mk hy283
            clear hy283
            have H' := Aside0.mk H
            clear H
            have hcz24_0 : wr.cell? ⟨gb267, 0, none⟩ = some (.bool true) := (blk_cell BK267.out 0).trans rfl
            have hcz24_1 : wr.cell? ⟨gb267, 1, none⟩ = some (.slice A0_1 l0_1.length c0_1) := (blk_cell BK267.out 1).trans rfl
            have hcz24_2 : wr.cell? ⟨gb267, 2, none⟩ = some (.slice A0_2 l0_2.length c0_2) := (blk_cell BK267.out 2).trans rfl
            have hfz24_0 := blk_frozen BK267.out 0
            have hfz24_1 := blk_frozen BK267.out 1
            have hfz24_2 := blk_frozen BK267.out 2
            have p278 : 0 ≤ (x9_2 : Int) := of_decide_eq_true zA
            have q278 : x9_2 < (l0_2.length : Int) := of_decide_eq_true zA
            obtain ⟨ad278, A278_1, c278_1, A278_2, c278_2, e278, hx278_0, hx278_1, hx278_2, hl278_1, hi278_1, hl278_2, hi278_2⟩ := at_T159 HR0_2.out x9_2 p278 q278
            cases e278
            replace hx278_0 := (HB.out.cell (World.block_lt_of_cell? w _ hx278_0)).trans hx278_0
            replace hx278_1 := (HB.out.cell (World.block_lt_of_cell? w _ hx278_1)).trans hx278_1
            replace hx278_2 := (HB.out.cell (World.block_lt_of_cell? w _ hx278_2)).trans hx278_2
            have HR278_1 := Aside0.mk hi278_1
            have HC278_1 := Aside0.mk hl278_1
            clear hi278_1 hl278_1
            have HR278_2 := Aside0.mk hi278_2
            have HC278_2 := Aside0.mk hl278_2
            clear hi278_2 hl278_2
            replace p278 := eq_true p278
            replace q278 := eq_true q278
            obtain ⟨Ao25, co25, eo25⟩ := Kd.R_slice HO_8.out
            subst eo25
            go_wp2_with (first | ((with_reducible refine gate_callee (f := 142) rfl ?_); refine goesL_ (some 81) rfl rfl Try.func142 (by kernel_rfl) rfl #[.agg #[.bool ((rd_T159 l0_2 x9_2).f0), .slice A278_1 ((rd_T159 l0_2 x9_2).f1).length c278_1, .slice A278_2 ((rd_T159 l0_2 x9_2).f2).length c278_2], .int .i64 (wrap64 (a1 - (x8_2.length : Int))), .int .i64 (wrap64 (a2 - 1))] rfl zM ?_; (with_reducible refine (ih k2 (by have := HJ4.out; have := HK2.out; omega) ((rd_T159 l0_2 x9_2).f0) _ _ ((rd_T159 l0_2 x9_2).f1) _ _ ((rd_T159 l0_2 x9_2).f2) (wrap64 (a1 - (x8_2.length : Int))) (wrap64 (a2 - 1)) t279 true _ ?side1 ?side2 ?side3 ?side4 A16.out).mono ?_); (case side1 => exact zY (Kd.C_below HR278_1.out HB.out)); (case side2 => exact HC278_1.out); (case side3 => exact zY (Kd.C_below HR278_2.out HB.out)); (case side4 => exact HC278_2.out); rintro e w26 ⟨v280, rfl, ho0, hb⟩; refine ⟨_, rfl, ?_⟩; have HO281 := Aside0.mk (Kd.R_lower (Kd.R_new' ho0 (Kd.R_lt (zR HO_8))) (below_size (zB1 HB GE267))); replace HO_8 := Aside0.mk (Kd.R_elder' (zR HO_8) (Kd.R_base ho0) hb); replace BK267 := Aside0.mk (zb BK267 hb); replace HB := Aside0.mk (below_step (zB1 HB GE267) hb); (try clear hb); (try clear ho0); obtain ⟨Ao27, co27, eo27⟩ := Kd.R_slice HO281.out; subst eo27) | ((with_reducible refine gate_builtin (b := .append) (xs := #[.tmp 95, .tmp 96]) rfl ?_); (try (refine gate_guard (by rfl) ?_; dsimp only)); at_builtin; refine Kd.R_append_rows (Kd.int .u8) (w0 := w) w.heap.size rfl (.tmp 95) (.tmp 96) 74 5 (.int .u8 0) 1 rfl Try.underlying74 info5 rfl (by decide) (by omega) (.slice Ao25 x8_2.length co25) x8_2 t279 _ _ _ (fun k_ => some k_ ≠ (.slice Ao27 t279.length co27 : Value).ownBlock) (fun _ => False) rfl rfl ?aO ?aR (fun _ _ h => h) (fun _ h => h.elim) ?aF ?aB ?aS ?aL ?_; (case aR => repeat (first | exact (Kd.R_reads' HO281.out).2.2 | (with_reducible refine Kd.C_alloc ?_ _) | (with_reducible refine Kd.C_drewN ?_ _) | (with_reducible refine Kd.C_drew ?_))); (case aB => exact (zB1 HB GE267)); (case aF => exact (fun k_ hk => Kd.fresh' (Kd.R_lt (zR HO281)) k_ hk)); (case aO => exact (by (with_reducible repeat (first | apply Kd.R_alloc | apply Kd.R_drewN | apply Kd.R_drew)); exact Kd.R_mono HO_8.out (fun _ hk => hk.2))); (case aS => exact (below_size (zB1 HB GE267))); (case aL => have := LMc23.out; omega); intro v284 w28 ho hb hg hat; rw [← Ny283.out] at ho; have HO285 := Aside0.mk (ho); replace BK267 := Aside0.mk (blk_grown (g := gb267) (o := .cells #[.bool true, .slice A0_1 l0_1.length c0_1, .slice (some ad278) l0_2.length c0_2] 159 (0, 0)) (zK BK267) hg (Kd.R_ne HO_8.out BK267.out (by decide))); replace HO281 := Aside0.mk (Kd.R_after (ok := (fun _ => True)) (zR HO281) hg hat); replace HB := Aside0.mk (hb); clear HO_8; clear ho hb hg hat))
            go_roundg k2
            case measure => have := HJ4.out; have := HK2.out; omega
            case rel => exact ⟨(y283), (wrap64 (x9_2 + 1)), zX, H', ⟨by have := HJ4.out; have := HK2.out; omega⟩, ⟨by (with_reducible repeat (first | apply Kd.R_alloc | apply Kd.R_drewN | apply Kd.R_drew)); exact Kd.R_mono HO285.out (fun _ hk => trivial)⟩, ⟨zK BK267⟩, ⟨zB1 HB GE267⟩⟩
           ·rw [if_neg c23] at H
            exact absurd H (by simp)
         ·replace c17 := Bool.eq_false_iff.mpr c17
          subst c17
          have H1 : (some (([] : List Int), false)) = some (r1, r2) := by rw [if_neg (show ¬ (false = true) by decide)] at H; exact H
          clear H
          have H := H1
          clear H1
          simp only [Option.some.injEq, Prod.mk.injEq] at H
          obtain ⟨rfl, rfl⟩ := H
          have hcz29_0 : wr.cell? ⟨gb267, 0, none⟩ = some (.bool true) := (blk_cell BK267.out 0).trans rfl
          have hcz29_1 : wr.cell? ⟨gb267, 1, none⟩ = some (.slice A0_1 l0_1.length c0_1) := (blk_cell BK267.out 1).trans rfl
          have hcz29_2 : wr.cell? ⟨gb267, 2, none⟩ = some (.slice A0_2 l0_2.length c0_2) := (blk_cell BK267.out 2).trans rfl
          have hfz29_0 := blk_frozen BK267.out 0
          have hfz29_1 := blk_frozen BK267.out 1
          have hfz29_2 := blk_frozen BK267.out 2
          have p278 : 0 ≤ (x9_2 : Int) := of_decide_eq_true zA
          have q278 : x9_2 < (l0_2.length : Int) := of_decide_eq_true zA
          obtain ⟨ad278, A278_1, c278_1, A278_2, c278_2, e278, hx278_0, hx278_1, hx278_2, hl278_1, hi278_1, hl278_2, hi278_2⟩ := at_T159 HR0_2.out x9_2 p278 q278
          cases e278
          replace hx278_0 := (HB.out.cell (World.block_lt_of_cell? w _ hx278_0)).trans hx278_0
          replace hx278_1 := (HB.out.cell (World.block_lt_of_cell? w _ hx278_1)).trans hx278_1
          replace hx278_2 := (HB.out.cell (World.block_lt_of_cell? w _ hx278_2)).trans hx278_2
          have HR278_1 := Aside0.mk hi278_1
          have HC278_1 := Aside0.mk hl278_1
          clear hi278_1 hl278_1
          have HR278_2 := Aside0.mk hi278_2
          have HC278_2 := Aside0.mk hl278_2
          clear hi278_2 hl278_2
          replace p278 := eq_true p278
          replace q278 := eq_true q278
          obtain ⟨Ao30, co30, eo30⟩ := Kd.R_slice HO_8.out
          subst eo30
          go_wp2_with (first | ((with_reducible refine gate_callee (f := 142) rfl ?_); refine goesL_ (some 81) rfl rfl Try.func142 (by kernel_rfl) rfl #[.agg #[.bool ((rd_T159 l0_2 x9_2).f0), .slice A278_1 ((rd_T159 l0_2 x9_2).f1).length c278_1, .slice A278_2 ((rd_T159 l0_2 x9_2).f2).length c278_2], .int .i64 (wrap64 (a1 - (x8_2.length : Int))), .int .i64 (wrap64 (a2 - 1))] rfl zM ?_; (with_reducible refine (ih k2 (by have := HJ4.out; have := HK2.out; omega) ((rd_T159 l0_2 x9_2).f0) _ _ ((rd_T159 l0_2 x9_2).f1) _ _ ((rd_T159 l0_2 x9_2).f2) (wrap64 (a1 - (x8_2.length : Int))) (wrap64 (a2 - 1)) t279 false _ ?side1 ?side2 ?side3 ?side4 A16.out).mono ?_); (case side1 => exact zY (Kd.C_below HR278_1.out HB.out)); (case side2 => exact HC278_1.out); (case side3 => exact zY (Kd.C_below HR278_2.out HB.out)); (case side4 => exact HC278_2.out); rintro e w31 ⟨v280, rfl, ho0, hb⟩; refine ⟨_, rfl, ?_⟩; have HO281 := Aside0.mk (Kd.R_lower (Kd.R_new' ho0 (Kd.R_lt (zR HO_8))) (below_size (zB1 HB GE267))); replace HO_8 := Aside0.mk (Kd.R_elder' (zR HO_8) (Kd.R_base ho0) hb); replace BK267 := Aside0.mk (zb BK267 hb); replace HB := Aside0.mk (below_step (zB1 HB GE267) hb); (try clear hb); (try clear ho0)))
          go_ret2
          exact ⟨_, zE, zL, zB1 HB GE267⟩
        ·rw [if_neg c15] at H
         exact absurd H (by simp)
       ·rw [if_neg c14] at H
        have c14b0 : decide (x9_2 < (l0_2.length : Int)) = false := decide_eq_false c14
        clear c14
        replace H := Option.bind_eq_some_iff.mp H
        obtain ⟨t286, A320, H⟩ := H
        replace H : (if t286.length + x8_2.length < 140737488355328 then (some ((t286 ++ x8_2), true)) else (none)) = some (r1, r2) := H
        have A32 := Aside0.mk A320
        clear A320
        by_cases c33 : t286.length + x8_2.length < 140737488355328
        ·rw [if_pos c33] at H
         have LMc33 := Aside0.mk c33
         clear c33
         obtain ⟨y289, hy289⟩ : ∃ y_ : List Int, y_ = (t286 ++ x8_2) := ⟨_, rfl⟩
         replace H : (some (y289, true)) = some (r1, r2) := by first | (rw [hy289]; with_reducible exact H) | (have H2_ := (Option.bind_some _ _).symm.trans H; rw [hy289]; with_reducible exact H2_) | (have H2_ := (Option.bind_some _ _).symm.trans H; with_reducible exact H2_) | with_reducible exact H | (rw [hy289]; exact H) | exact H
         have Ny289 := Aside0.mk hy289
         clear hy289
         simp only [Option.some.injEq, Prod.mk.injEq] at H
         obtain ⟨rfl, rfl⟩ := H
         have hcz34_0 : wr.cell? ⟨gb267, 0, none⟩ = some (.bool true) := (blk_cell BK267.out 0).trans rfl
         have hcz34_1 : wr.cell? ⟨gb267, 1, none⟩ = some (.slice A0_1 l0_1.length c0_1) := (blk_cell BK267.out 1).trans rfl
         have hcz34_2 : wr.cell? ⟨gb267, 2, none⟩ = some (.slice A0_2 l0_2.length c0_2) := (blk_cell BK267.out 2).trans rfl
         have hfz34_0 := blk_frozen BK267.out 0
         have hfz34_1 := blk_frozen BK267.out 1
         have hfz34_2 := blk_frozen BK267.out 2
         obtain ⟨Ao35, co35, eo35⟩ := Kd.R_slice HO_8.out
         subst eo35
         go_wp2_with (first | ((with_reducible refine gate_callee (f := 162) rfl ?_); refine goesL_ (some 100) rfl rfl Try.func162 (by kernel_rfl) rfl #[.int .u8 192, .int .i64 (x8_2.length : Int)] rfl zM ?_; (with_reducible refine (proctorref02_head.calls k2 192 (x8_2.length : Int) t286 _ A32.out).mono ?_); rintro e w36 ⟨v287, rfl, ho0, hb⟩; refine ⟨_, rfl, ?_⟩; have HO288 := Aside0.mk (Kd.R_lower (Kd.R_new' ho0 (Kd.R_lt (zR HO_8))) (below_size (zB1 HB GE267))); replace HO_8 := Aside0.mk (Kd.R_elder' (zR HO_8) (Kd.R_base ho0) hb); replace BK267 := Aside0.mk (zb BK267 hb); replace HB := Aside0.mk (below_step (zB1 HB GE267) hb); (try clear hb); (try clear ho0)) | ((with_reducible refine gate_builtin (b := .append) (xs := #[.tmp 100, .tmp 101]) rfl ?_); (try (refine gate_guard (by rfl) ?_; dsimp only)); at_builtin; refine Kd.R_append_rows (Kd.int .u8) (w0 := w) w.heap.size rfl (.tmp 100) (.tmp 101) 74 5 (.int .u8 0) 1 rfl Try.underlying74 info5 rfl (by decide) (by omega) v287 t286 x8_2 _ _ _ (fun k_ => some k_ ≠ (.slice Ao35 x8_2.length co35 : Value).ownBlock) (fun _ => False) rfl rfl ?aO ?aR (fun _ _ h => h) (fun _ h => h.elim) ?aF ?aB ?aS ?aL ?_; (case aR => repeat (first | exact (Kd.R_reads' HO_8.out).2.2 | (with_reducible refine Kd.C_alloc ?_ _) | (with_reducible refine Kd.C_drewN ?_ _) | (with_reducible refine Kd.C_drew ?_))); (case aB => exact (zB1 HB GE267)); (case aF => exact (fun k_ hk => Kd.fresh' (Kd.R_lt (zR HO_8)) k_ hk)); (case aO => exact (by (with_reducible repeat (first | apply Kd.R_alloc | apply Kd.R_drewN | apply Kd.R_drew)); exact Kd.R_mono HO288.out (fun _ hk => hk.2))); (case aS => exact (below_size (zB1 HB GE267))); (case aL => have := LMc33.out; omega); intro v290 w37 ho hb hg hat; rw [← Ny289.out] at ho; have HO291 := Aside0.mk (ho); replace HO_8 := Aside0.mk (Kd.R_after (ok := (fun _ => True)) (zR HO_8) hg hat); replace BK267 := Aside0.mk (blk_grown (g := gb267) (o := .cells #[.bool true, .slice A0_1 l0_1.length c0_1, .slice A0_2 l0_2.length c0_2] 159 (0, 0)) (zK BK267) hg (Kd.R_ne HO288.out BK267.out (by decide))); replace HB := Aside0.mk (hb); clear HO288; clear ho hb hg hat))
         go_ret2
         exact ⟨_, zE, by (with_reducible repeat (first | apply Kd.R_alloc | apply Kd.R_drewN | apply Kd.R_drew)); exact Kd.R_mono HO291.out (fun _ hk => trivial), zB1 HB GE267⟩
        ·rw [if_neg c33] at H
         exact absurd H (by simp)
 ·replace c4 := Bool.eq_false_iff.mpr c4
  subst c4
  have H1 : (if (l0_2.length : Int) > 0 then (proctorref02_form.j0 k true false l0_1 l0_2) else (proctorref02_form.j0 k (decide ((l0_1.length : Int) > a1)) false l0_1 l0_2)) = some (r1, r2) := by rw [if_neg (show ¬ (false = true) by decide)] at H; exact H
  clear H
  have H := H1
  clear H1
  have HC38 := Aside0.mk H
  clear H
  go_enter Try.func142, Try.ntmps142
  go_upto_region 2 with (first | ((with_reducible refine gate_dst (N := 3) rfl ?_); (try (refine gate_guard (by rfl) ?_; dsimp only)); refine zx 3 #[.bool false, .slice A0_1 l0_1.length c0_1, .slice A0_2 l0_2.length c0_2] 159 ?_; intro gb267 hg w39 hbox hb; have BK267 := Aside0.mk (hbox); have GW267 := Aside0.mk ((zG hg HB)); have GE267 := Aside0.mk ((zG hg HB)); replace HB := Aside0.mk (below_step (zB HB) hb); clear hb hbox hg; have hcz40_0 : w39.cell? ⟨gb267, 0, none⟩ = some (.bool false) := (blk_cell BK267.out 0).trans rfl; have hcz40_1 : w39.cell? ⟨gb267, 1, none⟩ = some (.slice A0_1 l0_1.length c0_1) := (blk_cell BK267.out 1).trans rfl; have hcz40_2 : w39.cell? ⟨gb267, 2, none⟩ = some (.slice A0_2 l0_2.length c0_2) := (blk_cell BK267.out 2).trans rfl; have hfz40_0 := blk_frozen BK267.out 0; have hfz40_1 := blk_frozen BK267.out 1; have hfz40_2 := blk_frozen BK267.out 2))
  (try simp only [Act.put, List.setIfInBounds_toArray, List.set_cons_zero, List.set_cons_succ])
  go_cut [25] (fun v25 wc => ∃ (kq : Nat) (x25_37 : Bool), v25 = .bool x25_37 ∧ Aside0 (proctorref02_form.j0 kq x25_37 false l0_1 l0_2 = some (r1, r2)) ∧ Aside0 (kq ≤ k) ∧ Aside0 (wc.heap[gb267]? = some (.cells #[.bool false, (.slice A0_1 l0_1.length c0_1), (.slice A0_2 l0_2.length c0_2)] 159 (0, 0))) ∧ Aside0 (Below w.heap.size w wc))
  case first =>
   have H := HC38.out
   clear HC38
   by_cases c41 : (l0_2.length : Int) > 0
   ·rw [if_pos c41] at H
    have c41b0 : decide (0 < (l0_2.length : Int)) = true := decide_eq_true c41
    have c41b1 : decide (0 < l0_2.length) = true := decide_eq_true (by omega)
    clear c41
    (first | rw [c41b0] | (simp only [i64_w, i32_w]; rw [c41b0]) | skip)
    have H' := Aside0.mk H
    clear H
    have hcz42_0 : w39.cell? ⟨gb267, 0, none⟩ = some (.bool false) := (blk_cell BK267.out 0).trans rfl
    have hcz42_1 : w39.cell? ⟨gb267, 1, none⟩ = some (.slice A0_1 l0_1.length c0_1) := (blk_cell BK267.out 1).trans rfl
    have hcz42_2 : w39.cell? ⟨gb267, 2, none⟩ = some (.slice A0_2 l0_2.length c0_2) := (blk_cell BK267.out 2).trans rfl
    have hfz42_0 := blk_frozen BK267.out 0
    have hfz42_1 := blk_frozen BK267.out 1
    have hfz42_2 := blk_frozen BK267.out 2
    go_wp2
    go_meet
    case rel => exact ⟨_, (true), zX, H', ⟨by first | omega | exact Nat.le_refl _⟩, ⟨zK BK267⟩, ⟨zB1 HB GE267⟩⟩
   ·rw [if_neg c41] at H
    have c41b0 : decide (0 < (l0_2.length : Int)) = false := decide_eq_false c41
    have c41b1 : decide (0 < l0_2.length) = false := decide_eq_false (by omega)
    clear c41
    (first | rw [c41b0] | (simp only [i64_w, i32_w]; rw [c41b0]) | skip)
    have H' := Aside0.mk H
    clear H
    have hcz43_0 : w39.cell? ⟨gb267, 0, none⟩ = some (.bool false) := (blk_cell BK267.out 0).trans rfl
    have hcz43_1 : w39.cell? ⟨gb267, 1, none⟩ = some (.slice A0_1 l0_1.length c0_1) := (blk_cell BK267.out 1).trans rfl
    have hcz43_2 : w39.cell? ⟨gb267, 2, none⟩ = some (.slice A0_2 l0_2.length c0_2) := (blk_cell BK267.out 2).trans rfl
    have hfz43_0 := blk_frozen BK267.out 0
    have hfz43_1 := blk_frozen BK267.out 1
    have hfz43_2 := blk_frozen BK267.out 2
    go_wp2
    go_meet
    case rel => exact ⟨_, (decide ((l0_1.length : Int) > a1)), zX, H', ⟨by first | omega | exact Nat.le_refl _⟩, ⟨zK BK267⟩, ⟨zB1 HB GE267⟩⟩
  case rest =>
   clear HC38
   try clear hcz40_0
   try clear hcz40_1
   try clear hcz40_2
   try clear hfz40_0
   try clear hfz40_1
   try clear hfz40_2
   obtain ⟨kq, x25_37, rfl, HA, HJ37, BK267, HB⟩ := hcut
   cases kq with
   | zero => exact absurd HA.out (by simp [proctorref02_form.j0])
   | succ kj37 =>
    have H := HA.out
    clear HA
    simp only [proctorref02_form.j0] at H
    by_cases c44 : x25_37 = true
    ·subst c44
     have H1 : (some (([] : List Int), false)) = some (r1, r2) := by rw [if_pos rfl] at H; exact H
     clear H
     have H := H1
     clear H1
     simp only [Option.some.injEq, Prod.mk.injEq] at H
     obtain ⟨rfl, rfl⟩ := H
     go_wp2
     go_ret2
     exact ⟨_, zE, zL, zB1 HB GE267⟩
    ·replace c44 := Bool.eq_false_iff.mpr c44
     subst c44
     have H1 : (if (l0_1.length : Int) = 1 then (if 0 < (l0_1.length : Int) then (proctorref02_form.j1 kj37 (decide ((rd l0_1 0) < 128)) false l0_1 l0_2) else (none)) else (proctorref02_form.j1 kj37 false false l0_1 l0_2)) = some (r1, r2) := by rw [if_neg (show ¬ (false = true) by decide)] at H; exact H
     clear H
     have H := H1
     clear H1
     have HC45 := Aside0.mk H
     clear H
     go_upto_region 4 with (fail)
     go_cut [36] (fun v36 wc => ∃ (kq : Nat) (x36_44 : Bool), v36 = .bool x36_44 ∧ Aside0 (proctorref02_form.j1 kq x36_44 false l0_1 l0_2 = some (r1, r2)) ∧ Aside0 (kq ≤ kj37) ∧ Aside0 (wc.heap[gb267]? = some (.cells #[.bool false, (.slice A0_1 l0_1.length c0_1), (.slice A0_2 l0_2.length c0_2)] 159 (0, 0))) ∧ Aside0 (Below w.heap.size w wc))
     case first =>
      have H := HC45.out
      clear HC45
      by_cases c46 : (l0_1.length : Int) = 1
      ·rw [if_pos c46] at H
       have c46b0 : ((l0_1.length : Int) == 1) = true := beq_iff_eq.mpr c46
       have c46b1 : ((l0_1.length : Int) != 1) = false := bne_eq_false_iff_eq.mpr c46
       clear c46
       (first | rw [c46b0] | (simp only [i64_w, i32_w]; rw [c46b0]) | skip)
       by_cases c47 : 0 < (l0_1.length : Int)
       ·rw [if_pos c47] at H
        have c47b0 : decide (0 < (l0_1.length : Int)) = true := decide_eq_true c47
        have c47b1 : decide (0 < l0_1.length) = true := decide_eq_true (by omega)
        clear c47
        have H' := Aside0.mk H
        clear H
        have hcz48_0 : wc.cell? ⟨gb267, 0, none⟩ = some (.bool false) := (blk_cell BK267.out 0).trans rfl
        have hcz48_1 : wc.cell? ⟨gb267, 1, none⟩ = some (.slice A0_1 l0_1.length c0_1) := (blk_cell BK267.out 1).trans rfl
        have hcz48_2 : wc.cell? ⟨gb267, 2, none⟩ = some (.slice A0_2 l0_2.length c0_2) := (blk_cell BK267.out 2).trans rfl
        have hfz48_0 := blk_frozen BK267.out 0
        have hfz48_1 := blk_frozen BK267.out 1
        have hfz48_2 := blk_frozen BK267.out 2
        have p268 : 0 ≤ (0 : Int) := (by omega)
        have q268 : 0 < (l0_1.length : Int) := of_decide_eq_true zA
        obtain ⟨ad268, e268, hx268_0⟩ := Kd.at_int HR0_1.out 0 p268 q268
        cases e268
        have qi268 : (0 < l0_1.length) = True := eq_true (by omega)
        (try rw [show ((0 : Int)).toNat = 0 from rfl] at hx268_0)
        (try rw [Addr.add_zero'] at hx268_0)
        replace hx268_0 := (HB.out.cell (World.block_lt_of_cell? w _ hx268_0)).trans hx268_0
        replace p268 := eq_true p268
        replace q268 := eq_true q268
        go_wp2
        go_meet
        case rel => exact ⟨_, (decide ((rd l0_1 0) < 128)), zX, H', ⟨by have := HJ37.out; first | omega | exact Nat.le_refl _⟩, ⟨zK BK267⟩, ⟨zB1 HB GE267⟩⟩
       ·rw [if_neg c47] at H
        exact absurd H (by simp)
      ·rw [if_neg c46] at H
       have c46b0 : ((l0_1.length : Int) == 1) = false := beq_eq_false_iff_ne.mpr c46
       have c46b1 : ((l0_1.length : Int) != 1) = true := bne_iff_ne.mpr c46
       (first | rw [c46b0] | (simp only [i64_w, i32_w]; rw [c46b0]) | skip)
       have H' := Aside0.mk H
       clear H
       have hcz49_0 : wc.cell? ⟨gb267, 0, none⟩ = some (.bool false) := (blk_cell BK267.out 0).trans rfl
       have hcz49_1 : wc.cell? ⟨gb267, 1, none⟩ = some (.slice A0_1 l0_1.length c0_1) := (blk_cell BK267.out 1).trans rfl
       have hcz49_2 : wc.cell? ⟨gb267, 2, none⟩ = some (.slice A0_2 l0_2.length c0_2) := (blk_cell BK267.out 2).trans rfl
       have hfz49_0 := blk_frozen BK267.out 0
       have hfz49_1 := blk_frozen BK267.out 1
       have hfz49_2 := blk_frozen BK267.out 2
       go_wp2
       go_meet
       case rel => exact ⟨_, (false), zX, H', ⟨by have := HJ37.out; first | omega | exact Nat.le_refl _⟩, ⟨zK BK267⟩, ⟨zB1 HB GE267⟩⟩
     case rest =>
      clear HC45
      obtain ⟨kq, x36_44, rfl, HA, HJ44, BK267, HB⟩ := hcut
      cases kq with
      | zero => exact absurd HA.out (by simp [proctorref02_form.j1])
      | succ kj44 =>
       have H := HA.out
       clear HA
       simp only [proctorref02_form.j1] at H
       by_cases c50 : x36_44 = true
       ·subst c50
        have H1 : ((proctorref01_Copy.f l0_1).bind fun t269 => (some (t269, true))) = some (r1, r2) := by rw [if_pos rfl] at H; exact H
        clear H
        have H := H1
        clear H1
        replace H := Option.bind_eq_some_iff.mp H
        obtain ⟨t269, A510, H⟩ := H
        replace H : (some (t269, true)) = some (r1, r2) := H
        have A51 := Aside0.mk A510
        clear A510
        simp only [Option.some.injEq, Prod.mk.injEq] at H
        obtain ⟨rfl, rfl⟩ := H
        have hcz52_0 : wc.cell? ⟨gb267, 0, none⟩ = some (.bool false) := (blk_cell BK267.out 0).trans rfl
        have hcz52_1 : wc.cell? ⟨gb267, 1, none⟩ = some (.slice A0_1 l0_1.length c0_1) := (blk_cell BK267.out 1).trans rfl
        have hcz52_2 : wc.cell? ⟨gb267, 2, none⟩ = some (.slice A0_2 l0_2.length c0_2) := (blk_cell BK267.out 2).trans rfl
        have hfz52_0 := blk_frozen BK267.out 0
        have hfz52_1 := blk_frozen BK267.out 1
        have hfz52_2 := blk_frozen BK267.out 2
        go_wp2_with (first | ((with_reducible refine gate_callee (f := 43) rfl ?_); refine goesL_ (some 39) rfl rfl Try.func43 (by kernel_rfl) rfl #[.slice A0_1 l0_1.length c0_1] rfl zM ?_; (with_reducible refine (proctorref01_Copy.calls _ _ l0_1 t269 _ ?side1 ?side2 A51.out).mono ?_); (case side1 => exact zY (Kd.C_below HR0_1.out HB.out)); (case side2 => exact HC0_1.out); rintro e w53 ⟨v270, rfl, ho0, hb⟩; refine ⟨_, rfl, ?_⟩; have HO271 := Aside0.mk (Kd.R_lower ho0 (below_size (zB1 HB GE267))); replace BK267 := Aside0.mk (zb BK267 hb); replace HB := Aside0.mk (below_step (zB1 HB GE267) hb); (try clear hb); (try clear ho0)))
        go_ret2
        exact ⟨_, zE, zR HO271, zB1 HB GE267⟩
       ·replace c50 := Bool.eq_false_iff.mpr c50
        subst c50
        have H1 : ((proctorref02_head.f kj44 128 (l0_1.length : Int)).bind fun t272 => (if t272.length + l0_1.length < 140737488355328 then (some ((t272 ++ l0_1), true)) else (none))) = some (r1, r2) := by rw [if_neg (show ¬ (false = true) by decide)] at H; exact H
        clear H
        have H := H1
        clear H1
        replace H := Option.bind_eq_some_iff.mp H
        obtain ⟨t272, A540, H⟩ := H
        replace H : (if t272.length + l0_1.length < 140737488355328 then (some ((t272 ++ l0_1), true)) else (none)) = some (r1, r2) := H
        have A54 := Aside0.mk A540
        clear A540
        by_cases c55 : t272.length + l0_1.length < 140737488355328
        ·rw [if_pos c55] at H
         have LMc55 := Aside0.mk c55
         clear c55
         obtain ⟨y275, hy275⟩ : ∃ y_ : List Int, y_ = (t272 ++ l0_1) := ⟨_, rfl⟩
         replace H : (some (y275, true)) = some (r1, r2) := by first | (rw [hy275]; with_reducible exact H) | (have H2_ := (Option.bind_some _ _).symm.trans H; rw [hy275]; with_reducible exact H2_) | (have H2_ := (Option.bind_some _ _).symm.trans H; with_reducible exact H2_) | with_reducible exact H | (rw [hy275]; exact H) | exact H
         have Ny275 := Aside0.mk hy275
         clear hy275
         simp only [Option.some.injEq, Prod.mk.injEq] at H
         obtain ⟨rfl, rfl⟩ := H
         try go_wp2
         have n0_ := Aside0.mk (blk_drew BK267.out)
         have n1_ := Aside0.mk (below_drew1 HB.out)
         clear BK267
         clear HB
         have BK267 := n0_
         have HB := n1_
         clear n0_ n1_
         refine start_ (n := 9) (S := fun w' => w'.cell? ⟨gb267, 0, none⟩ = some (.bool false) ∧ w'.cell? ⟨gb267, 1, none⟩ = some (.slice A0_1 l0_1.length c0_1) ∧ w'.cell? ⟨gb267, 2, none⟩ = some (.slice A0_2 l0_2.length c0_2)) (ds := []) #[false, false, false, false, false, false, false, false, false] (by kernel_rfl) rfl rfl ⟨(blk_cell BK267.out 0).trans rfl, (blk_cell BK267.out 1).trans rfl, (blk_cell BK267.out 2).trans rfl⟩ (fun hHeld => ?_); refine with_tabW proctorref02_form.tab6 proctorref02_form.bits6 (fun HT_ HW_ => ?_)
         generalize wc.drew = w56 at BK267 HB hHeld ⊢
         refine pure_ (i := 0) (N := some 40) (v := ?_) (a' := ?_) #[true, false, false, false, false, false, false, false, false] rfl rfl (any_of HT_.out (by kernel_rfl)) (fun _ _ _ h => h) (Or.inl ⟨by rfl, ?_⟩) ?_ ?_
         rotate_left
         ·intro w'
          go_simp
          with_reducible rfl
         rotate_left
         ·simp only [Act.put, List.setIfInBounds_toArray, List.set_cons_zero, List.set_cons_succ, i64_w, i32_w]
          rfl
         refine pure_ (i := 4) (N := some 44) (v := ?_) (a' := ?_) #[true, false, false, false, true, false, false, false, false] rfl rfl (any_of HT_.out (by kernel_rfl)) (fun _ _ _ h => h) (Or.inl ⟨by rfl, ?_⟩) ?_ ?_
         rotate_left
         ·intro w'
          go_simp
          with_reducible rfl
         rotate_left
         ·simp only [Act.put, List.setIfInBounds_toArray, List.set_cons_zero, List.set_cons_succ, i64_w, i32_w]
          rfl
         refine take_ (i := 1) (N := some 41) (v := ?_) (a' := ?_) #[true, true, false, false, true, false, false, false, false] rfl rfl (take_ofW HT_.out HW_.out (by kernel_rfl)) (fun _ _ _ h => h) (Or.inl ⟨by rfl, ?_⟩) hHeld ?_ ?_
         rotate_left
         ·rintro w' ⟨s0, s1, s2⟩
          go_simp
          with_reducible rfl
         rotate_left
         ·simp only [Act.put, List.setIfInBounds_toArray, List.set_cons_zero, List.set_cons_succ, i64_w, i32_w]
          rfl
         refine pure_ (i := 2) (N := some 42) (v := ?_) (a' := ?_) #[true, true, true, false, true, false, false, false, false] rfl rfl (any_of HT_.out (by kernel_rfl)) (fun _ _ _ h => h) (Or.inl ⟨by rfl, ?_⟩) ?_ ?_
         rotate_left
         ·intro w'
          go_simp
          with_reducible rfl
         rotate_left
         ·simp only [Act.put, List.setIfInBounds_toArray, List.set_cons_zero, List.set_cons_succ, i64_w, i32_w]
          rfl
         refine take_ (i := 5) (N := some 45) (v := ?_) (a' := ?_) #[true, true, true, false, true, true, false, false, false] rfl rfl (take_ofW HT_.out HW_.out (by kernel_rfl)) (fun _ _ _ h => h) (Or.inl ⟨by rfl, ?_⟩) hHeld ?_ ?_
         rotate_left
         ·rintro w' ⟨s0, s1, s2⟩
          go_simp
          with_reducible rfl
         rotate_left
         ·simp only [Act.put, List.setIfInBounds_toArray, List.set_cons_zero, List.set_cons_succ, i64_w, i32_w]
          rfl
         refine one_ (i := 3) (N := some 43) #[true, true, true, true, true, true, false, false, false] rfl rfl (one_of HT_.out (by kernel_rfl)) (by decide) (fun K hK => ?_)
         refine goes_ Try.func162 (by kernel_rfl) rfl #[.int .u8 128, .int .i64 (l0_1.length : Int)] (by rfl) rfl rfl zM ?_
         with_reducible refine (proctorref02_head.calls kj44 128 (l0_1.length : Int) t272 _ A54.out).mono ?_
         rintro e w57 ⟨v273, rfl, ho0, hb⟩
         refine ⟨_, rfl, ?_⟩
         have n0_ := Aside0.mk (Kd.R_lower ho0 (below_size (zB1 HB GE267)))
         have n1_ := Aside0.mk (zb BK267 hb)
         have n2_ := Aside0.mk (below_step (zB1 HB GE267) hb)
         clear BK267
         clear HB
         have HO274 := n0_
         have BK267 := n1_
         have HB := n2_
         clear n0_ n1_ n2_
         (try clear hb)
         (try clear ho0)
         refine hK.out _ _ ⟨(blk_cell BK267.out 0).trans rfl, (blk_cell BK267.out 1).trans rfl, (blk_cell BK267.out 2).trans rfl⟩ (fun hHeld => ?_)
         clear hK K
         refine norm_ (a' := ?_) ?_ ?_
         rotate_left
         ·show Act.put _ (some 43) _ = _
          simp only [Act.put, List.setIfInBounds_toArray, List.set_cons_zero, List.set_cons_succ, i64_w, i32_w]
          rfl
         refine one_ (i := 6) (N := some 46) #[true, true, true, true, true, true, true, false, false] rfl rfl (one_of HT_.out (by kernel_rfl)) (by decide) (fun K hK => ?_)
         refine Kd.R_append_rows_step (Kd.int .u8) (w0 := w) w.heap.size (by rfl) (.tmp 43) (.tmp 45) 74 5 (.int .u8 0) 1 rfl Try.underlying74 info5 rfl (by decide) (by omega) v273 t272 l0_1 _ _ _ (fun _ => True) (fun _ => False) rfl rfl ?aO ?aR (fun _ _ h => h) (fun _ h => h.elim) ?aF ?aB ?aS ?aL ?_
         (case aR => exact zY (Kd.C_below HR0_1.out HB.out))
         (case aB => exact (zB1 HB GE267))
         (case aF => exact (fun _ _ => trivial))
         (case aO => exact (zR HO274))
         (case aS => exact (below_size (zB1 HB GE267)))
         (case aL => have := LMc55.out; omega)
         intro v276 w58 ho hb hg hat
         rw [← Ny275.out] at ho
         have n0_ := Aside0.mk (blk_grown (g := gb267) (o := .cells #[.bool false, .slice A0_1 l0_1.length c0_1, .slice A0_2 l0_2.length c0_2] 159 (0, 0)) (zK BK267) hg (Kd.R_ne HO274.out BK267.out (by decide)))
         have n1_ := Aside0.mk (hb)
         have n2_ := Aside0.mk (ho)
         clear BK267
         clear HB
         clear HO274
         have BK267 := n0_
         have HB := n1_
         have HO277 := n2_
         clear n0_ n1_ n2_
         clear ho hb hg hat
         refine hK.out _ _ ⟨(blk_cell BK267.out 0).trans rfl, (blk_cell BK267.out 1).trans rfl, (blk_cell BK267.out 2).trans rfl⟩ (fun hHeld => ?_)
         clear hK K
         refine norm_ (a' := ?_) ?_ ?_
         rotate_left
         ·show Act.put _ (some 46) _ = _
          simp only [Act.put, List.setIfInBounds_toArray, List.set_cons_zero, List.set_cons_succ, i64_w, i32_w]
          rfl
         refine pure_ (i := 7) (N := some 6) (v := ?_) (a' := ?_) #[true, true, true, true, true, true, true, true, false] rfl rfl (any_of HT_.out (by kernel_rfl)) (fun _ _ _ h => h) (Or.inl ⟨by rfl, ?_⟩) ?_ ?_
         rotate_left
         ·intro w'
          go_simp
          with_reducible rfl
         rotate_left
         ·simp only [Act.put, List.setIfInBounds_toArray, List.set_cons_zero, List.set_cons_succ, i64_w, i32_w]
          rfl
         refine pure_ (i := 8) (N := some 7) (v := ?_) (a' := ?_) #[true, true, true, true, true, true, true, true, true] rfl rfl (any_of HT_.out (by kernel_rfl)) (fun _ _ _ h => h) (Or.inl ⟨by rfl, ?_⟩) ?_ ?_
         rotate_left
         ·intro w'
          go_simp
          with_reducible rfl
         rotate_left
         ·simp only [Act.put, List.setIfInBounds_toArray, List.set_cons_zero, List.set_cons_succ, i64_w, i32_w]
          rfl
         refine done_ (done_of HT_.out (by kernel_rfl)) ?_
         try go_wp2
         go_ret2
         exact ⟨_, zE, zR HO277, zB1 HB GE267⟩
        ·rw [if_neg c55] at H
         exact absurd H (by simp)
def proctorref02_May.f (k : Nat) (a0_0 : Bool) (l0_1 : List Int) (l0_2 : List (S159)) : Option (Bool) := (proctorref02_form.f k a0_0 l0_1 l0_2 65536 16).bind fun bt293 => (if bt293.2 = true then (some (decide ((bt293.1.length : Int) ≤ 65536))) else (some false))
theorem proctorref02_May.calls (k : Nat) (a0_0 : Bool) (A0_1 : Option Addr) (c0_1 : Nat) (l0_1 : List Int) (A0_2 : Option Addr) (c0_2 : Nat) (l0_2 : List (S159)) (r : Bool) (w : World) (hr0_1 : Kd.C (Kd.int .u8) w A0_1 l0_1.length l0_1) (hc0_1 : l0_1.length ≤ c0_1) (hr0_2 : Kd.C k159 w A0_2 l0_2.length l0_2) (hc0_2 : l0_2.length ≤ c0_2) (h : proctorref02_May.f k a0_0 l0_1 l0_2 = some r) :
 Calls Try.prog 141 #[.agg #[.bool a0_0, .slice A0_1 l0_1.length c0_1, .slice A0_2 l0_2.length c0_2]] w fun e w' => e = .returned (.bool r) ∧ Below w.heap.size w w' := by
 have hu159 := Try.underlying159
 have HR0_1 := Aside0.mk hr0_1
 have HC0_1 := Aside0.mk hc0_1
 clear hr0_1 hc0_1
 have HR0_2 := Aside0.mk hr0_2
 have HC0_2 := Aside0.mk hc0_2
 clear hr0_2 hc0_2
 have HB := Aside0.mk (Below.refl w.heap.size w)
 have H : ((proctorref02_form.f k a0_0 l0_1 l0_2 65536 16).bind fun bt293 => (if bt293.2 = true then (some (decide ((bt293.1.length : Int) ≤ 65536))) else (some false))) = some r := h
 clear h
 replace H := Option.bind_eq_some_iff.mp H
 obtain ⟨⟨t293, t296⟩, A20, H⟩ := H
 replace H : (if t296 = true then (some (decide ((t293.length : Int) ≤ 65536))) else (some false)) = some r := H
 have A2 := Aside0.mk A20
 clear A20
 by_cases c3 : t296 = true
 ·subst c3
  have H1 : (some (decide ((t293.length : Int) ≤ 65536))) = some r := by rw [if_pos rfl] at H; exact H
  clear H
  have H := H1
  clear H1
  obtain rfl := Option.some.inj H
  go_enter Try.func141, Try.ntmps141
  go_wp2_with (first | ((with_reducible refine gate_dst (N := 1) rfl ?_); (try (refine gate_guard (by rfl) ?_; dsimp only)); refine zx 1 #[.bool a0_0, .slice A0_1 l0_1.length c0_1, .slice A0_2 l0_2.length c0_2] 159 ?_; intro gb292 hg w4 hbox hb; have BK292 := Aside0.mk (hbox); have GW292 := Aside0.mk ((zG hg HB)); have GE292 := Aside0.mk ((zG hg HB)); replace HB := Aside0.mk (below_step (zB HB) hb); clear hb hbox hg; have hcz5_0 : w4.cell? ⟨gb292, 0, none⟩ = some (.bool a0_0) := (blk_cell BK292.out 0).trans rfl; have hcz5_1 : w4.cell? ⟨gb292, 1, none⟩ = some (.slice A0_1 l0_1.length c0_1) := (blk_cell BK292.out 1).trans rfl; have hcz5_2 : w4.cell? ⟨gb292, 2, none⟩ = some (.slice A0_2 l0_2.length c0_2) := (blk_cell BK292.out 2).trans rfl; have hfz5_0 := blk_frozen BK292.out 0; have hfz5_1 := blk_frozen BK292.out 1; have hfz5_2 := blk_frozen BK292.out 2) | ((with_reducible refine gate_callee (f := 142) rfl ?_); refine goesL_ (some 7) rfl rfl Try.func142 (by kernel_rfl) rfl #[.agg #[.bool a0_0, .slice A0_1 l0_1.length c0_1, .slice A0_2 l0_2.length c0_2], .int .i64 65536, .int .i64 16] rfl zM ?_; (with_reducible refine (proctorref02_form.calls k a0_0 _ _ l0_1 _ _ l0_2 65536 16 t293 true _ ?side1 ?side2 ?side3 ?side4 A2.out).mono ?_); (case side1 => exact zY (Kd.C_below HR0_1.out HB.out)); (case side2 => exact HC0_1.out); (case side3 => exact zY (Kd.C_below HR0_2.out HB.out)); (case side4 => exact HC0_2.out); rintro e w6 ⟨v294, rfl, ho0, hb⟩; refine ⟨_, rfl, ?_⟩; have HO295 := Aside0.mk (Kd.R_lower ho0 (below_size (zB1 HB GE292))); replace BK292 := Aside0.mk (zb BK292 hb); replace HB := Aside0.mk (below_step (zB1 HB GE292) hb); (try clear hb); (try clear ho0); obtain ⟨Ao7, co7, eo7⟩ := Kd.R_slice HO295.out; subst eo7))
  go_ret
  exact ⟨zE, zB1 HB GE292⟩
 ·replace c3 := Bool.eq_false_iff.mpr c3
  subst c3
  have H1 : (some false) = some r := by rw [if_neg (show ¬ (false = true) by decide)] at H; exact H
  clear H
  have H := H1
  clear H1
  obtain rfl := Option.some.inj H
  go_enter Try.func141, Try.ntmps141
  go_wp2_with (first | ((with_reducible refine gate_dst (N := 1) rfl ?_); (try (refine gate_guard (by rfl) ?_; dsimp only)); refine zx 1 #[.bool a0_0, .slice A0_1 l0_1.length c0_1, .slice A0_2 l0_2.length c0_2] 159 ?_; intro gb292 hg w8 hbox hb; have BK292 := Aside0.mk (hbox); have GW292 := Aside0.mk ((zG hg HB)); have GE292 := Aside0.mk ((zG hg HB)); replace HB := Aside0.mk (below_step (zB HB) hb); clear hb hbox hg; have hcz9_0 : w8.cell? ⟨gb292, 0, none⟩ = some (.bool a0_0) := (blk_cell BK292.out 0).trans rfl; have hcz9_1 : w8.cell? ⟨gb292, 1, none⟩ = some (.slice A0_1 l0_1.length c0_1) := (blk_cell BK292.out 1).trans rfl; have hcz9_2 : w8.cell? ⟨gb292, 2, none⟩ = some (.slice A0_2 l0_2.length c0_2) := (blk_cell BK292.out 2).trans rfl; have hfz9_0 := blk_frozen BK292.out 0; have hfz9_1 := blk_frozen BK292.out 1; have hfz9_2 := blk_frozen BK292.out 2) | ((with_reducible refine gate_callee (f := 142) rfl ?_); refine goesL_ (some 7) rfl rfl Try.func142 (by kernel_rfl) rfl #[.agg #[.bool a0_0, .slice A0_1 l0_1.length c0_1, .slice A0_2 l0_2.length c0_2], .int .i64 65536, .int .i64 16] rfl zM ?_; (with_reducible refine (proctorref02_form.calls k a0_0 _ _ l0_1 _ _ l0_2 65536 16 t293 false _ ?side1 ?side2 ?side3 ?side4 A2.out).mono ?_); (case side1 => exact zY (Kd.C_below HR0_1.out HB.out)); (case side2 => exact HC0_1.out); (case side3 => exact zY (Kd.C_below HR0_2.out HB.out)); (case side4 => exact HC0_2.out); rintro e w10 ⟨v294, rfl, ho0, hb⟩; refine ⟨_, rfl, ?_⟩; have HO295 := Aside0.mk (Kd.R_lower ho0 (below_size (zB1 HB GE292))); replace BK292 := Aside0.mk (zb BK292 hb); replace HB := Aside0.mk (below_step (zB1 HB GE292) hb); (try clear hb); (try clear ho0)))
  go_ret
  exact ⟨zE, zB1 HB GE292⟩
def proctorref02_Encode.f (k : Nat) (a0_0 : Bool) (l0_1 : List Int) (l0_2 : List (S159)) : Option (List Int × Int) := (proctorref02_May.f k a0_0 l0_1 l0_2).bind fun t298 => (if t298 = true then ((proctorref02_form.f k a0_0 l0_1 l0_2 65536 16).bind fun bt299 => (some (bt299.1, 0))) else (some (([] : List Int), 2)))
theorem proctorref02_Encode.calls (k : Nat) (a0_0 : Bool) (A0_1 : Option Addr) (c0_1 : Nat) (l0_1 : List Int) (A0_2 : Option Addr) (c0_2 : Nat) (l0_2 : List (S159)) (r1 : List Int) (r2 : Int) (w : World) (hr0_1 : Kd.C (Kd.int .u8) w A0_1 l0_1.length l0_1) (hc0_1 : l0_1.length ≤ c0_1) (hr0_2 : Kd.C k159 w A0_2 l0_2.length l0_2) (hc0_2 : l0_2.length ≤ c0_2) (h : proctorref02_Encode.f k a0_0 l0_1 l0_2 = some (r1, r2)) :
 Calls Try.prog 103 #[.agg #[.bool a0_0, .slice A0_1 l0_1.length c0_1, .slice A0_2 l0_2.length c0_2]] w fun e w' => ∃ v0_ : Value, e = .returned (.tuple #[v0_, .int .i64 r2]) ∧ Kd.R (Kd.int .u8) 5 w' w.heap.size (fun _ => True) v0_ r1 ∧ Below w.heap.size w w' := by
 have hu159 := Try.underlying159
 have HR0_1 := Aside0.mk hr0_1
 have HC0_1 := Aside0.mk hc0_1
 clear hr0_1 hc0_1
 have HR0_2 := Aside0.mk hr0_2
 have HC0_2 := Aside0.mk hc0_2
 clear hr0_2 hc0_2
 have HB := Aside0.mk (Below.refl w.heap.size w)
 have H : ((proctorref02_May.f k a0_0 l0_1 l0_2).bind fun t298 => (if t298 = true then ((proctorref02_form.f k a0_0 l0_1 l0_2 65536 16).bind fun bt299 => (some (bt299.1, 0))) else (some (([] : List Int), 2)))) = some (r1, r2) := h
 clear h
 replace H := Option.bind_eq_some_iff.mp H
 obtain ⟨t298, A20, H⟩ := H
 replace H : (if t298 = true then ((proctorref02_form.f k a0_0 l0_1 l0_2 65536 16).bind fun bt299 => (some (bt299.1, 0))) else (some (([] : List Int), 2))) = some (r1, r2) := H
 have A2 := Aside0.mk A20
 clear A20
 by_cases c3 : t298 = true
 ·subst c3
  have H1 : ((proctorref02_form.f k a0_0 l0_1 l0_2 65536 16).bind fun bt299 => (some (bt299.1, 0))) = some (r1, r2) := by rw [if_pos rfl] at H; exact H
  clear H
  have H := H1
  clear H1
  replace H := Option.bind_eq_some_iff.mp H
  obtain ⟨⟨t299, t302⟩, A40, H⟩ := H
  replace H : (some (t299, 0)) = some (r1, r2) := H
  have A4 := Aside0.mk A40
  clear A40
  simp only [Option.some.injEq, Prod.mk.injEq] at H
  obtain ⟨rfl, rfl⟩ := H
  go_enter Try.func103, Try.ntmps103
  go_wp2_with (first | ((with_reducible refine gate_dst (N := 1) rfl ?_); refine zx 1 #[.bool a0_0, .slice A0_1 l0_1.length c0_1, .slice A0_2 l0_2.length c0_2] 159 ?_; intro gb297 hg w5 hbox hb; have BK297 := Aside0.mk (hbox); have GW297 := Aside0.mk ((zG hg HB)); have GE297 := Aside0.mk ((zG hg HB)); replace HB := Aside0.mk (below_step (zB HB) hb); clear hb hbox hg; have hcz6_0 : w5.cell? ⟨gb297, 0, none⟩ = some (.bool a0_0) := (blk_cell BK297.out 0).trans rfl; have hcz6_1 : w5.cell? ⟨gb297, 1, none⟩ = some (.slice A0_1 l0_1.length c0_1) := (blk_cell BK297.out 1).trans rfl; have hcz6_2 : w5.cell? ⟨gb297, 2, none⟩ = some (.slice A0_2 l0_2.length c0_2) := (blk_cell BK297.out 2).trans rfl; have hfz6_0 := blk_frozen BK297.out 0; have hfz6_1 := blk_frozen BK297.out 1; have hfz6_2 := blk_frozen BK297.out 2) | ((with_reducible refine gate_callee (f := 141) rfl ?_); refine goesL_ (some 7) rfl rfl Try.func141 (by kernel_rfl) rfl #[.agg #[.bool a0_0, .slice A0_1 l0_1.length c0_1, .slice A0_2 l0_2.length c0_2]] rfl zM ?_; (with_reducible refine (proctorref02_May.calls k a0_0 _ _ l0_1 _ _ l0_2 true _ ?side1 ?side2 ?side3 ?side4 A2.out).mono ?_); (case side1 => exact zY (Kd.C_below HR0_1.out HB.out)); (case side2 => exact HC0_1.out); (case side3 => exact zY (Kd.C_below HR0_2.out HB.out)); (case side4 => exact HC0_2.out); rintro e w7 ⟨rfl, hb⟩; refine ⟨_, rfl, ?_⟩; replace BK297 := Aside0.mk (zb BK297 hb); replace HB := Aside0.mk (below_step (zB1 HB GE297) hb); (try clear hb); have hcz8_0 : w7.cell? ⟨gb297, 0, none⟩ = some (.bool a0_0) := (blk_cell BK297.out 0).trans rfl; have hcz8_1 : w7.cell? ⟨gb297, 1, none⟩ = some (.slice A0_1 l0_1.length c0_1) := (blk_cell BK297.out 1).trans rfl; have hcz8_2 : w7.cell? ⟨gb297, 2, none⟩ = some (.slice A0_2 l0_2.length c0_2) := (blk_cell BK297.out 2).trans rfl; have hfz8_0 := blk_frozen BK297.out 0; have hfz8_1 := blk_frozen BK297.out 1; have hfz8_2 := blk_frozen BK297.out 2) | ((with_reducible refine gate_callee (f := 142) rfl ?_); refine goesL_ (some 11) rfl rfl Try.func142 (by kernel_rfl) rfl #[.agg #[.bool a0_0, .slice A0_1 l0_1.length c0_1, .slice A0_2 l0_2.length c0_2], .int .i64 65536, .int .i64 16] rfl zM ?_; (with_reducible refine (proctorref02_form.calls k a0_0 _ _ l0_1 _ _ l0_2 65536 16 t299 t302 _ ?side1 ?side2 ?side3 ?side4 A4.out).mono ?_); (case side1 => exact zY (Kd.C_below HR0_1.out HB.out)); (case side2 => exact HC0_1.out); (case side3 => exact zY (Kd.C_below HR0_2.out HB.out)); (case side4 => exact HC0_2.out); rintro e w9 ⟨v300, rfl, ho0, hb⟩; refine ⟨_, rfl, ?_⟩; have HO301 := Aside0.mk (Kd.R_lower ho0 (below_size (zB1 HB GE297))); replace BK297 := Aside0.mk (zb BK297 hb); replace HB := Aside0.mk (below_step (zB1 HB GE297) hb); (try clear hb); (try clear ho0)))
  go_ret2
  exact ⟨_, zE, zR HO301, zB1 HB GE297⟩
 ·replace c3 := Bool.eq_false_iff.mpr c3
  subst c3
  have H1 : (some (([] : List Int), 2)) = some (r1, r2) := by rw [if_neg (show ¬ (false = true) by decide)] at H; exact H
  clear H
  have H := H1
  clear H1
  simp only [Option.some.injEq, Prod.mk.injEq] at H
  obtain ⟨rfl, rfl⟩ := H
  go_enter Try.func103, Try.ntmps103
  go_wp2_with (first | ((with_reducible refine gate_dst (N := 1) rfl ?_); refine zx 1 #[.bool a0_0, .slice A0_1 l0_1.length c0_1, .slice A0_2 l0_2.length c0_2] 159 ?_; intro gb297 hg w10 hbox hb; have BK297 := Aside0.mk (hbox); have GW297 := Aside0.mk ((zG hg HB)); have GE297 := Aside0.mk ((zG hg HB)); replace HB := Aside0.mk (below_step (zB HB) hb); clear hb hbox hg; have hcz11_0 : w10.cell? ⟨gb297, 0, none⟩ = some (.bool a0_0) := (blk_cell BK297.out 0).trans rfl; have hcz11_1 : w10.cell? ⟨gb297, 1, none⟩ = some (.slice A0_1 l0_1.length c0_1) := (blk_cell BK297.out 1).trans rfl; have hcz11_2 : w10.cell? ⟨gb297, 2, none⟩ = some (.slice A0_2 l0_2.length c0_2) := (blk_cell BK297.out 2).trans rfl; have hfz11_0 := blk_frozen BK297.out 0; have hfz11_1 := blk_frozen BK297.out 1; have hfz11_2 := blk_frozen BK297.out 2) | ((with_reducible refine gate_callee (f := 141) rfl ?_); refine goesL_ (some 7) rfl rfl Try.func141 (by kernel_rfl) rfl #[.agg #[.bool a0_0, .slice A0_1 l0_1.length c0_1, .slice A0_2 l0_2.length c0_2]] rfl zM ?_; (with_reducible refine (proctorref02_May.calls k a0_0 _ _ l0_1 _ _ l0_2 false _ ?side1 ?side2 ?side3 ?side4 A2.out).mono ?_); (case side1 => exact zY (Kd.C_below HR0_1.out HB.out)); (case side2 => exact HC0_1.out); (case side3 => exact zY (Kd.C_below HR0_2.out HB.out)); (case side4 => exact HC0_2.out); rintro e w12 ⟨rfl, hb⟩; refine ⟨_, rfl, ?_⟩; replace BK297 := Aside0.mk (zb BK297 hb); replace HB := Aside0.mk (below_step (zB1 HB GE297) hb); (try clear hb)))
  go_ret2
  exact ⟨_, zE, zL, zB1 HB GE297⟩
def proctorref02_Num.f (k : Nat) (a0 : Int) : Option (Bool × List Int × (List (S159))) := (proctorref02_high.f k a0).bind fun t305 => (some (false, t305, ([] : List (S159))))
theorem proctorref02_Num.calls (k : Nat) (a0 : Int) (r1 : Bool) (r2 : List Int) (r3 : List (S159)) (w : World) (h : proctorref02_Num.f k a0 = some (r1, r2, r3)) :
 Calls Try.prog 105 #[.int .u64 a0] w fun e w' => ∃ v1_ v2_ : Value, e = .returned (.agg #[.bool r1, v1_, v2_]) ∧ Kd.R (Kd.int .u8) 5 w' w.heap.size (fun _ => True) v1_ r2 ∧ Kd.R k159 159 w' w.heap.size (fun k_ => some k_ ≠ (v1_ : Value).ownBlock) v2_ r3 ∧ Below w.heap.size w w' := by
 have hu159 := Try.underlying159
 have HB := Aside0.mk (Below.refl w.heap.size w)
 have H : ((proctorref02_high.f k a0).bind fun t305 => (some (false, t305, ([] : List (S159))))) = some (r1, r2, r3) := h
 clear h
 replace H := Option.bind_eq_some_iff.mp H
 obtain ⟨t305, A20, H⟩ := H
 replace H : (some (false, t305, ([] : List (S159)))) = some (r1, r2, r3) := H
 have A2 := Aside0.mk A20
 clear A20
 simp only [Option.some.injEq, Prod.mk.injEq] at H
 obtain ⟨rfl, rfl, rfl⟩ := H
 go_enter Try.func105, Try.ntmps105
 go_wp2_with (first | ((with_reducible refine gate_dst (N := 2) rfl ?_); refine zx 2 #[.bool false, .slice none 0 0, .slice none 0 0] 159 ?_; intro gb304 hg w3 hbox hb; have BK304 := Aside0.mk (hbox); have GW304 := Aside0.mk ((zG hg HB)); have GE304 := Aside0.mk ((zG hg HB)); replace HB := Aside0.mk (below_step (zB HB) hb); clear hb hbox hg) | ((with_reducible refine gate_callee (f := 143) rfl ?_); refine goesL_ (some 4) rfl rfl Try.func143 (by kernel_rfl) rfl #[.int .u64 a0] rfl zM ?_; (with_reducible refine (proctorref02_high.calls k a0 t305 _ A2.out).mono ?_); rintro e w4 ⟨v306, rfl, ho0, hb⟩; refine ⟨_, rfl, ?_⟩; have HO307 := Aside0.mk (Kd.R_lower ho0 (below_size (zB1 HB GE304))); replace BK304 := Aside0.mk (zb BK304 hb); replace HB := Aside0.mk (below_step (zB1 HB GE304) hb); (try clear hb); (try clear ho0); obtain ⟨Ao5, co5, eo5⟩ := Kd.R_slice HO307.out; subst eo5; have hcz6_0 : w4.cell? ⟨gb304, 0, none⟩ = some (.bool false) := (blk_cell BK304.out 0).trans rfl; have hcz6_1 : w4.cell? ⟨gb304, 1, none⟩ = some (.slice none 0 0) := (blk_cell BK304.out 1).trans rfl; have hcz6_2 : w4.cell? ⟨gb304, 2, none⟩ = some (.slice none 0 0) := (blk_cell BK304.out 2).trans rfl; have hfz6_0 := blk_frozen BK304.out 0; have hfz6_1 := blk_frozen BK304.out 1; have hfz6_2 := blk_frozen BK304.out 2))
 refine bodyPost_ret (results_cell_row rfl _ _ gb304 159 #[.bool false, .slice Ao5 t305.length co5, .slice none 0 0] (0, 0) _ rfl (by refine zr ?_; refine blk_put (cs := #[.bool false, .slice Ao5 t305.length co5, .slice none 0 0]) ?_ 2 _ rfl; refine zr ?_; refine blk_put (cs := #[.bool false, .slice none 0 0, .slice none 0 0]) ?_ 1 _ rfl; refine zr ?_; refine blk_put (cs := #[.bool false, .slice none 0 0, .slice none 0 0]) ?_ 0 _ rfl; refine zr ?_; exact BK304.out) Try.underlying159 rfl (by kernel_rfl)) rfl ?_
 exact ⟨_, _, zE, by (with_reducible repeat (first | apply Kd.R_alloc | apply Kd.R_drewN | apply Kd.R_drew)); exact Kd.R_mono (Kd.R_far (p := ⟨gb304, 2, none⟩) (Kd.R_far (p := ⟨gb304, 1, none⟩) (Kd.R_far (p := ⟨gb304, 0, none⟩) (Kd.R_types HO307.out BK304.out (by decide)) (fun _ hk => hk.2) (.bool false)) (fun _ hk => hk.2) (.slice Ao5 t305.length co5)) (fun _ hk => hk.2) (.slice none 0 0)) (fun _ hk => trivial), zL, zB1 HB GE304⟩
def proctorref02_length.l0 : Nat → List Int → Int → Int → Int → Option (Int × Int × Int)
 | 0, _, _, _, _ => none
 | k + 1, x0, x8, x9, x10 => if x10 ≤ x8 then (if 0 ≤ x10 then (if x10 < (x0.length : Int) then (proctorref02_length.l0 k x0 x8 (Go.bits .or .u64 (IntKind.u64.wrap (x9 * 256)) (IntKind.u64.wrap (rd x0 x10))) (wrap64 (x10 + 1))) else (none)) else (none)) else (if x9 < 56 then (some (0, 0, 8)) else (if x9 > (IntKind.u64.wrap ((x0.length : Int))) then (some (0, 0, 7)) else (some (wrap64 (x9), wrap64 (1 + x8), 0))))
def proctorref02_length.f (k : Nat) (l0 : List Int) (a1 : Int) : Option (Int × Int × Int) := if 0 < (l0.length : Int) then (if (((rd l0 0) - a1) % 256) ≤ 55 then (some (((rd l0 0) - a1) % 256, 1, 0)) else (if (l0.length : Int) < (1 + ((((rd l0 0) - a1) % 256) - 55)) then (some (0, 0, 7)) else (if 1 < (l0.length : Int) then (if (rd l0 1) = 0 then (some (0, 0, 8)) else (proctorref02_length.l0 k l0 ((((rd l0 0) - a1) % 256) - 55) 0 1)) else (none)))) else (none)
theorem proctorref02_length.calls (k : Nat) (A0 : Option Addr) (c0 : Nat) (l0 : List Int) (a1 : Int) (r1 : Int) (r2 : Int) (r3 : Int) (w : World) (hr0 : Kd.C (Kd.int .u8) w A0 l0.length l0) (hc0 : l0.length ≤ c0) (h : proctorref02_length.f k l0 a1 = some (r1, r2, r3)) :
 Calls Try.prog 164 #[.slice A0 l0.length c0, .int .u8 a1] w fun e w' => e = .returned (.tuple #[.int .i64 r1, .int .i64 r2, .int .i64 r3]) ∧ Drawn0 w w' := by
 have HR0 := Aside0.mk hr0
 have HC0 := Aside0.mk hc0
 clear hr0 hc0
 have H : (if 0 < (l0.length : Int) then (if (((rd l0 0) - a1) % 256) ≤ 55 then (some (((rd l0 0) - a1) % 256, 1, 0)) else (if (l0.length : Int) < (1 + ((((rd l0 0) - a1) % 256) - 55)) then (some (0, 0, 7)) else (if 1 < (l0.length : Int) then (if (rd l0 1) = 0 then (some (0, 0, 8)) else (proctorref02_length.l0 k l0 ((((rd l0 0) - a1) % 256) - 55) 0 1)) else (none)))) else (none)) = some (r1, r2, r3) := h
 clear h
 by_cases c3 : 0 < (l0.length : Int)
 ·rw [if_pos c3] at H
  have c3b0 : decide (0 < (l0.length : Int)) = true := decide_eq_true c3
  have c3b1 : decide (0 < l0.length) = true := decide_eq_true (by omega)
  clear c3
  by_cases c4 : (((rd l0 0) - a1) % 256) ≤ 55
  ·rw [if_pos c4] at H
   have c4b0 : decide ((((rd l0 0) - a1) % 256) ≤ 55) = true := decide_eq_true c4
   clear c4
   simp only [Option.some.injEq, Prod.mk.injEq] at H
   obtain ⟨rfl, rfl, rfl⟩ := H
   have p356 : 0 ≤ (0 : Int) := (by omega)
   have q356 : 0 < (l0.length : Int) := of_decide_eq_true zA
   obtain ⟨ad356, e356, hx356_0⟩ := Kd.at_int HR0.out 0 p356 q356
   cases e356
   have qi356 : (0 < l0.length) = True := eq_true (by omega)
   (try rw [show ((0 : Int)).toNat = 0 from rfl] at hx356_0)
   (try rw [Addr.add_zero'] at hx356_0)
   replace p356 := eq_true p356
   replace q356 := eq_true q356
   go_enter Try.func164, Try.ntmps164
   go_wp2
   go_ret3
   exact ⟨by first | rfl | (simp; done) | (simp [*]; done) | (simp only [wrap64, decide_eq_false_iff_not, Bool.not_eq_false] at *; first | (simp; omega) | (simp only [IntKind.wrap_u64] at *; simp; omega)), by repeat (first | exact Drawn0.refl _ | apply Drawn0.step)⟩
  ·rw [if_neg c4] at H
   have c4b0 : decide ((((rd l0 0) - a1) % 256) ≤ 55) = false := decide_eq_false c4
   clear c4
   by_cases c5 : (l0.length : Int) < (1 + ((((rd l0 0) - a1) % 256) - 55))
   ·rw [if_pos c5] at H
    have c5b0 : decide ((l0.length : Int) < (1 + ((((rd l0 0) - a1) % 256) - 55))) = true := decide_eq_true c5
    clear c5
    simp only [Option.some.injEq, Prod.mk.injEq] at H
    obtain ⟨rfl, rfl, rfl⟩ := H
    have p356 : 0 ≤ (0 : Int) := (by omega)
    have q356 : 0 < (l0.length : Int) := of_decide_eq_true zA
    obtain ⟨ad356, e356, hx356_0⟩ := Kd.at_int HR0.out 0 p356 q356
    cases e356
    have qi356 : (0 < l0.length) = True := eq_true (by omega)
    (try rw [show ((0 : Int)).toNat = 0 from rfl] at hx356_0)
    (try rw [Addr.add_zero'] at hx356_0)
    replace p356 := eq_true p356
    replace q356 := eq_true q356
    go_enter Try.func164, Try.ntmps164
    go_wp2
    go_ret3
    exact ⟨by first | rfl | (simp; done) | (simp [*]; done) | (simp only [wrap64, decide_eq_false_iff_not, Bool.not_eq_false] at *; first | (simp; omega) | (simp only [IntKind.wrap_u64] at *; simp; omega)), by repeat (first | exact Drawn0.refl _ | apply Drawn0.step)⟩
   ·rw [if_neg c5] at H
    have c5b0 : decide ((l0.length : Int) < (1 + ((((rd l0 0) - a1) % 256) - 55))) = false := decide_eq_false c5
    clear c5
    by_cases c6 : 1 < (l0.length : Int)
    ·rw [if_pos c6] at H
     have c6b0 : decide (1 < (l0.length : Int)) = true := decide_eq_true c6
     have c6b1 : decide (1 < l0.length) = true := decide_eq_true (by omega)
     clear c6
     by_cases c7 : (rd l0 1) = 0
     ·rw [if_pos c7] at H
      have c7b0 : ((rd l0 1) == 0) = true := beq_iff_eq.mpr c7
      have c7b1 : ((rd l0 1) != 0) = false := bne_eq_false_iff_eq.mpr c7
      clear c7
      simp only [Option.some.injEq, Prod.mk.injEq] at H
      obtain ⟨rfl, rfl, rfl⟩ := H
      have p356 : 0 ≤ (0 : Int) := (by omega)
      have q356 : 0 < (l0.length : Int) := of_decide_eq_true zA
      obtain ⟨ad356, e356, hx356_0⟩ := Kd.at_int HR0.out 0 p356 q356
      cases e356
      have qi356 : (0 < l0.length) = True := eq_true (by omega)
      (try rw [show ((0 : Int)).toNat = 0 from rfl] at hx356_0)
      (try rw [Addr.add_zero'] at hx356_0)
      replace p356 := eq_true p356
      replace q356 := eq_true q356
      have p357 : 0 ≤ (1 : Int) := (by omega)
      have q357 : 1 < (l0.length : Int) := of_decide_eq_true zA
      obtain ⟨ad357, e357, hx357_0⟩ := Kd.at_int HR0.out 1 p357 q357
      obtain rfl : ad356 = ad357 := (by injection e357)
      (try simp only [show (1 : Int).toNat = 1 from rfl, Nat.reduceMul, Nat.reduceEqDiff, Go.Addr.add, ↓reduceIte] at hx357_0)
      have qi357 : (1 < l0.length) = True := eq_true (by omega)
      (try rw [show ((1 : Int)).toNat = 1 from rfl] at hx357_0)
      replace p357 := eq_true p357
      replace q357 := eq_true q357
      go_enter Try.func164, Try.ntmps164
      go_wp2
      go_ret3
      exact ⟨by first | rfl | (simp; done) | (simp [*]; done) | (simp only [wrap64, decide_eq_false_iff_not, Bool.not_eq_false] at *; first | (simp; omega) | (simp only [IntKind.wrap_u64] at *; simp; omega)), by repeat (first | exact Drawn0.refl _ | apply Drawn0.step)⟩
     ·rw [if_neg c7] at H
      have c7b0 : ((rd l0 1) == 0) = false := beq_eq_false_iff_ne.mpr c7
      have c7b1 : ((rd l0 1) != 0) = true := bne_iff_ne.mpr c7
      have H' := Aside0.mk H
      clear H
      have p356 : 0 ≤ (0 : Int) := (by omega)
      have q356 : 0 < (l0.length : Int) := of_decide_eq_true zA
      obtain ⟨ad356, e356, hx356_0⟩ := Kd.at_int HR0.out 0 p356 q356
      cases e356
      have qi356 : (0 < l0.length) = True := eq_true (by omega)
      (try rw [show ((0 : Int)).toNat = 0 from rfl] at hx356_0)
      (try rw [Addr.add_zero'] at hx356_0)
      replace p356 := eq_true p356
      replace q356 := eq_true q356
      have p357 : 0 ≤ (1 : Int) := (by omega)
      have q357 : 1 < (l0.length : Int) := of_decide_eq_true zA
      obtain ⟨ad357, e357, hx357_0⟩ := Kd.at_int HR0.out 1 p357 q357
      obtain rfl : ad356 = ad357 := (by injection e357)
      (try simp only [show (1 : Int).toNat = 1 from rfl, Nat.reduceMul, Nat.reduceEqDiff, Go.Addr.add, ↓reduceIte] at hx357_0)
      have qi357 : (1 < l0.length) = True := eq_true (by omega)
      (try rw [show ((1 : Int)).toNat = 1 from rfl] at hx357_0)
      replace p357 := eq_true p357
      replace q357 := eq_true q357
      go_enter Try.func164, Try.ntmps164
      go_wp2
      go_loopg [9, 10] k (fun kq v9 v10 w' => ∃ (x9_1 : Int) (x10_1 : Int), v9 = .int .u64 x9_1 ∧ v10 = .int .i64 x10_1 ∧ Aside0 (proctorref02_length.l0 kq l0 ((((rd l0 0) - a1) % 256) - 55) x9_1 x10_1 = some (r1, r2, r3)) ∧ Aside0 (kq ≤ k) ∧ Drawn0 w w')
      case atStart => exact ⟨(0), (1), zX, zX, H', ⟨Nat.le_refl _⟩, by repeat (first | exact Drawn0.refl _ | apply Drawn0.step)⟩
      case round =>
       clear H'
       try clear c3b0
       try clear c3b1
       try clear c4b0
       try clear c5b0
       try clear c6b0
       try clear c6b1
       try clear c7
       try clear c7b0
       try clear c7b1
       try clear hx356_0
       try clear hx357_0
       try clear p356
       try clear p357
       try clear q356
       try clear q357
       obtain ⟨x9_1, x10_1, rfl, rfl, HA, HK1, ⟨m1, rfl⟩⟩ := hrel
       cases gk with
       | zero => exact absurd HA.out (by simp [proctorref02_length.l0])
       | succ k1 =>
        have H := HA.out
        clear HA
        simp only [proctorref02_length.l0] at H
        by_cases c8 : x10_1 ≤ ((((rd l0 0) - a1) % 256) - 55)
        ·rw [if_pos c8] at H
         have c8b0 : decide (x10_1 ≤ ((((rd l0 0) - a1) % 256) - 55)) = true := decide_eq_true c8
         clear c8
         by_cases c9 : 0 ≤ x10_1
         ·rw [if_pos c9] at H
          have c9b0 : decide (0 ≤ x10_1) = true := decide_eq_true c9
          clear c9
          by_cases c10 : x10_1 < (l0.length : Int)
          ·rw [if_pos c10] at H
           have c10b0 : decide (x10_1 < (l0.length : Int)) = true := decide_eq_true c10
           clear c10
           have H' := Aside0.mk H
           clear H
           have p358 : 0 ≤ (x10_1 : Int) := of_decide_eq_true zA
           have q358 : x10_1 < (l0.length : Int) := of_decide_eq_true zA
           obtain ⟨ad358, e358, hx358_0⟩ := Kd.at_int HR0.out x10_1 p358 q358
           obtain rfl : ad356 = ad358 := (by injection e358)
           replace p358 := eq_true p358
           replace q358 := eq_true q358
           go_wp2
           go_roundg k1
           case measure => have := HK1.out; omega
           case rel => exact ⟨(Go.bits .or .u64 (IntKind.u64.wrap (x9_1 * 256)) (IntKind.u64.wrap (rd l0 x10_1))), (wrap64 (x10_1 + 1)), zX, zX, H', ⟨by have := HK1.out; omega⟩, by repeat (first | exact Drawn0.refl _ | apply Drawn0.step)⟩
          ·rw [if_neg c10] at H
           exact absurd H (by simp)
         ·rw [if_neg c9] at H
          exact absurd H (by simp)
        ·rw [if_neg c8] at H
         have c8b0 : decide (x10_1 ≤ ((((rd l0 0) - a1) % 256) - 55)) = false := decide_eq_false c8
         clear c8
         by_cases c11 : x9_1 < 56
         ·rw [if_pos c11] at H
          have c11b0 : decide (x9_1 < 56) = true := decide_eq_true c11
          clear c11
          simp only [Option.some.injEq, Prod.mk.injEq] at H
          obtain ⟨rfl, rfl, rfl⟩ := H
          go_wp2
          go_ret3
          exact ⟨by first | rfl | (simp; done) | (simp [*]; done) | (simp only [wrap64, decide_eq_false_iff_not, Bool.not_eq_false] at *; first | (simp; omega) | (simp only [IntKind.wrap_u64] at *; simp; omega)), by repeat (first | exact Drawn0.refl _ | apply Drawn0.step)⟩
         ·rw [if_neg c11] at H
          have c11b0 : decide (x9_1 < 56) = false := decide_eq_false c11
          clear c11
          by_cases c12 : x9_1 > (IntKind.u64.wrap ((l0.length : Int)))
          ·rw [if_pos c12] at H
           have c12b0 : decide ((IntKind.u64.wrap ((l0.length : Int))) < x9_1) = true := decide_eq_true c12
           clear c12
           simp only [Option.some.injEq, Prod.mk.injEq] at H
           obtain ⟨rfl, rfl, rfl⟩ := H
           go_wp2
           go_ret3
           exact ⟨by first | rfl | (simp; done) | (simp [*]; done) | (simp only [wrap64, decide_eq_false_iff_not, Bool.not_eq_false] at *; first | (simp; omega) | (simp only [IntKind.wrap_u64] at *; simp; omega)), by repeat (first | exact Drawn0.refl _ | apply Drawn0.step)⟩
          ·rw [if_neg c12] at H
           have c12b0 : decide ((IntKind.u64.wrap ((l0.length : Int))) < x9_1) = false := decide_eq_false c12
           clear c12
           simp only [Option.some.injEq, Prod.mk.injEq] at H
           obtain ⟨rfl, rfl, rfl⟩ := H
           go_wp2
           go_ret3
           exact ⟨by first | rfl | (simp; done) | (simp [*]; done) | (simp only [wrap64, decide_eq_false_iff_not, Bool.not_eq_false] at *; first | (simp; omega) | (simp only [IntKind.wrap_u64] at *; simp; omega)), by repeat (first | exact Drawn0.refl _ | apply Drawn0.step)⟩
    ·rw [if_neg c6] at H
     exact absurd H (by simp)
 ·rw [if_neg c3] at H
  exact absurd H (by simp)
end Go.Proofs.Ytocphkfkdadhaaa.PRF
