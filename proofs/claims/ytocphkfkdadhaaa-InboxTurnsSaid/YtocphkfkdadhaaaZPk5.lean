import Derived.Test.YtocphkfkdadhaaaZPk2
import Derived.Test.YtocphkfkdadhaaaZPk3
import Derived.Test.YtocphkfkdadhaaaZPk4
set_option maxHeartbeats 8000000
set_option linter.unusedVariables false
set_option linter.unusedSimpArgs false
set_option maxRecDepth 100000
namespace Go.Proofs.Ytocphkfkdadhaaa.PRF
open Go.RowKit Go.Proofs.YtocphkfkdadhaaaW.PrintWords Go.Proofs.YtocphkfkdadhaaaW.PrintLast Go.Proofs.YtocphkfkdadhaaaW.PrintMore
attribute [local go_sem] max2_int min2_int max_two min_two max_three min_three max_four min_four
def proctorref20_wait.j0 : Nat → Int → List Int → Bool → List (S78) → Int → List (List Int) → Int → Option ((List (S78)) × Int × (List (List Int)) × Int × Int)
 | 0, _, _, _, _, _, _, _ => none
 | k + 1, x1, x2, x39, x221000, x221001, x221002, x221003 => if x39 = true then (some (([] : List (S78)), 0, ([] : List (List Int)), 0, 2)) else (if (x221000.length : Int) ≥ 4096 then (some (([] : List (S78)), 0, ([] : List (List Int)), 0, 4)) else ((proctorref20_Copy.f k x221000 x221001 x221002 x221003).bind fun bt224 => ((proctorref01_Copy.f x2).bind fun t233 => (if bt224.1.length < 4398046511104 then (some ((bt224.1 ++ [(⟨x1, t233⟩ : S78)]), bt224.2.1, bt224.2.2.1, bt224.2.2.2, 0)) else (none)))))
def proctorref20_wait.f (k : Nat) (l0_0 : List (S78)) (a0_1 : Int) (l0_2 : List (List Int)) (a0_3 : Int) (a1 : Int) (l2 : List Int) : Option ((List (S78)) × Int × (List (List Int)) × Int × Int) := (proctorref20_May.f k l0_0 a0_1 l0_2 a0_3).bind fun t222 => (if t222 = true then (if a1 < 0 then (proctorref20_wait.j0 k a1 l2 true l0_0 a0_1 l0_2 a0_3) else (if (l0_0.length : Int) > 0 then (if 0 ≤ (wrap64 ((l0_0.length : Int) - 1)) then (if (wrap64 ((l0_0.length : Int) - 1)) < (l0_0.length : Int) then (if a1 < ((rd_T78 l0_0 (wrap64 ((l0_0.length : Int) - 1))).f0) then (proctorref20_wait.j0 k a1 l2 true l0_0 a0_1 l0_2 a0_3) else (proctorref20_wait.j0 k a1 l2 (decide ((l2.length : Int) > 65536)) l0_0 a0_1 l0_2 a0_3)) else (none)) else (none)) else (proctorref20_wait.j0 k a1 l2 (decide ((l2.length : Int) > 65536)) l0_0 a0_1 l0_2 a0_3))) else (proctorref20_wait.j0 k a1 l2 true l0_0 a0_1 l0_2 a0_3))
def proctorref20_wait.T6 : Bool × List (List Nat × List Nat) := (true, [([], []), ([0], [0]), ([], []), ([], []), ([3], [3]), ([2, 4], [2, 4]), ([5], [5]), ([1, 6, 4], [1, 6]), ([0, 1, 2, 3, 4, 5, 6, 7], []), ([8, 7, 7, 0, 1, 2, 3, 4, 5, 6, 7], [7, 8])])
def proctorref20_wait.B6 : List Nat := [0, 1, 0, 0, 8, 28, 60, 127, 255, 511]
theorem proctorref20_wait.tab6 : rtab .any (opsOf Try.f94 6) = proctorref20_wait.T6 := by kernel_rfl
theorem proctorref20_wait.bits6 : waitsOk proctorref20_wait.T6.2 proctorref20_wait.B6 = true := by kernel_rfl
theorem proctorref20_wait.calls (k : Nat) (A0_0 : Option Addr) (c0_0 : Nat) (l0_0 : List (S78)) (a0_1 : Int) (A0_2 : Option Addr) (c0_2 : Nat) (l0_2 : List (List Int)) (a0_3 : Int) (a1 : Int) (A2 : Option Addr) (c2 : Nat) (l2 : List Int) (r1 : List (S78)) (r2 : Int) (r3 : List (List Int)) (r4 : Int) (r5 : Int) (w : World) (hr0_0 : Kd.C k78 w A0_0 l0_0.length l0_0) (hc0_0 : l0_0.length ≤ c0_0) (hr0_2 : Kd.C (Kd.slice 5 (Kd.int .u8)) w A0_2 l0_2.length l0_2) (hc0_2 : l0_2.length ≤ c0_2) (hr2 : Kd.C (Kd.int .u8) w A2 l2.length l2) (hc2 : l2.length ≤ c2) (h : proctorref20_wait.f k l0_0 a0_1 l0_2 a0_3 a1 l2 = some (r1, r2, r3, r4, r5)) :
 Calls Try.prog 94 #[.agg #[.slice A0_0 l0_0.length c0_0, .int .i64 a0_1, .slice A0_2 l0_2.length c0_2, .int .u64 a0_3], .int .i64 a1, .slice A2 l2.length c2] w fun e w' => ∃ v0_ v2_ : Value, e = .returned (.tuple #[.agg #[v0_, .int .i64 r2, v2_, .int .u64 r4], .int .i64 r5]) ∧ Kd.S k78 78 w' w.heap.size (fun _ => True) v0_ r1 ∧ Kd.S (Kd.slice 5 (Kd.int .u8)) 74 w' w.heap.size (fun _ => True) v2_ r3 ∧ Below w.heap.size w w' := by
 have hu73 := Try.underlying73
 have hu78 := Try.underlying78
 have HR0_0 := Aside0.mk hr0_0
 have HC0_0 := Aside0.mk hc0_0
 clear hr0_0 hc0_0
 have HR0_2 := Aside0.mk hr0_2
 have HC0_2 := Aside0.mk hc0_2
 clear hr0_2 hc0_2
 have HR2 := Aside0.mk hr2
 have HC2 := Aside0.mk hc2
 clear hr2 hc2
 have HB := Aside0.mk (Below.refl w.heap.size w)
 have H : ((proctorref20_May.f k l0_0 a0_1 l0_2 a0_3).bind fun t222 => (if t222 = true then (if a1 < 0 then (proctorref20_wait.j0 k a1 l2 true l0_0 a0_1 l0_2 a0_3) else (if (l0_0.length : Int) > 0 then (if 0 ≤ (wrap64 ((l0_0.length : Int) - 1)) then (if (wrap64 ((l0_0.length : Int) - 1)) < (l0_0.length : Int) then (if a1 < ((rd_T78 l0_0 (wrap64 ((l0_0.length : Int) - 1))).f0) then (proctorref20_wait.j0 k a1 l2 true l0_0 a0_1 l0_2 a0_3) else (proctorref20_wait.j0 k a1 l2 (decide ((l2.length : Int) > 65536)) l0_0 a0_1 l0_2 a0_3)) else (none)) else (none)) else (proctorref20_wait.j0 k a1 l2 (decide ((l2.length : Int) > 65536)) l0_0 a0_1 l0_2 a0_3))) else (proctorref20_wait.j0 k a1 l2 true l0_0 a0_1 l0_2 a0_3))) = some (r1, r2, r3, r4, r5) := h
 clear h
 have HC4 := Aside0.mk H
 clear H
 go_enter Try.func94, Try.ntmps94
 go_upto_region 1 with (first | ((with_reducible refine gate_dst (N := 3) rfl ?_); (try (refine gate_guard (by rfl) ?_; dsimp only)); refine zx 3 #[.slice A0_0 l0_0.length c0_0, .int .i64 a0_1, .slice A0_2 l0_2.length c0_2, .int .u64 a0_3] 73 ?_; intro gb220 hg w5 hbox hb; have BK220 := Aside0.mk (hbox); have GW220 := Aside0.mk ((zG hg HB)); have GE220 := Aside0.mk ((zG hg HB)); replace HB := Aside0.mk (below_step (zB HB) hb); clear hb hbox hg) | ((with_reducible refine gate_dst (N := 6) rfl ?_); (try (refine gate_guard (by rfl) ?_; dsimp only)); refine zx 6 #[.slice none 0 0, .int .i64 0, .slice none 0 0, .int .u64 0] 73 ?_; intro gb221 hg w6 hbox hb; have BK221 := Aside0.mk (hbox); have GW221 := Aside0.mk ((zG1 hg HB GE220)); have GE221 := Aside0.mk ((zG1 hg HB GE220)); have NB220_221 := Aside0.mk ((zN_ hg BK220)); have NB221_220 := Aside0.mk ((by rw [hg]; exact Nat.ne_of_gt (blk_lt (g := gb220) (o := .cells #[.slice A0_0 l0_0.length c0_0, .int .i64 a0_1, .slice A0_2 l0_2.length c0_2, .int .u64 a0_3] 73 (0, 0)) (zK BK220)) : gb221 ≠ gb220)); replace BK220 := Aside0.mk (zb BK220 hb); replace HB := Aside0.mk (below_step (zB1 HB GE220) hb); clear hb hbox hg))
 (try simp only [Act.put, List.setIfInBounds_toArray, List.set_cons_zero, List.set_cons_succ])
 go_cut [39] (fun v39 wc => ∃ (kq : Nat) (x39_3 : Bool), v39 = .bool x39_3 ∧ Aside0 (proctorref20_wait.j0 kq a1 l2 x39_3 l0_0 a0_1 l0_2 a0_3 = some (r1, r2, r3, r4, r5)) ∧ Aside0 (kq ≤ k) ∧ Aside0 (wc.heap[gb220]? = some (.cells #[(.slice A0_0 l0_0.length c0_0), .int .i64 a0_1, (.slice A0_2 l0_2.length c0_2), .int .u64 a0_3] 73 (0, 0))) ∧ Aside0 (wc.heap[gb221]? = some (.cells #[(.slice none 0 0), .int .i64 0, (.slice none 0 0), .int .u64 0] 73 (0, 0))) ∧ Aside0 (Below w.heap.size w wc))
 case first =>
  have H := HC4.out
  clear HC4
  replace H := Option.bind_eq_some_iff.mp H
  obtain ⟨t222, A70, H⟩ := H
  replace H : (if t222 = true then (if a1 < 0 then (proctorref20_wait.j0 k a1 l2 true l0_0 a0_1 l0_2 a0_3) else (if (l0_0.length : Int) > 0 then (if 0 ≤ (wrap64 ((l0_0.length : Int) - 1)) then (if (wrap64 ((l0_0.length : Int) - 1)) < (l0_0.length : Int) then (if a1 < ((rd_T78 l0_0 (wrap64 ((l0_0.length : Int) - 1))).f0) then (proctorref20_wait.j0 k a1 l2 true l0_0 a0_1 l0_2 a0_3) else (proctorref20_wait.j0 k a1 l2 (decide ((l2.length : Int) > 65536)) l0_0 a0_1 l0_2 a0_3)) else (none)) else (none)) else (proctorref20_wait.j0 k a1 l2 (decide ((l2.length : Int) > 65536)) l0_0 a0_1 l0_2 a0_3))) else (proctorref20_wait.j0 k a1 l2 true l0_0 a0_1 l0_2 a0_3)) = some (r1, r2, r3, r4, r5) := H
  have A7 := Aside0.mk A70
  clear A70
  by_cases c8 : t222 = true
  ·subst c8
   have H1 : (if a1 < 0 then (proctorref20_wait.j0 k a1 l2 true l0_0 a0_1 l0_2 a0_3) else (if (l0_0.length : Int) > 0 then (if 0 ≤ (wrap64 ((l0_0.length : Int) - 1)) then (if (wrap64 ((l0_0.length : Int) - 1)) < (l0_0.length : Int) then (if a1 < ((rd_T78 l0_0 (wrap64 ((l0_0.length : Int) - 1))).f0) then (proctorref20_wait.j0 k a1 l2 true l0_0 a0_1 l0_2 a0_3) else (proctorref20_wait.j0 k a1 l2 (decide ((l2.length : Int) > 65536)) l0_0 a0_1 l0_2 a0_3)) else (none)) else (none)) else (proctorref20_wait.j0 k a1 l2 (decide ((l2.length : Int) > 65536)) l0_0 a0_1 l0_2 a0_3))) = some (r1, r2, r3, r4, r5) := by rw [if_pos rfl] at H; exact H
   clear H
   have H := H1
   clear H1
   by_cases c9 : a1 < 0
   ·rw [if_pos c9] at H
    have c9b0 : decide (a1 < 0) = true := decide_eq_true c9
    clear c9
    (first | rw [c9b0] | (simp only [i64_w, i32_w]; rw [c9b0]) | skip)
    have H' := Aside0.mk H
    clear H
    have hnb10 := NB220_221.out
    have hnc10 := NB221_220.out
    have hcz11_0 : w6.cell? ⟨gb220, 0, none⟩ = some (.slice A0_0 l0_0.length c0_0) := (blk_cell BK220.out 0).trans rfl
    have hcz11_1 : w6.cell? ⟨gb220, 1, none⟩ = some (.int .i64 a0_1) := (blk_cell BK220.out 1).trans rfl
    have hcz11_2 : w6.cell? ⟨gb220, 2, none⟩ = some (.slice A0_2 l0_2.length c0_2) := (blk_cell BK220.out 2).trans rfl
    have hcz11_3 : w6.cell? ⟨gb220, 3, none⟩ = some (.int .u64 a0_3) := (blk_cell BK220.out 3).trans rfl
    have hfz11_0 := blk_frozen BK220.out 0
    have hfz11_1 := blk_frozen BK220.out 1
    have hfz11_2 := blk_frozen BK220.out 2
    have hfz11_3 := blk_frozen BK220.out 3
    go_wp2_with (first | ((with_reducible refine gate_callee (f := 35) rfl ?_); refine goesL_ (some 10) rfl rfl Try.func35 (by kernel_rfl) rfl #[.agg #[.slice A0_0 l0_0.length c0_0, .int .i64 a0_1, .slice A0_2 l0_2.length c0_2, .int .u64 a0_3]] rfl zM ?_; (with_reducible refine (proctorref20_May.calls k _ _ l0_0 a0_1 _ _ l0_2 a0_3 true _ ?side1 ?side2 ?side3 ?side4 A7.out).mono ?_); (case side1 => exact zY (Kd.C_below HR0_0.out HB.out)); (case side2 => exact HC0_0.out); (case side3 => exact zY (Kd.C_below HR0_2.out HB.out)); (case side4 => exact HC0_2.out); rintro e w12 ⟨rfl, hb⟩; refine ⟨_, rfl, ?_⟩; replace BK220 := Aside0.mk (zb BK220 hb); replace BK221 := Aside0.mk (zb BK221 hb); replace HB := Aside0.mk (below_step (zB2 HB GE220 GE221) hb); (try clear hb)))
    go_meet
    case rel => exact ⟨_, (true), zX, H', ⟨by first | omega | exact Nat.le_refl _⟩, ⟨zK BK220⟩, ⟨zK BK221⟩, ⟨zB2 HB GE220 GE221⟩⟩
   ·rw [if_neg c9] at H
    have c9b0 : decide (a1 < 0) = false := decide_eq_false c9
    clear c9
    (first | rw [c9b0] | (simp only [i64_w, i32_w]; rw [c9b0]) | skip)
    by_cases c13 : (l0_0.length : Int) > 0
    ·rw [if_pos c13] at H
     have c13b0 : decide (0 < (l0_0.length : Int)) = true := decide_eq_true c13
     have c13b1 : decide (0 < l0_0.length) = true := decide_eq_true (by omega)
     clear c13
     obtain ⟨ji14, hji14⟩ : ∃ j_ : Int, (wrap64 ((l0_0.length : Int) - 1)) = j_ := ⟨_, rfl⟩
     replace H : (if 0 ≤ (ji14) then (if (ji14) < (l0_0.length : Int) then (if a1 < ((rd_T78 l0_0 (ji14)).f0) then (proctorref20_wait.j0 k a1 l2 true l0_0 a0_1 l0_2 a0_3) else (proctorref20_wait.j0 k a1 l2 (decide ((l2.length : Int) > 65536)) l0_0 a0_1 l0_2 a0_3)) else (none)) else (none)) = some (r1, r2, r3, r4, r5) := by first | (rw [hji14] at H; exact H) | (simp only [hji14] at H ⊢; exact H)
     (try rw [hji14] at A7)
     have hji14w : (IntKind.i64.wrap ((l0_0.length : Int) - 1)) = ji14 := (i64_w _).trans hji14
     by_cases c15 : 0 ≤ (ji14)
     ·rw [if_pos c15] at H
      have c15b0 : decide (0 ≤ (ji14)) = true := decide_eq_true c15
      clear c15
      by_cases c16 : (ji14) < (l0_0.length : Int)
      ·rw [if_pos c16] at H
       have c16b0 : decide ((ji14) < (l0_0.length : Int)) = true := decide_eq_true c16
       clear c16
       by_cases c17 : a1 < ((rd_T78 l0_0 (ji14)).f0)
       ·rw [if_pos c17] at H
        have c17b0 : decide (a1 < ((rd_T78 l0_0 (ji14)).f0)) = true := decide_eq_true c17
        clear c17
        have H' := Aside0.mk H
        clear H
        have hnb18 := NB220_221.out
        have hnc18 := NB221_220.out
        have hcz19_0 : w6.cell? ⟨gb220, 0, none⟩ = some (.slice A0_0 l0_0.length c0_0) := (blk_cell BK220.out 0).trans rfl
        have hcz19_1 : w6.cell? ⟨gb220, 1, none⟩ = some (.int .i64 a0_1) := (blk_cell BK220.out 1).trans rfl
        have hcz19_2 : w6.cell? ⟨gb220, 2, none⟩ = some (.slice A0_2 l0_2.length c0_2) := (blk_cell BK220.out 2).trans rfl
        have hcz19_3 : w6.cell? ⟨gb220, 3, none⟩ = some (.int .u64 a0_3) := (blk_cell BK220.out 3).trans rfl
        have hfz19_0 := blk_frozen BK220.out 0
        have hfz19_1 := blk_frozen BK220.out 1
        have hfz19_2 := blk_frozen BK220.out 2
        have hfz19_3 := blk_frozen BK220.out 3
        go_wp2_with (first | ((with_reducible refine gate_callee (f := 35) rfl ?_); refine goesL_ (some 10) rfl rfl Try.func35 (by kernel_rfl) rfl #[.agg #[.slice A0_0 l0_0.length c0_0, .int .i64 a0_1, .slice A0_2 l0_2.length c0_2, .int .u64 a0_3]] rfl zM ?_; (with_reducible refine (proctorref20_May.calls k _ _ l0_0 a0_1 _ _ l0_2 a0_3 true _ ?side1 ?side2 ?side3 ?side4 A7.out).mono ?_); (case side1 => exact zY (Kd.C_below HR0_0.out HB.out)); (case side2 => exact HC0_0.out); (case side3 => exact zY (Kd.C_below HR0_2.out HB.out)); (case side4 => exact HC0_2.out); rintro e w20 ⟨rfl, hb⟩; refine ⟨_, rfl, ?_⟩; replace BK220 := Aside0.mk (zb BK220 hb); replace BK221 := Aside0.mk (zb BK221 hb); replace HB := Aside0.mk (below_step (zB2 HB GE220 GE221) hb); (try clear hb); have hcz21_0 : w20.cell? ⟨gb220, 0, none⟩ = some (.slice A0_0 l0_0.length c0_0) := (blk_cell BK220.out 0).trans rfl; have hcz21_1 : w20.cell? ⟨gb220, 1, none⟩ = some (.int .i64 a0_1) := (blk_cell BK220.out 1).trans rfl; have hcz21_2 : w20.cell? ⟨gb220, 2, none⟩ = some (.slice A0_2 l0_2.length c0_2) := (blk_cell BK220.out 2).trans rfl; have hcz21_3 : w20.cell? ⟨gb220, 3, none⟩ = some (.int .u64 a0_3) := (blk_cell BK220.out 3).trans rfl; have hfz21_0 := blk_frozen BK220.out 0; have hfz21_1 := blk_frozen BK220.out 1; have hfz21_2 := blk_frozen BK220.out 2; have hfz21_3 := blk_frozen BK220.out 3; have p223 : 0 ≤ ((ji14) : Int) := of_decide_eq_true zA; have q223 : (ji14) < (l0_0.length : Int) := of_decide_eq_true zA; obtain ⟨ad223, A223_1, c223_1, e223, hx223_0, hx223_1, hl223_1, hi223_1⟩ := at_T78 HR0_0.out (ji14) p223 q223; cases e223; replace hx223_0 := (HB.out.cell (World.block_lt_of_cell? w _ hx223_0)).trans hx223_0; replace hx223_1 := (HB.out.cell (World.block_lt_of_cell? w _ hx223_1)).trans hx223_1; have HR223_1 := Aside0.mk hi223_1; have HC223_1 := Aside0.mk hl223_1; clear hi223_1 hl223_1; replace p223 := eq_true p223; replace q223 := eq_true q223))
        go_meet
        case rel => exact ⟨_, (true), zX, H', ⟨by first | omega | exact Nat.le_refl _⟩, ⟨zK BK220⟩, ⟨zK BK221⟩, ⟨zB2 HB GE220 GE221⟩⟩
       ·rw [if_neg c17] at H
        have c17b0 : decide (a1 < ((rd_T78 l0_0 (ji14)).f0)) = false := decide_eq_false c17
        clear c17
        have H' := Aside0.mk H
        clear H
        have hnb22 := NB220_221.out
        have hnc22 := NB221_220.out
        have hcz23_0 : w6.cell? ⟨gb220, 0, none⟩ = some (.slice A0_0 l0_0.length c0_0) := (blk_cell BK220.out 0).trans rfl
        have hcz23_1 : w6.cell? ⟨gb220, 1, none⟩ = some (.int .i64 a0_1) := (blk_cell BK220.out 1).trans rfl
        have hcz23_2 : w6.cell? ⟨gb220, 2, none⟩ = some (.slice A0_2 l0_2.length c0_2) := (blk_cell BK220.out 2).trans rfl
        have hcz23_3 : w6.cell? ⟨gb220, 3, none⟩ = some (.int .u64 a0_3) := (blk_cell BK220.out 3).trans rfl
        have hfz23_0 := blk_frozen BK220.out 0
        have hfz23_1 := blk_frozen BK220.out 1
        have hfz23_2 := blk_frozen BK220.out 2
        have hfz23_3 := blk_frozen BK220.out 3
        go_wp2_with (first | ((with_reducible refine gate_callee (f := 35) rfl ?_); refine goesL_ (some 10) rfl rfl Try.func35 (by kernel_rfl) rfl #[.agg #[.slice A0_0 l0_0.length c0_0, .int .i64 a0_1, .slice A0_2 l0_2.length c0_2, .int .u64 a0_3]] rfl zM ?_; (with_reducible refine (proctorref20_May.calls k _ _ l0_0 a0_1 _ _ l0_2 a0_3 true _ ?side1 ?side2 ?side3 ?side4 A7.out).mono ?_); (case side1 => exact zY (Kd.C_below HR0_0.out HB.out)); (case side2 => exact HC0_0.out); (case side3 => exact zY (Kd.C_below HR0_2.out HB.out)); (case side4 => exact HC0_2.out); rintro e w24 ⟨rfl, hb⟩; refine ⟨_, rfl, ?_⟩; replace BK220 := Aside0.mk (zb BK220 hb); replace BK221 := Aside0.mk (zb BK221 hb); replace HB := Aside0.mk (below_step (zB2 HB GE220 GE221) hb); (try clear hb); have hcz25_0 : w24.cell? ⟨gb220, 0, none⟩ = some (.slice A0_0 l0_0.length c0_0) := (blk_cell BK220.out 0).trans rfl; have hcz25_1 : w24.cell? ⟨gb220, 1, none⟩ = some (.int .i64 a0_1) := (blk_cell BK220.out 1).trans rfl; have hcz25_2 : w24.cell? ⟨gb220, 2, none⟩ = some (.slice A0_2 l0_2.length c0_2) := (blk_cell BK220.out 2).trans rfl; have hcz25_3 : w24.cell? ⟨gb220, 3, none⟩ = some (.int .u64 a0_3) := (blk_cell BK220.out 3).trans rfl; have hfz25_0 := blk_frozen BK220.out 0; have hfz25_1 := blk_frozen BK220.out 1; have hfz25_2 := blk_frozen BK220.out 2; have hfz25_3 := blk_frozen BK220.out 3; have p223 : 0 ≤ ((ji14) : Int) := of_decide_eq_true zA; have q223 : (ji14) < (l0_0.length : Int) := of_decide_eq_true zA; obtain ⟨ad223, A223_1, c223_1, e223, hx223_0, hx223_1, hl223_1, hi223_1⟩ := at_T78 HR0_0.out (ji14) p223 q223; cases e223; replace hx223_0 := (HB.out.cell (World.block_lt_of_cell? w _ hx223_0)).trans hx223_0; replace hx223_1 := (HB.out.cell (World.block_lt_of_cell? w _ hx223_1)).trans hx223_1; have HR223_1 := Aside0.mk hi223_1; have HC223_1 := Aside0.mk hl223_1; clear hi223_1 hl223_1; replace p223 := eq_true p223; replace q223 := eq_true q223))
        go_meet
        case rel => exact ⟨_, (decide ((l2.length : Int) > 65536)), zX, H', ⟨by first | omega | exact Nat.le_refl _⟩, ⟨zK BK220⟩, ⟨zK BK221⟩, ⟨zB2 HB GE220 GE221⟩⟩
      ·rw [if_neg c16] at H
       exact absurd H (by simp)
     ·rw [if_neg c15] at H
      exact absurd H (by simp)
    ·rw [if_neg c13] at H
     have c13b0 : decide (0 < (l0_0.length : Int)) = false := decide_eq_false c13
     have c13b1 : decide (0 < l0_0.length) = false := decide_eq_false (by omega)
     clear c13
     have H' := Aside0.mk H
     clear H
     have hnb26 := NB220_221.out
     have hnc26 := NB221_220.out
     have hcz27_0 : w6.cell? ⟨gb220, 0, none⟩ = some (.slice A0_0 l0_0.length c0_0) := (blk_cell BK220.out 0).trans rfl
     have hcz27_1 : w6.cell? ⟨gb220, 1, none⟩ = some (.int .i64 a0_1) := (blk_cell BK220.out 1).trans rfl
     have hcz27_2 : w6.cell? ⟨gb220, 2, none⟩ = some (.slice A0_2 l0_2.length c0_2) := (blk_cell BK220.out 2).trans rfl
     have hcz27_3 : w6.cell? ⟨gb220, 3, none⟩ = some (.int .u64 a0_3) := (blk_cell BK220.out 3).trans rfl
     have hfz27_0 := blk_frozen BK220.out 0
     have hfz27_1 := blk_frozen BK220.out 1
     have hfz27_2 := blk_frozen BK220.out 2
     have hfz27_3 := blk_frozen BK220.out 3
     go_wp2_with (first | ((with_reducible refine gate_callee (f := 35) rfl ?_); refine goesL_ (some 10) rfl rfl Try.func35 (by kernel_rfl) rfl #[.agg #[.slice A0_0 l0_0.length c0_0, .int .i64 a0_1, .slice A0_2 l0_2.length c0_2, .int .u64 a0_3]] rfl zM ?_; (with_reducible refine (proctorref20_May.calls k _ _ l0_0 a0_1 _ _ l0_2 a0_3 true _ ?side1 ?side2 ?side3 ?side4 A7.out).mono ?_); (case side1 => exact zY (Kd.C_below HR0_0.out HB.out)); (case side2 => exact HC0_0.out); (case side3 => exact zY (Kd.C_below HR0_2.out HB.out)); (case side4 => exact HC0_2.out); rintro e w28 ⟨rfl, hb⟩; refine ⟨_, rfl, ?_⟩; replace BK220 := Aside0.mk (zb BK220 hb); replace BK221 := Aside0.mk (zb BK221 hb); replace HB := Aside0.mk (below_step (zB2 HB GE220 GE221) hb); (try clear hb); have hcz29_0 : w28.cell? ⟨gb220, 0, none⟩ = some (.slice A0_0 l0_0.length c0_0) := (blk_cell BK220.out 0).trans rfl; have hcz29_1 : w28.cell? ⟨gb220, 1, none⟩ = some (.int .i64 a0_1) := (blk_cell BK220.out 1).trans rfl; have hcz29_2 : w28.cell? ⟨gb220, 2, none⟩ = some (.slice A0_2 l0_2.length c0_2) := (blk_cell BK220.out 2).trans rfl; have hcz29_3 : w28.cell? ⟨gb220, 3, none⟩ = some (.int .u64 a0_3) := (blk_cell BK220.out 3).trans rfl; have hfz29_0 := blk_frozen BK220.out 0; have hfz29_1 := blk_frozen BK220.out 1; have hfz29_2 := blk_frozen BK220.out 2; have hfz29_3 := blk_frozen BK220.out 3))
     go_meet
     case rel => exact ⟨_, (decide ((l2.length : Int) > 65536)), zX, H', ⟨by first | omega | exact Nat.le_refl _⟩, ⟨zK BK220⟩, ⟨zK BK221⟩, ⟨zB2 HB GE220 GE221⟩⟩
  ·replace c8 := Bool.eq_false_iff.mpr c8
   subst c8
   have H1 : (proctorref20_wait.j0 k a1 l2 true l0_0 a0_1 l0_2 a0_3) = some (r1, r2, r3, r4, r5) := by rw [if_neg (show ¬ (false = true) by decide)] at H; exact H
   clear H
   have H := H1
   clear H1
   have H' := Aside0.mk H
   clear H
   have hnb30 := NB220_221.out
   have hnc30 := NB221_220.out
   have hcz31_0 : w6.cell? ⟨gb220, 0, none⟩ = some (.slice A0_0 l0_0.length c0_0) := (blk_cell BK220.out 0).trans rfl
   have hcz31_1 : w6.cell? ⟨gb220, 1, none⟩ = some (.int .i64 a0_1) := (blk_cell BK220.out 1).trans rfl
   have hcz31_2 : w6.cell? ⟨gb220, 2, none⟩ = some (.slice A0_2 l0_2.length c0_2) := (blk_cell BK220.out 2).trans rfl
   have hcz31_3 : w6.cell? ⟨gb220, 3, none⟩ = some (.int .u64 a0_3) := (blk_cell BK220.out 3).trans rfl
   have hfz31_0 := blk_frozen BK220.out 0
   have hfz31_1 := blk_frozen BK220.out 1
   have hfz31_2 := blk_frozen BK220.out 2
   have hfz31_3 := blk_frozen BK220.out 3
   go_wp2_with (first | ((with_reducible refine gate_callee (f := 35) rfl ?_); refine goesL_ (some 10) rfl rfl Try.func35 (by kernel_rfl) rfl #[.agg #[.slice A0_0 l0_0.length c0_0, .int .i64 a0_1, .slice A0_2 l0_2.length c0_2, .int .u64 a0_3]] rfl zM ?_; (with_reducible refine (proctorref20_May.calls k _ _ l0_0 a0_1 _ _ l0_2 a0_3 false _ ?side1 ?side2 ?side3 ?side4 A7.out).mono ?_); (case side1 => exact zY (Kd.C_below HR0_0.out HB.out)); (case side2 => exact HC0_0.out); (case side3 => exact zY (Kd.C_below HR0_2.out HB.out)); (case side4 => exact HC0_2.out); rintro e w32 ⟨rfl, hb⟩; refine ⟨_, rfl, ?_⟩; replace BK220 := Aside0.mk (zb BK220 hb); replace BK221 := Aside0.mk (zb BK221 hb); replace HB := Aside0.mk (below_step (zB2 HB GE220 GE221) hb); (try clear hb)))
   go_meet
   case rel => exact ⟨_, (true), zX, H', ⟨by first | omega | exact Nat.le_refl _⟩, ⟨zK BK220⟩, ⟨zK BK221⟩, ⟨zB2 HB GE220 GE221⟩⟩
 case rest =>
  clear HC4
  obtain ⟨kq, x39_3, rfl, HA, HJ3, BK220, BK221, HB⟩ := hcut
  cases kq with
  | zero => exact absurd HA.out (by simp [proctorref20_wait.j0])
  | succ kj3 =>
   have H := HA.out
   clear HA
   simp only [proctorref20_wait.j0] at H
   by_cases c33 : x39_3 = true
   ·subst c33
    have H1 : (some (([] : List (S78)), 0, ([] : List (List Int)), 0, 2)) = some (r1, r2, r3, r4, r5) := by rw [if_pos rfl] at H; exact H
    clear H
    have H := H1
    clear H1
    simp only [Option.some.injEq, Prod.mk.injEq] at H
    obtain ⟨rfl, rfl, rfl, rfl, rfl⟩ := H
    have hnb34 := NB221_220.out
    have hnc34 := NB220_221.out
    have hcz35_0 : wc.cell? ⟨gb221, 0, none⟩ = some (.slice none 0 0) := (blk_cell BK221.out 0).trans rfl
    have hcz35_1 : wc.cell? ⟨gb221, 1, none⟩ = some (.int .i64 0) := (blk_cell BK221.out 1).trans rfl
    have hcz35_2 : wc.cell? ⟨gb221, 2, none⟩ = some (.slice none 0 0) := (blk_cell BK221.out 2).trans rfl
    have hcz35_3 : wc.cell? ⟨gb221, 3, none⟩ = some (.int .u64 0) := (blk_cell BK221.out 3).trans rfl
    have hfz35_0 := blk_frozen BK221.out 0
    have hfz35_1 := blk_frozen BK221.out 1
    have hfz35_2 := blk_frozen BK221.out 2
    have hfz35_3 := blk_frozen BK221.out 3
    go_wp2
    refine bodyPost_ret (results_ct rfl _ _ gb221 73 #[.slice none 0 0, .int .i64 0, .slice none 0 0, .int .u64 0] (0, 0) _ rfl (by refine zr ?_; refine blk_put (cs := #[.slice none 0 0, .int .i64 0, .slice none 0 0, .int .u64 0]) ?_ 3 _ rfl; refine zr ?_; refine blk_put (cs := #[.slice none 0 0, .int .i64 0, .slice none 0 0, .int .u64 0]) ?_ 2 _ rfl; refine zr ?_; refine blk_put (cs := #[.slice none 0 0, .int .i64 0, .slice none 0 0, .int .u64 0]) ?_ 1 _ rfl; refine zr ?_; refine blk_put (cs := #[.slice none 0 0, .int .i64 0, .slice none 0 0, .int .u64 0]) ?_ 0 _ rfl; refine zr ?_; exact BK221.out) Try.underlying73 rfl (by kernel_rfl)) rfl ?_
    exact ⟨_, _, zE, by first | exact Kd.S_nil _ _ _ _ _ | exact Kd.N_nil _ _ _ _ _ | exact Kd.V_nil _ _ _ _ _ | exact Kd.Q_nil _ _ _ _ _ | exact Kd.R_nil _ _ _ _ _, by first | exact Kd.S_nil _ _ _ _ _ | exact Kd.N_nil _ _ _ _ _ | exact Kd.V_nil _ _ _ _ _ | exact Kd.Q_nil _ _ _ _ _ | exact Kd.R_nil _ _ _ _ _, zB2 HB GE220 GE221⟩
   ·replace c33 := Bool.eq_false_iff.mpr c33
    subst c33
    have H1 : (if (l0_0.length : Int) ≥ 4096 then (some (([] : List (S78)), 0, ([] : List (List Int)), 0, 4)) else ((proctorref20_Copy.f kj3 l0_0 a0_1 l0_2 a0_3).bind fun bt224 => ((proctorref01_Copy.f l2).bind fun t233 => (if bt224.1.length < 4398046511104 then (some ((bt224.1 ++ [(⟨a1, t233⟩ : S78)]), bt224.2.1, bt224.2.2.1, bt224.2.2.2, 0)) else (none))))) = some (r1, r2, r3, r4, r5) := by rw [if_neg (show ¬ (false = true) by decide)] at H; exact H
    clear H
    have H := H1
    clear H1
    by_cases c36 : (l0_0.length : Int) ≥ 4096
    ·rw [if_pos c36] at H
     have c36b0 : decide (4096 ≤ (l0_0.length : Int)) = true := decide_eq_true c36
     have c36b1 : decide (4096 ≤ l0_0.length) = true := decide_eq_true (by omega)
     clear c36
     simp only [Option.some.injEq, Prod.mk.injEq] at H
     obtain ⟨rfl, rfl, rfl, rfl, rfl⟩ := H
     have hnb37 := NB220_221.out
     have hnc37 := NB221_220.out
     have hcz38_0 : wc.cell? ⟨gb220, 0, none⟩ = some (.slice A0_0 l0_0.length c0_0) := (blk_cell BK220.out 0).trans rfl
     have hcz38_1 : wc.cell? ⟨gb220, 1, none⟩ = some (.int .i64 a0_1) := (blk_cell BK220.out 1).trans rfl
     have hcz38_2 : wc.cell? ⟨gb220, 2, none⟩ = some (.slice A0_2 l0_2.length c0_2) := (blk_cell BK220.out 2).trans rfl
     have hcz38_3 : wc.cell? ⟨gb220, 3, none⟩ = some (.int .u64 a0_3) := (blk_cell BK220.out 3).trans rfl
     have hfz38_0 := blk_frozen BK220.out 0
     have hfz38_1 := blk_frozen BK220.out 1
     have hfz38_2 := blk_frozen BK220.out 2
     have hfz38_3 := blk_frozen BK220.out 3
     have hcz39_0 : wc.cell? ⟨gb221, 0, none⟩ = some (.slice none 0 0) := (blk_cell BK221.out 0).trans rfl
     have hcz39_1 : wc.cell? ⟨gb221, 1, none⟩ = some (.int .i64 0) := (blk_cell BK221.out 1).trans rfl
     have hcz39_2 : wc.cell? ⟨gb221, 2, none⟩ = some (.slice none 0 0) := (blk_cell BK221.out 2).trans rfl
     have hcz39_3 : wc.cell? ⟨gb221, 3, none⟩ = some (.int .u64 0) := (blk_cell BK221.out 3).trans rfl
     have hfz39_0 := blk_frozen BK221.out 0
     have hfz39_1 := blk_frozen BK221.out 1
     have hfz39_2 := blk_frozen BK221.out 2
     have hfz39_3 := blk_frozen BK221.out 3
     go_wp2
     refine bodyPost_ret (results_ct rfl _ _ gb221 73 #[.slice none 0 0, .int .i64 0, .slice none 0 0, .int .u64 0] (0, 0) _ rfl (by refine zr ?_; refine blk_put (cs := #[.slice none 0 0, .int .i64 0, .slice none 0 0, .int .u64 0]) ?_ 3 _ rfl; refine zr ?_; refine blk_put (cs := #[.slice none 0 0, .int .i64 0, .slice none 0 0, .int .u64 0]) ?_ 2 _ rfl; refine zr ?_; refine blk_put (cs := #[.slice none 0 0, .int .i64 0, .slice none 0 0, .int .u64 0]) ?_ 1 _ rfl; refine zr ?_; refine blk_put (cs := #[.slice none 0 0, .int .i64 0, .slice none 0 0, .int .u64 0]) ?_ 0 _ rfl; refine zr ?_; exact BK221.out) Try.underlying73 rfl (by kernel_rfl)) rfl ?_
     exact ⟨_, _, zE, by first | exact Kd.S_nil _ _ _ _ _ | exact Kd.N_nil _ _ _ _ _ | exact Kd.V_nil _ _ _ _ _ | exact Kd.Q_nil _ _ _ _ _ | exact Kd.R_nil _ _ _ _ _, by first | exact Kd.S_nil _ _ _ _ _ | exact Kd.N_nil _ _ _ _ _ | exact Kd.V_nil _ _ _ _ _ | exact Kd.Q_nil _ _ _ _ _ | exact Kd.R_nil _ _ _ _ _, zB2 HB GE220 GE221⟩
    ·rw [if_neg c36] at H
     have c36b0 : decide (4096 ≤ (l0_0.length : Int)) = false := decide_eq_false c36
     have c36b1 : decide (4096 ≤ l0_0.length) = false := decide_eq_false (by omega)
     clear c36
     replace H := Option.bind_eq_some_iff.mp H
     obtain ⟨⟨t224, t227, t228, t231⟩, A400, H⟩ := H
     replace H : ((proctorref01_Copy.f l2).bind fun t233 => (if t224.length < 4398046511104 then (some ((t224 ++ [(⟨a1, t233⟩ : S78)]), t227, t228, t231, 0)) else (none))) = some (r1, r2, r3, r4, r5) := H
     have A40 := Aside0.mk A400
     clear A400
     replace H := Option.bind_eq_some_iff.mp H
     obtain ⟨t233, A410, H⟩ := H
     replace H : (if t224.length < 4398046511104 then (some ((t224 ++ [(⟨a1, t233⟩ : S78)]), t227, t228, t231, 0)) else (none)) = some (r1, r2, r3, r4, r5) := H
     have A41 := Aside0.mk A410
     clear A410
     by_cases c42 : t224.length < 4398046511104
     ·rw [if_pos c42] at H
      have LMc42 := Aside0.mk c42
      clear c42
      obtain ⟨y236, hy236⟩ : ∃ y_ : List (S78), y_ = (t224 ++ [(⟨a1, t233⟩ : S78)]) := ⟨_, rfl⟩
      replace H : (some (y236, t227, t228, t231, 0)) = some (r1, r2, r3, r4, r5) := by first | (rw [hy236]; with_reducible exact H) | (have H2_ := (Option.bind_some _ _).symm.trans H; rw [hy236]; with_reducible exact H2_) | (have H2_ := (Option.bind_some _ _).symm.trans H; with_reducible exact H2_) | with_reducible exact H | (rw [hy236]; exact H) | exact H
      have Ny236 := Aside0.mk hy236
      clear hy236
      simp only [Option.some.injEq, Prod.mk.injEq] at H
      obtain ⟨rfl, rfl, rfl, rfl, rfl⟩ := H
      have hnb43 := NB220_221.out
      have hnc43 := NB221_220.out
      have hcz44_0 : wc.cell? ⟨gb220, 0, none⟩ = some (.slice A0_0 l0_0.length c0_0) := (blk_cell BK220.out 0).trans rfl
      have hcz44_1 : wc.cell? ⟨gb220, 1, none⟩ = some (.int .i64 a0_1) := (blk_cell BK220.out 1).trans rfl
      have hcz44_2 : wc.cell? ⟨gb220, 2, none⟩ = some (.slice A0_2 l0_2.length c0_2) := (blk_cell BK220.out 2).trans rfl
      have hcz44_3 : wc.cell? ⟨gb220, 3, none⟩ = some (.int .u64 a0_3) := (blk_cell BK220.out 3).trans rfl
      have hfz44_0 := blk_frozen BK220.out 0
      have hfz44_1 := blk_frozen BK220.out 1
      have hfz44_2 := blk_frozen BK220.out 2
      have hfz44_3 := blk_frozen BK220.out 3
      try go_wp2_with (first | ((with_reducible refine gate_callee (f := 42) rfl ?_); refine goesL_ (some 47) rfl rfl Try.func42 (by kernel_rfl) rfl #[.agg #[.slice A0_0 l0_0.length c0_0, .int .i64 a0_1, .slice A0_2 l0_2.length c0_2, .int .u64 a0_3]] rfl zM ?_; (with_reducible refine (proctorref20_Copy.calls kj3 _ _ l0_0 a0_1 _ _ l0_2 a0_3 t224 t227 t228 t231 _ ?side1 ?side2 ?side3 ?side4 A40.out).mono ?_); (case side1 => exact zY (Kd.C_below HR0_0.out HB.out)); (case side2 => exact HC0_0.out); (case side3 => exact zY (Kd.C_below HR0_2.out HB.out)); (case side4 => exact HC0_2.out); rintro e w45 ⟨v225, v229, rfl, ho0, ho1, hb⟩; refine ⟨_, rfl, ?_⟩; have HO226 := Aside0.mk (Kd.S_lower ho0 (below_size (zB2 HB GE220 GE221))); have HO230 := Aside0.mk (Kd.S_lower ho1 (below_size (zB2 HB GE220 GE221))); replace BK220 := Aside0.mk (zb BK220 hb); replace BK221 := Aside0.mk (zb BK221 hb); replace HB := Aside0.mk (below_step (zB2 HB GE220 GE221) hb); (try clear hb); (try clear ho0); (try clear ho1)) | ((with_reducible refine gate_dst (N := 8) rfl ?_); (try (refine gate_guard (by rfl) ?_; dsimp only)); refine zx 8 #[.slice none 0 0, .int .i64 0, .slice none 0 0, .int .u64 0] 73 ?_; intro gb232 hg w46 hbox hb; have BK232 := Aside0.mk (hbox); have GW232 := Aside0.mk ((zG2 hg HB GE220 GE221)); have GE232 := Aside0.mk ((zG2 hg HB GE220 GE221)); have NB220_232 := Aside0.mk ((zN_ hg BK220)); have NB232_220 := Aside0.mk ((by rw [hg]; exact Nat.ne_of_gt (blk_lt (g := gb220) (o := .cells #[.slice A0_0 l0_0.length c0_0, .int .i64 a0_1, .slice A0_2 l0_2.length c0_2, .int .u64 a0_3] 73 (0, 0)) (zK BK220)) : gb232 ≠ gb220)); have NB221_232 := Aside0.mk ((zN_ hg BK221)); have NB232_221 := Aside0.mk ((by rw [hg]; exact Nat.ne_of_gt (blk_lt (g := gb221) (o := .cells #[.slice none 0 0, .int .i64 0, .slice none 0 0, .int .u64 0] 73 (0, 0)) (zK BK221)) : gb232 ≠ gb221)); replace HO226 := Aside0.mk (Kd.S_below (zS HO226) hb); replace HO230 := Aside0.mk (Kd.S_below (zS HO230) hb); replace BK220 := Aside0.mk (zb BK220 hb); replace BK221 := Aside0.mk (zb BK221 hb); replace HB := Aside0.mk (below_step (zB2 HB GE220 GE221) hb); clear hb hbox hg; obtain ⟨Ao47, co47, eo47⟩ := Kd.S_slice HO226.out; subst eo47; have hnb48 := NB232_220.out; have hnc48 := NB220_232.out; have hnb49 := NB232_221.out; have hnc49 := NB221_232.out; have hcz50_0 : w46.cell? ⟨gb232, 0, none⟩ = some (.slice none 0 0) := (blk_cell BK232.out 0).trans rfl; have hcz50_1 : w46.cell? ⟨gb232, 1, none⟩ = some (.int .i64 0) := (blk_cell BK232.out 1).trans rfl; have hcz50_2 : w46.cell? ⟨gb232, 2, none⟩ = some (.slice none 0 0) := (blk_cell BK232.out 2).trans rfl; have hcz50_3 : w46.cell? ⟨gb232, 3, none⟩ = some (.int .u64 0) := (blk_cell BK232.out 3).trans rfl; have hfz50_0 := blk_frozen BK232.out 0; have hfz50_1 := blk_frozen BK232.out 1; have hfz50_2 := blk_frozen BK232.out 2; have hfz50_3 := blk_frozen BK232.out 3; obtain ⟨Ao51, co51, eo51⟩ := Kd.S_slice HO230.out; subst eo51))
      have n0_ : Aside0 (Kd.S k78 78 ((((w46.setCell ⟨gb232, 0, none⟩ (.slice Ao47 t224.length co47)).setCell ⟨gb232, 1, none⟩ (.int .i64 t227)).setCell ⟨gb232, 2, none⟩ (.slice Ao51 t228.length co51)).setCell ⟨gb232, 3, none⟩ (.int .u64 t231)) w.heap.size (fun _ => True) (.slice Ao47 t224.length co47) t224) := ⟨by (with_reducible repeat (first | apply Kd.S_alloc | apply Kd.S_drewN | apply Kd.S_drew)); exact Kd.S_mono (Kd.S_far (p := ⟨gb232, 3, none⟩) (Kd.S_far (p := ⟨gb232, 2, none⟩) (Kd.S_far (p := ⟨gb232, 1, none⟩) (Kd.S_far (p := ⟨gb232, 0, none⟩) (Kd.S_types HO226.out BK232.out (by decide)) (fun _ hk => hk.2) (.slice Ao47 t224.length co47)) (fun _ hk => hk.2) (.int .i64 t227)) (fun _ hk => hk.2) (.slice Ao51 t228.length co51)) (fun _ hk => hk.2) (.int .u64 t231)) (fun _ hk => trivial)⟩
      have n1_ : Aside0 (Kd.S (Kd.slice 5 (Kd.int .u8)) 74 ((((w46.setCell ⟨gb232, 0, none⟩ (.slice Ao47 t224.length co47)).setCell ⟨gb232, 1, none⟩ (.int .i64 t227)).setCell ⟨gb232, 2, none⟩ (.slice Ao51 t228.length co51)).setCell ⟨gb232, 3, none⟩ (.int .u64 t231)) w.heap.size (fun _ => True) (.slice Ao51 t228.length co51) t228) := ⟨by (with_reducible repeat (first | apply Kd.S_alloc | apply Kd.S_drewN | apply Kd.S_drew)); exact Kd.S_mono (Kd.S_far (p := ⟨gb232, 3, none⟩) (Kd.S_far (p := ⟨gb232, 2, none⟩) (Kd.S_far (p := ⟨gb232, 1, none⟩) (Kd.S_far (p := ⟨gb232, 0, none⟩) (Kd.S_types HO230.out BK232.out (by decide)) (fun _ hk => hk.2) (.slice Ao47 t224.length co47)) (fun _ hk => hk.2) (.int .i64 t227)) (fun _ hk => hk.2) (.slice Ao51 t228.length co51)) (fun _ hk => hk.2) (.int .u64 t231)) (fun _ hk => trivial)⟩
      have n2_ : Aside0 (((((w46.setCell ⟨gb232, 0, none⟩ (.slice Ao47 t224.length co47)).setCell ⟨gb232, 1, none⟩ (.int .i64 t227)).setCell ⟨gb232, 2, none⟩ (.slice Ao51 t228.length co51)).setCell ⟨gb232, 3, none⟩ (.int .u64 t231)).heap[gb220]? = some (.cells #[.slice A0_0 l0_0.length c0_0, .int .i64 a0_1, .slice A0_2 l0_2.length c0_2, .int .u64 a0_3] 73 (0, 0))) := ⟨by refine zr ?_; refine blk_far ?_ NB220_232.out _; refine zr ?_; refine blk_far ?_ NB220_232.out _; refine zr ?_; refine blk_far ?_ NB220_232.out _; refine zr ?_; refine blk_far ?_ NB220_232.out _; refine zr ?_; exact BK220.out⟩
      have n3_ : Aside0 (((((w46.setCell ⟨gb232, 0, none⟩ (.slice Ao47 t224.length co47)).setCell ⟨gb232, 1, none⟩ (.int .i64 t227)).setCell ⟨gb232, 2, none⟩ (.slice Ao51 t228.length co51)).setCell ⟨gb232, 3, none⟩ (.int .u64 t231)).heap[gb221]? = some (.cells #[.slice none 0 0, .int .i64 0, .slice none 0 0, .int .u64 0] 73 (0, 0))) := ⟨by refine zr ?_; refine blk_far ?_ NB221_232.out _; refine zr ?_; refine blk_far ?_ NB221_232.out _; refine zr ?_; refine blk_far ?_ NB221_232.out _; refine zr ?_; refine blk_far ?_ NB221_232.out _; refine zr ?_; exact BK221.out⟩
      have n4_ : Aside0 (((((w46.setCell ⟨gb232, 0, none⟩ (.slice Ao47 t224.length co47)).setCell ⟨gb232, 1, none⟩ (.int .i64 t227)).setCell ⟨gb232, 2, none⟩ (.slice Ao51 t228.length co51)).setCell ⟨gb232, 3, none⟩ (.int .u64 t231)).heap[gb232]? = some (.cells #[.slice Ao47 t224.length co47, .int .i64 t227, .slice Ao51 t228.length co51, .int .u64 t231] 73 (0, 0))) := ⟨by refine zr ?_; refine blk_put (cs := #[.slice Ao47 t224.length co47, .int .i64 t227, .slice Ao51 t228.length co51, .int .u64 0]) ?_ 3 _ rfl; refine zr ?_; refine blk_put (cs := #[.slice Ao47 t224.length co47, .int .i64 t227, .slice none 0 0, .int .u64 0]) ?_ 2 _ rfl; refine zr ?_; refine blk_put (cs := #[.slice Ao47 t224.length co47, .int .i64 0, .slice none 0 0, .int .u64 0]) ?_ 1 _ rfl; refine zr ?_; refine blk_put (cs := #[.slice none 0 0, .int .i64 0, .slice none 0 0, .int .u64 0]) ?_ 0 _ rfl; refine zr ?_; exact BK232.out⟩
      have n5_ : Aside0 (Below w.heap.size w ((((w46.setCell ⟨gb232, 0, none⟩ (.slice Ao47 t224.length co47)).setCell ⟨gb232, 1, none⟩ (.int .i64 t227)).setCell ⟨gb232, 2, none⟩ (.slice Ao51 t228.length co51)).setCell ⟨gb232, 3, none⟩ (.int .u64 t231))) := ⟨zB3 HB GE220 GE221 GE232⟩
      (try clear HO226)
      (try clear HO230)
      (try clear BK220)
      (try clear BK221)
      (try clear BK232)
      (try clear HB)
      generalize ((((w46.setCell ⟨gb232, 0, none⟩ (.slice Ao47 t224.length co47)).setCell ⟨gb232, 1, none⟩ (.int .i64 t227)).setCell ⟨gb232, 2, none⟩ (.slice Ao51 t228.length co51)).setCell ⟨gb232, 3, none⟩ (.int .u64 t231)) = w52 at n0_ n1_ n2_ n3_ n4_ n5_ ⊢
      have HO226 := n0_
      have HO230 := n1_
      have BK220 := n2_
      have BK221 := n3_
      have BK232 := n4_
      have HB := n5_
      clear n0_ n1_ n2_ n3_ n4_ n5_
      have n0_ := Aside0.mk (Kd.S_drew HO226.out)
      have n1_ := Aside0.mk (Kd.S_drew HO230.out)
      have n2_ := Aside0.mk (blk_drew BK220.out)
      have n3_ := Aside0.mk (blk_drew BK221.out)
      have n4_ := Aside0.mk (blk_drew BK232.out)
      have n5_ := Aside0.mk (below_drew1 HB.out)
      clear HO226
      clear HO230
      clear BK220
      clear BK221
      clear BK232
      clear HB
      have HO226 := n0_
      have HO230 := n1_
      have BK220 := n2_
      have BK221 := n3_
      have BK232 := n4_
      have HB := n5_
      clear n0_ n1_ n2_ n3_ n4_ n5_
      refine start_ (n := 10) (S := fun w' => w'.cell? ⟨gb232, 0, none⟩ = some (.slice Ao47 t224.length co47) ∧ w'.cell? ⟨gb232, 1, none⟩ = some (.int .i64 t227) ∧ w'.cell? ⟨gb232, 2, none⟩ = some (.slice Ao51 t228.length co51) ∧ w'.cell? ⟨gb232, 3, none⟩ = some (.int .u64 t231)) (ds := [9]) #[false, false, false, false, false, false, false, false, false, false] (by kernel_rfl) rfl rfl ⟨(blk_cell BK232.out 0).trans rfl, (blk_cell BK232.out 1).trans rfl, (blk_cell BK232.out 2).trans rfl, (blk_cell BK232.out 3).trans rfl⟩ (fun hHeld => ?_); refine with_tabW proctorref20_wait.tab6 proctorref20_wait.bits6 (fun HT_ HW_ => ?_)
      generalize w52.drew = w53 at HO226 HO230 BK220 BK221 BK232 HB hHeld ⊢
      refine pure_ (i := 0) (N := some 48) (v := ?_) (a' := ?_) #[true, false, false, false, false, false, false, false, false, false] rfl rfl (any_of HT_.out (by kernel_rfl)) (fun _ _ _ h => h) (Or.inl ⟨by rfl, ?_⟩) ?_ ?_
      rotate_left
      ·intro w'
       go_simp
       with_reducible rfl
      rotate_left
      ·simp only [Act.put, List.setIfInBounds_toArray, List.set_cons_zero, List.set_cons_succ, i64_w, i32_w]
       rfl
      refine pure_ (i := 2) (N := some 50) (v := ?_) (a' := ?_) #[true, false, true, false, false, false, false, false, false, false] rfl rfl (any_of HT_.out (by kernel_rfl)) (fun _ _ _ h => h) (Or.inl ⟨by rfl, ?_⟩) ?_ ?_
      rotate_left
      ·intro w'
       go_simp
       with_reducible rfl
      rotate_left
      ·simp only [Act.put, List.setIfInBounds_toArray, List.set_cons_zero, List.set_cons_succ, i64_w, i32_w]
       rfl
      refine pure_ (i := 3) (N := some 51) (v := ?_) (a' := ?_) #[true, false, true, true, false, false, false, false, false, false] rfl rfl (any_of HT_.out (by kernel_rfl)) (fun _ _ _ h => h) (Or.inl ⟨by rfl, ?_⟩) ?_ ?_
      rotate_left
      ·intro w'
       go_simp
       with_reducible rfl
      rotate_left
      ·simp only [Act.put, List.setIfInBounds_toArray, List.set_cons_zero, List.set_cons_succ, i64_w, i32_w]
       rfl
      refine take_ (i := 1) (N := some 49) (v := ?_) (a' := ?_) #[true, true, true, true, false, false, false, false, false, false] rfl rfl (take_ofW HT_.out HW_.out (by kernel_rfl)) (fun _ _ _ h => h) (Or.inl ⟨by rfl, ?_⟩) hHeld ?_ ?_
      rotate_left
      ·rintro w' ⟨s0, s1, s2, s3⟩
       go_simp
       with_reducible rfl
      rotate_left
      ·simp only [Act.put, List.setIfInBounds_toArray, List.set_cons_zero, List.set_cons_succ, i64_w, i32_w]
       rfl
      refine one_ (i := 4) (N := some 52) #[true, true, true, true, true, false, false, false, false, false] rfl rfl (one_of HT_.out (by kernel_rfl)) (by decide) (fun K hK => ?_)
      refine goes_ Try.func43 (by kernel_rfl) rfl #[.slice A2 l2.length c2] (by rfl) rfl rfl zM ?_
      with_reducible refine (proctorref01_Copy.calls _ _ l2 t233 _ ?side1 ?side2 A41.out).mono ?_
      (case side1 => exact zY (Kd.C_below HR2.out HB.out))
      (case side2 => exact HC2.out)
      rintro e w54 ⟨v234, rfl, ho0, hb⟩
      refine ⟨_, rfl, ?_⟩
      have n0_ := Aside0.mk (Kd.S_elder' (zS HO226) (Kd.R_base ho0) hb)
      have n1_ := Aside0.mk (Kd.S_elder' (zS HO230) (Kd.R_base ho0) hb)
      have n2_ := Aside0.mk (Kd.R_lower ho0 (below_size (zB3 HB GE220 GE221 GE232)))
      have n3_ := Aside0.mk (zb BK220 hb)
      have n4_ := Aside0.mk (zb BK221 hb)
      have n5_ := Aside0.mk (zb BK232 hb)
      have n6_ := Aside0.mk (below_step (zB3 HB GE220 GE221 GE232) hb)
      clear HO226
      clear HO230
      clear BK220
      clear BK221
      clear BK232
      clear HB
      have HO226 := n0_
      have HO230 := n1_
      have HO235 := n2_
      have BK220 := n3_
      have BK221 := n4_
      have BK232 := n5_
      have HB := n6_
      clear n0_ n1_ n2_ n3_ n4_ n5_ n6_
      (try clear hb)
      (try clear ho0)
      obtain ⟨Ao55, co55, eo55⟩ := Kd.R_slice HO235.out
      (first | subst eo55 | (injection eo55 with f1_ f2_ f3_; have f4_ := f1_.symm; have f5_ := f3_.symm; clear f1_ f2_ f3_; subst f4_; subst f5_))
      refine hK.out _ _ ⟨(blk_cell BK232.out 0).trans rfl, (blk_cell BK232.out 1).trans rfl, (blk_cell BK232.out 2).trans rfl, (blk_cell BK232.out 3).trans rfl⟩ (fun hHeld => ?_)
      clear hK K
      refine norm_ (a' := ?_) ?_ ?_
      rotate_left
      ·show Act.put _ (some 52) _ = _
       simp only [Act.put, List.setIfInBounds_toArray, List.set_cons_zero, List.set_cons_succ, i64_w, i32_w]
       rfl
      refine pure_ (i := 5) (N := some 53) (v := ?_) (a' := ?_) #[true, true, true, true, true, true, false, false, false, false] rfl rfl (any_of HT_.out (by kernel_rfl)) (fun _ _ _ h => h) (Or.inl ⟨by rfl, ?_⟩) ?_ ?_
      rotate_left
      ·intro w'
       go_simp
       with_reducible rfl
      rotate_left
      ·simp only [Act.put, List.setIfInBounds_toArray, List.set_cons_zero, List.set_cons_succ, i64_w, i32_w]
       rfl
      refine one_ (i := 6) (N := some 54) #[true, true, true, true, true, true, true, false, false, false] rfl rfl (one_of HT_.out (by kernel_rfl)) (by decide) (fun K hK => ?_)
      refine value_ (w1 := ?_) (v := ?_) (by rfl) rfl ?_ ?_
      rotate_left 2
      ·go_simp
       constructor
       ·rfl
       ·rfl
      refine hK.out _ _ ⟨(blk_cell (blk_alloc BK232.out _) 0).trans rfl, (blk_cell (blk_alloc BK232.out _) 1).trans rfl, (blk_cell (blk_alloc BK232.out _) 2).trans rfl, (blk_cell (blk_alloc BK232.out _) 3).trans rfl⟩ (fun hHeld => ?_)
      clear hK K
      refine norm_ (a' := ?_) ?_ ?_
      rotate_left
      ·show Act.put _ (some 54) _ = _
       simp only [Act.put, List.setIfInBounds_toArray, List.set_cons_zero, List.set_cons_succ, i64_w, i32_w]
       rfl
      refine one_ (i := 7) (N := some 55) #[true, true, true, true, true, true, true, true, false, false] rfl rfl (one_of HT_.out (by kernel_rfl)) (by decide) (fun K hK => ?_)
      refine Kd.S_append_step k78 (w0 := w) w.heap.size (by rfl) (.tmp 49) (.tmp 54) 70 78 (.agg #[(.int .i64 0), (.slice none 0 0)]) 32 rfl Try.underlying70 info78 rfl (by decide) (by omega) (.slice Ao47 t224.length co47) t224 (⟨a1, t233⟩ : S78) [.int .i64 a1, .slice Ao55 t233.length co55] (fun _ => True) (fun k_ => some k_ = (.slice Ao55 t233.length co55 : Value).ownBlock) rfl rfl ?aP (fun k_ hk_ => ((Kd.R_mono (ok' := fun k_ => ((fun _ => True)) k_ ∧ some k_ ≠ (.slice Ao47 t224.length co47 : Value).ownBlock) (Kd.R_apart' (HO235.out) (Kd.S_typed HO226.out) (by decide)) (fun k_ hk => ⟨trivial, hk.2⟩))).1 k_ hk_.symm) ?aF ?aO ?aB ?aS ?aL ?_
      (case aP => exact k78_mkM _ _ _ (⟨a1, t233⟩ : S78) (Kd.R_mono (Kd.R_tight rfl (Kd.R_mono (ok' := fun k_ => ((fun _ => True)) k_ ∧ some k_ ≠ (.slice Ao47 t224.length co47 : Value).ownBlock) (Kd.R_apart' (HO235.out) (Kd.S_typed HO226.out) (by decide)) (fun k_ hk => ⟨trivial, hk.2⟩))) (fun _ h_ => h_)))
      (case aB => exact (zB3 HB GE220 GE221 GE232))
      (case aF => exact (fun _ _ => trivial))
      (case aO => exact (by (with_reducible repeat (first | apply Kd.S_alloc | apply Kd.S_drewN | apply Kd.S_drew)); exact Kd.S_mono HO226.out (fun k_ hk => ⟨trivial, fun e_ => hk.2 e_⟩)))
      (case aS => exact (below_size (zB3 HB GE220 GE221 GE232)))
      (case aL => have := LMc42.out; omega)
      intro v237 w56 ho hb hg hat
      rw [← Ny236.out] at ho
      have n0_ := Aside0.mk (blk_grown (g := gb220) (o := .cells #[.slice A0_0 l0_0.length c0_0, .int .i64 a0_1, .slice A0_2 l0_2.length c0_2, .int .u64 a0_3] 73 (0, 0)) (zK BK220) hg (Kd.S_ne HO226.out BK220.out (by decide)))
      have n1_ := Aside0.mk (blk_grown (g := gb221) (o := .cells #[.slice none 0 0, .int .i64 0, .slice none 0 0, .int .u64 0] 73 (0, 0)) (zK BK221) hg (Kd.S_ne HO226.out BK221.out (by decide)))
      have n2_ := Aside0.mk (Kd.S_over' (zS HO230) (Kd.S_typed (zS HO226)) (by decide) hg)
      have n3_ := Aside0.mk (blk_grown (g := gb232) (o := .cells #[.slice Ao47 t224.length co47, .int .i64 t227, .slice Ao51 t228.length co51, .int .u64 t231] 73 (0, 0)) (zK BK232) hg (Kd.S_ne HO226.out BK232.out (by decide)))
      have n4_ := Aside0.mk (hb)
      have n5_ := Aside0.mk (ho)
      clear BK220
      clear BK221
      clear HO230
      clear BK232
      clear HB
      clear HO226
      clear HO235
      have BK220 := n0_
      have BK221 := n1_
      have HO230 := n2_
      have BK232 := n3_
      have HB := n4_
      have HO238 := n5_
      clear n0_ n1_ n2_ n3_ n4_ n5_
      clear ho hb hg hat
      obtain ⟨Ao57, co57, eo57⟩ := Kd.S_slice HO238.out
      (first | subst eo57 | (injection eo57 with f1_ f2_ f3_; have f4_ := f1_.symm; have f5_ := f3_.symm; clear f1_ f2_ f3_; subst f4_; subst f5_))
      refine hK.out _ _ ⟨(blk_cell BK232.out 0).trans rfl, (blk_cell BK232.out 1).trans rfl, (blk_cell BK232.out 2).trans rfl, (blk_cell BK232.out 3).trans rfl⟩ (fun hHeld => ?_)
      clear hK K
      refine norm_ (a' := ?_) ?_ ?_
      rotate_left
      ·show Act.put _ (some 55) _ = _
       simp only [Act.put, List.setIfInBounds_toArray, List.set_cons_zero, List.set_cons_succ, i64_w, i32_w]
       rfl
      refine pure_ (i := 8) (N := some 56) (v := ?_) (a' := ?_) #[true, true, true, true, true, true, true, true, true, false] rfl rfl (any_of HT_.out (by kernel_rfl)) (fun _ _ _ h => h) (Or.inl ⟨by rfl, ?_⟩) ?_ ?_
      rotate_left
      ·intro w'
       go_simp
       with_reducible rfl
      rotate_left
      ·simp only [Act.put, List.setIfInBounds_toArray, List.set_cons_zero, List.set_cons_succ, i64_w, i32_w]
       rfl
      refine last_ (i := 9) (N := none) #[true, true, true, true, true, true, true, true, true, true] rfl rfl (one_of HT_.out (by kernel_rfl)) (by decide) (fun K hK => ?_)
      have hs58 : w56.cell? ⟨gb232, 0, none⟩ = some (.slice Ao47 t224.length co47) := (blk_cell BK232.out 0).trans rfl
      have hfs58 := blk_frozen BK232.out 0
      have hns58_0 := NB220_232.out
      have hns58_1 := NB221_232.out
      have hms58_0 := NB232_220.out
      have hms58_1 := NB232_221.out
      refine skip_ (w1 := ?_) (by rfl) rfl ?_ ?_
      rotate_left
      ·go_simp
       rfl
      refine hK.out _ _ ?_
      clear hK K
      refine done_ (done_of HT_.out (by kernel_rfl)) ?_
      have hcz59_0 : w56.cell? ⟨gb232, 0, none⟩ = some (.slice Ao47 t224.length co47) := (blk_cell BK232.out 0).trans rfl
      have hcz59_1 : w56.cell? ⟨gb232, 1, none⟩ = some (.int .i64 t227) := (blk_cell BK232.out 1).trans rfl
      have hcz59_2 : w56.cell? ⟨gb232, 2, none⟩ = some (.slice Ao51 t228.length co51) := (blk_cell BK232.out 2).trans rfl
      have hcz59_3 : w56.cell? ⟨gb232, 3, none⟩ = some (.int .u64 t231) := (blk_cell BK232.out 3).trans rfl
      have hfz59_0 := blk_frozen BK232.out 0
      have hfz59_1 := blk_frozen BK232.out 1
      have hfz59_2 := blk_frozen BK232.out 2
      have hfz59_3 := blk_frozen BK232.out 3
      have hcz60_0 : w56.cell? ⟨gb221, 0, none⟩ = some (.slice none 0 0) := (blk_cell BK221.out 0).trans rfl
      have hcz60_1 : w56.cell? ⟨gb221, 1, none⟩ = some (.int .i64 0) := (blk_cell BK221.out 1).trans rfl
      have hcz60_2 : w56.cell? ⟨gb221, 2, none⟩ = some (.slice none 0 0) := (blk_cell BK221.out 2).trans rfl
      have hcz60_3 : w56.cell? ⟨gb221, 3, none⟩ = some (.int .u64 0) := (blk_cell BK221.out 3).trans rfl
      have hfz60_0 := blk_frozen BK221.out 0
      have hfz60_1 := blk_frozen BK221.out 1
      have hfz60_2 := blk_frozen BK221.out 2
      have hfz60_3 := blk_frozen BK221.out 3
      try go_wp2
      refine bodyPost_ret (results_ct rfl _ _ gb221 73 #[.slice Ao57 y236.length co57, .int .i64 t227, .slice Ao51 t228.length co51, .int .u64 t231] (0, 0) _ rfl (by refine zr ?_; refine blk_put (cs := #[.slice Ao57 y236.length co57, .int .i64 t227, .slice Ao51 t228.length co51, .int .u64 0]) ?_ 3 _ rfl; refine zr ?_; refine blk_put (cs := #[.slice Ao57 y236.length co57, .int .i64 t227, .slice none 0 0, .int .u64 0]) ?_ 2 _ rfl; refine zr ?_; refine blk_put (cs := #[.slice Ao57 y236.length co57, .int .i64 0, .slice none 0 0, .int .u64 0]) ?_ 1 _ rfl; refine zr ?_; refine blk_put (cs := #[.slice none 0 0, .int .i64 0, .slice none 0 0, .int .u64 0]) ?_ 0 _ rfl; refine zr ?_; refine blk_far ?_ NB221_232.out _; refine zr ?_; exact BK221.out) Try.underlying73 rfl (by kernel_rfl)) rfl ?_
      exact ⟨_, _, zE, by (with_reducible repeat (first | apply Kd.S_alloc | apply Kd.S_drewN | apply Kd.S_drew)); exact Kd.S_mono (Kd.S_far (p := ⟨gb221, 3, none⟩) (Kd.S_far (p := ⟨gb221, 2, none⟩) (Kd.S_far (p := ⟨gb221, 1, none⟩) (Kd.S_far (p := ⟨gb221, 0, none⟩) (Kd.S_far (p := ⟨gb232, 0, none⟩) (Kd.S_types (Kd.S_types HO238.out BK232.out (by decide)) BK221.out (by decide)) (fun _ hk => hk.1.2) (.slice Ao57 y236.length co57)) (fun _ hk => hk.2) (.slice Ao57 y236.length co57)) (fun _ hk => hk.2) (.int .i64 t227)) (fun _ hk => hk.2) (.slice Ao51 t228.length co51)) (fun _ hk => hk.2) (.int .u64 t231)) (fun _ hk => trivial), by (with_reducible repeat (first | apply Kd.S_alloc | apply Kd.S_drewN | apply Kd.S_drew)); exact Kd.S_mono (Kd.S_far (p := ⟨gb221, 3, none⟩) (Kd.S_far (p := ⟨gb221, 2, none⟩) (Kd.S_far (p := ⟨gb221, 1, none⟩) (Kd.S_far (p := ⟨gb221, 0, none⟩) (Kd.S_far (p := ⟨gb232, 0, none⟩) (Kd.S_types (Kd.S_types HO230.out BK232.out (by decide)) BK221.out (by decide)) (fun _ hk => hk.1.2) (.slice Ao57 y236.length co57)) (fun _ hk => hk.2) (.slice Ao57 y236.length co57)) (fun _ hk => hk.2) (.int .i64 t227)) (fun _ hk => hk.2) (.slice Ao51 t228.length co51)) (fun _ hk => hk.2) (.int .u64 t231)) (fun _ hk => trivial), zB3 HB GE220 GE221 GE232⟩
     ·rw [if_neg c42] at H
      exact absurd H (by simp)
def proctorref02_Raw.f (l0 : List Int) : Option (Bool × List Int × (List (S159))) := (proctorref01_Copy.f l0).bind fun t246 => (some (false, t246, ([] : List (S159))))
theorem proctorref02_Raw.calls (A0 : Option Addr) (c0 : Nat) (l0 : List Int) (r1 : Bool) (r2 : List Int) (r3 : List (S159)) (w : World) (hr0 : Kd.C (Kd.int .u8) w A0 l0.length l0) (hc0 : l0.length ≤ c0) (h : proctorref02_Raw.f l0 = some (r1, r2, r3)) :
 Calls Try.prog 102 #[.slice A0 l0.length c0] w fun e w' => ∃ v1_ v2_ : Value, e = .returned (.agg #[.bool r1, v1_, v2_]) ∧ Kd.R (Kd.int .u8) 5 w' w.heap.size (fun _ => True) v1_ r2 ∧ Kd.R k159 159 w' w.heap.size (fun k_ => some k_ ≠ (v1_ : Value).ownBlock) v2_ r3 ∧ Below w.heap.size w w' := by
 have hu159 := Try.underlying159
 have HR0 := Aside0.mk hr0
 have HC0 := Aside0.mk hc0
 clear hr0 hc0
 have HB := Aside0.mk (Below.refl w.heap.size w)
 have H : ((proctorref01_Copy.f l0).bind fun t246 => (some (false, t246, ([] : List (S159))))) = some (r1, r2, r3) := h
 clear h
 replace H := Option.bind_eq_some_iff.mp H
 obtain ⟨t246, A20, H⟩ := H
 replace H : (some (false, t246, ([] : List (S159)))) = some (r1, r2, r3) := H
 have A2 := Aside0.mk A20
 clear A20
 simp only [Option.some.injEq, Prod.mk.injEq] at H
 obtain ⟨rfl, rfl, rfl⟩ := H
 go_enter Try.func102, Try.ntmps102
 go_wp2_with (first | ((with_reducible refine gate_dst (N := 2) rfl ?_); refine zx 2 #[.bool false, .slice none 0 0, .slice none 0 0] 159 ?_; intro gb245 hg w3 hbox hb; have BK245 := Aside0.mk (hbox); have GW245 := Aside0.mk ((zG hg HB)); have GE245 := Aside0.mk ((zG hg HB)); replace HB := Aside0.mk (below_step (zB HB) hb); clear hb hbox hg) | ((with_reducible refine gate_callee (f := 43) rfl ?_); refine goesL_ (some 4) rfl rfl Try.func43 (by kernel_rfl) rfl #[.slice A0 l0.length c0] rfl zM ?_; (with_reducible refine (proctorref01_Copy.calls _ _ l0 t246 _ ?side1 ?side2 A2.out).mono ?_); (case side1 => exact zY (Kd.C_below HR0.out HB.out)); (case side2 => exact HC0.out); rintro e w4 ⟨v247, rfl, ho0, hb⟩; refine ⟨_, rfl, ?_⟩; have HO248 := Aside0.mk (Kd.R_lower ho0 (below_size (zB1 HB GE245))); replace BK245 := Aside0.mk (zb BK245 hb); replace HB := Aside0.mk (below_step (zB1 HB GE245) hb); (try clear hb); (try clear ho0); obtain ⟨Ao5, co5, eo5⟩ := Kd.R_slice HO248.out; subst eo5; have hcz6_0 : w4.cell? ⟨gb245, 0, none⟩ = some (.bool false) := (blk_cell BK245.out 0).trans rfl; have hcz6_1 : w4.cell? ⟨gb245, 1, none⟩ = some (.slice none 0 0) := (blk_cell BK245.out 1).trans rfl; have hcz6_2 : w4.cell? ⟨gb245, 2, none⟩ = some (.slice none 0 0) := (blk_cell BK245.out 2).trans rfl; have hfz6_0 := blk_frozen BK245.out 0; have hfz6_1 := blk_frozen BK245.out 1; have hfz6_2 := blk_frozen BK245.out 2))
 refine bodyPost_ret (results_cell_row rfl _ _ gb245 159 #[.bool false, .slice Ao5 t246.length co5, .slice none 0 0] (0, 0) _ rfl (by refine zr ?_; refine blk_put (cs := #[.bool false, .slice Ao5 t246.length co5, .slice none 0 0]) ?_ 2 _ rfl; refine zr ?_; refine blk_put (cs := #[.bool false, .slice none 0 0, .slice none 0 0]) ?_ 1 _ rfl; refine zr ?_; refine blk_put (cs := #[.bool false, .slice none 0 0, .slice none 0 0]) ?_ 0 _ rfl; refine zr ?_; exact BK245.out) Try.underlying159 rfl (by kernel_rfl)) rfl ?_
 exact ⟨_, _, zE, by (with_reducible repeat (first | apply Kd.R_alloc | apply Kd.R_drewN | apply Kd.R_drew)); exact Kd.R_mono (Kd.R_far (p := ⟨gb245, 2, none⟩) (Kd.R_far (p := ⟨gb245, 1, none⟩) (Kd.R_far (p := ⟨gb245, 0, none⟩) (Kd.R_types HO248.out BK245.out (by decide)) (fun _ hk => hk.2) (.bool false)) (fun _ hk => hk.2) (.slice Ao5 t246.length co5)) (fun _ hk => hk.2) (.slice none 0 0)) (fun _ hk => trivial), zL, zB1 HB GE245⟩
def proctorref02_high.l0 : Nat → Int → List Int → Int → Option (List Int)
 | 0, _, _, _ => none
 | k + 1, x0, x3, x4 => if x4 ≥ 0 then (if 0 ≤ (IntKind.u64.wrap (wrap64 (8 * x4))) then (if ((shr .u64 x0 (IntKind.u64.wrap (wrap64 (8 * x4)))) % 256) = 0 then (if (x3.length : Int) > 0 then (if x3.length < 140737488355328 then (proctorref02_high.l0 k x0 (x3 ++ [(shr .u64 x0 (IntKind.u64.wrap (wrap64 (8 * x4)))) % 256]) (wrap64 (x4 - 1))) else (none)) else (proctorref02_high.l0 k x0 x3 (wrap64 (x4 - 1)))) else (if x3.length < 140737488355328 then (proctorref02_high.l0 k x0 (x3 ++ [(shr .u64 x0 (IntKind.u64.wrap (wrap64 (8 * x4)))) % 256]) (wrap64 (x4 - 1))) else (none))) else (none)) else (some x3)
def proctorref02_high.f (k : Nat) (a0 : Int) : Option (List Int) := proctorref02_high.l0 k a0 ([] : List Int) 7
theorem proctorref02_high.mono_l : ∀ k, (∀ y0 y1 y2, LeO (proctorref02_high.l0 k y0 y1 y2) (proctorref02_high.l0 (k + 1) y0 y1 y2))
 | 0 => fun _ _ _ r h => by simp [proctorref02_high.l0] at h
 | k + 1 => by
  have ih0 := proctorref02_high.mono_l k
  ·intro y0 y1 y2
   unfold proctorref02_high.l0
   repeat' first
   | (with_reducible exact ih0 _ _ _)
   | (with_reducible exact LeO.refl _)
   | (with_reducible exact LeO.none _)
   | (with_reducible refine LeO.ite ?_ ?_)
   | (with_reducible refine LeO.bind ?_ (fun _ => ?_))
   | exact ih0 _ _ _
   | exact LeO.none _
   | refine LeO.ite ?_ ?_
   | refine LeO.bind ?_ (fun _ => ?_)
theorem proctorref02_high.mono : ∀ a0 k, LeO (proctorref02_high.f k a0) (proctorref02_high.f (k + 1) a0) := by
 intro a0 k
 have ih0 := proctorref02_high.mono_l k
 unfold proctorref02_high.f
 repeat' first
  | (with_reducible exact ih0 _ _ _)
  | (with_reducible exact LeO.refl _)
  | (with_reducible exact LeO.none _)
  | (with_reducible refine LeO.ite ?_ ?_)
  | (with_reducible refine LeO.bind ?_ (fun _ => ?_))
  | exact ih0 _ _ _
  | exact LeO.none _
  | refine LeO.ite ?_ ?_
  | refine LeO.bind ?_ (fun _ => ?_)
theorem proctorref02_high.calls (k : Nat) (a0 : Int) (r : List Int) (w : World) (h : proctorref02_high.f k a0 = some r) :
 Calls Try.prog 143 #[.int .u64 a0] w fun e w' => ∃ v0_ : Value, e = .returned (v0_) ∧ Kd.R (Kd.int .u8) 5 w' w.heap.size (fun _ => True) v0_ r ∧ Below w.heap.size w w' := by
 have HB := Aside0.mk (Below.refl w.heap.size w)
 have H : (proctorref02_high.l0 k a0 ([] : List Int) 7) = some r := h
 clear h
 have H' := Aside0.mk H
 clear H
 go_enter Try.func143, Try.ntmps143
 go_wp2
 go_loopg [3, 4] k (fun kq v3 v4 w' => ∃ (x3_1 : List Int) (x4_1 : Int), v4 = .int .i64 x4_1 ∧ Aside0 (proctorref02_high.l0 kq a0 x3_1 x4_1 = some r) ∧ Aside0 (kq ≤ k) ∧ Aside0 (Kd.R (Kd.int .u8) 5 w' w.heap.size (fun _ => True) v3 x3_1) ∧ Aside0 (Below w.heap.size w w'))
 case atStart => exact ⟨(([] : List Int)), (7), zX, H', ⟨Nat.le_refl _⟩, ⟨zL⟩, ⟨zB HB⟩⟩
 case round =>
  clear H'
  obtain ⟨x3_1, x4_1, rfl, HA, HK1, HO_3, HB⟩ := hrel
  cases gk with
  | zero => exact absurd HA.out (by simp [proctorref02_high.l0])
  | succ k1 =>
   have H := HA.out
   clear HA
   simp only [proctorref02_high.l0] at H
   by_cases c2 : x4_1 ≥ 0
   ·rw [if_pos c2] at H
    have c2b0 : decide (0 ≤ x4_1) = true := decide_eq_true c2
    clear c2
    obtain ⟨ji3, hji3⟩ : ∃ j_ : Int, (IntKind.u64.wrap (wrap64 (8 * x4_1))) = j_ := ⟨_, rfl⟩
    replace H : (if 0 ≤ (ji3) then (if ((shr .u64 a0 (ji3)) % 256) = 0 then (if (x3_1.length : Int) > 0 then (if x3_1.length < 140737488355328 then (proctorref02_high.l0 k1 a0 (x3_1 ++ [(shr .u64 a0 (ji3)) % 256]) (wrap64 (x4_1 - 1))) else (none)) else (proctorref02_high.l0 k1 a0 x3_1 (wrap64 (x4_1 - 1)))) else (if x3_1.length < 140737488355328 then (proctorref02_high.l0 k1 a0 (x3_1 ++ [(shr .u64 a0 (ji3)) % 256]) (wrap64 (x4_1 - 1))) else (none))) else (none)) = some r := by first | (rw [hji3] at H; exact H) | (simp only [hji3] at H ⊢; exact H)
    by_cases c4 : 0 ≤ (ji3)
    ·rw [if_pos c4] at H
     have c4b0 := eq_true c4
     have c4b1 : decide (0 ≤ (ji3)) = true := decide_eq_true c4
     clear c4
     obtain ⟨ji5, hji5⟩ : ∃ j_ : Int, (shr .u64 a0 (ji3)) = j_ := ⟨_, rfl⟩
     replace H : (if ((ji5) % 256) = 0 then (if (x3_1.length : Int) > 0 then (if x3_1.length < 140737488355328 then (proctorref02_high.l0 k1 a0 (x3_1 ++ [(ji5) % 256]) (wrap64 (x4_1 - 1))) else (none)) else (proctorref02_high.l0 k1 a0 x3_1 (wrap64 (x4_1 - 1)))) else (if x3_1.length < 140737488355328 then (proctorref02_high.l0 k1 a0 (x3_1 ++ [(ji5) % 256]) (wrap64 (x4_1 - 1))) else (none))) = some r := by first | (rw [hji5] at H; exact H) | (simp only [hji5] at H ⊢; exact H)
     have hji5_ : (a0 / 2 ^ min (ji3).toNat 64) = ji5 := hji5
     have hji5z : (ji3) ≤ 64 → (a0 / 2 ^ (ji3).toNat) = ji5 := shr_small hji5
     by_cases c6 : ((ji5) % 256) = 0
     ·rw [if_pos c6] at H
      have c6b0 : (((ji5) % 256) == 0) = true := beq_iff_eq.mpr c6
      have c6b1 : (((ji5) % 256) != 0) = false := bne_eq_false_iff_eq.mpr c6
      clear c6
      by_cases c7 : (x3_1.length : Int) > 0
      ·rw [if_pos c7] at H
       have c7b0 : decide (0 < (x3_1.length : Int)) = true := decide_eq_true c7
       have c7b1 : decide (0 < x3_1.length) = true := decide_eq_true (by omega)
       clear c7
       by_cases c8 : x3_1.length < 140737488355328
       ·rw [if_pos c8] at H
        have LMc8 := Aside0.mk c8
        clear c8
        obtain ⟨y249, hy249⟩ : ∃ y_ : List Int, y_ = (x3_1 ++ [(ji5) % 256]) := ⟨_, rfl⟩
        replace H : (proctorref02_high.l0 k1 a0 y249 (wrap64 (x4_1 - 1))) = some r := by first | (rw [hy249]; with_reducible exact H) | (have H2_ := (Option.bind_some _ _).symm.trans H; rw [hy249]; with_reducible exact H2_) | (have H2_ := (Option.bind_some _ _).symm.trans H; with_reducible exact H2_) | with_reducible exact H | (rw [hy249]; exact H) | exact H
        have Ny249 := Aside0.mk hy249
        clear hy249
        have H' := Aside0.mk H
        clear H
        obtain ⟨Ao9, co9, eo9⟩ := Kd.R_slice HO_3.out
        subst eo9
        go_wp2_with (first | ((with_reducible refine gate_builtin (b := .append) (xs := #[.tmp 23, .tmp 25]) rfl ?_); (try (refine gate_guard (by rfl) ?_; dsimp only)); at_builtin; refine Kd.R_append (Kd.int .u8) (w0 := w) w.heap.size rfl (.tmp 23) (.tmp 25) 74 5 (.int .u8 0) 1 rfl Try.underlying74 info5 rfl (by decide) (by omega) (.slice Ao9 x3_1.length co9) x3_1 ((ji5) % 256) [.int .u8 ((ji5) % 256)] (fun _ => True) (fun _ => False) rfl rfl ?aP (fun _ hk => hk.elim) ?aF ?aO ?aB ?aS ?aL ?_; (case aP => exact rfl); (case aB => exact (zB HB)); (case aF => exact (fun _ _ => trivial)); (case aO => exact (zR HO_3)); (case aS => exact (below_size (zB HB))); (case aL => have := LMc8.out; omega); intro v250 w10 ho hb hg hat; rw [← Ny249.out] at ho; have HO251 := Aside0.mk (ho); replace HB := Aside0.mk (hb); clear HO_3; clear ho hb hg hat))
        go_roundg k1
        case measure => have := HK1.out; omega
        case rel => exact ⟨(y249), (wrap64 (x4_1 - 1)), zX, H', ⟨by have := HK1.out; omega⟩, ⟨zR HO251⟩, ⟨zB HB⟩⟩
       ·rw [if_neg c8] at H
        exact absurd H (by simp)
      ·rw [if_neg c7] at H
       have c7b0 : decide (0 < (x3_1.length : Int)) = false := decide_eq_false c7
       have c7b1 : decide (0 < x3_1.length) = false := decide_eq_false (by omega)
       clear c7
       have H' := Aside0.mk H
       clear H
       obtain ⟨Ao11, co11, eo11⟩ := Kd.R_slice HO_3.out
       subst eo11
       go_wp2
       go_roundg k1
       case measure => have := HK1.out; omega
       case rel => exact ⟨(x3_1), (wrap64 (x4_1 - 1)), zX, H', ⟨by have := HK1.out; omega⟩, ⟨zR HO_3⟩, ⟨zB HB⟩⟩
     ·rw [if_neg c6] at H
      have c6b0 : (((ji5) % 256) == 0) = false := beq_eq_false_iff_ne.mpr c6
      have c6b1 : (((ji5) % 256) != 0) = true := bne_iff_ne.mpr c6
      by_cases c12 : x3_1.length < 140737488355328
      ·rw [if_pos c12] at H
       have LMc12 := Aside0.mk c12
       clear c12
       obtain ⟨y252, hy252⟩ : ∃ y_ : List Int, y_ = (x3_1 ++ [(ji5) % 256]) := ⟨_, rfl⟩
       replace H : (proctorref02_high.l0 k1 a0 y252 (wrap64 (x4_1 - 1))) = some r := by first | (rw [hy252]; with_reducible exact H) | (have H2_ := (Option.bind_some _ _).symm.trans H; rw [hy252]; with_reducible exact H2_) | (have H2_ := (Option.bind_some _ _).symm.trans H; with_reducible exact H2_) | with_reducible exact H | (rw [hy252]; exact H) | exact H
       have Ny252 := Aside0.mk hy252
       clear hy252
       have H' := Aside0.mk H
       clear H
       go_wp2_with (first | ((with_reducible refine gate_builtin (b := .append) (xs := #[.tmp 23, .tmp 25]) rfl ?_); (try (refine gate_guard (by rfl) ?_; dsimp only)); at_builtin; refine Kd.R_append (Kd.int .u8) (w0 := w) w.heap.size rfl (.tmp 23) (.tmp 25) 74 5 (.int .u8 0) 1 rfl Try.underlying74 info5 rfl (by decide) (by omega) u3 x3_1 ((ji5) % 256) [.int .u8 ((ji5) % 256)] (fun _ => True) (fun _ => False) rfl rfl ?aP (fun _ hk => hk.elim) ?aF ?aO ?aB ?aS ?aL ?_; (case aP => exact rfl); (case aB => exact (zB HB)); (case aF => exact (fun _ _ => trivial)); (case aO => exact (zR HO_3)); (case aS => exact (below_size (zB HB))); (case aL => have := LMc12.out; omega); intro v253 w13 ho hb hg hat; rw [← Ny252.out] at ho; have HO254 := Aside0.mk (ho); replace HB := Aside0.mk (hb); clear HO_3; clear ho hb hg hat))
       go_roundg k1
       case measure => have := HK1.out; omega
       case rel => exact ⟨(y252), (wrap64 (x4_1 - 1)), zX, H', ⟨by have := HK1.out; omega⟩, ⟨zR HO254⟩, ⟨zB HB⟩⟩
      ·rw [if_neg c12] at H
       exact absurd H (by simp)
    ·rw [if_neg c4] at H
     exact absurd H (by simp)
   ·rw [if_neg c2] at H
    have c2b0 : decide (0 ≤ x4_1) = false := decide_eq_false c2
    clear c2
    obtain rfl := Option.some.inj H
    go_wp2
    go_ret
    exact ⟨_, zE, zR HO_3, zB HB⟩
def proctorref02_head.f (k : Nat) (a0 : Int) (a1 : Int) : Option (List Int) := if a1 ≤ 55 then (some (([(a0 + ((a1) % 256)) % 256] : List Int))) else ((proctorref02_high.f k (IntKind.u64.wrap (a1))).bind fun t258 => ((some (([(((a0 + 55) % 256) + (((t258.length : Int)) % 256)) % 256] : List Int) : List Int)).bind fun y261 => (if y261.length + t258.length < 140737488355328 then (some (y261 ++ t258)) else (none))))
theorem proctorref02_head.mono : ∀ a0 a1 k, LeO (proctorref02_head.f k a0 a1) (proctorref02_head.f (k + 1) a0 a1) := by
 intro a0 a1 k
 unfold proctorref02_head.f
 repeat' first
  | (with_reducible exact proctorref02_high.mono _ _)
  | (with_reducible exact LeO.refl _)
  | (with_reducible exact LeO.none _)
  | (with_reducible refine LeO.ite ?_ ?_)
  | (with_reducible refine LeO.bind ?_ (fun _ => ?_))
  | exact proctorref02_high.mono _ _
  | exact LeO.none _
  | refine LeO.ite ?_ ?_
  | refine LeO.bind ?_ (fun _ => ?_)
theorem proctorref02_head.calls (k : Nat) (a0 : Int) (a1 : Int) (r : List Int) (w : World) (h : proctorref02_head.f k a0 a1 = some r) :
 Calls Try.prog 162 #[.int .u8 a0, .int .i64 a1] w fun e w' => ∃ v0_ : Value, e = .returned (v0_) ∧ Kd.R (Kd.int .u8) 5 w' w.heap.size (fun _ => True) v0_ r ∧ Below w.heap.size w w' := by
 have HB := Aside0.mk (Below.refl w.heap.size w)
 have H : (if a1 ≤ 55 then (some (([(a0 + ((a1) % 256)) % 256] : List Int))) else ((proctorref02_high.f k (IntKind.u64.wrap (a1))).bind fun t258 => ((some (([(((a0 + 55) % 256) + (((t258.length : Int)) % 256)) % 256] : List Int) : List Int)).bind fun y261 => (if y261.length + t258.length < 140737488355328 then (some (y261 ++ t258)) else (none))))) = some r := h
 clear h
 by_cases c3 : a1 ≤ 55
 ·rw [if_pos c3] at H
  have c3b0 : decide (a1 ≤ 55) = true := decide_eq_true c3
  clear c3
  obtain ⟨y255, hy255⟩ : ∃ y_ : List Int, y_ = (([(a0 + ((a1) % 256)) % 256] : List Int)) := ⟨_, rfl⟩
  replace H : (some y255) = some r := by first | (rw [hy255]; with_reducible exact H) | (have H2_ := (Option.bind_some _ _).symm.trans H; rw [hy255]; with_reducible exact H2_) | (have H2_ := (Option.bind_some _ _).symm.trans H; with_reducible exact H2_) | with_reducible exact H | (rw [hy255]; exact H) | exact H
  have Ny255 := Aside0.mk hy255
  clear hy255
  obtain rfl := Option.some.inj H
  go_enter Try.func162, Try.ntmps162
  go_wp2_with (first | ((with_reducible refine gate_dst (N := 12) rfl ?_); refine Kd.R_lit (Kd.int .u8) _ 5 ?hg (N := 12) ?hd (xs := ([(a0 + ((a1) % 256)) % 256] : List Int)) (inner := [.int .u8 ((a0 + ((a1) % 256)) % 256)]) (ok := fun _ => True) (okp := fun _ => True) ?hr ?hp (fun _ hk => hk) trivial (Below.refl _ _) (Nat.le_refl _) (by simp) ?_; (case hd => rfl); (case hg => rfl); (case hr => first | (go_simp; done) | (go_simp; rfl)); (case hp => exact (Reps.one (show Kd.M (Kd.int .u8) _ _ _ ((a0 + ((a1) % 256)) % 256) [.int .u8 ((a0 + ((a1) % 256)) % 256)] from rfl) (Reps.none _ _))); intro v256 w4 ho5 hb hg_ hnew_; clear hg_ hnew_; (first | rw [← Ny255.out] at ho5 | (simp only [Int.reduceToNat] at ho5; rw [← Ny255.out] at ho5)); have HO257 := Aside0.mk (Kd.R_lower ho5 (below_size (zB HB))); replace HB := Aside0.mk (below_step (zB HB) hb); clear hb ho5))
  go_ret
  exact ⟨_, zE, zR HO257, zB HB⟩
 ·rw [if_neg c3] at H
  have c3b0 : decide (a1 ≤ 55) = false := decide_eq_false c3
  clear c3
  replace H := Option.bind_eq_some_iff.mp H
  obtain ⟨t258, A60, H⟩ := H
  replace H : ((some (([(((a0 + 55) % 256) + (((t258.length : Int)) % 256)) % 256] : List Int) : List Int)).bind fun y261 => (if y261.length + t258.length < 140737488355328 then (some (y261 ++ t258)) else (none))) = some r := H
  have A6 := Aside0.mk A60
  clear A60
  obtain ⟨y261, hy261⟩ : ∃ y_ : List Int, y_ = (([(((a0 + 55) % 256) + (((t258.length : Int)) % 256)) % 256] : List Int)) := ⟨_, rfl⟩
  replace H : (if y261.length + t258.length < 140737488355328 then (some (y261 ++ t258)) else (none)) = some r := by first | (rw [hy261]; with_reducible exact H) | (have H2_ := (Option.bind_some _ _).symm.trans H; rw [hy261]; with_reducible exact H2_) | (have H2_ := (Option.bind_some _ _).symm.trans H; with_reducible exact H2_) | with_reducible exact H | (rw [hy261]; exact H) | exact H
  have Ny261 := Aside0.mk hy261
  clear hy261
  by_cases c7 : y261.length + t258.length < 140737488355328
  ·rw [if_pos c7] at H
   have LMc7 := Aside0.mk c7
   clear c7
   obtain ⟨y264, hy264⟩ : ∃ y_ : List Int, y_ = (y261 ++ t258) := ⟨_, rfl⟩
   replace H : (some y264) = some r := by first | (rw [hy264]; with_reducible exact H) | (have H2_ := (Option.bind_some _ _).symm.trans H; rw [hy264]; with_reducible exact H2_) | (have H2_ := (Option.bind_some _ _).symm.trans H; with_reducible exact H2_) | with_reducible exact H | (rw [hy264]; exact H) | exact H
   have Ny264 := Aside0.mk hy264
   clear hy264
   obtain rfl := Option.some.inj H
   go_enter Try.func162, Try.ntmps162
   go_wp2_with (first | ((with_reducible refine gate_callee (f := 143) rfl ?_); refine goesL_ (some 15) rfl rfl Try.func143 (by kernel_rfl) rfl #[.int .u64 (IntKind.u64.wrap (a1))] rfl zM ?_; (with_reducible refine (proctorref02_high.calls k (IntKind.u64.wrap (a1)) t258 _ A6.out).mono ?_); rintro e w8 ⟨v259, rfl, ho0, hb⟩; refine ⟨_, rfl, ?_⟩; have HO260 := Aside0.mk (Kd.R_lower ho0 (below_size (zB HB))); replace HB := Aside0.mk (below_step (zB HB) hb); (try clear hb); (try clear ho0); obtain ⟨Ao9, co9, eo9⟩ := Kd.R_slice HO260.out; subst eo9) | ((with_reducible refine gate_dst (N := 22) rfl ?_); refine Kd.R_lit (Kd.int .u8) _ 5 ?hg (N := 22) ?hd (xs := ([(((a0 + 55) % 256) + (((t258.length : Int)) % 256)) % 256] : List Int)) (inner := [.int .u8 ((((a0 + 55) % 256) + (((t258.length : Int)) % 256)) % 256)]) (ok := fun _ => True) (okp := fun _ => True) ?hr ?hp (fun _ hk => hk) trivial (Below.refl _ _) (Nat.le_refl _) (by simp) ?_; (case hd => rfl); (case hg => rfl); (case hr => first | (go_simp; done) | (go_simp; rfl)); (case hp => exact (Reps.one (show Kd.M (Kd.int .u8) _ _ _ ((((a0 + 55) % 256) + (((t258.length : Int)) % 256)) % 256) [.int .u8 ((((a0 + 55) % 256) + (((t258.length : Int)) % 256)) % 256)] from rfl) (Reps.none _ _))); intro v262 w10 ho11 hb hg_ hnew_; clear hg_ hnew_; (first | rw [← Ny261.out] at ho11 | (simp only [Int.reduceToNat] at ho11; rw [← Ny261.out] at ho11)); have HO263 := Aside0.mk (Kd.R_lower (Kd.R_new' ho11 (Kd.R_lt (zR HO260))) (below_size (zB HB))); replace HO260 := Aside0.mk (Kd.R_elder' (zR HO260) (Kd.R_base ho11) hb); replace HB := Aside0.mk (below_step (zB HB) hb); clear hb ho11) | ((with_reducible refine gate_builtin (b := .append) (xs := #[.tmp 22, .tmp 23]) rfl ?_); at_builtin; refine Kd.R_append_rows (Kd.int .u8) (w0 := w) w.heap.size rfl (.tmp 22) (.tmp 23) 74 5 (.int .u8 0) 1 rfl Try.underlying74 info5 rfl (by decide) (by omega) v262 y261 t258 _ _ _ (fun k_ => some k_ ≠ (.slice Ao9 t258.length co9 : Value).ownBlock) (fun _ => False) rfl rfl ?aO ?aR (fun _ _ h => h) (fun _ h => h.elim) ?aF ?aB ?aS ?aL ?_; (case aR => repeat (first | exact (Kd.R_reads' HO260.out).2.2 | (with_reducible refine Kd.C_alloc ?_ _) | (with_reducible refine Kd.C_drewN ?_ _) | (with_reducible refine Kd.C_drew ?_))); (case aB => exact (zB HB)); (case aF => exact (fun k_ hk => Kd.fresh' (Kd.R_lt (zR HO260)) k_ hk)); (case aO => exact (by (with_reducible repeat (first | apply Kd.R_alloc | apply Kd.R_drewN | apply Kd.R_drew)); exact Kd.R_mono HO263.out (fun _ hk => hk.2))); (case aS => exact (below_size (zB HB))); (case aL => have := LMc7.out; omega); intro v265 w12 ho hb hg hat; rw [← Ny264.out] at ho; have HO266 := Aside0.mk (ho); replace HO260 := Aside0.mk (Kd.R_after (ok := (fun _ => True)) (zR HO260) hg hat); replace HB := Aside0.mk (hb); clear HO263; clear ho hb hg hat))
   go_ret
   exact ⟨_, zE, by (with_reducible repeat (first | apply Kd.R_alloc | apply Kd.R_drewN | apply Kd.R_drew)); exact Kd.R_mono HO266.out (fun _ hk => trivial), zB HB⟩
  ·rw [if_neg c7] at H
   exact absurd H (by simp)
end Go.Proofs.Ytocphkfkdadhaaa.PRF
