import Derived.Test.YtocphkfkdadhaaaZPk2
import Derived.Test.YtocphkfkdadhaaaZPk3
import Derived.Test.YtocphkfkdadhaaaZPk6
set_option maxHeartbeats 8000000
set_option linter.unusedVariables false
set_option linter.unusedSimpArgs false
set_option maxRecDepth 100000
namespace Go.Proofs.Ytocphkfkdadhaaa.PRF
open Go.RowKit Go.Proofs.YtocphkfkdadhaaaW.PrintWords Go.Proofs.YtocphkfkdadhaaaW.PrintLast Go.Proofs.YtocphkfkdadhaaaW.PrintMore
attribute [local go_sem] max2_int min2_int max_two min_two max_three min_three max_four min_four
mutual
def proctorref02_read.j0 : Nat → List Int → Int → Bool → Int → Option (Bool × List Int × (List (S159)) × Int × Int)
 | 0, _, _, _, _ => none
 | k + 1, x0, x1, x7, x8 => (proctorref02_length.f k x0 x8).bind fun bt366 => (if bt366.2.2 = 0 then (proctorref02_read.j1 k x0 x1 x7 bt366.1 bt366.2.1 bt366.2.2 (decide (bt366.1 > (wrap64 ((x0.length : Int) - bt366.2.1))))) else (proctorref02_read.j1 k x0 x1 x7 bt366.1 bt366.2.1 bt366.2.2 false))
def proctorref02_read.j1 : Nat → List Int → Int → Bool → Int → Int → Int → Bool → Option (Bool × List Int × (List (S159)) × Int × Int)
 | 0, _, _, _, _, _, _, _ => none
 | k + 1, x0, x1, x7, x9, x10, x11, x54 => if x54 = true then (proctorref02_read.j2 k x0 x1 x7 x9 x10 7) else (proctorref02_read.j2 k x0 x1 x7 x9 x10 x11)
def proctorref02_read.j2 : Nat → List Int → Int → Bool → Int → Int → Int → Option (Bool × List Int × (List (S159)) × Int × Int)
 | 0, _, _, _, _, _, _ => none
 | k + 1, x0, x1, x7, x9, x10, x11 => if x11 = 0 then (if 0 ≤ x10 then (if x10 ≤ (wrap64 (x10 + x9)) then (if (wrap64 (x10 + x9)) ≤ (x0.length : Int) then ((some ((x0.take ((wrap64 (x10 + x9)) : Int).toNat).drop (x10 : Int).toNat : List Int)).bind fun y369 => (if x7 = true then (proctorref02_read.l0 k x1 x9 x10 y369 true ([] : List (S159))) else (if x9 = 1 then (if 0 < (y369.length : Int) then (if (rd y369 0) < 128 then (some (false, ([] : List Int), ([] : List (S159)), 0, 8)) else ((proctorref01_Copy.f y369).bind fun t375 => (some (false, t375, ([] : List (S159)), wrap64 (x10 + x9), 0)))) else (none)) else ((proctorref01_Copy.f y369).bind fun t378 => (some (false, t378, ([] : List (S159)), wrap64 (x10 + x9), 0)))))) else (none)) else (none)) else (none)) else (some (false, ([] : List Int), ([] : List (S159)), 0, x11))
def proctorref02_read.l0 : Nat → Int → Int → Int → List Int → Bool → List (S159) → Option (Bool × List Int × (List (S159)) × Int × Int)
 | 0, _, _, _, _, _, _ => none
 | k + 1, x1, x9, x10, x12, x382000, x382002 => if (x12.length : Int) > 0 then ((proctorref02_read.f k x12 (wrap64 (x1 - 1))).bind fun bt382 => (if bt382.2.2.2.2 = 0 then (if x382002.length < 2513169434916 then (if 0 ≤ bt382.2.2.2.1 then (if bt382.2.2.2.1 ≤ (x12.length : Int) then (proctorref02_read.l0 k x1 x9 x10 (x12.drop (bt382.2.2.2.1 : Int).toNat) x382000 (x382002 ++ [(⟨bt382.1, bt382.2.1, bt382.2.2.1⟩ : S159)])) else (none)) else (none)) else (none)) else (some (false, ([] : List Int), ([] : List (S159)), 0, bt382.2.2.2.2)))) else (some (x382000, ([] : List Int), x382002, wrap64 (x10 + x9), 0))
def proctorref02_read.f : Nat → List Int → Int → Option (Bool × List Int × (List (S159)) × Int × Int)
 | 0, _, _ => none
 | k + 1, l0, a1 => if (l0.length : Int) = 0 then (some (false, ([] : List Int), ([] : List (S159)), 0, 7)) else (if 0 < (l0.length : Int) then (if (rd l0 0) < 128 then (some (false, (([rd l0 0] : List Int)), ([] : List (S159)), 1, 0)) else (if (rd l0 0) ≥ 192 then (if a1 = 0 then (some (false, ([] : List Int), ([] : List (S159)), 0, 8)) else (proctorref02_read.j0 k l0 a1 (decide ((rd l0 0) ≥ 192)) 192)) else (proctorref02_read.j0 k l0 a1 (decide ((rd l0 0) ≥ 192)) 128))) else (none))
end
theorem proctorref02_read.calls (k : Nat) : ∀ (P0_ : Nat → Prop) (A0 : Option Addr) (c0 : Nat) (l0 : List Int) (a1 : Int) (r1 : Bool) (r2 : List Int) (r3 : List (S159)) (r4 : Int) (r5 : Int) (w : World) (hs0 : Kd.V (Kd.int .u8) 5 w w.heap.size (fun k_ => P0_ k_) (.slice A0 l0.length c0) l0) (h : proctorref02_read.f k l0 a1 = some (r1, r2, r3, r4, r5)),
 Calls Try.prog 148 #[.slice A0 l0.length c0, .int .i64 a1] w fun e w' => ∃ v1_ v2_ : Value, e = .returned (.tuple #[.agg #[.bool r1, v1_, v2_], .int .i64 r4, .int .i64 r5]) ∧ Kd.R (Kd.int .u8) 5 w' w.heap.size (fun k_ => (w.heap.size ≤ k_)) v1_ r2 ∧ Kd.R k159 159 w' w.heap.size (fun k_ => (w.heap.size ≤ k_) ∧ some k_ ≠ (v1_ : Value).ownBlock) v2_ r3 ∧ Below w.heap.size w w' := by
 induction k using Nat.strongRecOn with
 | _ k ih =>
 intro P0_ A0 c0 l0 a1 r1 r2 r3 r4 r5 w hs0 h
 cases k with
 | zero => exact absurd h (by simp [proctorref02_read.f])
 | succ k =>
 simp only [proctorref02_read.f] at h
 have hu159 := Try.underlying159
 have HO0 := Aside0.mk (show Kd.V (Kd.int .u8) 5 w w.heap.size (fun k_ => (P0_ k_ ∨ w.heap.size ≤ k_)) (.slice A0 l0.length c0) l0 from Kd.V_mono hs0 (fun k_ hk => .inl hk))
 have HB := Aside0.mk (Below.refl w.heap.size w)
 have H : (if (l0.length : Int) = 0 then (some (false, ([] : List Int), ([] : List (S159)), 0, 7)) else (if 0 < (l0.length : Int) then (if (rd l0 0) < 128 then (some (false, (([rd l0 0] : List Int)), ([] : List (S159)), 1, 0)) else (if (rd l0 0) ≥ 192 then (if a1 = 0 then (some (false, ([] : List Int), ([] : List (S159)), 0, 8)) else (proctorref02_read.j0 k l0 a1 (decide ((rd l0 0) ≥ 192)) 192)) else (proctorref02_read.j0 k l0 a1 (decide ((rd l0 0) ≥ 192)) 128))) else (none))) = some (r1, r2, r3, r4, r5) := h
 clear h
 by_cases c3 : (l0.length : Int) = 0
 ·rw [if_pos c3] at H
  have c3b0 : ((l0.length : Int) == 0) = true := beq_iff_eq.mpr c3
  have c3b1 : ((l0.length : Int) != 0) = false := bne_eq_false_iff_eq.mpr c3
  clear c3
  simp only [Option.some.injEq, Prod.mk.injEq] at H
  obtain ⟨rfl, rfl, rfl, rfl, rfl⟩ := H
  go_enter Try.func148, Try.ntmps148
  go_wp2_with (first | ((with_reducible refine gate_dst (N := 4) rfl ?_); (try (refine gate_guard (by rfl) ?_; dsimp only)); refine zx 4 #[.bool false, .slice none 0 0, .slice none 0 0] 159 ?_; intro gb359 hg w4 hbox hb; have BK359 := Aside0.mk (hbox); have GW359 := Aside0.mk ((zG hg HB)); have GE359 := Aside0.mk ((zG hg HB)); replace HO0 := Aside0.mk (Kd.V_below (Kd.V_elderB (zV HO0) gb359 (Nat.le_of_eq hg.symm)) hb); replace HB := Aside0.mk (below_step (zB HB) hb); clear hb hbox hg; have hcz5_0 : w4.cell? ⟨gb359, 0, none⟩ = some (.bool false) := (blk_cell BK359.out 0).trans rfl; have hcz5_1 : w4.cell? ⟨gb359, 1, none⟩ = some (.slice none 0 0) := (blk_cell BK359.out 1).trans rfl; have hcz5_2 : w4.cell? ⟨gb359, 2, none⟩ = some (.slice none 0 0) := (blk_cell BK359.out 2).trans rfl; have hfz5_0 := blk_frozen BK359.out 0; have hfz5_1 := blk_frozen BK359.out 1; have hfz5_2 := blk_frozen BK359.out 2))
  refine bodyPost_ret (results_ctt rfl _ _ gb359 159 #[.bool false, .slice none 0 0, .slice none 0 0] (0, 0) _ rfl (by refine zr ?_; refine blk_put (cs := #[.bool false, .slice none 0 0, .slice none 0 0]) ?_ 2 _ rfl; refine zr ?_; refine blk_put (cs := #[.bool false, .slice none 0 0, .slice none 0 0]) ?_ 1 _ rfl; refine zr ?_; refine blk_put (cs := #[.bool false, .slice none 0 0, .slice none 0 0]) ?_ 0 _ rfl; refine zr ?_; exact BK359.out) Try.underlying159 rfl (by kernel_rfl)) rfl ?_
  exact ⟨_, _, zE, zL, zL, zB1 HB GE359⟩
 ·rw [if_neg c3] at H
  have c3b0 : ((l0.length : Int) == 0) = false := beq_eq_false_iff_ne.mpr c3
  have c3b1 : ((l0.length : Int) != 0) = true := bne_iff_ne.mpr c3
  have c3b2 : ¬ (l0 = []) := fun h_ => c3 (by rw [h_]; rfl)
  by_cases c6 : 0 < (l0.length : Int)
  ·rw [if_pos c6] at H
   have c6b0 : decide (0 < (l0.length : Int)) = true := decide_eq_true c6
   have c6b1 : decide (0 < l0.length) = true := decide_eq_true (by omega)
   clear c6
   by_cases c7 : (rd l0 0) < 128
   ·rw [if_pos c7] at H
    have c7b0 : decide ((rd l0 0) < 128) = true := decide_eq_true c7
    clear c7
    obtain ⟨y362, hy362⟩ : ∃ y_ : List Int, y_ = (([rd l0 0] : List Int)) := ⟨_, rfl⟩
    replace H : (some (false, y362, ([] : List (S159)), 1, 0)) = some (r1, r2, r3, r4, r5) := by first | (rw [hy362]; with_reducible exact H) | (have H2_ := (Option.bind_some _ _).symm.trans H; rw [hy362]; with_reducible exact H2_) | (have H2_ := (Option.bind_some _ _).symm.trans H; with_reducible exact H2_) | with_reducible exact H | (rw [hy362]; exact H) | exact H
    have Ny362 := Aside0.mk hy362
    clear hy362
    simp only [Option.some.injEq, Prod.mk.injEq] at H
    obtain ⟨rfl, rfl, rfl, rfl, rfl⟩ := H
    go_enter Try.func148, Try.ntmps148
    go_wp2_with (first | ((with_reducible refine gate_dst (N := 4) rfl ?_); (try (refine gate_guard (by rfl) ?_; dsimp only)); refine zx 4 #[.bool false, .slice none 0 0, .slice none 0 0] 159 ?_; intro gb359 hg w8 hbox hb; have BK359 := Aside0.mk (hbox); have GW359 := Aside0.mk ((zG hg HB)); have GE359 := Aside0.mk ((zG hg HB)); replace HO0 := Aside0.mk (Kd.V_below (Kd.V_elderB (zV HO0) gb359 (Nat.le_of_eq hg.symm)) hb); replace HB := Aside0.mk (below_step (zB HB) hb); clear hb hbox hg; have p360 : 0 ≤ (0 : Int) := (by omega); have q360 : 0 < (l0.length : Int) := of_decide_eq_true zA; obtain ⟨ad360, e360, hx360_0⟩ := Kd.at_int (Kd.V_reads' HO0.out).2.2 0 p360 q360; cases e360; have qi360 : (0 < l0.length) = True := eq_true (by omega); (try rw [show ((0 : Int)).toNat = 0 from rfl] at hx360_0); (try rw [Addr.add_zero'] at hx360_0); replace p360 := eq_true p360; replace q360 := eq_true q360; have p361 : 0 ≤ (0 : Int) := (by omega); have q361 : 0 < (l0.length : Int) := of_decide_eq_true zA; obtain ⟨ad361, e361, hx361_0⟩ := Kd.at_int (Kd.V_reads' HO0.out).2.2 0 p361 q361; obtain rfl : ad360 = ad361 := (by injection e361); have qi361 : (0 < l0.length) = True := eq_true (by omega); (try rw [show ((0 : Int)).toNat = 0 from rfl] at hx361_0); (try rw [Addr.add_zero'] at hx361_0); replace p361 := eq_true p361; replace q361 := eq_true q361) | ((with_reducible refine gate_dst (N := 28) rfl ?_); (try (refine gate_guard (by rfl) ?_; dsimp only)); refine Kd.R_lit (Kd.int .u8) _ 5 ?hg (N := 28) ?hd (xs := ([rd l0 0] : List Int)) (inner := [.int .u8 (rd l0 0)]) (ok := fun _ => True) (okp := fun _ => True) ?hr ?hp (fun _ hk => hk) trivial (Below.refl _ _) (Nat.le_refl _) (by simp) ?_; (case hd => rfl); (case hg => rfl); (case hr => first | (go_simp; done) | (go_simp; rfl)); (case hp => exact (Reps.one (show Kd.M (Kd.int .u8) _ _ _ (rd l0 0) [.int .u8 (rd l0 0)] from rfl) (Reps.none _ _))); intro v363 w9 ho10 hb hg_ hnew_; clear hg_ hnew_; (first | rw [← Ny362.out] at ho10 | (simp only [Int.reduceToNat] at ho10; rw [← Ny362.out] at ho10)); have HO364 := Aside0.mk (Kd.R_lower (Kd.R_newM (M := fun k_ => (w.heap.size ≤ k_)) ho10 (below_size (zB1 HB GE359)) (fun k_ h_ => h_)) (below_size (zB1 HB GE359))); replace HO0 := Aside0.mk (Kd.V_elder' (zV HO0) (Kd.R_base ho10) hb); replace BK359 := Aside0.mk (zb BK359 hb); replace HB := Aside0.mk (below_step (zB1 HB GE359) hb); clear hb ho10; obtain ⟨Ao11, co11, eo11⟩ := Kd.R_slice HO364.out; subst eo11; have hcz12_0 : w9.cell? ⟨gb359, 0, none⟩ = some (.bool false) := (blk_cell BK359.out 0).trans rfl; have hcz12_1 : w9.cell? ⟨gb359, 1, none⟩ = some (.slice none 0 0) := (blk_cell BK359.out 1).trans rfl; have hcz12_2 : w9.cell? ⟨gb359, 2, none⟩ = some (.slice none 0 0) := (blk_cell BK359.out 2).trans rfl; have hfz12_0 := blk_frozen BK359.out 0; have hfz12_1 := blk_frozen BK359.out 1; have hfz12_2 := blk_frozen BK359.out 2))
    refine bodyPost_ret (results_ctt rfl _ _ gb359 159 #[.bool false, .slice Ao11 y362.length co11, .slice none 0 0] (0, 0) _ rfl (by refine zr ?_; refine blk_put (cs := #[.bool false, .slice Ao11 y362.length co11, .slice none 0 0]) ?_ 2 _ rfl; refine zr ?_; refine blk_put (cs := #[.bool false, .slice none 0 0, .slice none 0 0]) ?_ 1 _ rfl; refine zr ?_; refine blk_put (cs := #[.bool false, .slice none 0 0, .slice none 0 0]) ?_ 0 _ rfl; refine zr ?_; exact BK359.out) Try.underlying159 rfl (by kernel_rfl)) rfl ?_
    exact ⟨_, _, zE, by (with_reducible repeat (first | apply Kd.R_alloc | apply Kd.R_drewN | apply Kd.R_drew)); exact Kd.R_mono (Kd.R_far (p := ⟨gb359, 2, none⟩) (Kd.R_far (p := ⟨gb359, 1, none⟩) (Kd.R_far (p := ⟨gb359, 0, none⟩) (Kd.R_types HO364.out BK359.out (by decide)) (fun _ hk => hk.2) (.bool false)) (fun _ hk => hk.2) (.slice Ao11 y362.length co11)) (fun _ hk => hk.2) (.slice none 0 0)) (fun _ hk => hk.1.1), zL, zB1 HB GE359⟩
   ·rw [if_neg c7] at H
    have c7b0 : decide ((rd l0 0) < 128) = false := decide_eq_false c7
    clear c7
    have HC13 := Aside0.mk H
    clear H
    go_enter Try.func148, Try.ntmps148
    go_upto_if 34 with (first | ((with_reducible refine gate_dst (N := 4) rfl ?_); (try (refine gate_guard (by rfl) ?_; dsimp only)); refine zx 4 #[.bool false, .slice none 0 0, .slice none 0 0] 159 ?_; intro gb359 hg w14 hbox hb; have BK359 := Aside0.mk (hbox); have GW359 := Aside0.mk ((zG hg HB)); have GE359 := Aside0.mk ((zG hg HB)); replace HO0 := Aside0.mk (Kd.V_below (Kd.V_elderB (zV HO0) gb359 (Nat.le_of_eq hg.symm)) hb); replace HB := Aside0.mk (below_step (zB HB) hb); clear hb hbox hg; have p360 : 0 ≤ (0 : Int) := (by omega); have q360 : 0 < (l0.length : Int) := of_decide_eq_true zA; obtain ⟨ad360, e360, hx360_0⟩ := Kd.at_int (Kd.V_reads' HO0.out).2.2 0 p360 q360; cases e360; have qi360 : (0 < l0.length) = True := eq_true (by omega); (try rw [show ((0 : Int)).toNat = 0 from rfl] at hx360_0); (try rw [Addr.add_zero'] at hx360_0); replace p360 := eq_true p360; replace q360 := eq_true q360; have p365 : 0 ≤ (0 : Int) := (by omega); have q365 : 0 < (l0.length : Int) := of_decide_eq_true zA; obtain ⟨ad365, e365, hx365_0⟩ := Kd.at_int (Kd.V_reads' HO0.out).2.2 0 p365 q365; obtain rfl : ad360 = ad365 := (by injection e365); have qi365 : (0 < l0.length) = True := eq_true (by omega); (try rw [show ((0 : Int)).toNat = 0 from rfl] at hx365_0); (try rw [Addr.add_zero'] at hx365_0); replace p365 := eq_true p365; replace q365 := eq_true q365))
    (try simp only [Act.put, List.setIfInBounds_toArray, List.set_cons_zero, List.set_cons_succ])
    go_cut [7, 8] (fun v7 v8 wc => ∃ (kq : Nat) (x8_12 : Int) (x360000_12 : Bool), v7 = .bool (decide (192 ≤ (rd l0 0))) ∧ v8 = .int .u8 x8_12 ∧ Aside0 (proctorref02_read.j0 kq l0 a1 (decide ((rd l0 0) ≥ 192)) x8_12 = some (r1, r2, r3, r4, r5)) ∧ Aside0 (kq ≤ k) ∧ Aside0 (Kd.V (Kd.int .u8) 5 wc w.heap.size (fun k_ => (P0_ k_ ∨ w.heap.size ≤ k_) ∧ k_ ≠ gb359) (.slice (some ad360) l0.length c0) l0) ∧ Aside0 (wc.heap[gb359]? = some (.cells #[.bool x360000_12, (.slice none 0 0), (.slice none 0 0)] 159 (0, 0))) ∧ Aside0 (Below w.heap.size w wc))
    case first =>
     have H := HC13.out
     clear HC13
     by_cases c15 : (rd l0 0) ≥ 192
     ·rw [if_pos c15] at H
      have c15b0 : decide (192 ≤ (rd l0 0)) = true := decide_eq_true c15
      clear c15
      (first | rw [c15b0] | (simp only [i64_w, i32_w]; rw [c15b0]) | skip)
      by_cases c16 : a1 = 0
      ·rw [if_pos c16] at H
       have c16b0 : (a1 == 0) = true := beq_iff_eq.mpr c16
       have c16b1 : (a1 != 0) = false := bne_eq_false_iff_eq.mpr c16
       clear c16
       simp only [Option.some.injEq, Prod.mk.injEq] at H
       obtain ⟨rfl, rfl, rfl, rfl, rfl⟩ := H
       have hcz17_0 : w14.cell? ⟨gb359, 0, none⟩ = some (.bool false) := (blk_cell BK359.out 0).trans rfl
       have hcz17_1 : w14.cell? ⟨gb359, 1, none⟩ = some (.slice none 0 0) := (blk_cell BK359.out 1).trans rfl
       have hcz17_2 : w14.cell? ⟨gb359, 2, none⟩ = some (.slice none 0 0) := (blk_cell BK359.out 2).trans rfl
       have hfz17_0 := blk_frozen BK359.out 0
       have hfz17_1 := blk_frozen BK359.out 1
       have hfz17_2 := blk_frozen BK359.out 2
       go_wp2
       refine bodyPost_ret (results_ctt rfl _ _ gb359 159 #[.bool false, .slice none 0 0, .slice none 0 0] (0, 0) _ rfl (by refine zr ?_; refine blk_put (cs := #[.bool false, .slice none 0 0, .slice none 0 0]) ?_ 2 _ rfl; refine zr ?_; refine blk_put (cs := #[.bool false, .slice none 0 0, .slice none 0 0]) ?_ 1 _ rfl; refine zr ?_; refine blk_put (cs := #[.bool false, .slice none 0 0, .slice none 0 0]) ?_ 0 _ rfl; refine zr ?_; exact BK359.out) Try.underlying159 rfl (by kernel_rfl)) rfl ?_
       exact ⟨_, _, zE, zL, zL, zB1 HB GE359⟩
      ·rw [if_neg c16] at H
       have c16b0 : (a1 == 0) = false := beq_eq_false_iff_ne.mpr c16
       have c16b1 : (a1 != 0) = true := bne_iff_ne.mpr c16
       have H' := Aside0.mk H
       clear H
       go_wp2
       go_meet
       case rel => exact ⟨_, (192), (false), (by rw [c15b0]), zX, H', ⟨by first | omega | exact Nat.le_refl _⟩, ⟨zV HO0⟩, ⟨zK BK359⟩, ⟨zB1 HB GE359⟩⟩
     ·rw [if_neg c15] at H
      have c15b0 : decide (192 ≤ (rd l0 0)) = false := decide_eq_false c15
      clear c15
      (first | rw [c15b0] | (simp only [i64_w, i32_w]; rw [c15b0]) | skip)
      have H' := Aside0.mk H
      clear H
      go_wp2
      go_meet
      case rel => exact ⟨_, (128), (false), (by rw [c15b0]), zX, H', ⟨by first | omega | exact Nat.le_refl _⟩, ⟨zV HO0⟩, ⟨zK BK359⟩, ⟨zB1 HB GE359⟩⟩
    case rest =>
     clear HC13
     try clear c3
     try clear c3b0
     try clear c3b1
     try clear c3b2
     try clear c6b0
     try clear c6b1
     try clear c7b0
     try clear hx360_0
     try clear hx365_0
     try clear p360
     try clear p365
     try clear q360
     try clear q365
     obtain ⟨kq, x8_12, x360000_12, rfl, rfl, HA, HJ12, HO_0, BK359, HB⟩ := hcut
     cases kq with
     | zero => exact absurd HA.out (by simp [proctorref02_read.j0])
     | succ kj12 =>
      have H := HA.out
      clear HA
      simp only [proctorref02_read.j0] at H
      replace H := Option.bind_eq_some_iff.mp H
      obtain ⟨⟨t366, t367, t368⟩, A180, H⟩ := H
      replace H : (if t368 = 0 then (proctorref02_read.j1 kj12 l0 a1 (decide ((rd l0 0) ≥ 192)) t366 t367 t368 (decide (t366 > (wrap64 ((l0.length : Int) - t367))))) else (proctorref02_read.j1 kj12 l0 a1 (decide ((rd l0 0) ≥ 192)) t366 t367 t368 false)) = some (r1, r2, r3, r4, r5) := H
      have A18 := Aside0.mk A180
      clear A180
      have HC19 := Aside0.mk H
      clear H
      go_upto_region 12 with (first | ((with_reducible refine gate_callee (f := 164) rfl ?_); refine goesL_ (some 41) rfl rfl Try.func164 (by kernel_rfl) rfl #[.slice (some ad360) l0.length c0, .int .u8 x8_12] rfl zM ?_; (with_reducible refine (proctorref02_length.calls kj12 _ _ l0 x8_12 t366 t367 t368 _ ?side1 ?side2 A18.out).mono ?_); (case side1 => repeat (first | exact (Kd.V_reads' HO_0.out).2.2 | (with_reducible refine Kd.C_alloc ?_ _) | (with_reducible refine Kd.C_drewN ?_ _) | (with_reducible refine Kd.C_drew ?_))); (case side2 => exact (Kd.V_reads' HO_0.out).2.1); rintro e w' ⟨rfl, ⟨nd, rfl⟩⟩; refine ⟨_, rfl, ?_⟩))
      (try simp only [Act.put, List.setIfInBounds_toArray, List.set_cons_zero, List.set_cons_succ])
      go_cut [54] (fun v54 wc => ∃ (kq : Nat) (x54_18 : Bool), v54 = .bool x54_18 ∧ Aside0 (proctorref02_read.j1 kq l0 a1 (decide ((rd l0 0) ≥ 192)) t366 t367 t368 x54_18 = some (r1, r2, r3, r4, r5)) ∧ Aside0 (kq ≤ kj12) ∧ Aside0 (Kd.V (Kd.int .u8) 5 wc w.heap.size (fun k_ => (P0_ k_ ∨ w.heap.size ≤ k_) ∧ k_ ≠ gb359) (.slice (some ad360) l0.length c0) l0) ∧ Aside0 (wc.heap[gb359]? = some (.cells #[.bool x360000_12, (.slice none 0 0), (.slice none 0 0)] 159 (0, 0))) ∧ Aside0 (Below w.heap.size w wc))
      case first =>
       have H := HC19.out
       clear HC19
       by_cases c20 : t368 = 0
       ·rw [if_pos c20] at H
        have c20b0 : (t368 == 0) = true := beq_iff_eq.mpr c20
        have c20b1 : (t368 != 0) = false := bne_eq_false_iff_eq.mpr c20
        clear c20
        (first | rw [c20b0] | (simp only [i64_w, i32_w]; rw [c20b0]) | skip)
        have H' := Aside0.mk H
        clear H
        go_wp2
        go_meet
        case rel => exact ⟨_, (decide (t366 > (wrap64 ((l0.length : Int) - t367)))), zX, H', ⟨by have := HJ12.out; first | omega | exact Nat.le_refl _⟩, ⟨zV HO_0⟩, ⟨zK BK359⟩, ⟨zB1 HB GE359⟩⟩
       ·rw [if_neg c20] at H
        have c20b0 : (t368 == 0) = false := beq_eq_false_iff_ne.mpr c20
        have c20b1 : (t368 != 0) = true := bne_iff_ne.mpr c20
        (first | rw [c20b0] | (simp only [i64_w, i32_w]; rw [c20b0]) | skip)
        have H' := Aside0.mk H
        clear H
        go_wp2
        go_meet
        case rel => exact ⟨_, (false), zX, H', ⟨by have := HJ12.out; first | omega | exact Nat.le_refl _⟩, ⟨zV HO_0⟩, ⟨zK BK359⟩, ⟨zB1 HB GE359⟩⟩
      case rest =>
       clear HC19
       obtain ⟨kq, x54_18, rfl, HA, HJ18, HO_0, BK359, HB⟩ := hcut
       cases kq with
       | zero => exact absurd HA.out (by simp [proctorref02_read.j1])
       | succ kj18 =>
        have H := HA.out
        clear HA
        simp only [proctorref02_read.j1] at H
        have HC21 := Aside0.mk H
        clear H
        go_upto_if 54 with (fail)
        go_cut [11] (fun v11 wc => ∃ (kq : Nat) (x11_20 : Int), v11 = .int .i64 x11_20 ∧ Aside0 (proctorref02_read.j2 kq l0 a1 (decide ((rd l0 0) ≥ 192)) t366 t367 x11_20 = some (r1, r2, r3, r4, r5)) ∧ Aside0 (kq ≤ kj18) ∧ Aside0 (Kd.V (Kd.int .u8) 5 wc w.heap.size (fun k_ => (P0_ k_ ∨ w.heap.size ≤ k_) ∧ k_ ≠ gb359) (.slice (some ad360) l0.length c0) l0) ∧ Aside0 (wc.heap[gb359]? = some (.cells #[.bool x360000_12, (.slice none 0 0), (.slice none 0 0)] 159 (0, 0))) ∧ Aside0 (Below w.heap.size w wc))
        case first =>
         have H := HC21.out
         clear HC21
         by_cases c22 : x54_18 = true
         ·subst c22
          have H1 : (proctorref02_read.j2 kj18 l0 a1 (decide ((rd l0 0) ≥ 192)) t366 t367 7) = some (r1, r2, r3, r4, r5) := by rw [if_pos rfl] at H; exact H
          clear H
          have H := H1
          clear H1
          have H' := Aside0.mk H
          clear H
          go_wp2
          go_meet
          case rel => exact ⟨_, (7), zX, H', ⟨by have := HJ12.out; have := HJ18.out; first | omega | exact Nat.le_refl _⟩, ⟨zV HO_0⟩, ⟨zK BK359⟩, ⟨zB1 HB GE359⟩⟩
         ·replace c22 := Bool.eq_false_iff.mpr c22
          subst c22
          have H1 : (proctorref02_read.j2 kj18 l0 a1 (decide ((rd l0 0) ≥ 192)) t366 t367 t368) = some (r1, r2, r3, r4, r5) := by rw [if_neg (show ¬ (false = true) by decide)] at H; exact H
          clear H
          have H := H1
          clear H1
          have H' := Aside0.mk H
          clear H
          go_wp2
          go_meet
          case rel => exact ⟨_, (t368), zX, H', ⟨by have := HJ12.out; have := HJ18.out; first | omega | exact Nat.le_refl _⟩, ⟨zV HO_0⟩, ⟨zK BK359⟩, ⟨zB1 HB GE359⟩⟩
        case rest =>
         clear HC21
         obtain ⟨kq, x11_20, rfl, HA, HJ20, HO_0, BK359, HB⟩ := hcut
         cases kq with
         | zero => exact absurd HA.out (by simp [proctorref02_read.j2])
         | succ kj20 =>
          have H := HA.out
          clear HA
          simp only [proctorref02_read.j2] at H
          by_cases c23 : x11_20 = 0
          ·rw [if_pos c23] at H
           have c23b0 : (x11_20 == 0) = true := beq_iff_eq.mpr c23
           have c23b1 : (x11_20 != 0) = false := bne_eq_false_iff_eq.mpr c23
           clear c23
           by_cases c24 : 0 ≤ t367
           ·rw [if_pos c24] at H
            have c24b0 := eq_true c24
            have c24b1 : decide (0 ≤ t367) = true := decide_eq_true c24
            clear c24
            by_cases c25 : t367 ≤ (wrap64 (t367 + t366))
            ·rw [if_pos c25] at H
             have c25b0 := eq_true c25
             have c25b1 : decide (t367 ≤ (wrap64 (t367 + t366))) = true := decide_eq_true c25
             by_cases c26 : (wrap64 (t367 + t366)) ≤ (l0.length : Int)
             ·rw [if_pos c26] at H
              have c26b0 := eq_true c26
              have c26b1 : decide ((wrap64 (t367 + t366)) ≤ (l0.length : Int)) = true := decide_eq_true c26
              obtain ⟨y369, hy369⟩ : ∃ y_ : List Int, y_ = ((l0.take ((wrap64 (t367 + t366)) : Int).toNat).drop (t367 : Int).toNat) := ⟨_, rfl⟩
              replace H : (if (decide ((rd l0 0) ≥ 192)) = true then (proctorref02_read.l0 kj20 a1 t366 t367 y369 true ([] : List (S159))) else (if t366 = 1 then (if 0 < (y369.length : Int) then (if (rd y369 0) < 128 then (some (false, ([] : List Int), ([] : List (S159)), 0, 8)) else ((proctorref01_Copy.f y369).bind fun t375 => (some (false, t375, ([] : List (S159)), wrap64 (t367 + t366), 0)))) else (none)) else ((proctorref01_Copy.f y369).bind fun t378 => (some (false, t378, ([] : List (S159)), wrap64 (t367 + t366), 0))))) = some (r1, r2, r3, r4, r5) := by first | (rw [hy369]; with_reducible exact H) | (have H2_ := (Option.bind_some _ _).symm.trans H; rw [hy369]; with_reducible exact H2_) | (have H2_ := (Option.bind_some _ _).symm.trans H; with_reducible exact H2_) | with_reducible exact H | (rw [hy369]; exact H) | exact H
              have Ny369 := Aside0.mk hy369
              clear hy369
              by_cases c27 : (decide ((rd l0 0) ≥ 192)) = true
              ·rw [if_pos c27] at H
               have c27b0 : (decide ((rd l0 0) ≥ 192)) = true := c27
               clear c27
               have H' := Aside0.mk H
               clear H
               have q28 : ((wrap64 (t367 + t366)) : Int) ≤ ((l0.length : Int) : Int) := of_decide_eq_true zA
               obtain ⟨i028, hi028, _, hsz28, _⟩ := info_parts info5
               have hroom28 : l0.length ≤ c0 := (Kd.V_reads' HO_0.out).2.1
               have hC28 : Kd.F (Kd.int .u8) _ _ (some ad360) l0.length l0 := (Kd.V_at (base := w.heap.size) HO_0.out).2.2
               have ql28 : (t367 : Int) ≤ ((wrap64 (t367 + t366)) : Int) := of_decide_eq_true zA
               have q028 : (0 : Int) ≤ (t367 : Int) := of_decide_eq_true zA
               have hcut28 := cut_mid (P := Try.prog) 74 5 .i64 .i64 Try.underlying74 hi028 1 hsz28 (some ad360) l0.length c0 t367 (wrap64 (t367 + t366)) q028 ql28 q28 hroom28
               have hr28 := Kd.F_mid (lo := (t367 : Int).toNat) (hi := ((wrap64 (t367 + t366)) : Int).toNat) (c := c0) hC28 (by omega) (by omega) hroom28
               obtain ⟨A28, hA28⟩ : ∃ A1, A1 = (if c0 = (t367 : Int).toNat then (some ad360) else ((some ad360) : Option Addr).map (·.add ((t367 : Int).toNat * 1))) := ⟨_, rfl⟩
               obtain ⟨c28, hc28⟩ : ∃ c1, c1 = c0 - (t367 : Int).toNat := ⟨_, rfl⟩
               have hy28 : y369.length = ((wrap64 (t367 + t366)) : Int).toNat - (t367 : Int).toNat := (by rw [Ny369.out, List.length_drop, List.length_take] <;> omega)
               rw [show ((l0).take ((wrap64 (t367 + t366)) : Int).toNat).drop (t367 : Int).toNat = y369 from Ny369.out.symm] at hr28
               replace hr28 : Kd.F (Kd.int .u8) _ _ A28 y369.length y369 := (by rw [hA28]; exact hr28)
               rw [← hy28, ← hA28, ← hc28] at hcut28
               have HO373 := Aside0.mk (show Kd.V (Kd.int .u8) 5 _ w.heap.size _ (.slice A28 y369.length c28) y369 from Kd.V_mk (by rw [hy28, hc28]; exact Nat.sub_le_sub_right (Nat.le_trans (by omega) hroom28) _) hr28)
               have HC373 := Aside0.mk (show y369.length ≤ c28 from by rw [hy28, hc28]; exact Nat.sub_le_sub_right (Nat.le_trans (by omega) hroom28) _)
               clear hr28 hC28 hroom28 hi028 hsz28 hc28
               have KY28 := Aside0.mk hy28
               have KA28 := Aside0.mk hA28
               clear hy28 hA28
               replace q28 := eq_true q28
               go_wp2_with (first | ((with_reducible refine gate_dst (N := 13) rfl ?_); (try (refine gate_guard (by rfl) ?_; dsimp only)); refine zx 13 #[.bool false, .slice none 0 0, .slice none 0 0] 159 ?_; intro gb381 hg w29 hbox hb; have BK381 := Aside0.mk (hbox); have GW381 := Aside0.mk ((zG1 hg HB GE359)); have GE381 := Aside0.mk ((zG1 hg HB GE359)); have NB359_381 := Aside0.mk ((zN_ hg BK359)); have NB381_359 := Aside0.mk ((by rw [hg]; exact Nat.ne_of_gt (blk_lt (g := gb359) (o := .cells #[.bool x360000_12, .slice none 0 0, .slice none 0 0] 159 (0, 0)) (zK BK359)) : gb381 ≠ gb359)); replace HO_0 := Aside0.mk (Kd.V_below (Kd.V_elderB (zV HO_0) gb381 (Nat.le_of_eq hg.symm)) hb); replace HO373 := Aside0.mk (Kd.V_below (Kd.V_elderB (zV HO373) gb381 (Nat.le_of_eq hg.symm)) hb); replace BK359 := Aside0.mk (zb BK359 hb); replace HB := Aside0.mk (below_step (zB1 HB GE359) hb); clear hb hbox hg; have hnb30 := NB381_359.out; have hnc30 := NB359_381.out; have hcz31_0 : w29.cell? ⟨gb381, 0, none⟩ = some (.bool false) := (blk_cell BK381.out 0).trans rfl; have hcz31_1 : w29.cell? ⟨gb381, 1, none⟩ = some (.slice none 0 0) := (blk_cell BK381.out 1).trans rfl; have hcz31_2 : w29.cell? ⟨gb381, 2, none⟩ = some (.slice none 0 0) := (blk_cell BK381.out 2).trans rfl; have hfz31_0 := blk_frozen BK381.out 0; have hfz31_1 := blk_frozen BK381.out 1; have hfz31_2 := blk_frozen BK381.out 2))
               go_loopg [12] kj20 (fun kq v12 w' => ∃ (x12_4 : List Int) (x360000_4 : Bool) (x382002_4 : List (S159)) (u382002 : Value), Aside0 (proctorref02_read.l0 kq a1 t366 t367 x12_4 true x382002_4 = some (r1, r2, r3, r4, r5)) ∧ Aside0 (kq ≤ kj20) ∧ Aside0 (Kd.V (Kd.int .u8) 5 w' w.heap.size (fun k_ => (P0_ k_ ∨ w.heap.size ≤ k_) ∧ some k_ ≠ (u382002 : Value).ownBlock ∧ k_ ≠ gb359 ∧ k_ ≠ gb381) v12 x12_4) ∧ Aside0 (Kd.R k159 159 w' w.heap.size (fun k_ => (w.heap.size ≤ k_) ∧ k_ ≠ gb359 ∧ k_ ≠ gb381) u382002 x382002_4) ∧ Aside0 (w'.heap[gb359]? = some (.cells #[.bool x360000_4, (.slice none 0 0), (.slice none 0 0)] 159 (0, 0))) ∧ Aside0 (w'.heap[gb381]? = some (.cells #[.bool true, (.slice none 0 0), u382002] 159 (0, 0))) ∧ Aside0 (Below w.heap.size w w'))
               case atStart => exact ⟨(y369), (x360000_12), (([] : List (S159))), (.slice none 0 0), H', ⟨Nat.le_refl _⟩, ⟨by (with_reducible repeat (first | apply Kd.V_alloc | apply Kd.V_drewN | apply Kd.V_drew)); exact Kd.V_mono (Kd.V_far (p := ⟨gb381, 2, none⟩) (Kd.V_far (p := ⟨gb381, 1, none⟩) (Kd.V_far (p := ⟨gb381, 0, none⟩) (Kd.V_mono HO373.out (fun k_ hk => (⟨hk, hk.2⟩ : _ ∧ k_ ≠ gb381))) (fun _ hk => hk.2) (.bool true)) (fun _ hk => hk.2) (.slice none 0 0)) (fun _ hk => hk.2) (.slice none 0 0)) (fun _ hk => ⟨hk.1.1.1, ⟨(by simp [Value.ownBlock]), ⟨hk.1.1.2, hk.1.2⟩⟩⟩)⟩, ⟨zL⟩, ⟨by refine zr ?_; refine blk_far ?_ NB359_381.out _; refine zr ?_; refine blk_far ?_ NB359_381.out _; refine zr ?_; refine blk_far ?_ NB359_381.out _; refine zr ?_; exact BK359.out⟩, ⟨by refine zr ?_; refine blk_put (cs := #[.bool true, .slice none 0 0, .slice none 0 0]) ?_ 2 _ rfl; refine zr ?_; refine blk_put (cs := #[.bool true, .slice none 0 0, .slice none 0 0]) ?_ 1 _ rfl; refine zr ?_; refine blk_put (cs := #[.bool false, .slice none 0 0, .slice none 0 0]) ?_ 0 _ rfl; refine zr ?_; exact BK381.out⟩, ⟨zB2 HB GE359 GE381⟩⟩
               case round =>
                clear H'
                try clear c23b0
                try clear c23b1
                try clear c24b0
                try clear c24b1
                try clear c25
                try clear c25b0
                try clear c25b1
                try clear c26
                try clear c26b0
                try clear c26b1
                try clear c27b0
                try clear q28
                try clear hcz31_0
                try clear hcz31_1
                try clear hcz31_2
                try clear hfz31_0
                try clear hfz31_1
                try clear hfz31_2
                try clear q028
                obtain ⟨x12_4, x360000_4, x382002_4, u382002, HA, HK4, HO_12, HO_382002, BK359, BK381, HB⟩ := hrel
                cases gk with
                | zero => exact absurd HA.out (by simp [proctorref02_read.l0])
                | succ k4 =>
                 have H := HA.out
                 clear HA
                 simp only [proctorref02_read.l0] at H
                 by_cases c32 : (x12_4.length : Int) > 0
                 ·rw [if_pos c32] at H
                  have c32b0 : decide (0 < (x12_4.length : Int)) = true := decide_eq_true c32
                  have c32b1 : decide (0 < x12_4.length) = true := decide_eq_true (by omega)
                  clear c32
                  replace H := Option.bind_eq_some_iff.mp H
                  obtain ⟨⟨t382, t383, t386, t389, t390⟩, A330, H⟩ := H
                  replace H : (if t390 = 0 then (if x382002_4.length < 2513169434916 then (if 0 ≤ t389 then (if t389 ≤ (x12_4.length : Int) then (proctorref02_read.l0 k4 a1 t366 t367 (x12_4.drop (t389 : Int).toNat) true (x382002_4 ++ [(⟨t382, t383, t386⟩ : S159)])) else (none)) else (none)) else (none)) else (some (false, ([] : List Int), ([] : List (S159)), 0, t390))) = some (r1, r2, r3, r4, r5) := H
                  have A33 := Aside0.mk A330
                  clear A330
                  by_cases c34 : t390 = 0
                  ·rw [if_pos c34] at H
                   have c34b0 : (t390 == 0) = true := beq_iff_eq.mpr c34
                   have c34b1 : (t390 != 0) = false := bne_eq_false_iff_eq.mpr c34
                   clear c34
                   by_cases c35 : x382002_4.length < 2513169434916
                   ·rw [if_pos c35] at H
                    have LMc35 := Aside0.mk c35
                    clear c35
                    obtain ⟨y392, hy392⟩ : ∃ y_ : List (S159), y_ = (x382002_4 ++ [(⟨t382, t383, t386⟩ : S159)]) := ⟨_, rfl⟩
                    replace H : (if 0 ≤ t389 then (if t389 ≤ (x12_4.length : Int) then (proctorref02_read.l0 k4 a1 t366 t367 (x12_4.drop (t389 : Int).toNat) true y392) else (none)) else (none)) = some (r1, r2, r3, r4, r5) := by first | (rw [hy392]; with_reducible exact H) | (have H2_ := (Option.bind_some _ _).symm.trans H; rw [hy392]; with_reducible exact H2_) | (have H2_ := (Option.bind_some _ _).symm.trans H; with_reducible exact H2_) | with_reducible exact H | (rw [hy392]; exact H) | exact H
                    have Ny392 := Aside0.mk hy392
                    clear hy392
                    by_cases c36 : 0 ≤ t389
                    ·rw [if_pos c36] at H
                     have c36b0 := eq_true c36
                     have c36b1 : decide (0 ≤ t389) = true := decide_eq_true c36
                     clear c36
                     by_cases c37 : t389 ≤ (x12_4.length : Int)
                     ·rw [if_pos c37] at H
                      have c37b0 := eq_true c37
                      have c37b1 : decide (t389 ≤ (x12_4.length : Int)) = true := decide_eq_true c37
                      clear c37
                      obtain ⟨y395, hy395⟩ : ∃ y_ : List Int, y_ = (x12_4.drop (t389 : Int).toNat) := ⟨_, rfl⟩
                      replace H : (proctorref02_read.l0 k4 a1 t366 t367 y395 true y392) = some (r1, r2, r3, r4, r5) := by first | (rw [hy395]; with_reducible exact H) | (have H2_ := (Option.bind_some _ _).symm.trans H; rw [hy395]; with_reducible exact H2_) | (have H2_ := (Option.bind_some _ _).symm.trans H; with_reducible exact H2_) | with_reducible exact H | (rw [hy395]; exact H) | exact H
                      have Ny395 := Aside0.mk hy395
                      clear hy395
                      have H' := Aside0.mk H
                      clear H
                      obtain ⟨Ao38, co38, eo38⟩ := Kd.V_slice HO_12.out
                      subst eo38
                      go_wp2_with (first | ((with_reducible refine gate_callee (f := 148) rfl ?_); refine goesL_ (some 90) rfl rfl Try.func148 (by kernel_rfl) rfl #[.slice Ao38 x12_4.length co38, .int .i64 (wrap64 (a1 - 1))] rfl zM ?_; (with_reducible refine (ih k4 (by have := HJ12.out; have := HJ18.out; have := HJ20.out; have := HK4.out; omega) (fun k_ => ((P0_ k_ ∨ w.heap.size ≤ k_) ∧ (some k_ ≠ (u382002 : Value).ownBlock ∧ (k_ ≠ gb359 ∧ k_ ≠ gb381)))) _ _ x12_4 (wrap64 (a1 - 1)) t382 t383 t386 t389 t390 _ ?side1 A33.out).mono ?_); (case side1 => exact HO_12.out); rintro e w39 ⟨v384, v387, rfl, ho0, ho1, hb⟩; refine ⟨_, rfl, ?_⟩; have HO385 := Aside0.mk (Kd.R_lower (Kd.R_newM (M := fun k_ => (w.heap.size ≤ k_)) (Kd.R_mono (ok' := fun k_ => True) ho0 (fun _ hk_ => trivial)) (below_size (zB2 HB GE359 GE381)) (fun k_ h_ => h_)) (below_size (zB2 HB GE359 GE381))); have HO388 := Aside0.mk (Kd.R_lower (Kd.R_newB (Kd.R_newB (Kd.R_new' (Kd.R_newM (M := fun k_ => (w.heap.size ≤ k_)) (Kd.R_mono (ok' := fun k_ => some k_ ≠ (v384 : Value).ownBlock) ho1 (fun _ hk_ => hk_.2)) (below_size (zB2 HB GE359 GE381)) (fun k_ h_ => h_)) (Kd.R_lt (zR HO_382002))) (g := gb359) (o := .cells #[.bool x360000_4, .slice none 0 0, .slice none 0 0] 159 (0, 0)) (zK BK359)) (g := gb381) (o := .cells #[.bool true, .slice none 0 0, u382002] 159 (0, 0)) (zK BK381)) (below_size (zB2 HB GE359 GE381))); replace HO_12 := Aside0.mk (Kd.V_mono (Kd.V_told (Kd.V_told (Kd.V_old (zV HO_12) hb) (Kd.R_base ho0)) (Kd.R_base ho1)) (fun _ h_ => h_.1)); replace HO_382002 := Aside0.mk (Kd.R_mono (Kd.R_told (Kd.R_told (Kd.R_old (zR HO_382002) hb) (Kd.R_base ho0)) (Kd.R_base ho1)) (fun _ h_ => h_.1)); replace BK359 := Aside0.mk (zb BK359 hb); replace BK381 := Aside0.mk (zb BK381 hb); replace HB := Aside0.mk (below_step (zB2 HB GE359 GE381) hb); (try clear hb); (try clear ho0); (try clear ho1)) | ((with_reducible refine gate_dst (N := 14) rfl ?_); (try (refine gate_guard (by rfl) ?_; dsimp only)); refine zx 14 #[.bool false, .slice none 0 0, .slice none 0 0] 159 ?_; intro gb391 hg w40 hbox hb; have BK391 := Aside0.mk (hbox); have GW391 := Aside0.mk ((zG2 hg HB GE359 GE381)); have GE391 := Aside0.mk ((zG2 hg HB GE359 GE381)); have NB359_391 := Aside0.mk ((zN_ hg BK359)); have NB391_359 := Aside0.mk ((by rw [hg]; exact Nat.ne_of_gt (blk_lt (g := gb359) (o := .cells #[.bool x360000_4, .slice none 0 0, .slice none 0 0] 159 (0, 0)) (zK BK359)) : gb391 ≠ gb359)); have NB381_391 := Aside0.mk ((zN_ hg BK381)); have NB391_381 := Aside0.mk ((by rw [hg]; exact Nat.ne_of_gt (blk_lt (g := gb381) (o := .cells #[.bool true, .slice none 0 0, u382002] 159 (0, 0)) (zK BK381)) : gb391 ≠ gb381)); replace HO_12 := Aside0.mk (Kd.V_below (Kd.V_elderB (zV HO_12) gb391 (Nat.le_of_eq hg.symm)) hb); replace HO_382002 := Aside0.mk (Kd.R_below (Kd.R_elderB (zR HO_382002) gb391 (Nat.le_of_eq hg.symm)) hb); replace HO385 := Aside0.mk (Kd.R_below (zR HO385) hb); replace HO388 := Aside0.mk (Kd.R_below (Kd.R_elderB (zR HO388) gb391 (Nat.le_of_eq hg.symm)) hb); replace BK359 := Aside0.mk (zb BK359 hb); replace BK381 := Aside0.mk (zb BK381 hb); replace HB := Aside0.mk (below_step (zB2 HB GE359 GE381) hb); clear hb hbox hg; have hnb41 := NB391_359.out; have hnc41 := NB359_391.out; have hnb42 := NB391_381.out; have hnc42 := NB381_391.out; have hcz43_0 : w40.cell? ⟨gb391, 0, none⟩ = some (.bool false) := (blk_cell BK391.out 0).trans rfl; have hcz43_1 : w40.cell? ⟨gb391, 1, none⟩ = some (.slice none 0 0) := (blk_cell BK391.out 1).trans rfl; have hcz43_2 : w40.cell? ⟨gb391, 2, none⟩ = some (.slice none 0 0) := (blk_cell BK391.out 2).trans rfl; have hfz43_0 := blk_frozen BK391.out 0; have hfz43_1 := blk_frozen BK391.out 1; have hfz43_2 := blk_frozen BK391.out 2; obtain ⟨Ao44, co44, eo44⟩ := Kd.R_slice HO385.out; subst eo44; obtain ⟨Ao45, co45, eo45⟩ := Kd.R_slice HO388.out; subst eo45) | ((with_reducible refine gate_store (t := 159) (p := 14) rfl ?_); refine store_event (t := 159) (p := 14) (v := ?vo_w46) (w1 := (((w40.setCell ⟨gb391, 0, none⟩ (.bool t382)).setCell ⟨gb391, 1, none⟩ (.slice Ao44 t383.length co44)).setCell ⟨gb391, 2, none⟩ (.slice Ao45 t386.length co45))) ?hg ?ho ?hn ?hr ?_; (case ho => rfl); (case hg => rfl); (case hn => rfl); (case hr => first | (go_simp; done) | (go_simp; rfl)); intro w46 hw; have n0_ : Aside0 (Kd.V (Kd.int .u8) 5 w46 w.heap.size (fun k_ => (P0_ k_ ∨ w.heap.size ≤ k_) ∧ some k_ ≠ (u382002 : Value).ownBlock ∧ some k_ ≠ (.slice Ao44 t383.length co44 : Value).ownBlock ∧ some k_ ≠ (.slice Ao45 t386.length co45 : Value).ownBlock ∧ k_ ≠ gb359 ∧ k_ ≠ gb381 ∧ k_ ≠ gb391) (.slice Ao38 x12_4.length co38) x12_4) := ⟨(by rw [hw]; exact (by (with_reducible repeat (first | apply Kd.V_alloc | apply Kd.V_drewN | apply Kd.V_drew)); exact Kd.V_mono (Kd.V_far (p := ⟨gb391, 2, none⟩) (Kd.V_far (p := ⟨gb391, 1, none⟩) (Kd.V_far (p := ⟨gb391, 0, none⟩) (Kd.V_mono HO_12.out (fun k_ hk => (⟨hk, hk.2⟩ : _ ∧ k_ ≠ gb391))) (fun _ hk => hk.2) (.bool t382)) (fun _ hk => hk.2) (.slice Ao44 t383.length co44)) (fun _ hk => hk.2) (.slice Ao45 t386.length co45)) (fun _ hk => ⟨hk.1.1.1.1.1, ⟨hk.1.1.1.1.2.1, ⟨hk.1.1.1.2, ⟨hk.1.1.2, ⟨hk.1.1.1.1.2.2.1, ⟨hk.1.1.1.1.2.2.2, hk.1.2⟩⟩⟩⟩⟩⟩)))⟩; have n1_ : Aside0 (Kd.R k159 159 w46 w.heap.size (fun k_ => (w.heap.size ≤ k_) ∧ some k_ ≠ (.slice Ao44 t383.length co44 : Value).ownBlock ∧ some k_ ≠ (.slice Ao45 t386.length co45 : Value).ownBlock ∧ k_ ≠ gb359 ∧ k_ ≠ gb381 ∧ k_ ≠ gb391) u382002 x382002_4) := ⟨(by rw [hw]; exact (by (with_reducible repeat (first | apply Kd.R_alloc | apply Kd.R_drewN | apply Kd.R_drew)); exact Kd.R_mono (Kd.R_far (p := ⟨gb391, 2, none⟩) (Kd.R_far (p := ⟨gb391, 1, none⟩) (Kd.R_far (p := ⟨gb391, 0, none⟩) (Kd.R_mono HO_382002.out (fun k_ hk => (⟨hk, hk.2⟩ : _ ∧ k_ ≠ gb391))) (fun _ hk => hk.2) (.bool t382)) (fun _ hk => hk.2) (.slice Ao44 t383.length co44)) (fun _ hk => hk.2) (.slice Ao45 t386.length co45)) (fun _ hk => ⟨hk.1.1.1.1.1, ⟨hk.1.1.1.2, ⟨hk.1.1.2, ⟨hk.1.1.1.1.2.1, ⟨hk.1.1.1.1.2.2, hk.1.2⟩⟩⟩⟩⟩)))⟩; have n2_ : Aside0 (Kd.R (Kd.int .u8) 5 w46 w.heap.size (fun k_ => (w.heap.size ≤ k_)) (.slice Ao44 t383.length co44) t383) := ⟨(by rw [hw]; exact (by (with_reducible repeat (first | apply Kd.R_alloc | apply Kd.R_drewN | apply Kd.R_drew)); exact Kd.R_mono (Kd.R_far (p := ⟨gb391, 2, none⟩) (Kd.R_far (p := ⟨gb391, 1, none⟩) (Kd.R_far (p := ⟨gb391, 0, none⟩) (Kd.R_types HO385.out BK391.out (by decide)) (fun _ hk => hk.2) (.bool t382)) (fun _ hk => hk.2) (.slice Ao44 t383.length co44)) (fun _ hk => hk.2) (.slice Ao45 t386.length co45)) (fun _ hk => hk.1.1)))⟩; have n3_ : Aside0 (Kd.R k159 159 w46 w.heap.size (fun k_ => (w.heap.size ≤ k_) ∧ some k_ ≠ (u382002 : Value).ownBlock ∧ some k_ ≠ (.slice Ao44 t383.length co44 : Value).ownBlock ∧ k_ ≠ gb359 ∧ k_ ≠ gb381 ∧ k_ ≠ gb391) (.slice Ao45 t386.length co45) t386) := ⟨(by rw [hw]; exact (by (with_reducible repeat (first | apply Kd.R_alloc | apply Kd.R_drewN | apply Kd.R_drew)); exact Kd.R_mono (Kd.R_far (p := ⟨gb391, 2, none⟩) (Kd.R_far (p := ⟨gb391, 1, none⟩) (Kd.R_far (p := ⟨gb391, 0, none⟩) (Kd.R_mono HO388.out (fun k_ hk => (⟨hk, hk.2⟩ : _ ∧ k_ ≠ gb391))) (fun _ hk => hk.2) (.bool t382)) (fun _ hk => hk.2) (.slice Ao44 t383.length co44)) (fun _ hk => hk.2) (.slice Ao45 t386.length co45)) (fun _ hk => ⟨hk.1.1.1.1.1.1, ⟨hk.1.1.1.1.2, ⟨hk.1.1.1.1.1.2, ⟨hk.1.1.1.2, ⟨hk.1.1.2, hk.1.2⟩⟩⟩⟩⟩)))⟩; have n4_ : Aside0 (w46.heap[gb359]? = some (.cells #[.bool x360000_4, .slice none 0 0, .slice none 0 0] 159 (0, 0))) := ⟨(by rw [hw]; exact (by refine zr ?_; refine blk_far ?_ NB359_391.out _; refine zr ?_; refine blk_far ?_ NB359_391.out _; refine zr ?_; refine blk_far ?_ NB359_391.out _; refine zr ?_; exact BK359.out))⟩; have n5_ : Aside0 (w46.heap[gb381]? = some (.cells #[.bool true, .slice none 0 0, u382002] 159 (0, 0))) := ⟨(by rw [hw]; exact (by refine zr ?_; refine blk_far ?_ NB381_391.out _; refine zr ?_; refine blk_far ?_ NB381_391.out _; refine zr ?_; refine blk_far ?_ NB381_391.out _; refine zr ?_; exact BK381.out))⟩; have n6_ : Aside0 (w46.heap[gb391]? = some (.cells #[.bool t382, .slice Ao44 t383.length co44, .slice Ao45 t386.length co45] 159 (0, 0))) := ⟨(by rw [hw]; exact (by refine zr ?_; refine blk_put (cs := #[.bool t382, .slice Ao44 t383.length co44, .slice none 0 0]) ?_ 2 _ rfl; refine zr ?_; refine blk_put (cs := #[.bool t382, .slice none 0 0, .slice none 0 0]) ?_ 1 _ rfl; refine zr ?_; refine blk_put (cs := #[.bool false, .slice none 0 0, .slice none 0 0]) ?_ 0 _ rfl; refine zr ?_; exact BK391.out))⟩; have n7_ : Aside0 (Below w.heap.size w w46) := ⟨(by rw [hw]; exact (zB3 HB GE359 GE381 GE391))⟩; clear hw; clear HO_12; clear HO_382002; clear HO385; clear HO388; clear BK359; clear BK381; clear BK391; clear HB; have HO_12 := n0_; have HO_382002 := n1_; have HO385 := n2_; have HO388 := n3_; have BK359 := n4_; have BK381 := n5_; have BK391 := n6_; have HB := n7_; clear n0_ n1_ n2_ n3_ n4_ n5_ n6_ n7_; have hnb47 := NB381_359.out; have hnc47 := NB359_381.out; have hcz48_0 : w46.cell? ⟨gb381, 0, none⟩ = some (.bool true) := (blk_cell BK381.out 0).trans rfl; have hcz48_1 : w46.cell? ⟨gb381, 1, none⟩ = some (.slice none 0 0) := (blk_cell BK381.out 1).trans rfl; have hcz48_2 : w46.cell? ⟨gb381, 2, none⟩ = some (u382002) := (blk_cell BK381.out 2).trans rfl; have hfz48_0 := blk_frozen BK381.out 0; have hfz48_1 := blk_frozen BK381.out 1; have hfz48_2 := blk_frozen BK381.out 2; have hcz49_0 : w46.cell? ⟨gb391, 0, none⟩ = some (.bool t382) := (blk_cell BK391.out 0).trans rfl; have hcz49_1 : w46.cell? ⟨gb391, 1, none⟩ = some (.slice Ao44 t383.length co44) := (blk_cell BK391.out 1).trans rfl; have hcz49_2 : w46.cell? ⟨gb391, 2, none⟩ = some (.slice Ao45 t386.length co45) := (blk_cell BK391.out 2).trans rfl; have hfz49_0 := blk_frozen BK391.out 0; have hfz49_1 := blk_frozen BK391.out 1; have hfz49_2 := blk_frozen BK391.out 2) | ((with_reducible refine gate_builtin (b := .append) (xs := #[.tmp 99, .tmp 101]) rfl ?_); (try (refine gate_guard (by rfl) ?_; dsimp only)); at_builtin; refine Kd.R_append k159 (w0 := w) w.heap.size rfl (.tmp 99) (.tmp 101) 157 159 (.agg #[(.bool false), (.slice none 0 0), (.slice none 0 0)]) 56 rfl Try.underlying157 info159 rfl (by decide) (by omega) u382002 x382002_4 (⟨t382, t383, t386⟩ : S159) [.bool t382, .slice Ao44 t383.length co44, .slice Ao45 t386.length co45] (fun k_ => (w.heap.size ≤ k_) ∧ k_ ≠ gb359 ∧ k_ ≠ gb381 ∧ k_ ≠ gb391) (fun k_ => ((fun k_ => (w.heap.size ≤ k_) ∧ k_ ≠ gb359 ∧ k_ ≠ gb381 ∧ k_ ≠ gb391)) k_ ∧ some k_ ≠ (u382002 : Value).ownBlock) rfl rfl ?aP (fun _ hk => hk) ?aF ?aO ?aB ?aS ?aL ?_; (case aP => exact k159_mkM _ _ _ (⟨t382, t383, t386⟩ : S159) (Kd.R_mono (Kd.R_types (Kd.R_types (Kd.R_types (Kd.R_apart' (HO385.out) (Kd.R_typed HO_382002.out) (by decide)) BK359.out (by decide)) BK381.out (by decide)) BK391.out (by decide)) (fun k_ hk => ⟨⟨hk.1.1.1.1, ⟨hk.1.1.2, ⟨hk.1.2, hk.2⟩⟩⟩, hk.1.1.1.2⟩)) (Kd.R_mono (HO388.out) (fun k_ hk => ⟨⟨hk.1, ⟨hk.2.2.2.1, ⟨hk.2.2.2.2.1, hk.2.2.2.2.2⟩⟩⟩, hk.2.1⟩))); (case aB => exact (zB3 HB GE359 GE381 GE391)); (case aF => exact (fun k_ hk => ⟨(Nat.le_trans (below_size (zB3 HB GE359 GE381 GE391)) hk), Kd.freshB (g := gb359) (o := .cells #[.bool x360000_4, .slice none 0 0, .slice none 0 0] 159 (0, 0)) (zK BK359) k_ hk, Kd.freshB (g := gb381) (o := .cells #[.bool true, .slice none 0 0, u382002] 159 (0, 0)) (zK BK381) k_ hk, Kd.freshB (g := gb391) (o := .cells #[.bool t382, .slice Ao44 t383.length co44, .slice Ao45 t386.length co45] 159 (0, 0)) (zK BK391) k_ hk⟩)); (case aO => exact (by (with_reducible repeat (first | apply Kd.R_alloc | apply Kd.R_drewN | apply Kd.R_drew)); exact Kd.R_mono HO_382002.out (fun _ hk => ⟨hk.1, ⟨hk.2.2.2.1, ⟨hk.2.2.2.2.1, hk.2.2.2.2.2⟩⟩⟩))); (case aS => exact (below_size (zB3 HB GE359 GE381 GE391))); (case aL => have := LMc35.out; omega); intro v393 w50 ho hb hg hat; rw [← Ny392.out] at ho; have HO394 := Aside0.mk (ho); replace HO_12 := Aside0.mk (Kd.V_afterv (ok := (fun k_ => (P0_ k_ ∨ w.heap.size ≤ k_) ∧ some k_ ≠ (.slice Ao44 t383.length co44 : Value).ownBlock ∧ some k_ ≠ (.slice Ao45 t386.length co45 : Value).ownBlock ∧ k_ ≠ gb359 ∧ k_ ≠ gb381 ∧ k_ ≠ gb391)) (by (with_reducible repeat (first | apply Kd.V_alloc | apply Kd.V_drewN | apply Kd.V_drew)); exact Kd.V_mono HO_12.out (fun _ hk => ⟨⟨hk.1, ⟨hk.2.2.1, ⟨hk.2.2.2.1, ⟨hk.2.2.2.2.1, ⟨hk.2.2.2.2.2.1, hk.2.2.2.2.2.2⟩⟩⟩⟩⟩, hk.2.1⟩)) hg hat); replace BK359 := Aside0.mk (blk_grown (g := gb359) (o := .cells #[.bool x360000_4, .slice none 0 0, .slice none 0 0] 159 (0, 0)) (zK BK359) hg (Kd.R_away HO_382002.out (fun _ hk => hk.2.2.2.1))); replace BK381 := Aside0.mk (blk_grown (g := gb381) (o := .cells #[.bool true, .slice none 0 0, u382002] 159 (0, 0)) (zK BK381) hg (Kd.R_away HO_382002.out (fun _ hk => hk.2.2.2.2.1))); replace BK391 := Aside0.mk (blk_grown (g := gb391) (o := .cells #[.bool t382, .slice Ao44 t383.length co44, .slice Ao45 t386.length co45] 159 (0, 0)) (zK BK391) hg (Kd.R_away HO_382002.out (fun _ hk => hk.2.2.2.2.2))); replace HB := Aside0.mk (hb); clear HO_382002 HO385 HO388; clear ho hb hg hat; obtain ⟨Ao51, co51, eo51⟩ := Kd.R_slice HO394.out; subst eo51; have hcz52_0 : w50.cell? ⟨gb381, 0, none⟩ = some (.bool true) := (blk_cell BK381.out 0).trans rfl; have hcz52_1 : w50.cell? ⟨gb381, 1, none⟩ = some (.slice none 0 0) := (blk_cell BK381.out 1).trans rfl; have hcz52_2 : w50.cell? ⟨gb381, 2, none⟩ = some (u382002) := (blk_cell BK381.out 2).trans rfl; have hfz52_0 := blk_frozen BK381.out 0; have hfz52_1 := blk_frozen BK381.out 1; have hfz52_2 := blk_frozen BK381.out 2) | ((with_reducible refine gate_store (t := 157) (p := 103) rfl ?_); refine store_event (t := 157) (p := 103) (v := ?vo_w53) (w1 := (w50.setCell ⟨gb381, 2, none⟩ (.slice Ao51 y392.length co51))) ?hg ?ho ?hn ?hr ?_; (case ho => rfl); (case hg => rfl); (case hn => rfl); (case hr => first | (go_simp; done) | (go_simp; rfl)); intro w53 hw; have n0_ : Aside0 (Kd.V (Kd.int .u8) 5 w53 w.heap.size (fun k_ => (P0_ k_ ∨ w.heap.size ≤ k_) ∧ some k_ ≠ (.slice Ao51 y392.length co51 : Value).ownBlock ∧ k_ ≠ gb359 ∧ k_ ≠ gb381 ∧ k_ ≠ gb391) (.slice Ao38 x12_4.length co38) x12_4) := ⟨(by rw [hw]; exact (by (with_reducible repeat (first | apply Kd.V_alloc | apply Kd.V_drewN | apply Kd.V_drew)); exact Kd.V_mono (Kd.V_far (p := ⟨gb381, 2, none⟩) (Kd.V_mono HO_12.out (fun k_ hk => (⟨hk, hk.1.2.2.2.2.1⟩ : _ ∧ k_ ≠ gb381))) (fun _ hk => hk.2) (.slice Ao51 y392.length co51)) (fun _ hk => ⟨hk.1.1.1, ⟨hk.1.2, ⟨hk.1.1.2.2.2.1, ⟨hk.1.1.2.2.2.2.1, hk.1.1.2.2.2.2.2⟩⟩⟩⟩)))⟩; have n1_ : Aside0 (Kd.R k159 159 w53 w.heap.size (fun k_ => (w.heap.size ≤ k_) ∧ k_ ≠ gb359 ∧ k_ ≠ gb381 ∧ k_ ≠ gb391) (.slice Ao51 y392.length co51) y392) := ⟨(by rw [hw]; exact (by (with_reducible repeat (first | apply Kd.R_alloc | apply Kd.R_drewN | apply Kd.R_drew)); exact Kd.R_mono (Kd.R_far (p := ⟨gb381, 2, none⟩) (Kd.R_mono HO394.out (fun k_ hk => (⟨hk, hk.2.2.1⟩ : _ ∧ k_ ≠ gb381))) (fun _ hk => hk.2) (.slice Ao51 y392.length co51)) (fun _ hk => ⟨hk.1.1, ⟨hk.1.2.1, ⟨hk.1.2.2.1, hk.1.2.2.2⟩⟩⟩)))⟩; have n2_ : Aside0 (w53.heap[gb359]? = some (.cells #[.bool x360000_4, .slice none 0 0, .slice none 0 0] 159 (0, 0))) := ⟨(by rw [hw]; exact (by refine zr ?_; refine blk_far ?_ NB359_381.out _; refine zr ?_; exact BK359.out))⟩; have n3_ : Aside0 (w53.heap[gb381]? = some (.cells #[.bool true, .slice none 0 0, .slice Ao51 y392.length co51] 159 (0, 0))) := ⟨(by rw [hw]; exact (by refine zr ?_; refine blk_put (cs := #[.bool true, .slice none 0 0, u382002]) ?_ 2 _ rfl; refine zr ?_; exact BK381.out))⟩; have n4_ : Aside0 (w53.heap[gb391]? = some (.cells #[.bool t382, .slice Ao44 t383.length co44, .slice Ao45 t386.length co45] 159 (0, 0))) := ⟨(by rw [hw]; exact (by refine zr ?_; refine blk_far ?_ NB391_381.out _; refine zr ?_; exact BK391.out))⟩; have n5_ : Aside0 (Below w.heap.size w w53) := ⟨(by rw [hw]; exact (zB3 HB GE359 GE381 GE391))⟩; clear hw; clear HO_12; clear HO394; clear BK359; clear BK381; clear BK391; clear HB; have HO_12 := n0_; have HO394 := n1_; have BK359 := n2_; have BK381 := n3_; have BK391 := n4_; have HB := n5_; clear n0_ n1_ n2_ n3_ n4_ n5_; have q54 : (t389 : Int) ≤ ((x12_4.length : Int) : Int) := of_decide_eq_true zA; obtain ⟨i054, hi054, _, hsz54, _⟩ := info_parts info5; have hroom54 : x12_4.length ≤ co38 := (Kd.V_reads' HO_12.out).2.1; have hC54 : Kd.F (Kd.int .u8) _ _ Ao38 x12_4.length x12_4 := (Kd.V_at (base := w.heap.size) HO_12.out).2.2; have q054 : (0 : Int) ≤ (t389 : Int) := of_decide_eq_true zA; have hcut54 := cut_from (P := Try.prog) 74 5 .i64 Try.underlying74 hi054 1 hsz54 Ao38 x12_4.length co38 t389 q054 q54; have hr54 := Kd.F_cut (m := (t389 : Int).toNat) (c := co38) hC54 (by omega) hroom54; obtain ⟨A54, hA54⟩ : ∃ A1, A1 = (if co38 = (t389 : Int).toNat then Ao38 else (Ao38 : Option Addr).map (·.add ((t389 : Int).toNat * 1))) := ⟨_, rfl⟩; obtain ⟨c54, hc54⟩ : ∃ c1, c1 = co38 - (t389 : Int).toNat := ⟨_, rfl⟩; have hy54 : y395.length = x12_4.length - (t389 : Int).toNat := (by rw [Ny395.out, List.length_drop] <;> omega); rw [show (x12_4).drop (t389 : Int).toNat = y395 from Ny395.out.symm] at hr54; replace hr54 : Kd.F (Kd.int .u8) _ _ A54 y395.length y395 := (by rw [hA54]; exact hr54); rw [← hy54, ← hA54, ← hc54] at hcut54; have HO399 := Aside0.mk (show Kd.V (Kd.int .u8) 5 _ w.heap.size _ (.slice A54 y395.length c54) y395 from Kd.V_mk (by rw [hy54, hc54]; exact Nat.sub_le_sub_right hroom54 _) hr54); have HC399 := Aside0.mk (show y395.length ≤ c54 from by rw [hy54, hc54]; exact Nat.sub_le_sub_right hroom54 _); clear hr54 hC54 hroom54 hi054 hsz54 hc54; have KY54 := Aside0.mk hy54; have KA54 := Aside0.mk hA54; clear hy54 hA54; replace q54 := eq_true q54))
                      go_roundg k4
                      case measure => have := HJ12.out; have := HJ18.out; have := HJ20.out; have := HK4.out; omega
                      case rel => exact ⟨(y395), (x360000_4), (y392), (.slice Ao51 y392.length co51), H', ⟨by have := HJ12.out; have := HJ18.out; have := HJ20.out; have := HK4.out; omega⟩, ⟨by (with_reducible repeat (first | apply Kd.V_alloc | apply Kd.V_drewN | apply Kd.V_drew)); exact Kd.V_mono HO399.out (fun _ hk => ⟨hk.1, ⟨hk.2.1, ⟨hk.2.2.1, hk.2.2.2.1⟩⟩⟩)⟩, ⟨by (with_reducible repeat (first | apply Kd.R_alloc | apply Kd.R_drewN | apply Kd.R_drew)); exact Kd.R_mono HO394.out (fun _ hk => ⟨hk.1, ⟨hk.2.1, hk.2.2.1⟩⟩)⟩, ⟨zK BK359⟩, ⟨zK BK381⟩, ⟨zB3 HB GE359 GE381 GE391⟩⟩
                     ·rw [if_neg c37] at H
                      exact absurd H (by simp)
                    ·rw [if_neg c36] at H
                     exact absurd H (by simp)
                   ·rw [if_neg c35] at H
                    exact absurd H (by simp)
                  ·rw [if_neg c34] at H
                   have c34b0 : (t390 == 0) = false := beq_eq_false_iff_ne.mpr c34
                   have c34b1 : (t390 != 0) = true := bne_iff_ne.mpr c34
                   simp only [Option.some.injEq, Prod.mk.injEq] at H
                   obtain ⟨rfl, rfl, rfl, rfl, rfl⟩ := H
                   obtain ⟨Ao55, co55, eo55⟩ := Kd.V_slice HO_12.out
                   subst eo55
                   go_wp2_with (first | ((with_reducible refine gate_callee (f := 148) rfl ?_); refine goesL_ (some 90) rfl rfl Try.func148 (by kernel_rfl) rfl #[.slice Ao55 x12_4.length co55, .int .i64 (wrap64 (a1 - 1))] rfl zM ?_; (with_reducible refine (ih k4 (by have := HJ12.out; have := HJ18.out; have := HJ20.out; have := HK4.out; omega) (fun k_ => ((P0_ k_ ∨ w.heap.size ≤ k_) ∧ (some k_ ≠ (u382002 : Value).ownBlock ∧ (k_ ≠ gb359 ∧ k_ ≠ gb381)))) _ _ x12_4 (wrap64 (a1 - 1)) t382 t383 t386 t389 t390 _ ?side1 A33.out).mono ?_); (case side1 => exact HO_12.out); rintro e w56 ⟨v384, v387, rfl, ho0, ho1, hb⟩; refine ⟨_, rfl, ?_⟩; have HO385 := Aside0.mk (Kd.R_lower (Kd.R_newM (M := fun k_ => (w.heap.size ≤ k_)) (Kd.R_mono (ok' := fun k_ => True) ho0 (fun _ hk_ => trivial)) (below_size (zB2 HB GE359 GE381)) (fun k_ h_ => h_)) (below_size (zB2 HB GE359 GE381))); have HO388 := Aside0.mk (Kd.R_lower (Kd.R_newB (Kd.R_newB (Kd.R_new' (Kd.R_newM (M := fun k_ => (w.heap.size ≤ k_)) (Kd.R_mono (ok' := fun k_ => some k_ ≠ (v384 : Value).ownBlock) ho1 (fun _ hk_ => hk_.2)) (below_size (zB2 HB GE359 GE381)) (fun k_ h_ => h_)) (Kd.R_lt (zR HO_382002))) (g := gb359) (o := .cells #[.bool x360000_4, .slice none 0 0, .slice none 0 0] 159 (0, 0)) (zK BK359)) (g := gb381) (o := .cells #[.bool true, .slice none 0 0, u382002] 159 (0, 0)) (zK BK381)) (below_size (zB2 HB GE359 GE381))); replace HO_12 := Aside0.mk (Kd.V_mono (Kd.V_told (Kd.V_told (Kd.V_old (zV HO_12) hb) (Kd.R_base ho0)) (Kd.R_base ho1)) (fun _ h_ => h_.1)); replace HO_382002 := Aside0.mk (Kd.R_mono (Kd.R_told (Kd.R_told (Kd.R_old (zR HO_382002) hb) (Kd.R_base ho0)) (Kd.R_base ho1)) (fun _ h_ => h_.1)); replace BK359 := Aside0.mk (zb BK359 hb); replace BK381 := Aside0.mk (zb BK381 hb); replace HB := Aside0.mk (below_step (zB2 HB GE359 GE381) hb); (try clear hb); (try clear ho0); (try clear ho1)) | ((with_reducible refine gate_dst (N := 14) rfl ?_); (try (refine gate_guard (by rfl) ?_; dsimp only)); refine zx 14 #[.bool false, .slice none 0 0, .slice none 0 0] 159 ?_; intro gb391 hg w57 hbox hb; have BK391 := Aside0.mk (hbox); have GW391 := Aside0.mk ((zG2 hg HB GE359 GE381)); have GE391 := Aside0.mk ((zG2 hg HB GE359 GE381)); have NB359_391 := Aside0.mk ((zN_ hg BK359)); have NB391_359 := Aside0.mk ((by rw [hg]; exact Nat.ne_of_gt (blk_lt (g := gb359) (o := .cells #[.bool x360000_4, .slice none 0 0, .slice none 0 0] 159 (0, 0)) (zK BK359)) : gb391 ≠ gb359)); have NB381_391 := Aside0.mk ((zN_ hg BK381)); have NB391_381 := Aside0.mk ((by rw [hg]; exact Nat.ne_of_gt (blk_lt (g := gb381) (o := .cells #[.bool true, .slice none 0 0, u382002] 159 (0, 0)) (zK BK381)) : gb391 ≠ gb381)); replace HO_12 := Aside0.mk (Kd.V_below (Kd.V_elderB (zV HO_12) gb391 (Nat.le_of_eq hg.symm)) hb); replace HO_382002 := Aside0.mk (Kd.R_below (Kd.R_elderB (zR HO_382002) gb391 (Nat.le_of_eq hg.symm)) hb); replace HO385 := Aside0.mk (Kd.R_below (zR HO385) hb); replace HO388 := Aside0.mk (Kd.R_below (Kd.R_elderB (zR HO388) gb391 (Nat.le_of_eq hg.symm)) hb); replace BK359 := Aside0.mk (zb BK359 hb); replace BK381 := Aside0.mk (zb BK381 hb); replace HB := Aside0.mk (below_step (zB2 HB GE359 GE381) hb); clear hb hbox hg; have hnb58 := NB391_359.out; have hnc58 := NB359_391.out; have hnb59 := NB391_381.out; have hnc59 := NB381_391.out; have hcz60_0 : w57.cell? ⟨gb391, 0, none⟩ = some (.bool false) := (blk_cell BK391.out 0).trans rfl; have hcz60_1 : w57.cell? ⟨gb391, 1, none⟩ = some (.slice none 0 0) := (blk_cell BK391.out 1).trans rfl; have hcz60_2 : w57.cell? ⟨gb391, 2, none⟩ = some (.slice none 0 0) := (blk_cell BK391.out 2).trans rfl; have hfz60_0 := blk_frozen BK391.out 0; have hfz60_1 := blk_frozen BK391.out 1; have hfz60_2 := blk_frozen BK391.out 2; obtain ⟨Ao61, co61, eo61⟩ := Kd.R_slice HO385.out; subst eo61; obtain ⟨Ao62, co62, eo62⟩ := Kd.R_slice HO388.out; subst eo62; have hnb63 := NB359_381.out; have hnc63 := NB381_359.out; have hcz64_0 : w57.cell? ⟨gb359, 0, none⟩ = some (.bool x360000_4) := (blk_cell BK359.out 0).trans rfl; have hcz64_1 : w57.cell? ⟨gb359, 1, none⟩ = some (.slice none 0 0) := (blk_cell BK359.out 1).trans rfl; have hcz64_2 : w57.cell? ⟨gb359, 2, none⟩ = some (.slice none 0 0) := (blk_cell BK359.out 2).trans rfl; have hfz64_0 := blk_frozen BK359.out 0; have hfz64_1 := blk_frozen BK359.out 1; have hfz64_2 := blk_frozen BK359.out 2))
                   refine bodyPost_ret (results_ctt rfl _ _ gb359 159 #[.bool false, .slice none 0 0, .slice none 0 0] (0, 0) _ rfl (by refine zr ?_; refine blk_put (cs := #[.bool false, .slice none 0 0, .slice none 0 0]) ?_ 2 _ rfl; refine zr ?_; refine blk_put (cs := #[.bool false, .slice none 0 0, .slice none 0 0]) ?_ 1 _ rfl; refine zr ?_; refine blk_put (cs := #[.bool x360000_4, .slice none 0 0, .slice none 0 0]) ?_ 0 _ rfl; refine zr ?_; refine blk_far ?_ NB359_391.out _; refine zr ?_; refine blk_far ?_ NB359_391.out _; refine zr ?_; refine blk_far ?_ NB359_391.out _; refine zr ?_; exact BK359.out) Try.underlying159 rfl (by kernel_rfl)) rfl ?_
                   exact ⟨_, _, zE, zL, zL, zB3 HB GE359 GE381 GE391⟩
                 ·rw [if_neg c32] at H
                  have c32b0 : decide (0 < (x12_4.length : Int)) = false := decide_eq_false c32
                  have c32b1 : decide (0 < x12_4.length) = false := decide_eq_false (by omega)
                  clear c32
                  simp only [Option.some.injEq, Prod.mk.injEq] at H
                  obtain ⟨rfl, rfl, rfl, rfl, rfl⟩ := H
                  obtain ⟨Ao65, co65, eo65⟩ := Kd.V_slice HO_12.out
                  subst eo65
                  have hnb66 := NB381_359.out
                  have hnc66 := NB359_381.out
                  have hcz67_0 : wr.cell? ⟨gb381, 0, none⟩ = some (.bool true) := (blk_cell BK381.out 0).trans rfl
                  have hcz67_1 : wr.cell? ⟨gb381, 1, none⟩ = some (.slice none 0 0) := (blk_cell BK381.out 1).trans rfl
                  have hcz67_2 : wr.cell? ⟨gb381, 2, none⟩ = some (u382002) := (blk_cell BK381.out 2).trans rfl
                  have hfz67_0 := blk_frozen BK381.out 0
                  have hfz67_1 := blk_frozen BK381.out 1
                  have hfz67_2 := blk_frozen BK381.out 2
                  have hcz68_0 : wr.cell? ⟨gb359, 0, none⟩ = some (.bool x360000_4) := (blk_cell BK359.out 0).trans rfl
                  have hcz68_1 : wr.cell? ⟨gb359, 1, none⟩ = some (.slice none 0 0) := (blk_cell BK359.out 1).trans rfl
                  have hcz68_2 : wr.cell? ⟨gb359, 2, none⟩ = some (.slice none 0 0) := (blk_cell BK359.out 2).trans rfl
                  have hfz68_0 := blk_frozen BK359.out 0
                  have hfz68_1 := blk_frozen BK359.out 1
                  have hfz68_2 := blk_frozen BK359.out 2
                  obtain ⟨Ao69, co69, eo69⟩ := Kd.R_slice HO_382002.out
                  subst eo69
                  go_wp2
                  refine bodyPost_ret (results_ctt rfl _ _ gb359 159 #[.bool true, .slice none 0 0, .slice Ao69 x382002_4.length co69] (0, 0) _ rfl (by refine zr ?_; refine blk_put (cs := #[.bool true, .slice none 0 0, .slice none 0 0]) ?_ 2 _ rfl; refine zr ?_; refine blk_put (cs := #[.bool true, .slice none 0 0, .slice none 0 0]) ?_ 1 _ rfl; refine zr ?_; refine blk_put (cs := #[.bool x360000_4, .slice none 0 0, .slice none 0 0]) ?_ 0 _ rfl; refine zr ?_; exact BK359.out) Try.underlying159 rfl (by kernel_rfl)) rfl ?_
                  exact ⟨_, _, zE, zL, by (with_reducible repeat (first | apply Kd.R_alloc | apply Kd.R_drewN | apply Kd.R_drew)); exact Kd.R_mono (Kd.R_far (p := ⟨gb359, 2, none⟩) (Kd.R_far (p := ⟨gb359, 1, none⟩) (Kd.R_far (p := ⟨gb359, 0, none⟩) (Kd.R_mono HO_382002.out (fun k_ hk => (⟨hk, hk.2.1⟩ : _ ∧ k_ ≠ gb359))) (fun _ hk => hk.2) (.bool true)) (fun _ hk => hk.2) (.slice none 0 0)) (fun _ hk => hk.2) (.slice Ao69 x382002_4.length co69)) (fun _ hk => ⟨hk.1.1, (by simp [Value.ownBlock])⟩), zB2 HB GE359 GE381⟩
              ·rw [if_neg c27] at H
               have c27b0 : (decide ((rd l0 0) ≥ 192)) = false := by simpa using c27
               clear c27
               by_cases c70 : t366 = 1
               ·rw [if_pos c70] at H
                have c70b0 : (t366 == 1) = true := beq_iff_eq.mpr c70
                have c70b1 : (t366 != 1) = false := bne_eq_false_iff_eq.mpr c70
                clear c70
                by_cases c71 : 0 < (y369.length : Int)
                ·rw [if_pos c71] at H
                 have c71b0 : decide (0 < (y369.length : Int)) = true := decide_eq_true c71
                 have c71b1 : decide (0 < y369.length) = true := decide_eq_true (by omega)
                 clear c71
                 by_cases c72 : (rd y369 0) < 128
                 ·rw [if_pos c72] at H
                  have c72b0 : decide ((rd y369 0) < 128) = true := decide_eq_true c72
                  clear c72
                  simp only [Option.some.injEq, Prod.mk.injEq] at H
                  obtain ⟨rfl, rfl, rfl, rfl, rfl⟩ := H
                  have q73 : ((wrap64 (t367 + t366)) : Int) ≤ ((l0.length : Int) : Int) := of_decide_eq_true zA
                  obtain ⟨i073, hi073, _, hsz73, _⟩ := info_parts info5
                  have hroom73 : l0.length ≤ c0 := (Kd.V_reads' HO_0.out).2.1
                  have hC73 : Kd.F (Kd.int .u8) _ _ (some ad360) l0.length l0 := (Kd.V_at (base := w.heap.size) HO_0.out).2.2
                  have ql73 : (t367 : Int) ≤ ((wrap64 (t367 + t366)) : Int) := of_decide_eq_true zA
                  have q073 : (0 : Int) ≤ (t367 : Int) := of_decide_eq_true zA
                  have hcut73 := cut_mid (P := Try.prog) 74 5 .i64 .i64 Try.underlying74 hi073 1 hsz73 (some ad360) l0.length c0 t367 (wrap64 (t367 + t366)) q073 ql73 q73 hroom73
                  have hr73 := Kd.F_mid (lo := (t367 : Int).toNat) (hi := ((wrap64 (t367 + t366)) : Int).toNat) (c := c0) hC73 (by omega) (by omega) hroom73
                  obtain ⟨A73, hA73⟩ : ∃ A1, A1 = (if c0 = (t367 : Int).toNat then (some ad360) else ((some ad360) : Option Addr).map (·.add ((t367 : Int).toNat * 1))) := ⟨_, rfl⟩
                  obtain ⟨c73, hc73⟩ : ∃ c1, c1 = c0 - (t367 : Int).toNat := ⟨_, rfl⟩
                  have hy73 : y369.length = ((wrap64 (t367 + t366)) : Int).toNat - (t367 : Int).toNat := (by rw [Ny369.out, List.length_drop, List.length_take] <;> omega)
                  rw [show ((l0).take ((wrap64 (t367 + t366)) : Int).toNat).drop (t367 : Int).toNat = y369 from Ny369.out.symm] at hr73
                  replace hr73 : Kd.F (Kd.int .u8) _ _ A73 y369.length y369 := (by rw [hA73]; exact hr73)
                  rw [← hy73, ← hA73, ← hc73] at hcut73
                  have HO373 := Aside0.mk (show Kd.V (Kd.int .u8) 5 _ w.heap.size _ (.slice A73 y369.length c73) y369 from Kd.V_mk (by rw [hy73, hc73]; exact Nat.sub_le_sub_right (Nat.le_trans (by omega) hroom73) _) hr73)
                  have HC373 := Aside0.mk (show y369.length ≤ c73 from by rw [hy73, hc73]; exact Nat.sub_le_sub_right (Nat.le_trans (by omega) hroom73) _)
                  clear hr73 hC73 hroom73 hi073 hsz73 hc73
                  have KY73 := Aside0.mk hy73
                  have KA73 := Aside0.mk hA73
                  clear hy73 hA73
                  replace q73 := eq_true q73
                  have p374 : 0 ≤ (0 : Int) := (by omega)
                  have q374 : 0 < (y369.length : Int) := of_decide_eq_true zA
                  obtain ⟨ad374, e374, hx374_0⟩ := Kd.at_int (Kd.V_reads' HO373.out).2.2 0 p374 q374
                  cases e374
                  have qi374 : (0 < y369.length) = True := eq_true (by omega)
                  (try rw [show ((0 : Int)).toNat = 0 from rfl] at hx374_0)
                  (try rw [Addr.add_zero'] at hx374_0)
                  replace p374 := eq_true p374
                  replace q374 := eq_true q374
                  have hcz74_0 : wc.cell? ⟨gb359, 0, none⟩ = some (.bool x360000_12) := (blk_cell BK359.out 0).trans rfl
                  have hcz74_1 : wc.cell? ⟨gb359, 1, none⟩ = some (.slice none 0 0) := (blk_cell BK359.out 1).trans rfl
                  have hcz74_2 : wc.cell? ⟨gb359, 2, none⟩ = some (.slice none 0 0) := (blk_cell BK359.out 2).trans rfl
                  have hfz74_0 := blk_frozen BK359.out 0
                  have hfz74_1 := blk_frozen BK359.out 1
                  have hfz74_2 := blk_frozen BK359.out 2
                  go_wp2
                  refine bodyPost_ret (results_ctt rfl _ _ gb359 159 #[.bool false, .slice none 0 0, .slice none 0 0] (0, 0) _ rfl (by refine zr ?_; refine blk_put (cs := #[.bool false, .slice none 0 0, .slice none 0 0]) ?_ 2 _ rfl; refine zr ?_; refine blk_put (cs := #[.bool false, .slice none 0 0, .slice none 0 0]) ?_ 1 _ rfl; refine zr ?_; refine blk_put (cs := #[.bool x360000_12, .slice none 0 0, .slice none 0 0]) ?_ 0 _ rfl; refine zr ?_; exact BK359.out) Try.underlying159 rfl (by kernel_rfl)) rfl ?_
                  exact ⟨_, _, zE, zL, zL, zB1 HB GE359⟩
                 ·rw [if_neg c72] at H
                  have c72b0 : decide ((rd y369 0) < 128) = false := decide_eq_false c72
                  clear c72
                  replace H := Option.bind_eq_some_iff.mp H
                  obtain ⟨t375, A750, H⟩ := H
                  replace H : (some (false, t375, ([] : List (S159)), wrap64 (t367 + t366), 0)) = some (r1, r2, r3, r4, r5) := H
                  have A75 := Aside0.mk A750
                  clear A750
                  simp only [Option.some.injEq, Prod.mk.injEq] at H
                  obtain ⟨rfl, rfl, rfl, rfl, rfl⟩ := H
                  have q76 : ((wrap64 (t367 + t366)) : Int) ≤ ((l0.length : Int) : Int) := of_decide_eq_true zA
                  obtain ⟨i076, hi076, _, hsz76, _⟩ := info_parts info5
                  have hroom76 : l0.length ≤ c0 := (Kd.V_reads' HO_0.out).2.1
                  have hC76 : Kd.F (Kd.int .u8) _ _ (some ad360) l0.length l0 := (Kd.V_at (base := w.heap.size) HO_0.out).2.2
                  have ql76 : (t367 : Int) ≤ ((wrap64 (t367 + t366)) : Int) := of_decide_eq_true zA
                  have q076 : (0 : Int) ≤ (t367 : Int) := of_decide_eq_true zA
                  have hcut76 := cut_mid (P := Try.prog) 74 5 .i64 .i64 Try.underlying74 hi076 1 hsz76 (some ad360) l0.length c0 t367 (wrap64 (t367 + t366)) q076 ql76 q76 hroom76
                  have hr76 := Kd.F_mid (lo := (t367 : Int).toNat) (hi := ((wrap64 (t367 + t366)) : Int).toNat) (c := c0) hC76 (by omega) (by omega) hroom76
                  obtain ⟨A76, hA76⟩ : ∃ A1, A1 = (if c0 = (t367 : Int).toNat then (some ad360) else ((some ad360) : Option Addr).map (·.add ((t367 : Int).toNat * 1))) := ⟨_, rfl⟩
                  obtain ⟨c76, hc76⟩ : ∃ c1, c1 = c0 - (t367 : Int).toNat := ⟨_, rfl⟩
                  have hy76 : y369.length = ((wrap64 (t367 + t366)) : Int).toNat - (t367 : Int).toNat := (by rw [Ny369.out, List.length_drop, List.length_take] <;> omega)
                  rw [show ((l0).take ((wrap64 (t367 + t366)) : Int).toNat).drop (t367 : Int).toNat = y369 from Ny369.out.symm] at hr76
                  replace hr76 : Kd.F (Kd.int .u8) _ _ A76 y369.length y369 := (by rw [hA76]; exact hr76)
                  rw [← hy76, ← hA76, ← hc76] at hcut76
                  have HO373 := Aside0.mk (show Kd.V (Kd.int .u8) 5 _ w.heap.size _ (.slice A76 y369.length c76) y369 from Kd.V_mk (by rw [hy76, hc76]; exact Nat.sub_le_sub_right (Nat.le_trans (by omega) hroom76) _) hr76)
                  have HC373 := Aside0.mk (show y369.length ≤ c76 from by rw [hy76, hc76]; exact Nat.sub_le_sub_right (Nat.le_trans (by omega) hroom76) _)
                  clear hr76 hC76 hroom76 hi076 hsz76 hc76
                  have KY76 := Aside0.mk hy76
                  have KA76 := Aside0.mk hA76
                  clear hy76 hA76
                  replace q76 := eq_true q76
                  have p374 : 0 ≤ (0 : Int) := (by omega)
                  have q374 : 0 < (y369.length : Int) := of_decide_eq_true zA
                  obtain ⟨ad374, e374, hx374_0⟩ := Kd.at_int (Kd.V_reads' HO373.out).2.2 0 p374 q374
                  cases e374
                  have qi374 : (0 < y369.length) = True := eq_true (by omega)
                  (try rw [show ((0 : Int)).toNat = 0 from rfl] at hx374_0)
                  (try rw [Addr.add_zero'] at hx374_0)
                  replace p374 := eq_true p374
                  replace q374 := eq_true q374
                  go_wp2_with (first | ((with_reducible refine gate_callee (f := 43) rfl ?_); refine goesL_ (some 77) rfl rfl Try.func43 (by kernel_rfl) rfl #[.slice (some ad374) y369.length c76] rfl zM ?_; (with_reducible refine (proctorref01_Copy.calls _ _ y369 t375 _ ?side1 ?side2 A75.out).mono ?_); (case side1 => repeat (first | exact (Kd.V_reads' HO373.out).2.2 | (with_reducible refine Kd.C_alloc ?_ _) | (with_reducible refine Kd.C_drewN ?_ _) | (with_reducible refine Kd.C_drew ?_))); (case side2 => exact (Kd.V_reads' HO373.out).2.1); rintro e w77 ⟨v376, rfl, ho0, hb⟩; refine ⟨_, rfl, ?_⟩; have HO377 := Aside0.mk (Kd.R_lower (Kd.R_newM (M := fun k_ => (w.heap.size ≤ k_)) ho0 (below_size (zB1 HB GE359)) (fun k_ h_ => h_)) (below_size (zB1 HB GE359))); replace HO_0 := Aside0.mk (Kd.V_elder' (zV HO_0) (Kd.R_base ho0) hb); replace HO373 := Aside0.mk (Kd.V_elder' (zV HO373) (Kd.R_base ho0) hb); replace BK359 := Aside0.mk (zb BK359 hb); replace HB := Aside0.mk (below_step (zB1 HB GE359) hb); (try clear hb); (try clear ho0); obtain ⟨Ao78, co78, eo78⟩ := Kd.R_slice HO377.out; subst eo78; have hcz79_0 : w77.cell? ⟨gb359, 0, none⟩ = some (.bool x360000_12) := (blk_cell BK359.out 0).trans rfl; have hcz79_1 : w77.cell? ⟨gb359, 1, none⟩ = some (.slice none 0 0) := (blk_cell BK359.out 1).trans rfl; have hcz79_2 : w77.cell? ⟨gb359, 2, none⟩ = some (.slice none 0 0) := (blk_cell BK359.out 2).trans rfl; have hfz79_0 := blk_frozen BK359.out 0; have hfz79_1 := blk_frozen BK359.out 1; have hfz79_2 := blk_frozen BK359.out 2))
                  refine bodyPost_ret (results_ctt rfl _ _ gb359 159 #[.bool false, .slice Ao78 t375.length co78, .slice none 0 0] (0, 0) _ rfl (by refine zr ?_; refine blk_put (cs := #[.bool false, .slice Ao78 t375.length co78, .slice none 0 0]) ?_ 2 _ rfl; refine zr ?_; refine blk_put (cs := #[.bool false, .slice none 0 0, .slice none 0 0]) ?_ 1 _ rfl; refine zr ?_; refine blk_put (cs := #[.bool x360000_12, .slice none 0 0, .slice none 0 0]) ?_ 0 _ rfl; refine zr ?_; exact BK359.out) Try.underlying159 rfl (by kernel_rfl)) rfl ?_
                  exact ⟨_, _, zE, by (with_reducible repeat (first | apply Kd.R_alloc | apply Kd.R_drewN | apply Kd.R_drew)); exact Kd.R_mono (Kd.R_far (p := ⟨gb359, 2, none⟩) (Kd.R_far (p := ⟨gb359, 1, none⟩) (Kd.R_far (p := ⟨gb359, 0, none⟩) (Kd.R_types HO377.out BK359.out (by decide)) (fun _ hk => hk.2) (.bool false)) (fun _ hk => hk.2) (.slice Ao78 t375.length co78)) (fun _ hk => hk.2) (.slice none 0 0)) (fun _ hk => hk.1.1), zL, zB1 HB GE359⟩
                ·rw [if_neg c71] at H
                 exact absurd H (by simp)
               ·rw [if_neg c70] at H
                have c70b0 : (t366 == 1) = false := beq_eq_false_iff_ne.mpr c70
                have c70b1 : (t366 != 1) = true := bne_iff_ne.mpr c70
                replace H := Option.bind_eq_some_iff.mp H
                obtain ⟨t378, A800, H⟩ := H
                replace H : (some (false, t378, ([] : List (S159)), wrap64 (t367 + t366), 0)) = some (r1, r2, r3, r4, r5) := H
                have A80 := Aside0.mk A800
                clear A800
                simp only [Option.some.injEq, Prod.mk.injEq] at H
                obtain ⟨rfl, rfl, rfl, rfl, rfl⟩ := H
                have q81 : ((wrap64 (t367 + t366)) : Int) ≤ ((l0.length : Int) : Int) := of_decide_eq_true zA
                obtain ⟨i081, hi081, _, hsz81, _⟩ := info_parts info5
                have hroom81 : l0.length ≤ c0 := (Kd.V_reads' HO_0.out).2.1
                have hC81 : Kd.F (Kd.int .u8) _ _ (some ad360) l0.length l0 := (Kd.V_at (base := w.heap.size) HO_0.out).2.2
                have ql81 : (t367 : Int) ≤ ((wrap64 (t367 + t366)) : Int) := of_decide_eq_true zA
                have q081 : (0 : Int) ≤ (t367 : Int) := of_decide_eq_true zA
                have hcut81 := cut_mid (P := Try.prog) 74 5 .i64 .i64 Try.underlying74 hi081 1 hsz81 (some ad360) l0.length c0 t367 (wrap64 (t367 + t366)) q081 ql81 q81 hroom81
                have hr81 := Kd.F_mid (lo := (t367 : Int).toNat) (hi := ((wrap64 (t367 + t366)) : Int).toNat) (c := c0) hC81 (by omega) (by omega) hroom81
                obtain ⟨A81, hA81⟩ : ∃ A1, A1 = (if c0 = (t367 : Int).toNat then (some ad360) else ((some ad360) : Option Addr).map (·.add ((t367 : Int).toNat * 1))) := ⟨_, rfl⟩
                obtain ⟨c81, hc81⟩ : ∃ c1, c1 = c0 - (t367 : Int).toNat := ⟨_, rfl⟩
                have hy81 : y369.length = ((wrap64 (t367 + t366)) : Int).toNat - (t367 : Int).toNat := (by rw [Ny369.out, List.length_drop, List.length_take] <;> omega)
                rw [show ((l0).take ((wrap64 (t367 + t366)) : Int).toNat).drop (t367 : Int).toNat = y369 from Ny369.out.symm] at hr81
                replace hr81 : Kd.F (Kd.int .u8) _ _ A81 y369.length y369 := (by rw [hA81]; exact hr81)
                rw [← hy81, ← hA81, ← hc81] at hcut81
                have HO373 := Aside0.mk (show Kd.V (Kd.int .u8) 5 _ w.heap.size _ (.slice A81 y369.length c81) y369 from Kd.V_mk (by rw [hy81, hc81]; exact Nat.sub_le_sub_right (Nat.le_trans (by omega) hroom81) _) hr81)
                have HC373 := Aside0.mk (show y369.length ≤ c81 from by rw [hy81, hc81]; exact Nat.sub_le_sub_right (Nat.le_trans (by omega) hroom81) _)
                clear hr81 hC81 hroom81 hi081 hsz81 hc81
                have KY81 := Aside0.mk hy81
                have KA81 := Aside0.mk hA81
                clear hy81 hA81
                replace q81 := eq_true q81
                go_wp2_with (first | ((with_reducible refine gate_callee (f := 43) rfl ?_); refine goesL_ (some 77) rfl rfl Try.func43 (by kernel_rfl) rfl #[.slice A81 y369.length c81] rfl zM ?_; (with_reducible refine (proctorref01_Copy.calls _ _ y369 t378 _ ?side1 ?side2 A80.out).mono ?_); (case side1 => repeat (first | exact (Kd.V_reads' HO373.out).2.2 | (with_reducible refine Kd.C_alloc ?_ _) | (with_reducible refine Kd.C_drewN ?_ _) | (with_reducible refine Kd.C_drew ?_))); (case side2 => exact (Kd.V_reads' HO373.out).2.1); rintro e w82 ⟨v379, rfl, ho0, hb⟩; refine ⟨_, rfl, ?_⟩; have HO380 := Aside0.mk (Kd.R_lower (Kd.R_newM (M := fun k_ => (w.heap.size ≤ k_)) ho0 (below_size (zB1 HB GE359)) (fun k_ h_ => h_)) (below_size (zB1 HB GE359))); replace HO_0 := Aside0.mk (Kd.V_elder' (zV HO_0) (Kd.R_base ho0) hb); replace HO373 := Aside0.mk (Kd.V_elder' (zV HO373) (Kd.R_base ho0) hb); replace BK359 := Aside0.mk (zb BK359 hb); replace HB := Aside0.mk (below_step (zB1 HB GE359) hb); (try clear hb); (try clear ho0); obtain ⟨Ao83, co83, eo83⟩ := Kd.R_slice HO380.out; subst eo83; have hcz84_0 : w82.cell? ⟨gb359, 0, none⟩ = some (.bool x360000_12) := (blk_cell BK359.out 0).trans rfl; have hcz84_1 : w82.cell? ⟨gb359, 1, none⟩ = some (.slice none 0 0) := (blk_cell BK359.out 1).trans rfl; have hcz84_2 : w82.cell? ⟨gb359, 2, none⟩ = some (.slice none 0 0) := (blk_cell BK359.out 2).trans rfl; have hfz84_0 := blk_frozen BK359.out 0; have hfz84_1 := blk_frozen BK359.out 1; have hfz84_2 := blk_frozen BK359.out 2))
                refine bodyPost_ret (results_ctt rfl _ _ gb359 159 #[.bool false, .slice Ao83 t378.length co83, .slice none 0 0] (0, 0) _ rfl (by refine zr ?_; refine blk_put (cs := #[.bool false, .slice Ao83 t378.length co83, .slice none 0 0]) ?_ 2 _ rfl; refine zr ?_; refine blk_put (cs := #[.bool false, .slice none 0 0, .slice none 0 0]) ?_ 1 _ rfl; refine zr ?_; refine blk_put (cs := #[.bool x360000_12, .slice none 0 0, .slice none 0 0]) ?_ 0 _ rfl; refine zr ?_; exact BK359.out) Try.underlying159 rfl (by kernel_rfl)) rfl ?_
                exact ⟨_, _, zE, by (with_reducible repeat (first | apply Kd.R_alloc | apply Kd.R_drewN | apply Kd.R_drew)); exact Kd.R_mono (Kd.R_far (p := ⟨gb359, 2, none⟩) (Kd.R_far (p := ⟨gb359, 1, none⟩) (Kd.R_far (p := ⟨gb359, 0, none⟩) (Kd.R_types HO380.out BK359.out (by decide)) (fun _ hk => hk.2) (.bool false)) (fun _ hk => hk.2) (.slice Ao83 t378.length co83)) (fun _ hk => hk.2) (.slice none 0 0)) (fun _ hk => hk.1.1), zL, zB1 HB GE359⟩
             ·rw [if_neg c26] at H
              exact absurd H (by simp)
            ·rw [if_neg c25] at H
             exact absurd H (by simp)
           ·rw [if_neg c24] at H
            exact absurd H (by simp)
          ·rw [if_neg c23] at H
           have c23b0 : (x11_20 == 0) = false := beq_eq_false_iff_ne.mpr c23
           have c23b1 : (x11_20 != 0) = true := bne_iff_ne.mpr c23
           simp only [Option.some.injEq, Prod.mk.injEq] at H
           obtain ⟨rfl, rfl, rfl, rfl, rfl⟩ := H
           have hcz85_0 : wc.cell? ⟨gb359, 0, none⟩ = some (.bool x360000_12) := (blk_cell BK359.out 0).trans rfl
           have hcz85_1 : wc.cell? ⟨gb359, 1, none⟩ = some (.slice none 0 0) := (blk_cell BK359.out 1).trans rfl
           have hcz85_2 : wc.cell? ⟨gb359, 2, none⟩ = some (.slice none 0 0) := (blk_cell BK359.out 2).trans rfl
           have hfz85_0 := blk_frozen BK359.out 0
           have hfz85_1 := blk_frozen BK359.out 1
           have hfz85_2 := blk_frozen BK359.out 2
           go_wp2
           refine bodyPost_ret (results_ctt rfl _ _ gb359 159 #[.bool false, .slice none 0 0, .slice none 0 0] (0, 0) _ rfl (by refine zr ?_; refine blk_put (cs := #[.bool false, .slice none 0 0, .slice none 0 0]) ?_ 2 _ rfl; refine zr ?_; refine blk_put (cs := #[.bool false, .slice none 0 0, .slice none 0 0]) ?_ 1 _ rfl; refine zr ?_; refine blk_put (cs := #[.bool x360000_12, .slice none 0 0, .slice none 0 0]) ?_ 0 _ rfl; refine zr ?_; exact BK359.out) Try.underlying159 rfl (by kernel_rfl)) rfl ?_
           exact ⟨_, _, zE, zL, zL, zB1 HB GE359⟩
  ·rw [if_neg c6] at H
   exact absurd H (by simp)
end Go.Proofs.Ytocphkfkdadhaaa.PRF
