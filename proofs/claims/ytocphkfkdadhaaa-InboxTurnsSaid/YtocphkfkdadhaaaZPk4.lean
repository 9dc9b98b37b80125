import Derived.Test.YtocphkfkdadhaaaZPk2
import Derived.Test.YtocphkfkdadhaaaZPk3
set_option maxHeartbeats 8000000
set_option linter.unusedVariables false
set_option linter.unusedSimpArgs false
set_option maxRecDepth 100000
namespace Go.Proofs.Ytocphkfkdadhaaa.PRF
open Go.RowKit Go.Proofs.YtocphkfkdadhaaaW.PrintWords Go.Proofs.YtocphkfkdadhaaaW.PrintLast Go.Proofs.YtocphkfkdadhaaaW.PrintMore
attribute [local go_sem] max2_int min2_int max_two min_two max_three min_three max_four min_four
def proctorref20_Copy.l0 : Nat → List (S78) → Int → List (S78) → Int → List (List Int) → Int → Option ((List (S78)) × Int × (List (List Int)) × Int)
 | 0, _, _, _, _, _, _ => none
 | k + 1, x3, x4, x161000, x161001, x161002, x161003 => if x4 < (x161000.length : Int) then (if 0 ≤ x4 then ((proctorref01_Copy.f ((rd_T78 x161000 x4).f1)).bind fun t164 => (if x3.length < 4398046511104 then (proctorref20_Copy.l0 k (x3 ++ [(⟨(rd_T78 x161000 x4).f0, t164⟩ : S78)]) (wrap64 (x4 + 1)) x161000 x161001 x161002 x161003) else (none))) else (none)) else ((proctorref20_CopyList.f k x161002).bind fun t170 => (some (x3, x161001, t170, x161003)))
def proctorref20_Copy.f (k : Nat) (l0_0 : List (S78)) (a0_1 : Int) (l0_2 : List (List Int)) (a0_3 : Int) : Option ((List (S78)) × Int × (List (List Int)) × Int) := proctorref20_Copy.l0 k ([] : List (S78)) 0 l0_0 a0_1 l0_2 a0_3
theorem proctorref20_Copy.mono_l : ∀ k, (∀ y0 y1 y2 y3 y4 y5, LeO (proctorref20_Copy.l0 k y0 y1 y2 y3 y4 y5) (proctorref20_Copy.l0 (k + 1) y0 y1 y2 y3 y4 y5))
 | 0 => fun _ _ _ _ _ _ r h => by simp [proctorref20_Copy.l0] at h
 | k + 1 => by
  have ih0 := proctorref20_Copy.mono_l k
  ·intro y0 y1 y2 y3 y4 y5
   unfold proctorref20_Copy.l0
   repeat' first
   | (with_reducible exact ih0 _ _ _ _ _ _)
   | (with_reducible exact proctorref20_CopyList.mono _ _)
   | (with_reducible exact LeO.refl _)
   | (with_reducible exact LeO.none _)
   | (with_reducible refine LeO.ite ?_ ?_)
   | (with_reducible refine LeO.bind ?_ (fun _ => ?_))
   | exact ih0 _ _ _ _ _ _
   | exact proctorref20_CopyList.mono _ _
   | exact LeO.none _
   | refine LeO.ite ?_ ?_
   | refine LeO.bind ?_ (fun _ => ?_)
theorem proctorref20_Copy.mono : ∀ a0 a1 a2 a3 k, LeO (proctorref20_Copy.f k a0 a1 a2 a3) (proctorref20_Copy.f (k + 1) a0 a1 a2 a3) := by
 intro a0 a1 a2 a3 k
 have ih0 := proctorref20_Copy.mono_l k
 unfold proctorref20_Copy.f
 repeat' first
  | (with_reducible exact ih0 _ _ _ _ _ _)
  | (with_reducible exact proctorref20_CopyList.mono _ _)
  | (with_reducible exact LeO.refl _)
  | (with_reducible exact LeO.none _)
  | (with_reducible refine LeO.ite ?_ ?_)
  | (with_reducible refine LeO.bind ?_ (fun _ => ?_))
  | exact ih0 _ _ _ _ _ _
  | exact proctorref20_CopyList.mono _ _
  | exact LeO.none _
  | refine LeO.ite ?_ ?_
  | refine LeO.bind ?_ (fun _ => ?_)
def proctorref20_Copy.T5 : Bool × List (List Nat × List Nat) := (true, [([], []), ([], []), ([1], [1]), ([], []), ([2, 3], [2, 3]), ([4], [4]), ([5], [5]), ([], []), ([7], [7]), ([], []), ([8, 9], [8, 9]), ([10], [10]), ([11], [11]), ([12], [12]), ([6, 13], [6, 13]), ([14], [14]), ([0, 15, 13], [0, 15]), ([16, 16, 0, 1, 2, 3, 4, 5, 6, 7, 8, 9, 10, 11, 12, 13, 14, 15, 16], [0, 16])])
def proctorref20_Copy.B5 : List Nat := [0, 0, 2, 0, 14, 30, 62, 0, 128, 0, 896, 1920, 3968, 8064, 16382, 32766, 65535, 131071]
theorem proctorref20_Copy.tab5 : rtab .any (opsOf Try.f42 5) = proctorref20_Copy.T5 := by kernel_rfl
theorem proctorref20_Copy.bits5 : waitsOk proctorref20_Copy.T5.2 proctorref20_Copy.B5 = true := by kernel_rfl
theorem proctorref20_Copy.calls (k : Nat) (A0_0 : Option Addr) (c0_0 : Nat) (l0_0 : List (S78)) (a0_1 : Int) (A0_2 : Option Addr) (c0_2 : Nat) (l0_2 : List (List Int)) (a0_3 : Int) (r1 : List (S78)) (r2 : Int) (r3 : List (List Int)) (r4 : Int) (w : World) (hr0_0 : Kd.C k78 w A0_0 l0_0.length l0_0) (hc0_0 : l0_0.length ≤ c0_0) (hr0_2 : Kd.C (Kd.slice 5 (Kd.int .u8)) w A0_2 l0_2.length l0_2) (hc0_2 : l0_2.length ≤ c0_2) (h : proctorref20_Copy.f k l0_0 a0_1 l0_2 a0_3 = some (r1, r2, r3, r4)) :
 Calls Try.prog 42 #[.agg #[.slice A0_0 l0_0.length c0_0, .int .i64 a0_1, .slice A0_2 l0_2.length c0_2, .int .u64 a0_3]] w fun e w' => ∃ v0_ v2_ : Value, e = .returned (.agg #[v0_, .int .i64 r2, v2_, .int .u64 r4]) ∧ Kd.S k78 78 w' w.heap.size (fun _ => True) v0_ r1 ∧ Kd.S (Kd.slice 5 (Kd.int .u8)) 74 w' w.heap.size (fun _ => True) v2_ r3 ∧ Below w.heap.size w w' := by
 have hu73 := Try.underlying73
 have hu78 := Try.underlying78
 have HR0_0 := Aside0.mk hr0_0
 have HC0_0 := Aside0.mk hc0_0
 clear hr0_0 hc0_0
 have HR0_2 := Aside0.mk hr0_2
 have HC0_2 := Aside0.mk hc0_2
 clear hr0_2 hc0_2
 have HB := Aside0.mk (Below.refl w.heap.size w)
 have H : (proctorref20_Copy.l0 k ([] : List (S78)) 0 l0_0 a0_1 l0_2 a0_3) = some (r1, r2, r3, r4) := h
 clear h
 have H' := Aside0.mk H
 clear H
 go_enter Try.func42, Try.ntmps42
 go_wp2_with (first | ((with_reducible refine gate_dst (N := 1) rfl ?_); refine zx 1 #[.slice A0_0 l0_0.length c0_0, .int .i64 a0_1, .slice A0_2 l0_2.length c0_2, .int .u64 a0_3] 73 ?_; intro gb160 hg w2 hbox hb; have BK160 := Aside0.mk (hbox); have GW160 := Aside0.mk ((zG hg HB)); have GE160 := Aside0.mk ((zG hg HB)); replace HB := Aside0.mk (below_step (zB HB) hb); clear hb hbox hg) | ((with_reducible refine gate_dst (N := 2) rfl ?_); refine zx 2 #[.slice none 0 0, .int .i64 0, .slice none 0 0, .int .u64 0] 73 ?_; intro gb161 hg w3 hbox hb; have BK161 := Aside0.mk (hbox); have GW161 := Aside0.mk ((zG1 hg HB GE160)); have GE161 := Aside0.mk ((zG1 hg HB GE160)); have NB160_161 := Aside0.mk ((zN_ hg BK160)); have NB161_160 := Aside0.mk ((by rw [hg]; exact Nat.ne_of_gt (blk_lt (g := gb160) (o := .cells #[.slice A0_0 l0_0.length c0_0, .int .i64 a0_1, .slice A0_2 l0_2.length c0_2, .int .u64 a0_3] 73 (0, 0)) (zK BK160)) : gb161 ≠ gb160)); replace BK160 := Aside0.mk (zb BK160 hb); replace HB := Aside0.mk (below_step (zB1 HB GE160) hb); clear hb hbox hg))
 go_loopg [3, 4] k (fun kq v3 v4 w' => ∃ (x3_1 : List (S78)) (x4_1 : Int), v4 = .int .i64 x4_1 ∧ Aside0 (proctorref20_Copy.l0 kq x3_1 x4_1 l0_0 a0_1 l0_2 a0_3 = some (r1, r2, r3, r4)) ∧ Aside0 (kq ≤ k) ∧ Aside0 (Kd.S k78 78 w' w.heap.size (fun _ => True) v3 x3_1) ∧ Aside0 (w'.heap[gb160]? = some (.cells #[(.slice A0_0 l0_0.length c0_0), .int .i64 a0_1, (.slice A0_2 l0_2.length c0_2), .int .u64 a0_3] 73 (0, 0))) ∧ Aside0 (w'.heap[gb161]? = some (.cells #[(.slice none 0 0), .int .i64 0, (.slice none 0 0), .int .u64 0] 73 (0, 0))) ∧ Aside0 (Below w.heap.size w w'))
 case atStart => exact ⟨(([] : List (S78))), (0), zX, H', ⟨Nat.le_refl _⟩, ⟨by first | exact Kd.S_nil _ _ _ _ _ | exact Kd.N_nil _ _ _ _ _ | exact Kd.V_nil _ _ _ _ _ | exact Kd.Q_nil _ _ _ _ _ | exact Kd.R_nil _ _ _ _ _⟩, ⟨zK BK160⟩, ⟨zK BK161⟩, ⟨zB2 HB GE160 GE161⟩⟩
 case round =>
  clear H'
  obtain ⟨x3_1, x4_1, rfl, HA, HK1, HO_3, BK160, BK161, HB⟩ := hrel
  cases gk with
  | zero => exact absurd HA.out (by simp [proctorref20_Copy.l0])
  | succ k1 =>
   have H := HA.out
   clear HA
   simp only [proctorref20_Copy.l0] at H
   by_cases c4 : x4_1 < (l0_0.length : Int)
   ·rw [if_pos c4] at H
    have c4b0 : decide (x4_1 < (l0_0.length : Int)) = true := decide_eq_true c4
    clear c4
    by_cases c5 : 0 ≤ x4_1
    ·rw [if_pos c5] at H
     have c5b0 : decide (0 ≤ x4_1) = true := decide_eq_true c5
     clear c5
     replace H := Option.bind_eq_some_iff.mp H
     obtain ⟨t164, A60, H⟩ := H
     replace H : (if x3_1.length < 4398046511104 then (proctorref20_Copy.l0 k1 (x3_1 ++ [(⟨(rd_T78 l0_0 x4_1).f0, t164⟩ : S78)]) (wrap64 (x4_1 + 1)) l0_0 a0_1 l0_2 a0_3) else (none)) = some (r1, r2, r3, r4) := H
     have A6 := Aside0.mk A60
     clear A60
     by_cases c7 : x3_1.length < 4398046511104
     ·rw [if_pos c7] at H
      have LMc7 := Aside0.mk c7
      clear c7
      obtain ⟨y167, hy167⟩ : ∃ y_ : List (S78), y_ = (x3_1 ++ [(⟨(rd_T78 l0_0 x4_1).f0, t164⟩ : S78)]) := ⟨_, rfl⟩
      replace H : (proctorref20_Copy.l0 k1 y167 (wrap64 (x4_1 + 1)) l0_0 a0_1 l0_2 a0_3) = some (r1, r2, r3, r4) := by first | (rw [hy167]; with_reducible exact H) | (have H2_ := (Option.bind_some _ _).symm.trans H; rw [hy167]; with_reducible exact H2_) | (have H2_ := (Option.bind_some _ _).symm.trans H; with_reducible exact H2_) | with_reducible exact H | (rw [hy167]; exact H) | exact H
      have Ny167 := Aside0.mk hy167
      clear hy167
      have H' := Aside0.mk H
      clear H
      have hnb8 := NB160_161.out
      have hnc8 := NB161_160.out
      have hcz9_0 : wr.cell? ⟨gb160, 0, none⟩ = some (.slice A0_0 l0_0.length c0_0) := (blk_cell BK160.out 0).trans rfl
      have hcz9_1 : wr.cell? ⟨gb160, 1, none⟩ = some (.int .i64 a0_1) := (blk_cell BK160.out 1).trans rfl
      have hcz9_2 : wr.cell? ⟨gb160, 2, none⟩ = some (.slice A0_2 l0_2.length c0_2) := (blk_cell BK160.out 2).trans rfl
      have hcz9_3 : wr.cell? ⟨gb160, 3, none⟩ = some (.int .u64 a0_3) := (blk_cell BK160.out 3).trans rfl
      have hfz9_0 := blk_frozen BK160.out 0
      have hfz9_1 := blk_frozen BK160.out 1
      have hfz9_2 := blk_frozen BK160.out 2
      have hfz9_3 := blk_frozen BK160.out 3
      try go_wp2
      have n0_ := Aside0.mk (Kd.S_drew HO_3.out)
      have n1_ := Aside0.mk (blk_drew BK160.out)
      have n2_ := Aside0.mk (blk_drew BK161.out)
      have n3_ := Aside0.mk (below_drew1 HB.out)
      clear HO_3
      clear BK160
      clear BK161
      clear HB
      have HO_3 := n0_
      have BK160 := n1_
      have BK161 := n2_
      have HB := n3_
      clear n0_ n1_ n2_ n3_
      have p162 : 0 ≤ (x4_1 : Int) := of_decide_eq_true zA
      have q162 : x4_1 < (l0_0.length : Int) := of_decide_eq_true zA
      obtain ⟨ad162, A162_1, c162_1, e162, hx162_0, hx162_1, hl162_1, hi162_1⟩ := at_T78 HR0_0.out x4_1 p162 q162
      have hw162_1 := hx162_1
      have hw162_0 := hx162_0
      cases e162
      replace hx162_0 := (HB.out.cell (World.block_lt_of_cell? w _ hx162_0)).trans hx162_0
      replace hx162_1 := (HB.out.cell (World.block_lt_of_cell? w _ hx162_1)).trans hx162_1
      have HR162_1 := Aside0.mk hi162_1
      have HC162_1 := Aside0.mk hl162_1
      clear hi162_1 hl162_1
      replace p162 := eq_true p162
      replace q162 := eq_true q162
      have p163 : 0 ≤ (x4_1 : Int) := of_decide_eq_true zA
      have q163 : x4_1 < (l0_0.length : Int) := of_decide_eq_true zA
      obtain ⟨ad163, A163_1, c163_1, e163, hx163_0, hx163_1, hl163_1, hi163_1⟩ := at_T78 HR0_0.out x4_1 p163 q163
      have hw163_1 := hx163_1
      have hw163_0 := hx163_0
      obtain rfl : ad162 = ad163 := (by injection e163)
      replace hx163_0 := (HB.out.cell (World.block_lt_of_cell? w _ hx163_0)).trans hx163_0
      replace hx163_1 := (HB.out.cell (World.block_lt_of_cell? w _ hx163_1)).trans hx163_1
      have HR163_1 := Aside0.mk hi163_1
      have HC163_1 := Aside0.mk hl163_1
      clear hi163_1 hl163_1
      replace p163 := eq_true p163
      replace q163 := eq_true q163
      have ea_ := Option.some.inj (hx162_1.symm.trans hx163_1)
      injection ea_ with ea_ en_ ec_
      subst ea_
      subst ec_
      clear en_
      refine start_ (n := 18) (S := fun w' => w'.cell? ⟨gb160, 0, none⟩ = some (.slice (some ad162) l0_0.length c0_0) ∧ w'.cell? ⟨gb160, 1, none⟩ = some (.int .i64 a0_1) ∧ w'.cell? ⟨gb160, 2, none⟩ = some (.slice A0_2 l0_2.length c0_2) ∧ w'.cell? ⟨gb160, 3, none⟩ = some (.int .u64 a0_3) ∧ w'.cell? (ad162.add ((x4_1).toNat * 2)) = some (.int .i64 ((rd_T78 l0_0 x4_1).f0)) ∧ w'.cell? ⟨(ad162.add ((x4_1).toNat * 2)).block, (ad162.add ((x4_1).toNat * 2)).off + 1, none⟩ = some (.slice A162_1 ((rd_T78 l0_0 x4_1).f1).length c162_1) ∧ w'.cell? (ad162.add ((x4_1).toNat * 2)) = some (.int .i64 ((rd_T78 l0_0 x4_1).f0)) ∧ w'.cell? ⟨(ad162.add ((x4_1).toNat * 2)).block, (ad162.add ((x4_1).toNat * 2)).off + 1, none⟩ = some (.slice A162_1 ((rd_T78 l0_0 x4_1).f1).length c162_1)) (ds := []) #[false, false, false, false, false, false, false, false, false, false, false, false, false, false, false, false, false, false] (by kernel_rfl) rfl rfl ⟨(blk_cell BK160.out 0).trans rfl, (blk_cell BK160.out 1).trans rfl, (blk_cell BK160.out 2).trans rfl, (blk_cell BK160.out 3).trans rfl, ((HB.out.cell (World.block_lt_of_cell? w _ hw162_0)).trans hw162_0), ((HB.out.cell (World.block_lt_of_cell? w _ hw162_1)).trans hw162_1), ((HB.out.cell (World.block_lt_of_cell? w _ hw163_0)).trans hw163_0), ((HB.out.cell (World.block_lt_of_cell? w _ hw163_1)).trans hw163_1)⟩ (fun hHeld => ?_); refine with_tabW proctorref20_Copy.tab5 proctorref20_Copy.bits5 (fun HT_ HW_ => ?_)
      generalize wr.drew = w10 at HO_3 BK160 BK161 HB HR162_1 HR163_1 hx162_0 hx162_1 hx163_0 hx163_1 hHeld ⊢
      refine pure_ (i := 0) (N := some 12) (v := ?_) (a' := ?_) #[true, false, false, false, false, false, false, false, false, false, false, false, false, false, false, false, false, false] rfl rfl (any_of HT_.out (by kernel_rfl)) (fun _ _ _ h => h) (Or.inl ⟨by rfl, ?_⟩) ?_ ?_
      rotate_left
      ·intro w'
       go_simp
       with_reducible rfl
      rotate_left
      ·simp only [Act.put, List.setIfInBounds_toArray, List.set_cons_zero, List.set_cons_succ, i64_w, i32_w]
       rfl
      refine pure_ (i := 1) (N := some 13) (v := ?_) (a' := ?_) #[true, true, false, false, false, false, false, false, false, false, false, false, false, false, false, false, false, false] rfl rfl (any_of HT_.out (by kernel_rfl)) (fun _ _ _ h => h) (Or.inl ⟨by rfl, ?_⟩) ?_ ?_
      rotate_left
      ·intro w'
       go_simp
       with_reducible rfl
      rotate_left
      ·simp only [Act.put, List.setIfInBounds_toArray, List.set_cons_zero, List.set_cons_succ, i64_w, i32_w]
       rfl
      refine pure_ (i := 3) (N := some 15) (v := ?_) (a' := ?_) #[true, true, false, true, false, false, false, false, false, false, false, false, false, false, false, false, false, false] rfl rfl (any_of HT_.out (by kernel_rfl)) (fun _ _ _ h => h) (Or.inl ⟨by rfl, ?_⟩) ?_ ?_
      rotate_left
      ·intro w'
       go_simp
       with_reducible rfl
      rotate_left
      ·simp only [Act.put, List.setIfInBounds_toArray, List.set_cons_zero, List.set_cons_succ, i64_w, i32_w]
       rfl
      refine pure_ (i := 7) (N := some 19) (v := ?_) (a' := ?_) #[true, true, false, true, false, false, false, true, false, false, false, false, false, false, false, false, false, false] rfl rfl (any_of HT_.out (by kernel_rfl)) (fun _ _ _ h => h) (Or.inl ⟨by rfl, ?_⟩) ?_ ?_
      rotate_left
      ·intro w'
       go_simp
       with_reducible rfl
      rotate_left
      ·simp only [Act.put, List.setIfInBounds_toArray, List.set_cons_zero, List.set_cons_succ, i64_w, i32_w]
       rfl
      refine pure_ (i := 9) (N := some 21) (v := ?_) (a' := ?_) #[true, true, false, true, false, false, false, true, false, true, false, false, false, false, false, false, false, false] rfl rfl (any_of HT_.out (by kernel_rfl)) (fun _ _ _ h => h) (Or.inl ⟨by rfl, ?_⟩) ?_ ?_
      rotate_left
      ·intro w'
       go_simp
       with_reducible rfl
      rotate_left
      ·simp only [Act.put, List.setIfInBounds_toArray, List.set_cons_zero, List.set_cons_succ, i64_w, i32_w]
       rfl
      refine take_ (i := 2) (N := some 14) (v := ?_) (a' := ?_) #[true, true, true, true, false, false, false, true, false, true, false, false, false, false, false, false, false, false] rfl rfl (take_ofW HT_.out HW_.out (by kernel_rfl)) (fun _ _ _ h => h) (Or.inl ⟨by rfl, ?_⟩) hHeld ?_ ?_
      rotate_left
      ·rintro w' ⟨s0, s1, s2, s3, s4, s5, s6, s7⟩
       go_simp
       with_reducible rfl
      rotate_left
      ·simp only [Act.put, List.setIfInBounds_toArray, List.set_cons_zero, List.set_cons_succ, i64_w, i32_w]
       rfl
      refine pure_ (i := 4) (N := some 16) (v := ?_) (a' := ?_) #[true, true, true, true, true, false, false, true, false, true, false, false, false, false, false, false, false, false] rfl rfl (any_of HT_.out (by kernel_rfl)) (fun _ _ _ h => h) (Or.inl ⟨by rfl, ?_⟩) ?_ ?_
      rotate_left
      ·intro w'
       go_simp
       with_reducible rfl
      rotate_left
      ·simp only [Act.put, List.setIfInBounds_toArray, List.set_cons_zero, List.set_cons_succ, i64_w, i32_w]
       rfl
      refine pure_ (i := 5) (N := some 17) (v := ?_) (a' := ?_) #[true, true, true, true, true, true, false, true, false, true, false, false, false, false, false, false, false, false] rfl rfl (any_of HT_.out (by kernel_rfl)) (fun _ _ _ h => h) (Or.inl ⟨by rfl, ?_⟩) ?_ ?_
      rotate_left
      ·intro w'
       go_simp
       with_reducible rfl
      rotate_left
      ·simp only [Act.put, List.setIfInBounds_toArray, List.set_cons_zero, List.set_cons_succ, i64_w, i32_w]
       rfl
      refine take_ (i := 6) (N := some 18) (v := ?_) (a' := ?_) #[true, true, true, true, true, true, true, true, false, true, false, false, false, false, false, false, false, false] rfl rfl (take_ofW HT_.out HW_.out (by kernel_rfl)) (fun _ _ _ h => h) (Or.inl ⟨by rfl, ?_⟩) hHeld ?_ ?_
      rotate_left
      ·rintro w' ⟨s0, s1, s2, s3, s4, s5, s6, s7⟩
       go_simp
       with_reducible rfl
      rotate_left
      ·simp only [Act.put, List.setIfInBounds_toArray, List.set_cons_zero, List.set_cons_succ, i64_w, i32_w]
       rfl
      refine take_ (i := 8) (N := some 20) (v := ?_) (a' := ?_) #[true, true, true, true, true, true, true, true, true, true, false, false, false, false, false, false, false, false] rfl rfl (take_ofW HT_.out HW_.out (by kernel_rfl)) (fun _ _ _ h => h) (Or.inl ⟨by rfl, ?_⟩) hHeld ?_ ?_
      rotate_left
      ·rintro w' ⟨s0, s1, s2, s3, s4, s5, s6, s7⟩
       go_simp
       with_reducible rfl
      rotate_left
      ·simp only [Act.put, List.setIfInBounds_toArray, List.set_cons_zero, List.set_cons_succ, i64_w, i32_w]
       rfl
      refine pure_ (i := 10) (N := some 22) (v := ?_) (a' := ?_) #[true, true, true, true, true, true, true, true, true, true, true, false, false, false, false, false, false, false] rfl rfl (any_of HT_.out (by kernel_rfl)) (fun _ _ _ h => h) (Or.inl ⟨by rfl, ?_⟩) ?_ ?_
      rotate_left
      ·intro w'
       go_simp
       with_reducible rfl
      rotate_left
      ·simp only [Act.put, List.setIfInBounds_toArray, List.set_cons_zero, List.set_cons_succ, i64_w, i32_w]
       rfl
      refine pure_ (i := 11) (N := some 23) (v := ?_) (a' := ?_) #[true, true, true, true, true, true, true, true, true, true, true, true, false, false, false, false, false, false] rfl rfl (any_of HT_.out (by kernel_rfl)) (fun _ _ _ h => h) (Or.inl ⟨by rfl, ?_⟩) ?_ ?_
      rotate_left
      ·intro w'
       go_simp
       with_reducible rfl
      rotate_left
      ·simp only [Act.put, List.setIfInBounds_toArray, List.set_cons_zero, List.set_cons_succ, i64_w, i32_w]
       rfl
      refine take_ (i := 12) (N := some 24) (v := ?_) (a' := ?_) #[true, true, true, true, true, true, true, true, true, true, true, true, true, false, false, false, false, false] rfl rfl (take_ofW HT_.out HW_.out (by kernel_rfl)) (fun _ _ _ h => h) (Or.inl ⟨by rfl, ?_⟩) hHeld ?_ ?_
      rotate_left
      ·rintro w' ⟨s0, s1, s2, s3, s4, s5, s6, s7⟩
       go_simp
       with_reducible rfl
      rotate_left
      ·simp only [Act.put, List.setIfInBounds_toArray, List.set_cons_zero, List.set_cons_succ, i64_w, i32_w]
       rfl
      refine one_ (i := 13) (N := some 25) #[true, true, true, true, true, true, true, true, true, true, true, true, true, true, false, false, false, false] rfl rfl (one_of HT_.out (by kernel_rfl)) (by decide) (fun K hK => ?_)
      refine goes_ Try.func43 (by kernel_rfl) rfl #[.slice A162_1 ((rd_T78 l0_0 x4_1).f1).length c162_1] (by rfl) rfl rfl zM ?_
      with_reducible refine (proctorref01_Copy.calls _ _ ((rd_T78 l0_0 x4_1).f1) t164 _ ?side1 ?side2 A6.out).mono ?_
      (case side1 => exact zY (Kd.C_below HR163_1.out HB.out))
      (case side2 => exact HC163_1.out)
      rintro e w11 ⟨v165, rfl, ho0, hb⟩
      refine ⟨_, rfl, ?_⟩
      have n0_ := Aside0.mk (Kd.S_elder' (zS HO_3) (Kd.R_base ho0) hb)
      have n1_ := Aside0.mk (Kd.R_lower ho0 (below_size (zB2 HB GE160 GE161)))
      have n2_ := Aside0.mk (zb BK160 hb)
      have n3_ := Aside0.mk (zb BK161 hb)
      have n4_ := Aside0.mk (below_step (zB2 HB GE160 GE161) hb)
      clear HO_3
      clear BK160
      clear BK161
      clear HB
      have HO_3 := n0_
      have HO166 := n1_
      have BK160 := n2_
      have BK161 := n3_
      have HB := n4_
      clear n0_ n1_ n2_ n3_ n4_
      (try clear hb)
      (try clear ho0)
      obtain ⟨Ao12, co12, eo12⟩ := Kd.R_slice HO166.out
      (first | subst eo12 | (injection eo12 with f1_ f2_ f3_; have f4_ := f1_.symm; have f5_ := f3_.symm; clear f1_ f2_ f3_; subst f4_; subst f5_))
      refine hK.out _ _ ⟨(blk_cell BK160.out 0).trans rfl, (blk_cell BK160.out 1).trans rfl, (blk_cell BK160.out 2).trans rfl, (blk_cell BK160.out 3).trans rfl, ((HB.out.cell (World.block_lt_of_cell? w _ hw162_0)).trans hw162_0), ((HB.out.cell (World.block_lt_of_cell? w _ hw162_1)).trans hw162_1), ((HB.out.cell (World.block_lt_of_cell? w _ hw163_0)).trans hw163_0), ((HB.out.cell (World.block_lt_of_cell? w _ hw163_1)).trans hw163_1)⟩ (fun hHeld => ?_)
      clear hK K
      refine norm_ (a' := ?_) ?_ ?_
      rotate_left
      ·show Act.put _ (some 25) _ = _
       simp only [Act.put, List.setIfInBounds_toArray, List.set_cons_zero, List.set_cons_succ, i64_w, i32_w]
       rfl
      refine pure_ (i := 14) (N := some 26) (v := ?_) (a' := ?_) #[true, true, true, true, true, true, true, true, true, true, true, true, true, true, true, false, false, false] rfl rfl (any_of HT_.out (by kernel_rfl)) (fun _ _ _ h => h) (Or.inl ⟨by rfl, ?_⟩) ?_ ?_
      rotate_left
      ·intro w'
       go_simp
       with_reducible rfl
      rotate_left
      ·simp only [Act.put, List.setIfInBounds_toArray, List.set_cons_zero, List.set_cons_succ, i64_w, i32_w]
       rfl
      refine one_ (i := 15) (N := some 27) #[true, true, true, true, true, true, true, true, true, true, true, true, true, true, true, true, false, false] rfl rfl (one_of HT_.out (by kernel_rfl)) (by decide) (fun K hK => ?_)
      refine value_ (w1 := ?_) (v := ?_) (by rfl) rfl ?_ ?_
      rotate_left 2
      ·go_simp
       constructor
       ·rfl
       ·rfl
      refine hK.out _ _ ⟨(blk_cell (blk_alloc BK160.out _) 0).trans rfl, (blk_cell (blk_alloc BK160.out _) 1).trans rfl, (blk_cell (blk_alloc BK160.out _) 2).trans rfl, (blk_cell (blk_alloc BK160.out _) 3).trans rfl, (World.cell?_alloc_lt _ _ _ (World.block_lt_of_cell? _ _ (((HB.out.cell (World.block_lt_of_cell? w _ hw162_0)).trans hw162_0)))).trans (((HB.out.cell (World.block_lt_of_cell? w _ hw162_0)).trans hw162_0)), (World.cell?_alloc_lt _ _ _ (World.block_lt_of_cell? _ _ (((HB.out.cell (World.block_lt_of_cell? w _ hw162_1)).trans hw162_1)))).trans (((HB.out.cell (World.block_lt_of_cell? w _ hw162_1)).trans hw162_1)), (World.cell?_alloc_lt _ _ _ (World.block_lt_of_cell? _ _ (((HB.out.cell (World.block_lt_of_cell? w _ hw163_0)).trans hw163_0)))).trans (((HB.out.cell (World.block_lt_of_cell? w _ hw163_0)).trans hw163_0)), (World.cell?_alloc_lt _ _ _ (World.block_lt_of_cell? _ _ (((HB.out.cell (World.block_lt_of_cell? w _ hw163_1)).trans hw163_1)))).trans (((HB.out.cell (World.block_lt_of_cell? w _ hw163_1)).trans hw163_1))⟩ (fun hHeld => ?_)
      clear hK K
      refine norm_ (a' := ?_) ?_ ?_
      rotate_left
      ·show Act.put _ (some 27) _ = _
       simp only [Act.put, List.setIfInBounds_toArray, List.set_cons_zero, List.set_cons_succ, i64_w, i32_w]
       rfl
      refine one_ (i := 16) (N := some 28) #[true, true, true, true, true, true, true, true, true, true, true, true, true, true, true, true, true, false] rfl rfl (one_of HT_.out (by kernel_rfl)) (by decide) (fun K hK => ?_)
      refine Kd.S_append_step k78 (w0 := w) w.heap.size (by rfl) (.tmp 12) (.tmp 27) 70 78 (.agg #[(.int .i64 0), (.slice none 0 0)]) 32 rfl Try.underlying70 info78 rfl (by decide) (by omega) u3 x3_1 (⟨(rd_T78 l0_0 x4_1).f0, t164⟩ : S78) [.int .i64 ((rd_T78 l0_0 x4_1).f0), .slice Ao12 t164.length co12] (fun _ => True) (fun k_ => some k_ = (.slice Ao12 t164.length co12 : Value).ownBlock) rfl rfl ?aP (fun k_ hk_ => ((Kd.R_mono (ok' := fun k_ => ((fun _ => True)) k_ ∧ some k_ ≠ (u3 : Value).ownBlock) (Kd.R_apart' (HO166.out) (Kd.S_typed HO_3.out) (by decide)) (fun k_ hk => ⟨trivial, hk.2⟩))).1 k_ hk_.symm) ?aF ?aO ?aB ?aS ?aL ?_
      (case aP => exact k78_mkM _ _ _ (⟨(rd_T78 l0_0 x4_1).f0, t164⟩ : S78) (Kd.R_mono (Kd.R_tight rfl (Kd.R_mono (ok' := fun k_ => ((fun _ => True)) k_ ∧ some k_ ≠ (u3 : Value).ownBlock) (Kd.R_apart' (HO166.out) (Kd.S_typed HO_3.out) (by decide)) (fun k_ hk => ⟨trivial, hk.2⟩))) (fun _ h_ => h_)))
      (case aB => exact (zB2 HB GE160 GE161))
      (case aF => exact (fun _ _ => trivial))
      (case aO => exact (by (with_reducible repeat (first | apply Kd.S_alloc | apply Kd.S_drewN | apply Kd.S_drew)); exact Kd.S_mono HO_3.out (fun k_ hk => ⟨trivial, fun e_ => hk.2 e_⟩)))
      (case aS => exact (below_size (zB2 HB GE160 GE161)))
      (case aL => have := LMc7.out; omega)
      intro v168 w13 ho hb hg hat
      rw [← Ny167.out] at ho
      have n0_ := Aside0.mk (blk_grown (g := gb160) (o := .cells #[.slice (some ad162) l0_0.length c0_0, .int .i64 a0_1, .slice A0_2 l0_2.length c0_2, .int .u64 a0_3] 73 (0, 0)) (zK BK160) hg (Kd.S_ne HO_3.out BK160.out (by decide)))
      have n1_ := Aside0.mk (blk_grown (g := gb161) (o := .cells #[.slice none 0 0, .int .i64 0, .slice none 0 0, .int .u64 0] 73 (0, 0)) (zK BK161) hg (Kd.S_ne HO_3.out BK161.out (by decide)))
      have n2_ := Aside0.mk (hb)
      have n3_ := Aside0.mk (ho)
      clear BK160
      clear BK161
      clear HB
      clear HO_3
      clear HO166
      have BK160 := n0_
      have BK161 := n1_
      have HB := n2_
      have HO169 := n3_
      clear n0_ n1_ n2_ n3_
      clear ho hb hg hat
      refine hK.out _ _ ⟨(blk_cell BK160.out 0).trans rfl, (blk_cell BK160.out 1).trans rfl, (blk_cell BK160.out 2).trans rfl, (blk_cell BK160.out 3).trans rfl, ((HB.out.cell (World.block_lt_of_cell? w _ hw162_0)).trans hw162_0), ((HB.out.cell (World.block_lt_of_cell? w _ hw162_1)).trans hw162_1), ((HB.out.cell (World.block_lt_of_cell? w _ hw163_0)).trans hw163_0), ((HB.out.cell (World.block_lt_of_cell? w _ hw163_1)).trans hw163_1)⟩ (fun hHeld => ?_)
      clear hK K
      refine norm_ (a' := ?_) ?_ ?_
      rotate_left
      ·show Act.put _ (some 28) _ = _
       simp only [Act.put, List.setIfInBounds_toArray, List.set_cons_zero, List.set_cons_succ, i64_w, i32_w]
       rfl
      refine pure_ (i := 17) (N := some 3) (v := ?_) (a' := ?_) #[true, true, true, true, true, true, true, true, true, true, true, true, true, true, true, true, true, true] rfl rfl (any_of HT_.out (by kernel_rfl)) (fun _ _ _ h => h) (Or.inl ⟨by rfl, ?_⟩) ?_ ?_
      rotate_left
      ·intro w'
       go_simp
       with_reducible rfl
      rotate_left
      ·simp only [Act.put, List.setIfInBounds_toArray, List.set_cons_zero, List.set_cons_succ, i64_w, i32_w]
       rfl
      refine done_ (done_of HT_.out (by kernel_rfl)) ?_
      try go_wp2
      go_roundg k1
      case measure => have := HK1.out; omega
      case rel => exact ⟨(y167), (wrap64 (x4_1 + 1)), zX, H', ⟨by have := HK1.out; omega⟩, ⟨zS HO169⟩, ⟨zK BK160⟩, ⟨zK BK161⟩, ⟨zB2 HB GE160 GE161⟩⟩
     ·rw [if_neg c7] at H
      exact absurd H (by simp)
    ·rw [if_neg c5] at H
     exact absurd H (by simp)
   ·rw [if_neg c4] at H
    have c4b0 : decide (x4_1 < (l0_0.length : Int)) = false := decide_eq_false c4
    clear c4
    replace H := Option.bind_eq_some_iff.mp H
    obtain ⟨t170, A140, H⟩ := H
    replace H : (some (x3_1, a0_1, t170, a0_3)) = some (r1, r2, r3, r4) := H
    have A14 := Aside0.mk A140
    clear A140
    simp only [Option.some.injEq, Prod.mk.injEq] at H
    obtain ⟨rfl, rfl, rfl, rfl⟩ := H
    have hnb15 := NB160_161.out
    have hnc15 := NB161_160.out
    have hcz16_0 : wr.cell? ⟨gb160, 0, none⟩ = some (.slice A0_0 l0_0.length c0_0) := (blk_cell BK160.out 0).trans rfl
    have hcz16_1 : wr.cell? ⟨gb160, 1, none⟩ = some (.int .i64 a0_1) := (blk_cell BK160.out 1).trans rfl
    have hcz16_2 : wr.cell? ⟨gb160, 2, none⟩ = some (.slice A0_2 l0_2.length c0_2) := (blk_cell BK160.out 2).trans rfl
    have hcz16_3 : wr.cell? ⟨gb160, 3, none⟩ = some (.int .u64 a0_3) := (blk_cell BK160.out 3).trans rfl
    have hfz16_0 := blk_frozen BK160.out 0
    have hfz16_1 := blk_frozen BK160.out 1
    have hfz16_2 := blk_frozen BK160.out 2
    have hfz16_3 := blk_frozen BK160.out 3
    go_wp2_with (first | ((with_reducible refine gate_callee (f := 92) rfl ?_); refine goesL_ (some 32) rfl rfl Try.func92 (by kernel_rfl) rfl #[.slice A0_2 l0_2.length c0_2] rfl zM ?_; (with_reducible refine (proctorref20_CopyList.calls k1 _ _ l0_2 t170 _ ?side1 ?side2 A14.out).mono ?_); (case side1 => exact zY (Kd.C_below HR0_2.out HB.out)); (case side2 => exact HC0_2.out); rintro e w17 ⟨v171, rfl, ho0, hb⟩; refine ⟨_, rfl, ?_⟩; have HO172 := Aside0.mk (Kd.S_lower ho0 (below_size (zB2 HB GE160 GE161))); replace HO_3 := Aside0.mk (Kd.S_below (zS HO_3) hb); replace BK160 := Aside0.mk (zb BK160 hb); replace BK161 := Aside0.mk (zb BK161 hb); replace HB := Aside0.mk (below_step (zB2 HB GE160 GE161) hb); (try clear hb); (try clear ho0); obtain ⟨Ao18, co18, eo18⟩ := Kd.S_slice HO_3.out; subst eo18; have hcz19_0 : w17.cell? ⟨gb160, 0, none⟩ = some (.slice A0_0 l0_0.length c0_0) := (blk_cell BK160.out 0).trans rfl; have hcz19_1 : w17.cell? ⟨gb160, 1, none⟩ = some (.int .i64 a0_1) := (blk_cell BK160.out 1).trans rfl; have hcz19_2 : w17.cell? ⟨gb160, 2, none⟩ = some (.slice A0_2 l0_2.length c0_2) := (blk_cell BK160.out 2).trans rfl; have hcz19_3 : w17.cell? ⟨gb160, 3, none⟩ = some (.int .u64 a0_3) := (blk_cell BK160.out 3).trans rfl; have hfz19_0 := blk_frozen BK160.out 0; have hfz19_1 := blk_frozen BK160.out 1; have hfz19_2 := blk_frozen BK160.out 2; have hfz19_3 := blk_frozen BK160.out 3; obtain ⟨Ao20, co20, eo20⟩ := Kd.S_slice HO172.out; subst eo20; have hcz21_0 : w17.cell? ⟨gb161, 0, none⟩ = some (.slice none 0 0) := (blk_cell BK161.out 0).trans rfl; have hcz21_1 : w17.cell? ⟨gb161, 1, none⟩ = some (.int .i64 0) := (blk_cell BK161.out 1).trans rfl; have hcz21_2 : w17.cell? ⟨gb161, 2, none⟩ = some (.slice none 0 0) := (blk_cell BK161.out 2).trans rfl; have hcz21_3 : w17.cell? ⟨gb161, 3, none⟩ = some (.int .u64 0) := (blk_cell BK161.out 3).trans rfl; have hfz21_0 := blk_frozen BK161.out 0; have hfz21_1 := blk_frozen BK161.out 1; have hfz21_2 := blk_frozen BK161.out 2; have hfz21_3 := blk_frozen BK161.out 3))
    refine bodyPost_ret (results_cell_row rfl _ _ gb161 73 #[.slice Ao18 x3_1.length co18, .int .i64 a0_1, .slice Ao20 t170.length co20, .int .u64 a0_3] (0, 0) _ rfl (by refine zr ?_; refine blk_put (cs := #[.slice Ao18 x3_1.length co18, .int .i64 a0_1, .slice Ao20 t170.length co20, .int .u64 0]) ?_ 3 _ rfl; refine zr ?_; refine blk_put (cs := #[.slice Ao18 x3_1.length co18, .int .i64 a0_1, .slice none 0 0, .int .u64 0]) ?_ 2 _ rfl; refine zr ?_; refine blk_put (cs := #[.slice Ao18 x3_1.length co18, .int .i64 0, .slice none 0 0, .int .u64 0]) ?_ 1 _ rfl; refine zr ?_; refine blk_put (cs := #[.slice none 0 0, .int .i64 0, .slice none 0 0, .int .u64 0]) ?_ 0 _ rfl; refine zr ?_; refine blk_far ?_ NB161_160.out _; refine zr ?_; refine blk_far ?_ NB161_160.out _; refine zr ?_; exact BK161.out) Try.underlying73 rfl (by kernel_rfl)) rfl ?_
    exact ⟨_, _, zE, by (with_reducible repeat (first | apply Kd.S_alloc | apply Kd.S_drewN | apply Kd.S_drew)); exact Kd.S_mono (Kd.S_far (p := ⟨gb161, 3, none⟩) (Kd.S_far (p := ⟨gb161, 2, none⟩) (Kd.S_far (p := ⟨gb161, 1, none⟩) (Kd.S_far (p := ⟨gb161, 0, none⟩) (Kd.S_far (p := ⟨gb160, 2, none⟩) (Kd.S_far (p := ⟨gb160, 0, none⟩) (Kd.S_types (Kd.S_types HO_3.out BK160.out (by decide)) BK161.out (by decide)) (fun _ hk => hk.1.2) (.slice Ao18 x3_1.length co18)) (fun _ hk => hk.1.2) (.slice Ao20 t170.length co20)) (fun _ hk => hk.2) (.slice Ao18 x3_1.length co18)) (fun _ hk => hk.2) (.int .i64 a0_1)) (fun _ hk => hk.2) (.slice Ao20 t170.length co20)) (fun _ hk => hk.2) (.int .u64 a0_3)) (fun _ hk => trivial), by (with_reducible repeat (first | apply Kd.S_alloc | apply Kd.S_drewN | apply Kd.S_drew)); exact Kd.S_mono (Kd.S_far (p := ⟨gb161, 3, none⟩) (Kd.S_far (p := ⟨gb161, 2, none⟩) (Kd.S_far (p := ⟨gb161, 1, none⟩) (Kd.S_far (p := ⟨gb161, 0, none⟩) (Kd.S_far (p := ⟨gb160, 2, none⟩) (Kd.S_far (p := ⟨gb160, 0, none⟩) (Kd.S_types (Kd.S_types HO172.out BK160.out (by decide)) BK161.out (by decide)) (fun _ hk => hk.1.2) (.slice Ao18 x3_1.length co18)) (fun _ hk => hk.1.2) (.slice Ao20 t170.length co20)) (fun _ hk => hk.2) (.slice Ao18 x3_1.length co18)) (fun _ hk => hk.2) (.int .i64 a0_1)) (fun _ hk => hk.2) (.slice Ao20 t170.length co20)) (fun _ hk => hk.2) (.int .u64 a0_3)) (fun _ hk => trivial), zB2 HB GE160 GE161⟩
mutual
def proctorref20_Same.j0 : Nat → Bool → List (S78) → Int → List (List Int) → Int → List (S78) → Int → List (List Int) → Int → Option (Bool)
 | 0, _, _, _, _, _, _, _, _, _ => none
 | k + 1, x26, x199000, x199001, x199002, x199003, x200000, x200001, x200002, x200003 => if x26 = true then (some false) else (proctorref20_Same.l0 k 0 x199000 x199001 x199002 x199003 x200000 x200001 x200002 x200003)
def proctorref20_Same.l0 : Nat → Int → List (S78) → Int → List (List Int) → Int → List (S78) → Int → List (List Int) → Int → Option (Bool)
 | 0, _, _, _, _, _, _, _, _, _ => none
 | k + 1, x5, x199000, x199001, x199002, x199003, x200000, x200001, x200002, x200003 => if x5 < (x199000.length : Int) then (if 0 ≤ x5 then (if x5 < (x200000.length : Int) then (if ((rd_T78 x199000 x5).f0) = ((rd_T78 x200000 x5).f0) then ((proctorref01_Same.f ((rd_T78 x199000 x5).f1) ((rd_T78 x200000 x5).f1)).bind fun t204 => (if t204 = true then (proctorref20_Same.l0 k (wrap64 (x5 + 1)) x199000 x199001 x199002 x199003 x200000 x200001 x200002 x200003) else (some false))) else (some false)) else (none)) else (none)) else ((proctorref20_Lists.f k x199002 x200002).bind fun t205 => (some t205))
end
def proctorref20_Same.f (k : Nat) (l0_0 : List (S78)) (a0_1 : Int) (l0_2 : List (List Int)) (a0_3 : Int) (l1_0 : List (S78)) (a1_1 : Int) (l1_2 : List (List Int)) (a1_3 : Int) : Option (Bool) := if (l0_0.length : Int) = (l1_0.length : Int) then (if a0_1 = a1_1 then (proctorref20_Same.j0 k (a0_3 != a1_3) l0_0 a0_1 l0_2 a0_3 l1_0 a1_1 l1_2 a1_3) else (proctorref20_Same.j0 k true l0_0 a0_1 l0_2 a0_3 l1_0 a1_1 l1_2 a1_3)) else (proctorref20_Same.j0 k true l0_0 a0_1 l0_2 a0_3 l1_0 a1_1 l1_2 a1_3)
theorem proctorref20_Same.calls (k : Nat) (A0_0 : Option Addr) (c0_0 : Nat) (l0_0 : List (S78)) (a0_1 : Int) (A0_2 : Option Addr) (c0_2 : Nat) (l0_2 : List (List Int)) (a0_3 : Int) (A1_0 : Option Addr) (c1_0 : Nat) (l1_0 : List (S78)) (a1_1 : Int) (A1_2 : Option Addr) (c1_2 : Nat) (l1_2 : List (List Int)) (a1_3 : Int) (r : Bool) (w : World) (hr0_0 : Kd.C k78 w A0_0 l0_0.length l0_0) (hc0_0 : l0_0.length ≤ c0_0) (hr0_2 : Kd.C (Kd.slice 5 (Kd.int .u8)) w A0_2 l0_2.length l0_2) (hc0_2 : l0_2.length ≤ c0_2) (hr1_0 : Kd.C k78 w A1_0 l1_0.length l1_0) (hc1_0 : l1_0.length ≤ c1_0) (hr1_2 : Kd.C (Kd.slice 5 (Kd.int .u8)) w A1_2 l1_2.length l1_2) (hc1_2 : l1_2.length ≤ c1_2) (h : proctorref20_Same.f k l0_0 a0_1 l0_2 a0_3 l1_0 a1_1 l1_2 a1_3 = some r) :
 Calls Try.prog 46 #[.agg #[.slice A0_0 l0_0.length c0_0, .int .i64 a0_1, .slice A0_2 l0_2.length c0_2, .int .u64 a0_3], .agg #[.slice A1_0 l1_0.length c1_0, .int .i64 a1_1, .slice A1_2 l1_2.length c1_2, .int .u64 a1_3]] w fun e w' => e = .returned (.bool r) ∧ Below w.heap.size w w' := by
 have hu73 := Try.underlying73
 have HR0_0 := Aside0.mk hr0_0
 have HC0_0 := Aside0.mk hc0_0
 clear hr0_0 hc0_0
 have HR0_2 := Aside0.mk hr0_2
 have HC0_2 := Aside0.mk hc0_2
 clear hr0_2 hc0_2
 have HR1_0 := Aside0.mk hr1_0
 have HC1_0 := Aside0.mk hc1_0
 clear hr1_0 hc1_0
 have HR1_2 := Aside0.mk hr1_2
 have HC1_2 := Aside0.mk hc1_2
 clear hr1_2 hc1_2
 have HB := Aside0.mk (Below.refl w.heap.size w)
 have H : (if (l0_0.length : Int) = (l1_0.length : Int) then (if a0_1 = a1_1 then (proctorref20_Same.j0 k (a0_3 != a1_3) l0_0 a0_1 l0_2 a0_3 l1_0 a1_1 l1_2 a1_3) else (proctorref20_Same.j0 k true l0_0 a0_1 l0_2 a0_3 l1_0 a1_1 l1_2 a1_3)) else (proctorref20_Same.j0 k true l0_0 a0_1 l0_2 a0_3 l1_0 a1_1 l1_2 a1_3)) = some r := h
 clear h
 have HC3 := Aside0.mk H
 clear H
 go_enter Try.func46, Try.ntmps46
 go_upto_region 1 with (first | ((with_reducible refine gate_dst (N := 2) rfl ?_); refine zx 2 #[.slice A0_0 l0_0.length c0_0, .int .i64 a0_1, .slice A0_2 l0_2.length c0_2, .int .u64 a0_3] 73 ?_; intro gb198 hg w4 hbox hb; have BK198 := Aside0.mk (hbox); have GW198 := Aside0.mk ((zG hg HB)); have GE198 := Aside0.mk ((zG hg HB)); replace HB := Aside0.mk (below_step (zB HB) hb); clear hb hbox hg) | ((with_reducible refine gate_dst (N := 3) rfl ?_); refine zx 3 #[.slice A1_0 l1_0.length c1_0, .int .i64 a1_1, .slice A1_2 l1_2.length c1_2, .int .u64 a1_3] 73 ?_; intro gb199 hg w5 hbox hb; have BK199 := Aside0.mk (hbox); have GW199 := Aside0.mk ((zG1 hg HB GE198)); have GE199 := Aside0.mk ((zG1 hg HB GE198)); have NB198_199 := Aside0.mk ((zN_ hg BK198)); have NB199_198 := Aside0.mk ((by rw [hg]; exact Nat.ne_of_gt (blk_lt (g := gb198) (o := .cells #[.slice A0_0 l0_0.length c0_0, .int .i64 a0_1, .slice A0_2 l0_2.length c0_2, .int .u64 a0_3] 73 (0, 0)) (zK BK198)) : gb199 ≠ gb198)); replace BK198 := Aside0.mk (zb BK198 hb); replace HB := Aside0.mk (below_step (zB1 HB GE198) hb); clear hb hbox hg))
 repeat (go_quiet (first | ((with_reducible refine gate_dst (N := 2) rfl ?_); refine zx 2 #[.slice A0_0 l0_0.length c0_0, .int .i64 a0_1, .slice A0_2 l0_2.length c0_2, .int .u64 a0_3] 73 ?_; intro gb198 hg w4 hbox hb; have BK198 := Aside0.mk (hbox); have GW198 := Aside0.mk ((zG hg HB)); have GE198 := Aside0.mk ((zG hg HB)); replace HB := Aside0.mk (below_step (zB HB) hb); clear hb hbox hg) | ((with_reducible refine gate_dst (N := 3) rfl ?_); refine zx 3 #[.slice A1_0 l1_0.length c1_0, .int .i64 a1_1, .slice A1_2 l1_2.length c1_2, .int .u64 a1_3] 73 ?_; intro gb199 hg w5 hbox hb; have BK199 := Aside0.mk (hbox); have GW199 := Aside0.mk ((zG1 hg HB GE198)); have GE199 := Aside0.mk ((zG1 hg HB GE198)); have NB198_199 := Aside0.mk ((zN_ hg BK198)); have NB199_198 := Aside0.mk ((by rw [hg]; exact Nat.ne_of_gt (blk_lt (g := gb198) (o := .cells #[.slice A0_0 l0_0.length c0_0, .int .i64 a0_1, .slice A0_2 l0_2.length c0_2, .int .u64 a0_3] 73 (0, 0)) (zK BK198)) : gb199 ≠ gb198)); replace BK198 := Aside0.mk (zb BK198 hb); replace HB := Aside0.mk (below_step (zB1 HB GE198) hb); clear hb hbox hg)); go_upto_region 1 with (first | ((with_reducible refine gate_dst (N := 2) rfl ?_); refine zx 2 #[.slice A0_0 l0_0.length c0_0, .int .i64 a0_1, .slice A0_2 l0_2.length c0_2, .int .u64 a0_3] 73 ?_; intro gb198 hg w4 hbox hb; have BK198 := Aside0.mk (hbox); have GW198 := Aside0.mk ((zG hg HB)); have GE198 := Aside0.mk ((zG hg HB)); replace HB := Aside0.mk (below_step (zB HB) hb); clear hb hbox hg) | ((with_reducible refine gate_dst (N := 3) rfl ?_); refine zx 3 #[.slice A1_0 l1_0.length c1_0, .int .i64 a1_1, .slice A1_2 l1_2.length c1_2, .int .u64 a1_3] 73 ?_; intro gb199 hg w5 hbox hb; have BK199 := Aside0.mk (hbox); have GW199 := Aside0.mk ((zG1 hg HB GE198)); have GE199 := Aside0.mk ((zG1 hg HB GE198)); have NB198_199 := Aside0.mk ((zN_ hg BK198)); have NB199_198 := Aside0.mk ((by rw [hg]; exact Nat.ne_of_gt (blk_lt (g := gb198) (o := .cells #[.slice A0_0 l0_0.length c0_0, .int .i64 a0_1, .slice A0_2 l0_2.length c0_2, .int .u64 a0_3] 73 (0, 0)) (zK BK198)) : gb199 ≠ gb198)); replace BK198 := Aside0.mk (zb BK198 hb); replace HB := Aside0.mk (below_step (zB1 HB GE198) hb); clear hb hbox hg)))
 (try simp only [Act.put, List.setIfInBounds_toArray, List.set_cons_zero, List.set_cons_succ])
 go_cut [26] (fun v26 wc => ∃ (kq : Nat) (x26_2 : Bool), v26 = .bool x26_2 ∧ Aside0 (proctorref20_Same.j0 kq x26_2 l0_0 a0_1 l0_2 a0_3 l1_0 a1_1 l1_2 a1_3 = some r) ∧ Aside0 (kq ≤ k) ∧ Aside0 (wc.heap[gb198]? = some (.cells #[(.slice A0_0 l0_0.length c0_0), .int .i64 a0_1, (.slice A0_2 l0_2.length c0_2), .int .u64 a0_3] 73 (0, 0))) ∧ Aside0 (wc.heap[gb199]? = some (.cells #[(.slice A1_0 l1_0.length c1_0), .int .i64 a1_1, (.slice A1_2 l1_2.length c1_2), .int .u64 a1_3] 73 (0, 0))) ∧ Aside0 (Below w.heap.size w wc))
 case first =>
  have H := HC3.out
  clear HC3
  by_cases c6 : (l0_0.length : Int) = (l1_0.length : Int)
  ·rw [if_pos c6] at H
   have c6b0 : ((l0_0.length : Int) == (l1_0.length : Int)) = true := beq_iff_eq.mpr c6
   have c6b1 : ((l0_0.length : Int) != (l1_0.length : Int)) = false := bne_eq_false_iff_eq.mpr c6
   have c6b2 : (l0_0.length == l1_0.length) = true := by first | simpa using c6 | (simp at c6 ⊢; omega)
   clear c6
   (first | rw [c6b0] | (simp only [i64_w, i32_w]; rw [c6b0]) | skip)
   by_cases c7 : a0_1 = a1_1
   ·rw [if_pos c7] at H
    have c7b0 : (a0_1 == a1_1) = true := beq_iff_eq.mpr c7
    have c7b1 : (a0_1 != a1_1) = false := bne_eq_false_iff_eq.mpr c7
    clear c7
    have H' := Aside0.mk H
    clear H
    have hnb8 := NB198_199.out
    have hnc8 := NB199_198.out
    have hcz9_0 : w5.cell? ⟨gb198, 0, none⟩ = some (.slice A0_0 l0_0.length c0_0) := (blk_cell BK198.out 0).trans rfl
    have hcz9_1 : w5.cell? ⟨gb198, 1, none⟩ = some (.int .i64 a0_1) := (blk_cell BK198.out 1).trans rfl
    have hcz9_2 : w5.cell? ⟨gb198, 2, none⟩ = some (.slice A0_2 l0_2.length c0_2) := (blk_cell BK198.out 2).trans rfl
    have hcz9_3 : w5.cell? ⟨gb198, 3, none⟩ = some (.int .u64 a0_3) := (blk_cell BK198.out 3).trans rfl
    have hfz9_0 := blk_frozen BK198.out 0
    have hfz9_1 := blk_frozen BK198.out 1
    have hfz9_2 := blk_frozen BK198.out 2
    have hfz9_3 := blk_frozen BK198.out 3
    have hcz10_0 : w5.cell? ⟨gb199, 0, none⟩ = some (.slice A1_0 l1_0.length c1_0) := (blk_cell BK199.out 0).trans rfl
    have hcz10_1 : w5.cell? ⟨gb199, 1, none⟩ = some (.int .i64 a1_1) := (blk_cell BK199.out 1).trans rfl
    have hcz10_2 : w5.cell? ⟨gb199, 2, none⟩ = some (.slice A1_2 l1_2.length c1_2) := (blk_cell BK199.out 2).trans rfl
    have hcz10_3 : w5.cell? ⟨gb199, 3, none⟩ = some (.int .u64 a1_3) := (blk_cell BK199.out 3).trans rfl
    have hfz10_0 := blk_frozen BK199.out 0
    have hfz10_1 := blk_frozen BK199.out 1
    have hfz10_2 := blk_frozen BK199.out 2
    have hfz10_3 := blk_frozen BK199.out 3
    go_wp2
    repeat (go_quiet (fail); try go_wp2)
    go_meet
    case rel => exact ⟨_, ((a0_3 != a1_3)), zX, H', ⟨by first | omega | exact Nat.le_refl _⟩, ⟨zK BK198⟩, ⟨zK BK199⟩, ⟨zB2 HB GE198 GE199⟩⟩
   ·rw [if_neg c7] at H
    have c7b0 : (a0_1 == a1_1) = false := beq_eq_false_iff_ne.mpr c7
    have c7b1 : (a0_1 != a1_1) = true := bne_iff_ne.mpr c7
    have H' := Aside0.mk H
    clear H
    have hnb11 := NB198_199.out
    have hnc11 := NB199_198.out
    have hcz12_0 : w5.cell? ⟨gb198, 0, none⟩ = some (.slice A0_0 l0_0.length c0_0) := (blk_cell BK198.out 0).trans rfl
    have hcz12_1 : w5.cell? ⟨gb198, 1, none⟩ = some (.int .i64 a0_1) := (blk_cell BK198.out 1).trans rfl
    have hcz12_2 : w5.cell? ⟨gb198, 2, none⟩ = some (.slice A0_2 l0_2.length c0_2) := (blk_cell BK198.out 2).trans rfl
    have hcz12_3 : w5.cell? ⟨gb198, 3, none⟩ = some (.int .u64 a0_3) := (blk_cell BK198.out 3).trans rfl
    have hfz12_0 := blk_frozen BK198.out 0
    have hfz12_1 := blk_frozen BK198.out 1
    have hfz12_2 := blk_frozen BK198.out 2
    have hfz12_3 := blk_frozen BK198.out 3
    have hcz13_0 : w5.cell? ⟨gb199, 0, none⟩ = some (.slice A1_0 l1_0.length c1_0) := (blk_cell BK199.out 0).trans rfl
    have hcz13_1 : w5.cell? ⟨gb199, 1, none⟩ = some (.int .i64 a1_1) := (blk_cell BK199.out 1).trans rfl
    have hcz13_2 : w5.cell? ⟨gb199, 2, none⟩ = some (.slice A1_2 l1_2.length c1_2) := (blk_cell BK199.out 2).trans rfl
    have hcz13_3 : w5.cell? ⟨gb199, 3, none⟩ = some (.int .u64 a1_3) := (blk_cell BK199.out 3).trans rfl
    have hfz13_0 := blk_frozen BK199.out 0
    have hfz13_1 := blk_frozen BK199.out 1
    have hfz13_2 := blk_frozen BK199.out 2
    have hfz13_3 := blk_frozen BK199.out 3
    go_wp2
    repeat (go_quiet (fail); try go_wp2)
    go_meet
    case rel => exact ⟨_, (true), zX, H', ⟨by first | omega | exact Nat.le_refl _⟩, ⟨zK BK198⟩, ⟨zK BK199⟩, ⟨zB2 HB GE198 GE199⟩⟩
  ·rw [if_neg c6] at H
   have c6b0 : ((l0_0.length : Int) == (l1_0.length : Int)) = false := beq_eq_false_iff_ne.mpr c6
   have c6b1 : ((l0_0.length : Int) != (l1_0.length : Int)) = true := bne_iff_ne.mpr c6
   have c6b2 : (l0_0.length == l1_0.length) = false := by first | simpa using c6 | (simp at c6 ⊢; omega)
   (first | rw [c6b0] | (simp only [i64_w, i32_w]; rw [c6b0]) | skip)
   have H' := Aside0.mk H
   clear H
   have hnb14 := NB198_199.out
   have hnc14 := NB199_198.out
   have hcz15_0 : w5.cell? ⟨gb198, 0, none⟩ = some (.slice A0_0 l0_0.length c0_0) := (blk_cell BK198.out 0).trans rfl
   have hcz15_1 : w5.cell? ⟨gb198, 1, none⟩ = some (.int .i64 a0_1) := (blk_cell BK198.out 1).trans rfl
   have hcz15_2 : w5.cell? ⟨gb198, 2, none⟩ = some (.slice A0_2 l0_2.length c0_2) := (blk_cell BK198.out 2).trans rfl
   have hcz15_3 : w5.cell? ⟨gb198, 3, none⟩ = some (.int .u64 a0_3) := (blk_cell BK198.out 3).trans rfl
   have hfz15_0 := blk_frozen BK198.out 0
   have hfz15_1 := blk_frozen BK198.out 1
   have hfz15_2 := blk_frozen BK198.out 2
   have hfz15_3 := blk_frozen BK198.out 3
   have hcz16_0 : w5.cell? ⟨gb199, 0, none⟩ = some (.slice A1_0 l1_0.length c1_0) := (blk_cell BK199.out 0).trans rfl
   have hcz16_1 : w5.cell? ⟨gb199, 1, none⟩ = some (.int .i64 a1_1) := (blk_cell BK199.out 1).trans rfl
   have hcz16_2 : w5.cell? ⟨gb199, 2, none⟩ = some (.slice A1_2 l1_2.length c1_2) := (blk_cell BK199.out 2).trans rfl
   have hcz16_3 : w5.cell? ⟨gb199, 3, none⟩ = some (.int .u64 a1_3) := (blk_cell BK199.out 3).trans rfl
   have hfz16_0 := blk_frozen BK199.out 0
   have hfz16_1 := blk_frozen BK199.out 1
   have hfz16_2 := blk_frozen BK199.out 2
   have hfz16_3 := blk_frozen BK199.out 3
   go_wp2
   repeat (go_quiet (fail); try go_wp2)
   go_meet
   case rel => exact ⟨_, (true), zX, H', ⟨by first | omega | exact Nat.le_refl _⟩, ⟨zK BK198⟩, ⟨zK BK199⟩, ⟨zB2 HB GE198 GE199⟩⟩
 case rest =>
  clear HC3
  obtain ⟨kq, x26_2, rfl, HA, HJ2, BK198, BK199, HB⟩ := hcut
  cases kq with
  | zero => exact absurd HA.out (by simp [proctorref20_Same.j0])
  | succ kj2 =>
   have H := HA.out
   clear HA
   simp only [proctorref20_Same.j0] at H
   by_cases c17 : x26_2 = true
   ·subst c17
    have H1 : (some false) = some r := by rw [if_pos rfl] at H; exact H
    clear H
    have H := H1
    clear H1
    obtain rfl := Option.some.inj H
    go_wp2
    repeat (go_quiet (fail); try go_wp2)
    go_ret
    exact ⟨zE, zB2 HB GE198 GE199⟩
   ·replace c17 := Bool.eq_false_iff.mpr c17
    subst c17
    have H1 : (proctorref20_Same.l0 kj2 0 l0_0 a0_1 l0_2 a0_3 l1_0 a1_1 l1_2 a1_3) = some r := by rw [if_neg (show ¬ (false = true) by decide)] at H; exact H
    clear H
    have H := H1
    clear H1
    have H' := Aside0.mk H
    clear H
    go_wp2
    repeat (go_quiet (fail); try go_wp2)
    go_loopg [5] kj2 (fun kq v5 w' => ∃ (x5_2 : Int), v5 = .int .i64 x5_2 ∧ Aside0 (proctorref20_Same.l0 kq x5_2 l0_0 a0_1 l0_2 a0_3 l1_0 a1_1 l1_2 a1_3 = some r) ∧ Aside0 (kq ≤ kj2) ∧ Aside0 (w'.heap[gb198]? = some (.cells #[(.slice A0_0 l0_0.length c0_0), .int .i64 a0_1, (.slice A0_2 l0_2.length c0_2), .int .u64 a0_3] 73 (0, 0))) ∧ Aside0 (w'.heap[gb199]? = some (.cells #[(.slice A1_0 l1_0.length c1_0), .int .i64 a1_1, (.slice A1_2 l1_2.length c1_2), .int .u64 a1_3] 73 (0, 0))) ∧ Aside0 (Below w.heap.size w w'))
    case atStart => exact ⟨(0), zX, H', ⟨Nat.le_refl _⟩, ⟨zK BK198⟩, ⟨zK BK199⟩, ⟨zB2 HB GE198 GE199⟩⟩
    case round =>
     clear H'
     obtain ⟨x5_2, rfl, HA, HK2, BK198, BK199, HB⟩ := hrel
     cases gk with
     | zero => exact absurd HA.out (by simp [proctorref20_Same.l0])
     | succ k2 =>
      have H := HA.out
      clear HA
      simp only [proctorref20_Same.l0] at H
      by_cases c18 : x5_2 < (l0_0.length : Int)
      ·rw [if_pos c18] at H
       have c18b0 : decide (x5_2 < (l0_0.length : Int)) = true := decide_eq_true c18
       clear c18
       by_cases c19 : 0 ≤ x5_2
       ·rw [if_pos c19] at H
        have c19b0 : decide (0 ≤ x5_2) = true := decide_eq_true c19
        clear c19
        by_cases c20 : x5_2 < (l1_0.length : Int)
        ·rw [if_pos c20] at H
         have c20b0 : decide (x5_2 < (l1_0.length : Int)) = true := decide_eq_true c20
         clear c20
         by_cases c21 : ((rd_T78 l0_0 x5_2).f0) = ((rd_T78 l1_0 x5_2).f0)
         ·rw [if_pos c21] at H
          have c21b0 : (((rd_T78 l0_0 x5_2).f0) == ((rd_T78 l1_0 x5_2).f0)) = true := beq_iff_eq.mpr c21
          have c21b1 : (((rd_T78 l0_0 x5_2).f0) != ((rd_T78 l1_0 x5_2).f0)) = false := bne_eq_false_iff_eq.mpr c21
          clear c21
          replace H := Option.bind_eq_some_iff.mp H
          obtain ⟨t204, A220, H⟩ := H
          replace H : (if t204 = true then (proctorref20_Same.l0 k2 (wrap64 (x5_2 + 1)) l0_0 a0_1 l0_2 a0_3 l1_0 a1_1 l1_2 a1_3) else (some false)) = some r := H
          have A22 := Aside0.mk A220
          clear A220
          by_cases c23 : t204 = true
          ·subst c23
           have H1 : (proctorref20_Same.l0 k2 (wrap64 (x5_2 + 1)) l0_0 a0_1 l0_2 a0_3 l1_0 a1_1 l1_2 a1_3) = some r := by rw [if_pos rfl] at H; exact H
           clear H
           have H := H1
           clear H1
           have H' := Aside0.mk H
           clear H
           have hnb24 := NB198_199.out
           have hnc24 := NB199_198.out
           have hcz25_0 : wr.cell? ⟨gb198, 0, none⟩ = some (.slice A0_0 l0_0.length c0_0) := (blk_cell BK198.out 0).trans rfl
           have hcz25_1 : wr.cell? ⟨gb198, 1, none⟩ = some (.int .i64 a0_1) := (blk_cell BK198.out 1).trans rfl
           have hcz25_2 : wr.cell? ⟨gb198, 2, none⟩ = some (.slice A0_2 l0_2.length c0_2) := (blk_cell BK198.out 2).trans rfl
           have hcz25_3 : wr.cell? ⟨gb198, 3, none⟩ = some (.int .u64 a0_3) := (blk_cell BK198.out 3).trans rfl
           have hfz25_0 := blk_frozen BK198.out 0
           have hfz25_1 := blk_frozen BK198.out 1
           have hfz25_2 := blk_frozen BK198.out 2
           have hfz25_3 := blk_frozen BK198.out 3
           have p200 : 0 ≤ (x5_2 : Int) := of_decide_eq_true zA
           have q200 : x5_2 < (l0_0.length : Int) := of_decide_eq_true zA
           obtain ⟨ad200, A200_1, c200_1, e200, hx200_0, hx200_1, hl200_1, hi200_1⟩ := at_T78 HR0_0.out x5_2 p200 q200
           cases e200
           replace hx200_0 := (HB.out.cell (World.block_lt_of_cell? w _ hx200_0)).trans hx200_0
           replace hx200_1 := (HB.out.cell (World.block_lt_of_cell? w _ hx200_1)).trans hx200_1
           have HR200_1 := Aside0.mk hi200_1
           have HC200_1 := Aside0.mk hl200_1
           clear hi200_1 hl200_1
           replace p200 := eq_true p200
           replace q200 := eq_true q200
           have hcz26_0 : wr.cell? ⟨gb199, 0, none⟩ = some (.slice A1_0 l1_0.length c1_0) := (blk_cell BK199.out 0).trans rfl
           have hcz26_1 : wr.cell? ⟨gb199, 1, none⟩ = some (.int .i64 a1_1) := (blk_cell BK199.out 1).trans rfl
           have hcz26_2 : wr.cell? ⟨gb199, 2, none⟩ = some (.slice A1_2 l1_2.length c1_2) := (blk_cell BK199.out 2).trans rfl
           have hcz26_3 : wr.cell? ⟨gb199, 3, none⟩ = some (.int .u64 a1_3) := (blk_cell BK199.out 3).trans rfl
           have hfz26_0 := blk_frozen BK199.out 0
           have hfz26_1 := blk_frozen BK199.out 1
           have hfz26_2 := blk_frozen BK199.out 2
           have hfz26_3 := blk_frozen BK199.out 3
           have p201 : 0 ≤ (x5_2 : Int) := of_decide_eq_true zA
           have q201 : x5_2 < (l1_0.length : Int) := of_decide_eq_true zA
           obtain ⟨ad201, A201_1, c201_1, e201, hx201_0, hx201_1, hl201_1, hi201_1⟩ := at_T78 HR1_0.out x5_2 p201 q201
           cases e201
           replace hx201_0 := (HB.out.cell (World.block_lt_of_cell? w _ hx201_0)).trans hx201_0
           replace hx201_1 := (HB.out.cell (World.block_lt_of_cell? w _ hx201_1)).trans hx201_1
           have HR201_1 := Aside0.mk hi201_1
           have HC201_1 := Aside0.mk hl201_1
           clear hi201_1 hl201_1
           replace p201 := eq_true p201
           replace q201 := eq_true q201
           have p202 : 0 ≤ (x5_2 : Int) := of_decide_eq_true zA
           have q202 : x5_2 < (l0_0.length : Int) := of_decide_eq_true zA
           obtain ⟨ad202, A202_1, c202_1, e202, hx202_0, hx202_1, hl202_1, hi202_1⟩ := at_T78 HR0_0.out x5_2 p202 q202
           obtain rfl : ad200 = ad202 := (by injection e202)
           replace hx202_0 := (HB.out.cell (World.block_lt_of_cell? w _ hx202_0)).trans hx202_0
           replace hx202_1 := (HB.out.cell (World.block_lt_of_cell? w _ hx202_1)).trans hx202_1
           have HR202_1 := Aside0.mk hi202_1
           have HC202_1 := Aside0.mk hl202_1
           clear hi202_1 hl202_1
           replace p202 := eq_true p202
           replace q202 := eq_true q202
           have ea_ := Option.some.inj (hx200_1.symm.trans hx202_1)
           injection ea_ with ea_ en_ ec_
           subst ea_
           subst ec_
           clear en_
           have p203 : 0 ≤ (x5_2 : Int) := of_decide_eq_true zA
           have q203 : x5_2 < (l1_0.length : Int) := of_decide_eq_true zA
           obtain ⟨ad203, A203_1, c203_1, e203, hx203_0, hx203_1, hl203_1, hi203_1⟩ := at_T78 HR1_0.out x5_2 p203 q203
           obtain rfl : ad201 = ad203 := (by injection e203)
           replace hx203_0 := (HB.out.cell (World.block_lt_of_cell? w _ hx203_0)).trans hx203_0
           replace hx203_1 := (HB.out.cell (World.block_lt_of_cell? w _ hx203_1)).trans hx203_1
           have HR203_1 := Aside0.mk hi203_1
           have HC203_1 := Aside0.mk hl203_1
           clear hi203_1 hl203_1
           replace p203 := eq_true p203
           replace q203 := eq_true q203
           have ea_ := Option.some.inj (hx201_1.symm.trans hx203_1)
           injection ea_ with ea_ en_ ec_
           subst ea_
           subst ec_
           clear en_
           go_wp2_with (first | (go_at_call 47; (with_reducible refine (proctorref01_Same.calls _ _ ((rd_T78 l0_0 x5_2).f1) _ _ ((rd_T78 l1_0 x5_2).f1) true _ ?side1 ?side2 ?side3 ?side4 A22.out).mono ?_); (case side1 => exact zY (Kd.C_below HR202_1.out HB.out)); (case side2 => exact HC202_1.out); (case side3 => exact zY (Kd.C_below HR203_1.out HB.out)); (case side4 => exact HC203_1.out); rintro e w' ⟨rfl, ⟨nd, rfl⟩⟩; (try first | exact ⟨rfl, _, World.drewN_drewN _ _ _⟩ | exact ⟨rfl, _, Eq.trans (World.drewN_drewN _ _ _) (congrArg (World.drewN _) (Nat.add_assoc _ _ _))⟩)))
           repeat (go_quiet (first | (go_at_call 47; (with_reducible refine (proctorref01_Same.calls _ _ ((rd_T78 l0_0 x5_2).f1) _ _ ((rd_T78 l1_0 x5_2).f1) true _ ?side1 ?side2 ?side3 ?side4 A22.out).mono ?_); (case side1 => exact zY (Kd.C_below HR202_1.out HB.out)); (case side2 => exact HC202_1.out); (case side3 => exact zY (Kd.C_below HR203_1.out HB.out)); (case side4 => exact HC203_1.out); rintro e w' ⟨rfl, ⟨nd, rfl⟩⟩; (try first | exact ⟨rfl, _, World.drewN_drewN _ _ _⟩ | exact ⟨rfl, _, Eq.trans (World.drewN_drewN _ _ _) (congrArg (World.drewN _) (Nat.add_assoc _ _ _))⟩))); try go_wp2_with (first | (go_at_call 47; (with_reducible refine (proctorref01_Same.calls _ _ ((rd_T78 l0_0 x5_2).f1) _ _ ((rd_T78 l1_0 x5_2).f1) true _ ?side1 ?side2 ?side3 ?side4 A22.out).mono ?_); (case side1 => exact zY (Kd.C_below HR202_1.out HB.out)); (case side2 => exact HC202_1.out); (case side3 => exact zY (Kd.C_below HR203_1.out HB.out)); (case side4 => exact HC203_1.out); rintro e w' ⟨rfl, ⟨nd, rfl⟩⟩; (try first | exact ⟨rfl, _, World.drewN_drewN _ _ _⟩ | exact ⟨rfl, _, Eq.trans (World.drewN_drewN _ _ _) (congrArg (World.drewN _) (Nat.add_assoc _ _ _))⟩))))
           go_roundg k2
           case measure => have := HJ2.out; have := HK2.out; omega
           case rel => exact ⟨(wrap64 (x5_2 + 1)), zX, H', ⟨by have := HJ2.out; have := HK2.out; omega⟩, ⟨zK BK198⟩, ⟨zK BK199⟩, ⟨zB2 HB GE198 GE199⟩⟩
          ·replace c23 := Bool.eq_false_iff.mpr c23
           subst c23
           have H1 : (some false) = some r := by rw [if_neg (show ¬ (false = true) by decide)] at H; exact H
           clear H
           have H := H1
           clear H1
           obtain rfl := Option.some.inj H
           have hnb27 := NB198_199.out
           have hnc27 := NB199_198.out
           have hcz28_0 : wr.cell? ⟨gb198, 0, none⟩ = some (.slice A0_0 l0_0.length c0_0) := (blk_cell BK198.out 0).trans rfl
           have hcz28_1 : wr.cell? ⟨gb198, 1, none⟩ = some (.int .i64 a0_1) := (blk_cell BK198.out 1).trans rfl
           have hcz28_2 : wr.cell? ⟨gb198, 2, none⟩ = some (.slice A0_2 l0_2.length c0_2) := (blk_cell BK198.out 2).trans rfl
           have hcz28_3 : wr.cell? ⟨gb198, 3, none⟩ = some (.int .u64 a0_3) := (blk_cell BK198.out 3).trans rfl
           have hfz28_0 := blk_frozen BK198.out 0
           have hfz28_1 := blk_frozen BK198.out 1
           have hfz28_2 := blk_frozen BK198.out 2
           have hfz28_3 := blk_frozen BK198.out 3
           have p200 : 0 ≤ (x5_2 : Int) := of_decide_eq_true zA
           have q200 : x5_2 < (l0_0.length : Int) := of_decide_eq_true zA
           obtain ⟨ad200, A200_1, c200_1, e200, hx200_0, hx200_1, hl200_1, hi200_1⟩ := at_T78 HR0_0.out x5_2 p200 q200
           cases e200
           replace hx200_0 := (HB.out.cell (World.block_lt_of_cell? w _ hx200_0)).trans hx200_0
           replace hx200_1 := (HB.out.cell (World.block_lt_of_cell? w _ hx200_1)).trans hx200_1
           have HR200_1 := Aside0.mk hi200_1
           have HC200_1 := Aside0.mk hl200_1
           clear hi200_1 hl200_1
           replace p200 := eq_true p200
           replace q200 := eq_true q200
           have hcz29_0 : wr.cell? ⟨gb199, 0, none⟩ = some (.slice A1_0 l1_0.length c1_0) := (blk_cell BK199.out 0).trans rfl
           have hcz29_1 : wr.cell? ⟨gb199, 1, none⟩ = some (.int .i64 a1_1) := (blk_cell BK199.out 1).trans rfl
           have hcz29_2 : wr.cell? ⟨gb199, 2, none⟩ = some (.slice A1_2 l1_2.length c1_2) := (blk_cell BK199.out 2).trans rfl
           have hcz29_3 : wr.cell? ⟨gb199, 3, none⟩ = some (.int .u64 a1_3) := (blk_cell BK199.out 3).trans rfl
           have hfz29_0 := blk_frozen BK199.out 0
           have hfz29_1 := blk_frozen BK199.out 1
           have hfz29_2 := blk_frozen BK199.out 2
           have hfz29_3 := blk_frozen BK199.out 3
           have p201 : 0 ≤ (x5_2 : Int) := of_decide_eq_true zA
           have q201 : x5_2 < (l1_0.length : Int) := of_decide_eq_true zA
           obtain ⟨ad201, A201_1, c201_1, e201, hx201_0, hx201_1, hl201_1, hi201_1⟩ := at_T78 HR1_0.out x5_2 p201 q201
           cases e201
           replace hx201_0 := (HB.out.cell (World.block_lt_of_cell? w _ hx201_0)).trans hx201_0
           replace hx201_1 := (HB.out.cell (World.block_lt_of_cell? w _ hx201_1)).trans hx201_1
           have HR201_1 := Aside0.mk hi201_1
           have HC201_1 := Aside0.mk hl201_1
           clear hi201_1 hl201_1
           replace p201 := eq_true p201
           replace q201 := eq_true q201
           have p202 : 0 ≤ (x5_2 : Int) := of_decide_eq_true zA
           have q202 : x5_2 < (l0_0.length : Int) := of_decide_eq_true zA
           obtain ⟨ad202, A202_1, c202_1, e202, hx202_0, hx202_1, hl202_1, hi202_1⟩ := at_T78 HR0_0.out x5_2 p202 q202
           obtain rfl : ad200 = ad202 := (by injection e202)
           replace hx202_0 := (HB.out.cell (World.block_lt_of_cell? w _ hx202_0)).trans hx202_0
           replace hx202_1 := (HB.out.cell (World.block_lt_of_cell? w _ hx202_1)).trans hx202_1
           have HR202_1 := Aside0.mk hi202_1
           have HC202_1 := Aside0.mk hl202_1
           clear hi202_1 hl202_1
           replace p202 := eq_true p202
           replace q202 := eq_true q202
           have ea_ := Option.some.inj (hx200_1.symm.trans hx202_1)
           injection ea_ with ea_ en_ ec_
           subst ea_
           subst ec_
           clear en_
           have p203 : 0 ≤ (x5_2 : Int) := of_decide_eq_true zA
           have q203 : x5_2 < (l1_0.length : Int) := of_decide_eq_true zA
           obtain ⟨ad203, A203_1, c203_1, e203, hx203_0, hx203_1, hl203_1, hi203_1⟩ := at_T78 HR1_0.out x5_2 p203 q203
           obtain rfl : ad201 = ad203 := (by injection e203)
           replace hx203_0 := (HB.out.cell (World.block_lt_of_cell? w _ hx203_0)).trans hx203_0
           replace hx203_1 := (HB.out.cell (World.block_lt_of_cell? w _ hx203_1)).trans hx203_1
           have HR203_1 := Aside0.mk hi203_1
           have HC203_1 := Aside0.mk hl203_1
           clear hi203_1 hl203_1
           replace p203 := eq_true p203
           replace q203 := eq_true q203
           have ea_ := Option.some.inj (hx201_1.symm.trans hx203_1)
           injection ea_ with ea_ en_ ec_
           subst ea_
           subst ec_
           clear en_
           go_wp2_with (first | (go_at_call 47; (with_reducible refine (proctorref01_Same.calls _ _ ((rd_T78 l0_0 x5_2).f1) _ _ ((rd_T78 l1_0 x5_2).f1) false _ ?side1 ?side2 ?side3 ?side4 A22.out).mono ?_); (case side1 => exact zY (Kd.C_below HR202_1.out HB.out)); (case side2 => exact HC202_1.out); (case side3 => exact zY (Kd.C_below HR203_1.out HB.out)); (case side4 => exact HC203_1.out); rintro e w' ⟨rfl, ⟨nd, rfl⟩⟩; (try first | exact ⟨rfl, _, World.drewN_drewN _ _ _⟩ | exact ⟨rfl, _, Eq.trans (World.drewN_drewN _ _ _) (congrArg (World.drewN _) (Nat.add_assoc _ _ _))⟩)))
           repeat (go_quiet (first | (go_at_call 47; (with_reducible refine (proctorref01_Same.calls _ _ ((rd_T78 l0_0 x5_2).f1) _ _ ((rd_T78 l1_0 x5_2).f1) false _ ?side1 ?side2 ?side3 ?side4 A22.out).mono ?_); (case side1 => exact zY (Kd.C_below HR202_1.out HB.out)); (case side2 => exact HC202_1.out); (case side3 => exact zY (Kd.C_below HR203_1.out HB.out)); (case side4 => exact HC203_1.out); rintro e w' ⟨rfl, ⟨nd, rfl⟩⟩; (try first | exact ⟨rfl, _, World.drewN_drewN _ _ _⟩ | exact ⟨rfl, _, Eq.trans (World.drewN_drewN _ _ _) (congrArg (World.drewN _) (Nat.add_assoc _ _ _))⟩))); try go_wp2_with (first | (go_at_call 47; (with_reducible refine (proctorref01_Same.calls _ _ ((rd_T78 l0_0 x5_2).f1) _ _ ((rd_T78 l1_0 x5_2).f1) false _ ?side1 ?side2 ?side3 ?side4 A22.out).mono ?_); (case side1 => exact zY (Kd.C_below HR202_1.out HB.out)); (case side2 => exact HC202_1.out); (case side3 => exact zY (Kd.C_below HR203_1.out HB.out)); (case side4 => exact HC203_1.out); rintro e w' ⟨rfl, ⟨nd, rfl⟩⟩; (try first | exact ⟨rfl, _, World.drewN_drewN _ _ _⟩ | exact ⟨rfl, _, Eq.trans (World.drewN_drewN _ _ _) (congrArg (World.drewN _) (Nat.add_assoc _ _ _))⟩))))
           go_ret
           exact ⟨zE, zB2 HB GE198 GE199⟩
         ·rw [if_neg c21] at H
          have c21b0 : (((rd_T78 l0_0 x5_2).f0) == ((rd_T78 l1_0 x5_2).f0)) = false := beq_eq_false_iff_ne.mpr c21
          have c21b1 : (((rd_T78 l0_0 x5_2).f0) != ((rd_T78 l1_0 x5_2).f0)) = true := bne_iff_ne.mpr c21
          obtain rfl := Option.some.inj H
          have hnb30 := NB198_199.out
          have hnc30 := NB199_198.out
          have hcz31_0 : wr.cell? ⟨gb198, 0, none⟩ = some (.slice A0_0 l0_0.length c0_0) := (blk_cell BK198.out 0).trans rfl
          have hcz31_1 : wr.cell? ⟨gb198, 1, none⟩ = some (.int .i64 a0_1) := (blk_cell BK198.out 1).trans rfl
          have hcz31_2 : wr.cell? ⟨gb198, 2, none⟩ = some (.slice A0_2 l0_2.length c0_2) := (blk_cell BK198.out 2).trans rfl
          have hcz31_3 : wr.cell? ⟨gb198, 3, none⟩ = some (.int .u64 a0_3) := (blk_cell BK198.out 3).trans rfl
          have hfz31_0 := blk_frozen BK198.out 0
          have hfz31_1 := blk_frozen BK198.out 1
          have hfz31_2 := blk_frozen BK198.out 2
          have hfz31_3 := blk_frozen BK198.out 3
          have p200 : 0 ≤ (x5_2 : Int) := of_decide_eq_true zA
          have q200 : x5_2 < (l0_0.length : Int) := of_decide_eq_true zA
          obtain ⟨ad200, A200_1, c200_1, e200, hx200_0, hx200_1, hl200_1, hi200_1⟩ := at_T78 HR0_0.out x5_2 p200 q200
          cases e200
          replace hx200_0 := (HB.out.cell (World.block_lt_of_cell? w _ hx200_0)).trans hx200_0
          replace hx200_1 := (HB.out.cell (World.block_lt_of_cell? w _ hx200_1)).trans hx200_1
          have HR200_1 := Aside0.mk hi200_1
          have HC200_1 := Aside0.mk hl200_1
          clear hi200_1 hl200_1
          replace p200 := eq_true p200
          replace q200 := eq_true q200
          have hcz32_0 : wr.cell? ⟨gb199, 0, none⟩ = some (.slice A1_0 l1_0.length c1_0) := (blk_cell BK199.out 0).trans rfl
          have hcz32_1 : wr.cell? ⟨gb199, 1, none⟩ = some (.int .i64 a1_1) := (blk_cell BK199.out 1).trans rfl
          have hcz32_2 : wr.cell? ⟨gb199, 2, none⟩ = some (.slice A1_2 l1_2.length c1_2) := (blk_cell BK199.out 2).trans rfl
          have hcz32_3 : wr.cell? ⟨gb199, 3, none⟩ = some (.int .u64 a1_3) := (blk_cell BK199.out 3).trans rfl
          have hfz32_0 := blk_frozen BK199.out 0
          have hfz32_1 := blk_frozen BK199.out 1
          have hfz32_2 := blk_frozen BK199.out 2
          have hfz32_3 := blk_frozen BK199.out 3
          have p201 : 0 ≤ (x5_2 : Int) := of_decide_eq_true zA
          have q201 : x5_2 < (l1_0.length : Int) := of_decide_eq_true zA
          obtain ⟨ad201, A201_1, c201_1, e201, hx201_0, hx201_1, hl201_1, hi201_1⟩ := at_T78 HR1_0.out x5_2 p201 q201
          cases e201
          replace hx201_0 := (HB.out.cell (World.block_lt_of_cell? w _ hx201_0)).trans hx201_0
          replace hx201_1 := (HB.out.cell (World.block_lt_of_cell? w _ hx201_1)).trans hx201_1
          have HR201_1 := Aside0.mk hi201_1
          have HC201_1 := Aside0.mk hl201_1
          clear hi201_1 hl201_1
          replace p201 := eq_true p201
          replace q201 := eq_true q201
          go_wp2
          repeat (go_quiet (fail); try go_wp2)
          go_ret
          exact ⟨zE, zB2 HB GE198 GE199⟩
        ·rw [if_neg c20] at H
         exact absurd H (by simp)
       ·rw [if_neg c19] at H
        exact absurd H (by simp)
      ·rw [if_neg c18] at H
       have c18b0 : decide (x5_2 < (l0_0.length : Int)) = false := decide_eq_false c18
       clear c18
       replace H := Option.bind_eq_some_iff.mp H
       obtain ⟨t205, A330, H⟩ := H
       replace H : (some t205) = some r := H
       have A33 := Aside0.mk A330
       clear A330
       obtain rfl := Option.some.inj H
       have hnb34 := NB198_199.out
       have hnc34 := NB199_198.out
       have hcz35_0 : wr.cell? ⟨gb198, 0, none⟩ = some (.slice A0_0 l0_0.length c0_0) := (blk_cell BK198.out 0).trans rfl
       have hcz35_1 : wr.cell? ⟨gb198, 1, none⟩ = some (.int .i64 a0_1) := (blk_cell BK198.out 1).trans rfl
       have hcz35_2 : wr.cell? ⟨gb198, 2, none⟩ = some (.slice A0_2 l0_2.length c0_2) := (blk_cell BK198.out 2).trans rfl
       have hcz35_3 : wr.cell? ⟨gb198, 3, none⟩ = some (.int .u64 a0_3) := (blk_cell BK198.out 3).trans rfl
       have hfz35_0 := blk_frozen BK198.out 0
       have hfz35_1 := blk_frozen BK198.out 1
       have hfz35_2 := blk_frozen BK198.out 2
       have hfz35_3 := blk_frozen BK198.out 3
       have hcz36_0 : wr.cell? ⟨gb199, 0, none⟩ = some (.slice A1_0 l1_0.length c1_0) := (blk_cell BK199.out 0).trans rfl
       have hcz36_1 : wr.cell? ⟨gb199, 1, none⟩ = some (.int .i64 a1_1) := (blk_cell BK199.out 1).trans rfl
       have hcz36_2 : wr.cell? ⟨gb199, 2, none⟩ = some (.slice A1_2 l1_2.length c1_2) := (blk_cell BK199.out 2).trans rfl
       have hcz36_3 : wr.cell? ⟨gb199, 3, none⟩ = some (.int .u64 a1_3) := (blk_cell BK199.out 3).trans rfl
       have hfz36_0 := blk_frozen BK199.out 0
       have hfz36_1 := blk_frozen BK199.out 1
       have hfz36_2 := blk_frozen BK199.out 2
       have hfz36_3 := blk_frozen BK199.out 3
       go_wp2_with (first | (go_at_call 39; (with_reducible refine (proctorref20_Lists.calls k2 _ _ l0_2 _ _ l1_2 t205 _ ?side1 ?side2 ?side3 ?side4 A33.out).mono ?_); (case side1 => exact zY (Kd.C_below HR0_2.out HB.out)); (case side2 => exact HC0_2.out); (case side3 => exact zY (Kd.C_below HR1_2.out HB.out)); (case side4 => exact HC1_2.out); rintro e w' ⟨rfl, ⟨nd, rfl⟩⟩; (try first | exact ⟨rfl, _, World.drewN_drewN _ _ _⟩ | exact ⟨rfl, _, Eq.trans (World.drewN_drewN _ _ _) (congrArg (World.drewN _) (Nat.add_assoc _ _ _))⟩)))
       repeat (go_quiet (first | (go_at_call 39; (with_reducible refine (proctorref20_Lists.calls k2 _ _ l0_2 _ _ l1_2 t205 _ ?side1 ?side2 ?side3 ?side4 A33.out).mono ?_); (case side1 => exact zY (Kd.C_below HR0_2.out HB.out)); (case side2 => exact HC0_2.out); (case side3 => exact zY (Kd.C_below HR1_2.out HB.out)); (case side4 => exact HC1_2.out); rintro e w' ⟨rfl, ⟨nd, rfl⟩⟩; (try first | exact ⟨rfl, _, World.drewN_drewN _ _ _⟩ | exact ⟨rfl, _, Eq.trans (World.drewN_drewN _ _ _) (congrArg (World.drewN _) (Nat.add_assoc _ _ _))⟩))); try go_wp2_with (first | (go_at_call 39; (with_reducible refine (proctorref20_Lists.calls k2 _ _ l0_2 _ _ l1_2 t205 _ ?side1 ?side2 ?side3 ?side4 A33.out).mono ?_); (case side1 => exact zY (Kd.C_below HR0_2.out HB.out)); (case side2 => exact HC0_2.out); (case side3 => exact zY (Kd.C_below HR1_2.out HB.out)); (case side4 => exact HC1_2.out); rintro e w' ⟨rfl, ⟨nd, rfl⟩⟩; (try first | exact ⟨rfl, _, World.drewN_drewN _ _ _⟩ | exact ⟨rfl, _, Eq.trans (World.drewN_drewN _ _ _) (congrArg (World.drewN _) (Nat.add_assoc _ _ _))⟩))))
       go_ret
       exact ⟨zE, zB2 HB GE198 GE199⟩
end Go.Proofs.Ytocphkfkdadhaaa.PRF
