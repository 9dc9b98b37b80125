import Derived.Test.YtocphkfkdadhaaaYPk2
import Derived.Test.YtocphkfkdadhaaaYPk1
set_option maxHeartbeats 8000000
set_option linter.unusedVariables false
set_option linter.unusedSimpArgs false
set_option maxRecDepth 100000
namespace Go.Proofs.Ytocphkfkdadhaaa.PRF
open Go.RowKit Go.Proofs.YtocphkfkdadhaaaW.PrintWords Go.Proofs.YtocphkfkdadhaaaW.PrintLast Go.Proofs.YtocphkfkdadhaaaW.PrintMore
attribute [local go_sem] max2_int min2_int max_two min_two max_three min_three max_four min_four
mutual
def proctorref01_Spoil.l0 : Nat → List Int → Int → Int → Option (Unit)
 | 0, _, _, _ => none
 | k + 1, x0, x1, x4 => if x4 < (x0.length : Int) then (if 0 ≤ x4 then (proctorref01_Spoil.l0 k (x0.set (x4 : Int).toNat (Go.bits .xor .u8 x1 ((x4) % 256))) x1 (wrap64 (x4 + 1))) else (none)) else ((some (([x1, x1, x1] : List Int) : List Int)).bind fun y174 => (if x0.length + y174.length < 140737488355328 then (proctorref01_Spoil.l1 k (x0 ++ y174) x1 0) else (none)))
def proctorref01_Spoil.l1 : Nat → List Int → Int → Int → Option (Unit)
 | 0, _, _, _ => none
 | k + 1, x0, x1, x5 => if x5 < (x0.length : Int) then (if 0 ≤ x5 then (proctorref01_Spoil.l1 k (x0.set (x5 : Int).toNat x1) x1 (wrap64 (x5 + 1))) else (none)) else (some ())
end
def proctorref01_Spoil.f (k : Nat) (l0 : List Int) (a1 : Int) : Option (Unit) := proctorref01_Spoil.l0 k l0 a1 0
theorem proctorref01_Spoil.calls (k : Nat) (P0_ : Nat → Prop) (u9000_ : Value) (l0 : List Int) (a1 : Int) (w0 w : World) (hB : Below w0.heap.size w0 w) (ho0 : Kd.R (Kd.int .u8) 5 w w0.heap.size P0_ u9000_ l0) (h : proctorref01_Spoil.f k l0 a1 = some ()) :
 Calls Try.prog 44 #[u9000_, .int .u8 a1] w fun e w' => e = .returned (.tuple #[]) ∧ Below w0.heap.size w0 w' ∧ Kept w w' (fun k_ => P0_ k_) := by
 have HO0 := Aside0.mk (show Kd.R (Kd.int .u8) 5 w w0.heap.size (fun k_ => (P0_ k_ ∨ w.heap.size ≤ k_)) u9000_ l0 from Kd.R_mono ho0 (fun k_ hk => (.inl hk)))
 have HK := Aside0.mk (Kept.refl w (fun k_ => P0_ k_))
 have HW0 := Aside0.mk hB.size
 have HB := Aside0.mk hB
 clear hB
 have H : (proctorref01_Spoil.l0 k l0 a1 0) = some () := h
 clear h
 have H' := Aside0.mk H
 clear H
 go_enter Try.func44, Try.ntmps44
 go_wp2
 go_loopg [4] k (fun kq v4 w' => ∃ (x0_1 : List Int) (x4_1 : Int), v4 = .int .i64 x4_1 ∧ Aside0 (proctorref01_Spoil.l0 kq x0_1 a1 x4_1 = some ()) ∧ Aside0 (kq ≤ k) ∧ Aside0 (Kd.R (Kd.int .u8) 5 w' w0.heap.size (fun k_ => (P0_ k_ ∨ w.heap.size ≤ k_)) u9000_ x0_1) ∧ Aside0 (Kept w w' (fun k_ => P0_ k_)) ∧ Aside0 (Below w0.heap.size w0 w'))
 case atStart => exact ⟨(l0), (0), zX, H', ⟨Nat.le_refl _⟩, ⟨zR HO0⟩, ⟨by repeat (first | (with_reducible first | exact HK.out | apply Kept.alloc | apply Kept.drewN | apply Kept.drew) | exact HK.out)⟩, ⟨zB HB⟩⟩
 case round =>
  clear H'
  obtain ⟨x0_1, x4_1, rfl, HA, HK1, HO_0, HK, HB⟩ := hrel
  cases gk with
  | zero => exact absurd HA.out (by simp [proctorref01_Spoil.l0])
  | succ k1 =>
   have H := HA.out
   clear HA
   simp only [proctorref01_Spoil.l0] at H
   by_cases c3 : x4_1 < (x0_1.length : Int)
   ·rw [if_pos c3] at H
    have c3b0 : decide (x4_1 < (x0_1.length : Int)) = true := decide_eq_true c3
    clear c3
    by_cases c4 : 0 ≤ x4_1
    ·rw [if_pos c4] at H
     have c4b0 : decide (0 ≤ x4_1) = true := decide_eq_true c4
     clear c4
     obtain ⟨y173, hy173⟩ : ∃ y_ : List Int, y_ = (x0_1.set (x4_1 : Int).toNat (Go.bits .xor .u8 a1 ((x4_1) % 256))) := ⟨_, rfl⟩
     replace H : (proctorref01_Spoil.l0 k1 y173 a1 (wrap64 (x4_1 + 1))) = some () := by first | (rw [hy173]; with_reducible exact H) | (have H2_ := (Option.bind_some _ _).symm.trans H; rw [hy173]; with_reducible exact H2_) | (have H2_ := (Option.bind_some _ _).symm.trans H; with_reducible exact H2_) | with_reducible exact H | (rw [hy173]; exact H) | exact H
     have Ny173 := Aside0.mk hy173
     clear hy173
     have H' := Aside0.mk H
     clear H
     obtain ⟨Ao6, co6, eo6⟩ := Kd.R_slice HO_0.out
     subst eo6
     have p5 : 0 ≤ (x4_1 : Int) := of_decide_eq_true zA
     have q5 : (x4_1 : Int) < ((x0_1.length : Int) : Int) := of_decide_eq_true zA
     obtain ⟨go5, co5, eo5, gb5, gl5, cl5, HG5⟩ := Kd.R_form HO_0.out (by omega)
     (first | cases eo5 | (injection eo5 with ea_ en_ ec_; (first | subst ea_ | (injection ea_ with ea_; subst ea_)); subst ec_; clear en_))
     have GB5 := Aside0.mk gb5
     have GG5 := Aside0.mk HG5
     clear gb5 gl5 HG5
     have HMgo5 := Aside0.mk (show (P0_ go5 ∨ w.heap.size ≤ go5) from (HO_0.out.1 _ rfl))
     obtain ⟨hx5_0, hf5_0⟩ := Kd.R_celln 0 HO_0.out (x4_1 : Int) p5 q5
     replace p5 := eq_true p5
     replace q5 := eq_true q5
     have HP7 := Kd.R_putg HO_0.out (x4_1 : Int) (Go.bits .xor .u8 a1 ((x4_1) % 256))
     go_wp2_with (first | ((with_reducible refine gate_store (t := 5) (p := 18) rfl ?_); refine store_event (t := 5) (p := 18) (v := ?vo_w8) (w1 := (wr.setCell ⟨go5, (x4_1 : Int).toNat, none⟩ (.int .u8 (Go.bits .xor .u8 a1 ((x4_1) % 256))))) ?hg ?ho ?hn ?hr ?_; (case ho => rfl); (case hg => rfl); (case hn => rfl); (case hr => first | (go_simp; done) | (go_simp; rfl)); intro w8 hw; have hg : wr.grownBy w8 (some go5) := (by rw [hw]; exact HP7.2); have hp_ : Kd.R (Kd.int .u8) 5 w8 w0.heap.size (fun k_ => (P0_ k_ ∨ w.heap.size ≤ k_)) (.slice (some ⟨go5, 0, none⟩) x0_1.length co6) y173 := (by rw [hw, Ny173.out]; exact HP7.1); clear HP7; replace HB := Aside0.mk ((by rw [hw]; exact below_set (HB.out) GB5.out : Below w0.heap.size w0 w8)); replace HK := Aside0.mk (Kept.of_grown (S := (fun k_ => P0_ k_)) hg (by repeat (first | (with_reducible first | exact HK.out | apply Kept.alloc | apply Kept.drewN | apply Kept.drew) | exact HK.out)) (fun k_ e_ => (HO_0.out.1 k_ e_))); replace HO_0 := Aside0.mk (hp_); clear hg hw hp_))
     go_roundg k1
     case measure => have := HK1.out; omega
     case rel => exact ⟨(y173), (wrap64 (x4_1 + 1)), zX, H', ⟨by have := HK1.out; omega⟩, ⟨zR HO_0⟩, ⟨by repeat (first | (with_reducible first | exact HK.out | apply Kept.alloc | apply Kept.drewN | apply Kept.drew) | exact HK.out)⟩, ⟨zB HB⟩⟩
    ·rw [if_neg c4] at H
     exact absurd H (by simp)
   ·rw [if_neg c3] at H
    have c3b0 : decide (x4_1 < (x0_1.length : Int)) = false := decide_eq_false c3
    clear c3
    obtain ⟨y174, hy174⟩ : ∃ y_ : List Int, y_ = (([a1, a1, a1] : List Int)) := ⟨_, rfl⟩
    replace H : (if x0_1.length + y174.length < 140737488355328 then (proctorref01_Spoil.l1 k1 (x0_1 ++ y174) a1 0) else (none)) = some () := by first | (rw [hy174]; with_reducible exact H) | (have H2_ := (Option.bind_some _ _).symm.trans H; rw [hy174]; with_reducible exact H2_) | (have H2_ := (Option.bind_some _ _).symm.trans H; with_reducible exact H2_) | with_reducible exact H | (rw [hy174]; exact H) | exact H
    have Ny174 := Aside0.mk hy174
    clear hy174
    by_cases c9 : x0_1.length + y174.length < 140737488355328
    ·rw [if_pos c9] at H
     have LMc9 := Aside0.mk c9
     clear c9
     obtain ⟨y177, hy177⟩ : ∃ y_ : List Int, y_ = (x0_1 ++ y174) := ⟨_, rfl⟩
     replace H : (proctorref01_Spoil.l1 k1 y177 a1 0) = some () := by first | (rw [hy177]; with_reducible exact H) | (have H2_ := (Option.bind_some _ _).symm.trans H; rw [hy177]; with_reducible exact H2_) | (have H2_ := (Option.bind_some _ _).symm.trans H; with_reducible exact H2_) | with_reducible exact H | (rw [hy177]; exact H) | exact H
     have Ny177 := Aside0.mk hy177
     clear hy177
     have H' := Aside0.mk H
     clear H
     obtain ⟨Ao10, co10, eo10⟩ := Kd.R_slice HO_0.out
     subst eo10
     go_wp2_with (first | ((with_reducible refine gate_dst (N := 23) rfl ?_); refine Kd.R_lit (Kd.int .u8) _ 5 ?hg (N := 23) ?hd (xs := ([a1, a1, a1] : List Int)) (inner := [.int .u8 a1, .int .u8 a1, .int .u8 a1]) (ok := fun _ => True) (okp := fun _ => True) ?hr ?hp (fun _ hk => hk) trivial (Below.refl _ _) (Nat.le_refl _) (by simp) ?_; (case hd => rfl); (case hg => rfl); (case hr => first | (go_simp; done) | (go_simp; rfl)); (case hp => exact (Reps.one (show Kd.M (Kd.int .u8) _ _ _ a1 [.int .u8 a1] from rfl) (Reps.one (show Kd.M (Kd.int .u8) _ _ _ a1 [.int .u8 a1] from rfl) (Reps.one (show Kd.M (Kd.int .u8) _ _ _ a1 [.int .u8 a1] from rfl) (Reps.none _ _))))); intro v175 w11 ho12 hb hg_ hnew_; clear hg_ hnew_; (first | rw [← Ny174.out] at ho12 | (simp only [Int.reduceToNat] at ho12; rw [← Ny174.out] at ho12)); have HO176 := Aside0.mk (Kd.R_lower (Kd.R_new' (Kd.R_newM (M := fun k_ => (P0_ k_ ∨ w.heap.size ≤ k_)) ho12 (by first | exact HK.out.1 | exact (show Kept w _ (fun k_ => P0_ k_) from by repeat (first | (with_reducible first | exact HK.out | apply Kept.alloc | apply Kept.drewN | apply Kept.drew) | exact HK.out)).1) (fun k_ h_ => .inr h_)) (Kd.R_lt (zR HO_0))) (below_size (zB HB))); replace HO_0 := Aside0.mk (Kd.R_elder' (zR HO_0) (Kd.R_base ho12) hb); replace HK := Aside0.mk (Kept.below (S := (fun k_ => P0_ k_)) (by repeat (first | (with_reducible first | exact HK.out | apply Kept.alloc | apply Kept.drewN | apply Kept.drew) | exact HK.out)) hb); replace HB := Aside0.mk (below_step (zB HB) hb); clear hb ho12; obtain ⟨Ao14, co14, eo14⟩ := Kd.R_slice HO176.out; subst eo14) | ((with_reducible refine gate_builtin (b := .append) (xs := #[.tmp 19, .tmp 23]) rfl ?_); at_builtin; refine Kd.R_append_rows (Kd.int .u8) (w0 := w0) w0.heap.size rfl (.tmp 19) (.tmp 23) 74 5 (.int .u8 0) 1 rfl Try.underlying74 info5 rfl (by decide) (by omega) (.slice Ao10 x0_1.length co10) x0_1 y174 _ _ _ (fun k_ => (P0_ k_ ∨ w.heap.size ≤ k_) ∧ some k_ ≠ (.slice Ao14 y174.length co14 : Value).ownBlock) (fun _ => False) rfl rfl ?aO ?aR (fun _ _ h => h) (fun _ h => h.elim) ?aF ?aB ?aS ?aL ?_; (case aR => repeat (first | exact (Kd.R_reads' HO176.out).2.2 | (with_reducible refine Kd.C_alloc ?_ _) | (with_reducible refine Kd.C_drewN ?_ _) | (with_reducible refine Kd.C_drew ?_))); (case aB => exact (zB HB)); (case aF => exact (fun k_ hk => ⟨(.inr (Nat.le_trans (by first | exact HK.out.1 | exact (show Kept w _ (fun k_ => P0_ k_) from by repeat (first | (with_reducible first | exact HK.out | apply Kept.alloc | apply Kept.drewN | apply Kept.drew) | exact HK.out)).1) hk)), Kd.fresh' (Kd.R_lt (zR HO176)) k_ hk⟩)); (case aO => exact (zR HO_0)); (case aS => exact (below_size (zB HB))); (case aL => have := LMc9.out; omega); intro v178 w13 ho hb hg hat; rw [← Ny177.out] at ho; have HO179 := Aside0.mk (ho); replace HO176 := Aside0.mk (Kd.R_after (ok := (fun k_ => (P0_ k_ ∨ w.heap.size ≤ k_))) (by (with_reducible repeat (first | apply Kd.R_alloc | apply Kd.R_drewN | apply Kd.R_drew)); exact Kd.R_mono HO176.out (fun _ hk => ⟨hk.1.1, hk.2⟩)) hg hat); replace HB := Aside0.mk (hb); replace HK := Aside0.mk (Kept.of_grown (S := (fun k_ => P0_ k_)) hg (by repeat (first | (with_reducible first | exact HK.out | apply Kept.alloc | apply Kept.drewN | apply Kept.drew) | exact HK.out)) (fun k_ e_ => (HO_0.out.1 k_ e_).1)); clear HO_0; clear ho hb hg hat))
     go_loopg [5] k1 (fun kq v5 w' => ∃ (x0_2 : List Int) (x5_2 : Int), v5 = .int .i64 x5_2 ∧ Aside0 (proctorref01_Spoil.l1 kq x0_2 a1 x5_2 = some ()) ∧ Aside0 (kq ≤ k1) ∧ Aside0 (Kd.R (Kd.int .u8) 5 w' w0.heap.size (fun k_ => (P0_ k_ ∨ w.heap.size ≤ k_)) v178 x0_2) ∧ Aside0 (Kept w w' (fun k_ => P0_ k_)) ∧ Aside0 (Below w0.heap.size w0 w'))
     case atStart => exact ⟨(y177), (0), zX, H', ⟨Nat.le_refl _⟩, ⟨by (with_reducible repeat (first | apply Kd.R_alloc | apply Kd.R_drewN | apply Kd.R_drew)); exact Kd.R_mono HO179.out (fun _ hk => hk.1)⟩, ⟨by repeat (first | (with_reducible first | exact HK.out | apply Kept.alloc | apply Kept.drewN | apply Kept.drew) | exact HK.out)⟩, ⟨zB HB⟩⟩
     case round =>
      clear H'
      try clear c3b0
      obtain ⟨x0_2, x5_2, rfl, HA, HK2, HO_0, HK, HB⟩ := hrel
      cases gk with
      | zero => exact absurd HA.out (by simp [proctorref01_Spoil.l1])
      | succ k2 =>
       have H := HA.out
       clear HA
       simp only [proctorref01_Spoil.l1] at H
       by_cases c15 : x5_2 < (x0_2.length : Int)
       ·rw [if_pos c15] at H
        have c15b0 : decide (x5_2 < (x0_2.length : Int)) = true := decide_eq_true c15
        clear c15
        by_cases c16 : 0 ≤ x5_2
        ·rw [if_pos c16] at H
         have c16b0 : decide (0 ≤ x5_2) = true := decide_eq_true c16
         clear c16
         obtain ⟨y180, hy180⟩ : ∃ y_ : List Int, y_ = (x0_2.set (x5_2 : Int).toNat a1) := ⟨_, rfl⟩
         replace H : (proctorref01_Spoil.l1 k2 y180 a1 (wrap64 (x5_2 + 1))) = some () := by first | (rw [hy180]; with_reducible exact H) | (have H2_ := (Option.bind_some _ _).symm.trans H; rw [hy180]; with_reducible exact H2_) | (have H2_ := (Option.bind_some _ _).symm.trans H; with_reducible exact H2_) | with_reducible exact H | (rw [hy180]; exact H) | exact H
         have Ny180 := Aside0.mk hy180
         clear hy180
         have H' := Aside0.mk H
         clear H
         obtain ⟨Ao18, co18, eo18⟩ := Kd.R_slice HO_0.out
         subst eo18
         have p17 : 0 ≤ (x5_2 : Int) := of_decide_eq_true zA
         have q17 : (x5_2 : Int) < ((x0_2.length : Int) : Int) := of_decide_eq_true zA
         obtain ⟨go17, co17, eo17, gb17, gl17, cl17, HG17⟩ := Kd.R_form HO_0.out (by omega)
         (first | cases eo17 | (injection eo17 with ea_ en_ ec_; (first | subst ea_ | (injection ea_ with ea_; subst ea_)); subst ec_; clear en_))
         have GB17 := Aside0.mk gb17
         have GG17 := Aside0.mk HG17
         clear gb17 gl17 HG17
         have HMgo17 := Aside0.mk (show (P0_ go17 ∨ w.heap.size ≤ go17) from (HO_0.out.1 _ rfl))
         obtain ⟨hx17_0, hf17_0⟩ := Kd.R_celln 0 HO_0.out (x5_2 : Int) p17 q17
         replace p17 := eq_true p17
         replace q17 := eq_true q17
         have HP19 := Kd.R_putg HO_0.out (x5_2 : Int) a1
         go_wp2_with (first | ((with_reducible refine gate_store (t := 5) (p := 34) rfl ?_); refine store_event (t := 5) (p := 34) (v := ?vo_w20) (w1 := (wr.setCell ⟨go17, (x5_2 : Int).toNat, none⟩ (.int .u8 a1))) ?hg ?ho ?hn ?hr ?_; (case ho => rfl); (case hg => rfl); (case hn => rfl); (case hr => first | (go_simp; done) | (go_simp; rfl)); intro w20 hw; have hg : wr.grownBy w20 (some go17) := (by rw [hw]; exact HP19.2); have hp_ : Kd.R (Kd.int .u8) 5 w20 w0.heap.size (fun k_ => (P0_ k_ ∨ w.heap.size ≤ k_)) (.slice (some ⟨go17, 0, none⟩) x0_2.length co18) y180 := (by rw [hw, Ny180.out]; exact HP19.1); clear HP19; replace HB := Aside0.mk ((by rw [hw]; exact below_set (HB.out) GB17.out : Below w0.heap.size w0 w20)); replace HK := Aside0.mk (Kept.of_grown (S := (fun k_ => P0_ k_)) hg (by repeat (first | (with_reducible first | exact HK.out | apply Kept.alloc | apply Kept.drewN | apply Kept.drew) | exact HK.out)) (fun k_ e_ => (HO_0.out.1 k_ e_))); replace HO_0 := Aside0.mk (hp_); clear hg hw hp_))
         go_roundg k2
         case measure => have := HK1.out; have := HK2.out; omega
         case rel => exact ⟨(y180), (wrap64 (x5_2 + 1)), zX, H', ⟨by have := HK1.out; have := HK2.out; omega⟩, ⟨zR HO_0⟩, ⟨by repeat (first | (with_reducible first | exact HK.out | apply Kept.alloc | apply Kept.drewN | apply Kept.drew) | exact HK.out)⟩, ⟨zB HB⟩⟩
        ·rw [if_neg c16] at H
         exact absurd H (by simp)
       ·rw [if_neg c15] at H
        have c15b0 : decide (x5_2 < (x0_2.length : Int)) = false := decide_eq_false c15
        clear c15
        obtain ⟨Ao21, co21, eo21⟩ := Kd.R_slice HO_0.out
        subst eo21
        go_wp2
        first | go_end0 | ((try simp only [Exit.inBlock, Exit.then]); refine bodyPost_ret (results_none rfl _ _ _) rfl ?_)
        exact ⟨zE, zB HB, by repeat (first | (with_reducible first | exact HK.out | apply Kept.alloc | apply Kept.drewN | apply Kept.drew) | exact HK.out)⟩
    ·rw [if_neg c9] at H
     exact absurd H (by simp)
mutual
def proctorref20_Same.j0 : Nat → Bool → List (S78) → Int → List (List Int) → Int → List (S78) → Int → List (List Int) → Int → Option (Bool)
 | 0, _, _, _, _, _, _, _, _, _ => none
 | k + 1, x26, x199000, x199001, x199002, x199003, x200000, x200001, x200002, x200003 => if x26 = true then (some false) else (proctorref20_Same.l0 k 0 x199000 x199001 x199002 x199003 x200000 x200001 x200002 x200003)
def proctorref20_Same.l0 : Nat → Int → List (S78) → Int → List (List Int) → Int → List (S78) → Int → List (List Int) → Int → Option (Bool)
 | 0, _, _, _, _, _, _, _, _, _ => none
 | k + 1, x5, x199000, x199001, x199002, x199003, x200000, x200001, x200002, x200003 => if x5 < (x199000.length : Int) then (if 0 ≤ x5 then (if x5 < (x200000.length : Int) then (if ((rd_T78 x199000 x5).f0) = ((rd_T78 x200000 x5).f0) then ((proctorref01_Same.f ((rd_T78 x199000 x5).f1) ((rd_T78 x200000 x5).f1)).bind fun t204 => (if t204 = true then (proctorref20_Same.l0 k (wrap64 (x5 + 1)) x199000 x199001 x199002 x199003 x200000 x200001 x200002 x200003) else (some false))) else (some false)) else (none)) else (none)) else ((proctorref20_Lists.f k x199002 x200002).bind fun t205 => (some t205))
end
def proctorref20_Same.f (k : Nat) (l0_0 : List (S78)) (a0_1 : Int) (l0_2 : List (List Int)) (a0_3 : Int) (l1_0 : List (S78)) (a1_1 : Int) (l1_2 : List (List Int)) (a1_3 : Int) : Option (Bool) := if (l0_0.length : Int) = (l1_0.length : Int) then (if a0_1 = a1_1 then (proctorref20_Same.j0 k (a0_3 != a1_3) l0_0 a0_1 l0_2 a0_3 l1_0 a1_1 l1_2 a1_3) else (proctorref20_Same.j0 k true l0_0 a0_1 l0_2 a0_3 l1_0 a1_1 l1_2 a1_3)) else (proctorref20_Same.j0 k true l0_0 a0_1 l0_2 a0_3 l1_0 a1_1 l1_2 a1_3)
theorem proctorref20_Same.calls (k : Nat) (A0_0 : Option Addr) (c0_0 : Nat) (l0_0 : List (S78)) (a0_1 : Int) (A0_2 : Option Addr) (c0_2 : Nat) (l0_2 : List (List Int)) (a0_3 : Int) (A1_0 : Option Addr) (c1_0 : Nat) (l1_0 : List (S78)) (a1_1 : Int) (A1_2 : Option Addr) (c1_2 : Nat) (l1_2 : List (List Int)) (a1_3 : Int) (r : Bool) (w : World) (hr0_0 : Kd.C k78 w A0_0 l0_0.length l0_0) (hc0_0 : l0_0.length ≤ c0_0) (hr0_2 : Kd.C (Kd.slice 5 (Kd.int .u8)) w A0_2 l0_2.length l0_2) (hc0_2 : l0_2.length ≤ c0_2) (hr1_0 : Kd.C k78 w A1_0 l1_0.length l1_0) (hc1_0 : l1_0.length ≤ c1_0) (hr1_2 : Kd.C (Kd.slice 5 (Kd.int .u8)) w A1_2 l1_2.length l1_2) (hc1_2 : l1_2.length ≤ c1_2) (h : proctorref20_Same.f k l0_0 a0_1 l0_2 a0_3 l1_0 a1_1 l1_2 a1_3 = some r) :
 Calls Try.prog 46 #[.agg #[.slice A0_0 l0_0.length c0_0, .int .i64 a0_1, .slice A0_2 l0_2.length c0_2, .int .u64 a0_3], .agg #[.slice A1_0 l1_0.length c1_0, .int .i64 a1_1, .slice A1_2 l1_2.length c1_2, .int .u64 a1_3]] w fun e w' => e = .returned (.bool r) ∧ Below w.heap.size w w' := by
 have hu73 := Try.underlying73
 have HR0_0 := Aside0.mk hr0_0
 have HC0_0 := Aside0.mk hc0_0
 clear hr0_0 hc0_0
 have HR0_2 := Aside0.mk hr0_2
 have HC0_2 := Aside0.mk hc0_2
 clear hr0_2 hc0_2
 have HR1_0 := Aside0.mk hr1_0
 have HC1_0 := Aside0.mk hc1_0
 clear hr1_0 hc1_0
 have HR1_2 := Aside0.mk hr1_2
 have HC1_2 := Aside0.mk hc1_2
 clear hr1_2 hc1_2
 have HB := Aside0.mk (Below.refl w.heap.size w)
 have H : (if (l0_0.length : Int) = (l1_0.length : Int) then (if a0_1 = a1_1 then (proctorref20_Same.j0 k (a0_3 != a1_3) l0_0 a0_1 l0_2 a0_3 l1_0 a1_1 l1_2 a1_3) else (proctorref20_Same.j0 k true l0_0 a0_1 l0_2 a0_3 l1_0 a1_1 l1_2 a1_3)) else (proctorref20_Same.j0 k true l0_0 a0_1 l0_2 a0_3 l1_0 a1_1 l1_2 a1_3)) = some r := h
 clear h
 have HC3 := Aside0.mk H
 clear H
 go_enter Try.func46, Try.ntmps46
 go_upto_region 1 with (first | ((with_reducible refine gate_dst (N := 2) rfl ?_); refine zx 2 #[.slice A0_0 l0_0.length c0_0, .int .i64 a0_1, .slice A0_2 l0_2.length c0_2, .int .u64 a0_3] 73 ?_; intro gb198 hg w4 hbox hb; have BK198 := Aside0.mk (hbox); have GW198 := Aside0.mk ((zG hg HB)); have GE198 := Aside0.mk ((zG hg HB)); replace HB := Aside0.mk (below_step (zB HB) hb); clear hb hbox hg) | ((with_reducible refine gate_dst (N := 3) rfl ?_); refine zx 3 #[.slice A1_0 l1_0.length c1_0, .int .i64 a1_1, .slice A1_2 l1_2.length c1_2, .int .u64 a1_3] 73 ?_; intro gb199 hg w5 hbox hb; have BK199 := Aside0.mk (hbox); have GW199 := Aside0.mk ((zG1 hg HB GE198)); have GE199 := Aside0.mk ((zG1 hg HB GE198)); have NB198_199 := Aside0.mk ((zN_ hg BK198)); have NB199_198 := Aside0.mk ((by rw [hg]; exact Nat.ne_of_gt (blk_lt (g := gb198) (o := .cells #[.slice A0_0 l0_0.length c0_0, .int .i64 a0_1, .slice A0_2 l0_2.length c0_2, .int .u64 a0_3] 73 (0, 0)) (zK BK198)) : gb199 ≠ gb198)); replace BK198 := Aside0.mk (zb BK198 hb); replace HB := Aside0.mk (below_step (zB1 HB GE198) hb); clear hb hbox hg))
 repeat (go_quiet (first | ((with_reducible refine gate_dst (N := 2) rfl ?_); refine zx 2 #[.slice A0_0 l0_0.length c0_0, .int .i64 a0_1, .slice A0_2 l0_2.length c0_2, .int .u64 a0_3] 73 ?_; intro gb198 hg w4 hbox hb; have BK198 := Aside0.mk (hbox); have GW198 := Aside0.mk ((zG hg HB)); have GE198 := Aside0.mk ((zG hg HB)); replace HB := Aside0.mk (below_step (zB HB) hb); clear hb hbox hg) | ((with_reducible refine gate_dst (N := 3) rfl ?_); refine zx 3 #[.slice A1_0 l1_0.length c1_0, .int .i64 a1_1, .slice A1_2 l1_2.length c1_2, .int .u64 a1_3] 73 ?_; intro gb199 hg w5 hbox hb; have BK199 := Aside0.mk (hbox); have GW199 := Aside0.mk ((zG1 hg HB GE198)); have GE199 := Aside0.mk ((zG1 hg HB GE198)); have NB198_199 := Aside0.mk ((zN_ hg BK198)); have NB199_198 := Aside0.mk ((by rw [hg]; exact Nat.ne_of_gt (blk_lt (g := gb198) (o := .cells #[.slice A0_0 l0_0.length c0_0, .int .i64 a0_1, .slice A0_2 l0_2.length c0_2, .int .u64 a0_3] 73 (0, 0)) (zK BK198)) : gb199 ≠ gb198)); replace BK198 := Aside0.mk (zb BK198 hb); replace HB := Aside0.mk (below_step (zB1 HB GE198) hb); clear hb hbox hg)); go_upto_region 1 with (first | ((with_reducible refine gate_dst (N := 2) rfl ?_); refine zx 2 #[.slice A0_0 l0_0.length c0_0, .int .i64 a0_1, .slice A0_2 l0_2.length c0_2, .int .u64 a0_3] 73 ?_; intro gb198 hg w4 hbox hb; have BK198 := Aside0.mk (hbox); have GW198 := Aside0.mk ((zG hg HB)); have GE198 := Aside0.mk ((zG hg HB)); replace HB := Aside0.mk (below_step (zB HB) hb); clear hb hbox hg) | ((with_reducible refine gate_dst (N := 3) rfl ?_); refine zx 3 #[.slice A1_0 l1_0.length c1_0, .int .i64 a1_1, .slice A1_2 l1_2.length c1_2, .int .u64 a1_3] 73 ?_; intro gb199 hg w5 hbox hb; have BK199 := Aside0.mk (hbox); have GW199 := Aside0.mk ((zG1 hg HB GE198)); have GE199 := Aside0.mk ((zG1 hg HB GE198)); have NB198_199 := Aside0.mk ((zN_ hg BK198)); have NB199_198 := Aside0.mk ((by rw [hg]; exact Nat.ne_of_gt (blk_lt (g := gb198) (o := .cells #[.slice A0_0 l0_0.length c0_0, .int .i64 a0_1, .slice A0_2 l0_2.length c0_2, .int .u64 a0_3] 73 (0, 0)) (zK BK198)) : gb199 ≠ gb198)); replace BK198 := Aside0.mk (zb BK198 hb); replace HB := Aside0.mk (below_step (zB1 HB GE198) hb); clear hb hbox hg)))
 (try simp only [Act.put, List.setIfInBounds_toArray, List.set_cons_zero, List.set_cons_succ])
 go_cut [26] (fun v26 wc => ∃ (kq : Nat) (x26_2 : Bool), v26 = .bool x26_2 ∧ Aside0 (proctorref20_Same.j0 kq x26_2 l0_0 a0_1 l0_2 a0_3 l1_0 a1_1 l1_2 a1_3 = some r) ∧ Aside0 (kq ≤ k) ∧ Aside0 (wc.heap[gb198]? = some (.cells #[(.slice A0_0 l0_0.length c0_0), .int .i64 a0_1, (.slice A0_2 l0_2.length c0_2), .int .u64 a0_3] 73 (0, 0))) ∧ Aside0 (wc.heap[gb199]? = some (.cells #[(.slice A1_0 l1_0.length c1_0), .int .i64 a1_1, (.slice A1_2 l1_2.length c1_2), .int .u64 a1_3] 73 (0, 0))) ∧ Aside0 (Below w.heap.size w wc))
 case first =>
  have H := HC3.out
  clear HC3
  by_cases c6 : (l0_0.length : Int) = (l1_0.length : Int)
  ·rw [if_pos c6] at H
   have c6b0 : ((l0_0.length : Int) == (l1_0.length : Int)) = true := beq_iff_eq.mpr c6
   have c6b1 : ((l0_0.length : Int) != (l1_0.length : Int)) = false := bne_eq_false_iff_eq.mpr c6
   have c6b2 : (l0_0.length == l1_0.length) = true := by first | simpa using c6 | (simp at c6 ⊢; omega)
   clear c6
   (first | rw [c6b0] | (simp only [i64_w, i32_w]; rw [c6b0]) | skip)
   by_cases c7 : a0_1 = a1_1
   ·rw [if_pos c7] at H
    have c7b0 : (a0_1 == a1_1) = true := beq_iff_eq.mpr c7
    have c7b1 : (a0_1 != a1_1) = false := bne_eq_false_iff_eq.mpr c7
    clear c7
    have H' := Aside0.mk H
    clear H
    have hnb8 := NB198_199.out
    have hnc8 := NB199_198.out
    have hcz9_0 : w5.cell? ⟨gb198, 0, none⟩ = some (.slice A0_0 l0_0.length c0_0) := (blk_cell BK198.out 0).trans rfl
    have hcz9_1 : w5.cell? ⟨gb198, 1, none⟩ = some (.int .i64 a0_1) := (blk_cell BK198.out 1).trans rfl
    have hcz9_2 : w5.cell? ⟨gb198, 2, none⟩ = some (.slice A0_2 l0_2.length c0_2) := (blk_cell BK198.out 2).trans rfl
    have hcz9_3 : w5.cell? ⟨gb198, 3, none⟩ = some (.int .u64 a0_3) := (blk_cell BK198.out 3).trans rfl
    have hfz9_0 := blk_frozen BK198.out 0
    have hfz9_1 := blk_frozen BK198.out 1
    have hfz9_2 := blk_frozen BK198.out 2
    have hfz9_3 := blk_frozen BK198.out 3
    have hcz10_0 : w5.cell? ⟨gb199, 0, none⟩ = some (.slice A1_0 l1_0.length c1_0) := (blk_cell BK199.out 0).trans rfl
    have hcz10_1 : w5.cell? ⟨gb199, 1, none⟩ = some (.int .i64 a1_1) := (blk_cell BK199.out 1).trans rfl
    have hcz10_2 : w5.cell? ⟨gb199, 2, none⟩ = some (.slice A1_2 l1_2.length c1_2) := (blk_cell BK199.out 2).trans rfl
    have hcz10_3 : w5.cell? ⟨gb199, 3, none⟩ = some (.int .u64 a1_3) := (blk_cell BK199.out 3).trans rfl
    have hfz10_0 := blk_frozen BK199.out 0
    have hfz10_1 := blk_frozen BK199.out 1
    have hfz10_2 := blk_frozen BK199.out 2
    have hfz10_3 := blk_frozen BK199.out 3
    go_wp2
    repeat (go_quiet (fail); try go_wp2)
    go_meet
    case rel => exact ⟨_, ((a0_3 != a1_3)), zX, H', ⟨by first | omega | exact Nat.le_refl _⟩, ⟨zK BK198⟩, ⟨zK BK199⟩, ⟨zB2 HB GE198 GE199⟩⟩
   ·rw [if_neg c7] at H
    have c7b0 : (a0_1 == a1_1) = false := beq_eq_false_iff_ne.mpr c7
    have c7b1 : (a0_1 != a1_1) = true := bne_iff_ne.mpr c7
    have H' := Aside0.mk H
    clear H
    have hnb11 := NB198_199.out
    have hnc11 := NB199_198.out
    have hcz12_0 : w5.cell? ⟨gb198, 0, none⟩ = some (.slice A0_0 l0_0.length c0_0) := (blk_cell BK198.out 0).trans rfl
    have hcz12_1 : w5.cell? ⟨gb198, 1, none⟩ = some (.int .i64 a0_1) := (blk_cell BK198.out 1).trans rfl
    have hcz12_2 : w5.cell? ⟨gb198, 2, none⟩ = some (.slice A0_2 l0_2.length c0_2) := (blk_cell BK198.out 2).trans rfl
    have hcz12_3 : w5.cell? ⟨gb198, 3, none⟩ = some (.int .u64 a0_3) := (blk_cell BK198.out 3).trans rfl
    have hfz12_0 := blk_frozen BK198.out 0
    have hfz12_1 := blk_frozen BK198.out 1
    have hfz12_2 := blk_frozen BK198.out 2
    have hfz12_3 := blk_frozen BK198.out 3
    have hcz13_0 : w5.cell? ⟨gb199, 0, none⟩ = some (.slice A1_0 l1_0.length c1_0) := (blk_cell BK199.out 0).trans rfl
    have hcz13_1 : w5.cell? ⟨gb199, 1, none⟩ = some (.int .i64 a1_1) := (blk_cell BK199.out 1).trans rfl
    have hcz13_2 : w5.cell? ⟨gb199, 2, none⟩ = some (.slice A1_2 l1_2.length c1_2) := (blk_cell BK199.out 2).trans rfl
    have hcz13_3 : w5.cell? ⟨gb199, 3, none⟩ = some (.int .u64 a1_3) := (blk_cell BK199.out 3).trans rfl
    have hfz13_0 := blk_frozen BK199.out 0
    have hfz13_1 := blk_frozen BK199.out 1
    have hfz13_2 := blk_frozen BK199.out 2
    have hfz13_3 := blk_frozen BK199.out 3
    go_wp2
    repeat (go_quiet (fail); try go_wp2)
    go_meet
    case rel => exact ⟨_, (true), zX, H', ⟨by first | omega | exact Nat.le_refl _⟩, ⟨zK BK198⟩, ⟨zK BK199⟩, ⟨zB2 HB GE198 GE199⟩⟩
  ·rw [if_neg c6] at H
   have c6b0 : ((l0_0.length : Int) == (l1_0.length : Int)) = false := beq_eq_false_iff_ne.mpr c6
   have c6b1 : ((l0_0.length : Int) != (l1_0.length : Int)) = true := bne_iff_ne.mpr c6
   have c6b2 : (l0_0.length == l1_0.length) = false := by first | simpa using c6 | (simp at c6 ⊢; omega)
   (first | rw [c6b0] | (simp only [i64_w, i32_w]; rw [c6b0]) | skip)
   have H' := Aside0.mk H
   clear H
   have hnb14 := NB198_199.out
   have hnc14 := NB199_198.out
   have hcz15_0 : w5.cell? ⟨gb198, 0, none⟩ = some (.slice A0_0 l0_0.length c0_0) := (blk_cell BK198.out 0).trans rfl
   have hcz15_1 : w5.cell? ⟨gb198, 1, none⟩ = some (.int .i64 a0_1) := (blk_cell BK198.out 1).trans rfl
   have hcz15_2 : w5.cell? ⟨gb198, 2, none⟩ = some (.slice A0_2 l0_2.length c0_2) := (blk_cell BK198.out 2).trans rfl
   have hcz15_3 : w5.cell? ⟨gb198, 3, none⟩ = some (.int .u64 a0_3) := (blk_cell BK198.out 3).trans rfl
   have hfz15_0 := blk_frozen BK198.out 0
   have hfz15_1 := blk_frozen BK198.out 1
   have hfz15_2 := blk_frozen BK198.out 2
   have hfz15_3 := blk_frozen BK198.out 3
   have hcz16_0 : w5.cell? ⟨gb199, 0, none⟩ = some (.slice A1_0 l1_0.length c1_0) := (blk_cell BK199.out 0).trans rfl
   have hcz16_1 : w5.cell? ⟨gb199, 1, none⟩ = some (.int .i64 a1_1) := (blk_cell BK199.out 1).trans rfl
   have hcz16_2 : w5.cell? ⟨gb199, 2, none⟩ = some (.slice A1_2 l1_2.length c1_2) := (blk_cell BK199.out 2).trans rfl
   have hcz16_3 : w5.cell? ⟨gb199, 3, none⟩ = some (.int .u64 a1_3) := (blk_cell BK199.out 3).trans rfl
   have hfz16_0 := blk_frozen BK199.out 0
   have hfz16_1 := blk_frozen BK199.out 1
   have hfz16_2 := blk_frozen BK199.out 2
   have hfz16_3 := blk_frozen BK199.out 3
   go_wp2
   repeat (go_quiet (fail); try go_wp2)
   go_meet
   case rel => exact ⟨_, (true), zX, H', ⟨by first | omega | exact Nat.le_refl _⟩, ⟨zK BK198⟩, ⟨zK BK199⟩, ⟨zB2 HB GE198 GE199⟩⟩
 case rest =>
  clear HC3
  obtain ⟨kq, x26_2, rfl, HA, HJ2, BK198, BK199, HB⟩ := hcut
  cases kq with
  | zero => exact absurd HA.out (by simp [proctorref20_Same.j0])
  | succ kj2 =>
   have H := HA.out
   clear HA
   simp only [proctorref20_Same.j0] at H
   by_cases c17 : x26_2 = true
   ·subst c17
    have H1 : (some false) = some r := by rw [if_pos rfl] at H; exact H
    clear H
    have H := H1
    clear H1
    obtain rfl := Option.some.inj H
    go_wp2
    repeat (go_quiet (fail); try go_wp2)
    go_ret
    exact ⟨zE, zB2 HB GE198 GE199⟩
   ·replace c17 := Bool.eq_false_iff.mpr c17
    subst c17
    have H1 : (proctorref20_Same.l0 kj2 0 l0_0 a0_1 l0_2 a0_3 l1_0 a1_1 l1_2 a1_3) = some r := by rw [if_neg (show ¬ (false = true) by decide)] at H; exact H
    clear H
    have H := H1
    clear H1
    have H' := Aside0.mk H
    clear H
    go_wp2
    repeat (go_quiet (fail); try go_wp2)
    go_loopg [5] kj2 (fun kq v5 w' => ∃ (x5_2 : Int), v5 = .int .i64 x5_2 ∧ Aside0 (proctorref20_Same.l0 kq x5_2 l0_0 a0_1 l0_2 a0_3 l1_0 a1_1 l1_2 a1_3 = some r) ∧ Aside0 (kq ≤ kj2) ∧ Aside0 (w'.heap[gb198]? = some (.cells #[(.slice A0_0 l0_0.length c0_0), .int .i64 a0_1, (.slice A0_2 l0_2.length c0_2), .int .u64 a0_3] 73 (0, 0))) ∧ Aside0 (w'.heap[gb199]? = some (.cells #[(.slice A1_0 l1_0.length c1_0), .int .i64 a1_1, (.slice A1_2 l1_2.length c1_2), .int .u64 a1_3] 73 (0, 0))) ∧ Aside0 (Below w.heap.size w w'))
    case atStart => exact ⟨(0), zX, H', ⟨Nat.le_refl _⟩, ⟨zK BK198⟩, ⟨zK BK199⟩, ⟨zB2 HB GE198 GE199⟩⟩
    case round =>
     clear H'
     obtain ⟨x5_2, rfl, HA, HK2, BK198, BK199, HB⟩ := hrel
     cases gk with
     | zero => exact absurd HA.out (by simp [proctorref20_Same.l0])
     | succ k2 =>
      have H := HA.out
      clear HA
      simp only [proctorref20_Same.l0] at H
      by_cases c18 : x5_2 < (l0_0.length : Int)
      ·rw [if_pos c18] at H
       have c18b0 : decide (x5_2 < (l0_0.length : Int)) = true := decide_eq_true c18
       clear c18
       by_cases c19 : 0 ≤ x5_2
       ·rw [if_pos c19] at H
        have c19b0 : decide (0 ≤ x5_2) = true := decide_eq_true c19
        clear c19
        by_cases c20 : x5_2 < (l1_0.length : Int)
        ·rw [if_pos c20] at H
         have c20b0 : decide (x5_2 < (l1_0.length : Int)) = true := decide_eq_true c20
         clear c20
         by_cases c21 : ((rd_T78 l0_0 x5_2).f0) = ((rd_T78 l1_0 x5_2).f0)
         ·rw [if_pos c21] at H
          have c21b0 : (((rd_T78 l0_0 x5_2).f0) == ((rd_T78 l1_0 x5_2).f0)) = true := beq_iff_eq.mpr c21
          have c21b1 : (((rd_T78 l0_0 x5_2).f0) != ((rd_T78 l1_0 x5_2).f0)) = false := bne_eq_false_iff_eq.mpr c21
          clear c21
          replace H := Option.bind_eq_some_iff.mp H
          obtain ⟨t204, A220, H⟩ := H
          replace H : (if t204 = true then (proctorref20_Same.l0 k2 (wrap64 (x5_2 + 1)) l0_0 a0_1 l0_2 a0_3 l1_0 a1_1 l1_2 a1_3) else (some false)) = some r := H
          have A22 := Aside0.mk A220
          clear A220
          by_cases c23 : t204 = true
          ·subst c23
           have H1 : (proctorref20_Same.l0 k2 (wrap64 (x5_2 + 1)) l0_0 a0_1 l0_2 a0_3 l1_0 a1_1 l1_2 a1_3) = some r := by rw [if_pos rfl] at H; exact H
           clear H
           have H := H1
           clear H1
           have H' := Aside0.mk H
           clear H
           have hnb24 := NB198_199.out
           have hnc24 := NB199_198.out
           have hcz25_0 : wr.cell? ⟨gb198, 0, none⟩ = some (.slice A0_0 l0_0.length c0_0) := (blk_cell BK198.out 0).trans rfl
           have hcz25_1 : wr.cell? ⟨gb198, 1, none⟩ = some (.int .i64 a0_1) := (blk_cell BK198.out 1).trans rfl
           have hcz25_2 : wr.cell? ⟨gb198, 2, none⟩ = some (.slice A0_2 l0_2.length c0_2) := (blk_cell BK198.out 2).trans rfl
           have hcz25_3 : wr.cell? ⟨gb198, 3, none⟩ = some (.int .u64 a0_3) := (blk_cell BK198.out 3).trans rfl
           have hfz25_0 := blk_frozen BK198.out 0
           have hfz25_1 := blk_frozen BK198.out 1
           have hfz25_2 := blk_frozen BK198.out 2
           have hfz25_3 := blk_frozen BK198.out 3
           have p200 : 0 ≤ (x5_2 : Int) := of_decide_eq_true zA
           have q200 : x5_2 < (l0_0.length : Int) := of_decide_eq_true zA
           obtain ⟨ad200, A200_1, c200_1, e200, hx200_0, hx200_1, hl200_1, hi200_1⟩ := at_T78 HR0_0.out x5_2 p200 q200
           cases e200
           replace hx200_0 := (HB.out.cell (World.block_lt_of_cell? w _ hx200_0)).trans hx200_0
           replace hx200_1 := (HB.out.cell (World.block_lt_of_cell? w _ hx200_1)).trans hx200_1
           have HR200_1 := Aside0.mk hi200_1
           have HC200_1 := Aside0.mk hl200_1
           clear hi200_1 hl200_1
           replace p200 := eq_true p200
           replace q200 := eq_true q200
           have hcz26_0 : wr.cell? ⟨gb199, 0, none⟩ = some (.slice A1_0 l1_0.length c1_0) := (blk_cell BK199.out 0).trans rfl
           have hcz26_1 : wr.cell? ⟨gb199, 1, none⟩ = some (.int .i64 a1_1) := (blk_cell BK199.out 1).trans rfl
           have hcz26_2 : wr.cell? ⟨gb199, 2, none⟩ = some (.slice A1_2 l1_2.length c1_2) := (blk_cell BK199.out 2).trans rfl
           have hcz26_3 : wr.cell? ⟨gb199, 3, none⟩ = some (.int .u64 a1_3) := (blk_cell BK199.out 3).trans rfl
           have hfz26_0 := blk_frozen BK199.out 0
           have hfz26_1 := blk_frozen BK199.out 1
           have hfz26_2 := blk_frozen BK199.out 2
           have hfz26_3 := blk_frozen BK199.out 3
           have p201 : 0 ≤ (x5_2 : Int) := of_decide_eq_true zA
           have q201 : x5_2 < (l1_0.length : Int) := of_decide_eq_true zA
           obtain ⟨ad201, A201_1, c201_1, e201, hx201_0, hx201_1, hl201_1, hi201_1⟩ := at_T78 HR1_0.out x5_2 p201 q201
           cases e201
           replace hx201_0 := (HB.out.cell (World.block_lt_of_cell? w _ hx201_0)).trans hx201_0
           replace hx201_1 := (HB.out.cell (World.block_lt_of_cell? w _ hx201_1)).trans hx201_1
           have HR201_1 := Aside0.mk hi201_1
           have HC201_1 := Aside0.mk hl201_1
           clear hi201_1 hl201_1
           replace p201 := eq_true p201
           replace q201 := eq_true q201
           have p202 : 0 ≤ (x5_2 : Int) := of_decide_eq_true zA
           have q202 : x5_2 < (l0_0.length : Int) := of_decide_eq_true zA
           obtain ⟨ad202, A202_1, c202_1, e202, hx202_0, hx202_1, hl202_1, hi202_1⟩ := at_T78 HR0_0.out x5_2 p202 q202
           obtain rfl : ad200 = ad202 := (by injection e202)
           replace hx202_0 := (HB.out.cell (World.block_lt_of_cell? w _ hx202_0)).trans hx202_0
           replace hx202_1 := (HB.out.cell (World.block_lt_of_cell? w _ hx202_1)).trans hx202_1
           have HR202_1 := Aside0.mk hi202_1
           have HC202_1 := Aside0.mk hl202_1
           clear hi202_1 hl202_1
           replace p202 := eq_true p202
           replace q202 := eq_true q202
           have ea_ := Option.some.inj (hx200_1.symm.trans hx202_1)
           injection ea_ with ea_ en_ ec_
           subst ea_
           subst ec_
           clear en_
           have p203 : 0 ≤ (x5_2 : Int) := of_decide_eq_true zA
           have q203 : x5_2 < (l1_0.length : Int) := of_decide_eq_true zA
           obtain ⟨ad203, A203_1, c203_1, e203, hx203_0, hx203_1, hl203_1, hi203_1⟩ := at_T78 HR1_0.out x5_2 p203 q203
           obtain rfl : ad201 = ad203 := (by injection e203)
           replace hx203_0 := (HB.out.cell (World.block_lt_of_cell? w _ hx203_0)).trans hx203_0
           replace hx203_1 := (HB.out.cell (World.block_lt_of_cell? w _ hx203_1)).trans hx203_1
           have HR203_1 := Aside0.mk hi203_1
           have HC203_1 := Aside0.mk hl203_1
           clear hi203_1 hl203_1
           replace p203 := eq_true p203
           replace q203 := eq_true q203
           have ea_ := Option.some.inj (hx201_1.symm.trans hx203_1)
           injection ea_ with ea_ en_ ec_
           subst ea_
           subst ec_
           clear en_
           go_wp2_with (first | (go_at_call 47; (with_reducible refine (proctorref01_Same.calls _ _ ((rd_T78 l0_0 x5_2).f1) _ _ ((rd_T78 l1_0 x5_2).f1) true _ ?side1 ?side2 ?side3 ?side4 A22.out).mono ?_); (case side1 => exact zY (Kd.C_below HR202_1.out HB.out)); (case side2 => exact HC202_1.out); (case side3 => exact zY (Kd.C_below HR203_1.out HB.out)); (case side4 => exact HC203_1.out); rintro e w' ⟨rfl, ⟨nd, rfl⟩⟩; (try first | exact ⟨rfl, _, World.drewN_drewN _ _ _⟩ | exact ⟨rfl, _, Eq.trans (World.drewN_drewN _ _ _) (congrArg (World.drewN _) (Nat.add_assoc _ _ _))⟩)))
           repeat (go_quiet (first | (go_at_call 47; (with_reducible refine (proctorref01_Same.calls _ _ ((rd_T78 l0_0 x5_2).f1) _ _ ((rd_T78 l1_0 x5_2).f1) true _ ?side1 ?side2 ?side3 ?side4 A22.out).mono ?_); (case side1 => exact zY (Kd.C_below HR202_1.out HB.out)); (case side2 => exact HC202_1.out); (case side3 => exact zY (Kd.C_below HR203_1.out HB.out)); (case side4 => exact HC203_1.out); rintro e w' ⟨rfl, ⟨nd, rfl⟩⟩; (try first | exact ⟨rfl, _, World.drewN_drewN _ _ _⟩ | exact ⟨rfl, _, Eq.trans (World.drewN_drewN _ _ _) (congrArg (World.drewN _) (Nat.add_assoc _ _ _))⟩))); try go_wp2_with (first | (go_at_call 47; (with_reducible refine (proctorref01_Same.calls _ _ ((rd_T78 l0_0 x5_2).f1) _ _ ((rd_T78 l1_0 x5_2).f1) true _ ?side1 ?side2 ?side3 ?side4 A22.out).mono ?_); (case side1 => exact zY (Kd.C_below HR202_1.out HB.out)); (case side2 => exact HC202_1.out); (case side3 => exact zY (Kd.C_below HR203_1.out HB.out)); (case side4 => exact HC203_1.out); rintro e w' ⟨rfl, ⟨nd, rfl⟩⟩; (try first | exact ⟨rfl, _, World.drewN_drewN _ _ _⟩ | exact ⟨rfl, _, Eq.trans (World.drewN_drewN _ _ _) (congrArg (World.drewN _) (Nat.add_assoc _ _ _))⟩))))
           go_roundg k2
           case measure => have := HJ2.out; have := HK2.out; omega
           case rel => exact ⟨(wrap64 (x5_2 + 1)), zX, H', ⟨by have := HJ2.out; have := HK2.out; omega⟩, ⟨zK BK198⟩, ⟨zK BK199⟩, ⟨zB2 HB GE198 GE199⟩⟩
          ·replace c23 := Bool.eq_false_iff.mpr c23
           subst c23
           have H1 : (some false) = some r := by rw [if_neg (show ¬ (false = true) by decide)] at H; exact H
           clear H
           have H := H1
           clear H1
           obtain rfl := Option.some.inj H
           have hnb27 := NB198_199.out
           have hnc27 := NB199_198.out
           have hcz28_0 : wr.cell? ⟨gb198, 0, none⟩ = some (.slice A0_0 l0_0.length c0_0) := (blk_cell BK198.out 0).trans rfl
           have hcz28_1 : wr.cell? ⟨gb198, 1, none⟩ = some (.int .i64 a0_1) := (blk_cell BK198.out 1).trans rfl
           have hcz28_2 : wr.cell? ⟨gb198, 2, none⟩ = some (.slice A0_2 l0_2.length c0_2) := (blk_cell BK198.out 2).trans rfl
           have hcz28_3 : wr.cell? ⟨gb198, 3, none⟩ = some (.int .u64 a0_3) := (blk_cell BK198.out 3).trans rfl
           have hfz28_0 := blk_frozen BK198.out 0
           have hfz28_1 := blk_frozen BK198.out 1
           have hfz28_2 := blk_frozen BK198.out 2
           have hfz28_3 := blk_frozen BK198.out 3
           have p200 : 0 ≤ (x5_2 : Int) := of_decide_eq_true zA
           have q200 : x5_2 < (l0_0.length : Int) := of_decide_eq_true zA
           obtain ⟨ad200, A200_1, c200_1, e200, hx200_0, hx200_1, hl200_1, hi200_1⟩ := at_T78 HR0_0.out x5_2 p200 q200
           cases e200
           replace hx200_0 := (HB.out.cell (World.block_lt_of_cell? w _ hx200_0)).trans hx200_0
           replace hx200_1 := (HB.out.cell (World.block_lt_of_cell? w _ hx200_1)).trans hx200_1
           have HR200_1 := Aside0.mk hi200_1
           have HC200_1 := Aside0.mk hl200_1
           clear hi200_1 hl200_1
           replace p200 := eq_true p200
           replace q200 := eq_true q200
           have hcz29_0 : wr.cell? ⟨gb199, 0, none⟩ = some (.slice A1_0 l1_0.length c1_0) := (blk_cell BK199.out 0).trans rfl
           have hcz29_1 : wr.cell? ⟨gb199, 1, none⟩ = some (.int .i64 a1_1) := (blk_cell BK199.out 1).trans rfl
           have hcz29_2 : wr.cell? ⟨gb199, 2, none⟩ = some (.slice A1_2 l1_2.length c1_2) := (blk_cell BK199.out 2).trans rfl
           have hcz29_3 : wr.cell? ⟨gb199, 3, none⟩ = some (.int .u64 a1_3) := (blk_cell BK199.out 3).trans rfl
           have hfz29_0 := blk_frozen BK199.out 0
           have hfz29_1 := blk_frozen BK199.out 1
           have hfz29_2 := blk_frozen BK199.out 2
           have hfz29_3 := blk_frozen BK199.out 3
           have p201 : 0 ≤ (x5_2 : Int) := of_decide_eq_true zA
           have q201 : x5_2 < (l1_0.length : Int) := of_decide_eq_true zA
           obtain ⟨ad201, A201_1, c201_1, e201, hx201_0, hx201_1, hl201_1, hi201_1⟩ := at_T78 HR1_0.out x5_2 p201 q201
           cases e201
           replace hx201_0 := (HB.out.cell (World.block_lt_of_cell? w _ hx201_0)).trans hx201_0
           replace hx201_1 := (HB.out.cell (World.block_lt_of_cell? w _ hx201_1)).trans hx201_1
           have HR201_1 := Aside0.mk hi201_1
           have HC201_1 := Aside0.mk hl201_1
           clear hi201_1 hl201_1
           replace p201 := eq_true p201
           replace q201 := eq_true q201
           have p202 : 0 ≤ (x5_2 : Int) := of_decide_eq_true zA
           have q202 : x5_2 < (l0_0.length : Int) := of_decide_eq_true zA
           obtain ⟨ad202, A202_1, c202_1, e202, hx202_0, hx202_1, hl202_1, hi202_1⟩ := at_T78 HR0_0.out x5_2 p202 q202
           obtain rfl : ad200 = ad202 := (by injection e202)
           replace hx202_0 := (HB.out.cell (World.block_lt_of_cell? w _ hx202_0)).trans hx202_0
           replace hx202_1 := (HB.out.cell (World.block_lt_of_cell? w _ hx202_1)).trans hx202_1
           have HR202_1 := Aside0.mk hi202_1
           have HC202_1 := Aside0.mk hl202_1
           clear hi202_1 hl202_1
           replace p202 := eq_true p202
           replace q202 := eq_true q202
           have ea_ := Option.some.inj (hx200_1.symm.trans hx202_1)
           injection ea_ with ea_ en_ ec_
           subst ea_
           subst ec_
           clear en_
           have p203 : 0 ≤ (x5_2 : Int) := of_decide_eq_true zA
           have q203 : x5_2 < (l1_0.length : Int) := of_decide_eq_true zA
           obtain ⟨ad203, A203_1, c203_1, e203, hx203_0, hx203_1, hl203_1, hi203_1⟩ := at_T78 HR1_0.out x5_2 p203 q203
           obtain rfl : ad201 = ad203 := (by injection e203)
           replace hx203_0 := (HB.out.cell (World.block_lt_of_cell? w _ hx203_0)).trans hx203_0
           replace hx203_1 := (HB.out.cell (World.block_lt_of_cell? w _ hx203_1)).trans hx203_1
           have HR203_1 := Aside0.mk hi203_1
           have HC203_1 := Aside0.mk hl203_1
           clear hi203_1 hl203_1
           replace p203 := eq_true p203
           replace q203 := eq_true q203
           have ea_ := Option.some.inj (hx201_1.symm.trans hx203_1)
           injection ea_ with ea_ en_ ec_
           subst ea_
           subst ec_
           clear en_
           go_wp2_with (first | (go_at_call 47; (with_reducible refine (proctorref01_Same.calls _ _ ((rd_T78 l0_0 x5_2).f1) _ _ ((rd_T78 l1_0 x5_2).f1) false _ ?side1 ?side2 ?side3 ?side4 A22.out).mono ?_); (case side1 => exact zY (Kd.C_below HR202_1.out HB.out)); (case side2 => exact HC202_1.out); (case side3 => exact zY (Kd.C_below HR203_1.out HB.out)); (case side4 => exact HC203_1.out); rintro e w' ⟨rfl, ⟨nd, rfl⟩⟩; (try first | exact ⟨rfl, _, World.drewN_drewN _ _ _⟩ | exact ⟨rfl, _, Eq.trans (World.drewN_drewN _ _ _) (congrArg (World.drewN _) (Nat.add_assoc _ _ _))⟩)))
           repeat (go_quiet (first | (go_at_call 47; (with_reducible refine (proctorref01_Same.calls _ _ ((rd_T78 l0_0 x5_2).f1) _ _ ((rd_T78 l1_0 x5_2).f1) false _ ?side1 ?side2 ?side3 ?side4 A22.out).mono ?_); (case side1 => exact zY (Kd.C_below HR202_1.out HB.out)); (case side2 => exact HC202_1.out); (case side3 => exact zY (Kd.C_below HR203_1.out HB.out)); (case side4 => exact HC203_1.out); rintro e w' ⟨rfl, ⟨nd, rfl⟩⟩; (try first | exact ⟨rfl, _, World.drewN_drewN _ _ _⟩ | exact ⟨rfl, _, Eq.trans (World.drewN_drewN _ _ _) (congrArg (World.drewN _) (Nat.add_assoc _ _ _))⟩))); try go_wp2_with (first | (go_at_call 47; (with_reducible refine (proctorref01_Same.calls _ _ ((rd_T78 l0_0 x5_2).f1) _ _ ((rd_T78 l1_0 x5_2).f1) false _ ?side1 ?side2 ?side3 ?side4 A22.out).mono ?_); (case side1 => exact zY (Kd.C_below HR202_1.out HB.out)); (case side2 => exact HC202_1.out); (case side3 => exact zY (Kd.C_below HR203_1.out HB.out)); (case side4 => exact HC203_1.out); rintro e w' ⟨rfl, ⟨nd, rfl⟩⟩; (try first | exact ⟨rfl, _, World.drewN_drewN _ _ _⟩ | exact ⟨rfl, _, Eq.trans (World.drewN_drewN _ _ _) (congrArg (World.drewN _) (Nat.add_assoc _ _ _))⟩))))
           go_ret
           exact ⟨zE, zB2 HB GE198 GE199⟩
         ·rw [if_neg c21] at H
          have c21b0 : (((rd_T78 l0_0 x5_2).f0) == ((rd_T78 l1_0 x5_2).f0)) = false := beq_eq_false_iff_ne.mpr c21
          have c21b1 : (((rd_T78 l0_0 x5_2).f0) != ((rd_T78 l1_0 x5_2).f0)) = true := bne_iff_ne.mpr c21
          obtain rfl := Option.some.inj H
          have hnb30 := NB198_199.out
          have hnc30 := NB199_198.out
          have hcz31_0 : wr.cell? ⟨gb198, 0, none⟩ = some (.slice A0_0 l0_0.length c0_0) := (blk_cell BK198.out 0).trans rfl
          have hcz31_1 : wr.cell? ⟨gb198, 1, none⟩ = some (.int .i64 a0_1) := (blk_cell BK198.out 1).trans rfl
          have hcz31_2 : wr.cell? ⟨gb198, 2, none⟩ = some (.slice A0_2 l0_2.length c0_2) := (blk_cell BK198.out 2).trans rfl
          have hcz31_3 : wr.cell? ⟨gb198, 3, none⟩ = some (.int .u64 a0_3) := (blk_cell BK198.out 3).trans rfl
          have hfz31_0 := blk_frozen BK198.out 0
          have hfz31_1 := blk_frozen BK198.out 1
          have hfz31_2 := blk_frozen BK198.out 2
          have hfz31_3 := blk_frozen BK198.out 3
          have p200 : 0 ≤ (x5_2 : Int) := of_decide_eq_true zA
          have q200 : x5_2 < (l0_0.length : Int) := of_decide_eq_true zA
          obtain ⟨ad200, A200_1, c200_1, e200, hx200_0, hx200_1, hl200_1, hi200_1⟩ := at_T78 HR0_0.out x5_2 p200 q200
          cases e200
          replace hx200_0 := (HB.out.cell (World.block_lt_of_cell? w _ hx200_0)).trans hx200_0
          replace hx200_1 := (HB.out.cell (World.block_lt_of_cell? w _ hx200_1)).trans hx200_1
          have HR200_1 := Aside0.mk hi200_1
          have HC200_1 := Aside0.mk hl200_1
          clear hi200_1 hl200_1
          replace p200 := eq_true p200
          replace q200 := eq_true q200
          have hcz32_0 : wr.cell? ⟨gb199, 0, none⟩ = some (.slice A1_0 l1_0.length c1_0) := (blk_cell BK199.out 0).trans rfl
          have hcz32_1 : wr.cell? ⟨gb199, 1, none⟩ = some (.int .i64 a1_1) := (blk_cell BK199.out 1).trans rfl
          have hcz32_2 : wr.cell? ⟨gb199, 2, none⟩ = some (.slice A1_2 l1_2.length c1_2) := (blk_cell BK199.out 2).trans rfl
          have hcz32_3 : wr.cell? ⟨gb199, 3, none⟩ = some (.int .u64 a1_3) := (blk_cell BK199.out 3).trans rfl
          have hfz32_0 := blk_frozen BK199.out 0
          have hfz32_1 := blk_frozen BK199.out 1
          have hfz32_2 := blk_frozen BK199.out 2
          have hfz32_3 := blk_frozen BK199.out 3
          have p201 : 0 ≤ (x5_2 : Int) := of_decide_eq_true zA
          have q201 : x5_2 < (l1_0.length : Int) := of_decide_eq_true zA
          obtain ⟨ad201, A201_1, c201_1, e201, hx201_0, hx201_1, hl201_1, hi201_1⟩ := at_T78 HR1_0.out x5_2 p201 q201
          cases e201
          replace hx201_0 := (HB.out.cell (World.block_lt_of_cell? w _ hx201_0)).trans hx201_0
          replace hx201_1 := (HB.out.cell (World.block_lt_of_cell? w _ hx201_1)).trans hx201_1
          have HR201_1 := Aside0.mk hi201_1
          have HC201_1 := Aside0.mk hl201_1
          clear hi201_1 hl201_1
          replace p201 := eq_true p201
          replace q201 := eq_true q201
          go_wp2
          repeat (go_quiet (fail); try go_wp2)
          go_ret
          exact ⟨zE, zB2 HB GE198 GE199⟩
        ·rw [if_neg c20] at H
         exact absurd H (by simp)
       ·rw [if_neg c19] at H
        exact absurd H (by simp)
      ·rw [if_neg c18] at H
       have c18b0 : decide (x5_2 < (l0_0.length : Int)) = false := decide_eq_false c18
       clear c18
       replace H := Option.bind_eq_some_iff.mp H
       obtain ⟨t205, A330, H⟩ := H
       replace H : (some t205) = some r := H
       have A33 := Aside0.mk A330
       clear A330
       obtain rfl := Option.some.inj H
       have hnb34 := NB198_199.out
       have hnc34 := NB199_198.out
       have hcz35_0 : wr.cell? ⟨gb198, 0, none⟩ = some (.slice A0_0 l0_0.length c0_0) := (blk_cell BK198.out 0).trans rfl
       have hcz35_1 : wr.cell? ⟨gb198, 1, none⟩ = some (.int .i64 a0_1) := (blk_cell BK198.out 1).trans rfl
       have hcz35_2 : wr.cell? ⟨gb198, 2, none⟩ = some (.slice A0_2 l0_2.length c0_2) := (blk_cell BK198.out 2).trans rfl
       have hcz35_3 : wr.cell? ⟨gb198, 3, none⟩ = some (.int .u64 a0_3) := (blk_cell BK198.out 3).trans rfl
       have hfz35_0 := blk_frozen BK198.out 0
       have hfz35_1 := blk_frozen BK198.out 1
       have hfz35_2 := blk_frozen BK198.out 2
       have hfz35_3 := blk_frozen BK198.out 3
       have hcz36_0 : wr.cell? ⟨gb199, 0, none⟩ = some (.slice A1_0 l1_0.length c1_0) := (blk_cell BK199.out 0).trans rfl
       have hcz36_1 : wr.cell? ⟨gb199, 1, none⟩ = some (.int .i64 a1_1) := (blk_cell BK199.out 1).trans rfl
       have hcz36_2 : wr.cell? ⟨gb199, 2, none⟩ = some (.slice A1_2 l1_2.length c1_2) := (blk_cell BK199.out 2).trans rfl
       have hcz36_3 : wr.cell? ⟨gb199, 3, none⟩ = some (.int .u64 a1_3) := (blk_cell BK199.out 3).trans rfl
       have hfz36_0 := blk_frozen BK199.out 0
       have hfz36_1 := blk_frozen BK199.out 1
       have hfz36_2 := blk_frozen BK199.out 2
       have hfz36_3 := blk_frozen BK199.out 3
       go_wp2_with (first | (go_at_call 39; (with_reducible refine (proctorref20_Lists.calls k2 _ _ l0_2 _ _ l1_2 t205 _ ?side1 ?side2 ?side3 ?side4 A33.out).mono ?_); (case side1 => exact zY (Kd.C_below HR0_2.out HB.out)); (case side2 => exact HC0_2.out); (case side3 => exact zY (Kd.C_below HR1_2.out HB.out)); (case side4 => exact HC1_2.out); rintro e w' ⟨rfl, ⟨nd, rfl⟩⟩; (try first | exact ⟨rfl, _, World.drewN_drewN _ _ _⟩ | exact ⟨rfl, _, Eq.trans (World.drewN_drewN _ _ _) (congrArg (World.drewN _) (Nat.add_assoc _ _ _))⟩)))
       repeat (go_quiet (first | (go_at_call 39; (with_reducible refine (proctorref20_Lists.calls k2 _ _ l0_2 _ _ l1_2 t205 _ ?side1 ?side2 ?side3 ?side4 A33.out).mono ?_); (case side1 => exact zY (Kd.C_below HR0_2.out HB.out)); (case side2 => exact HC0_2.out); (case side3 => exact zY (Kd.C_below HR1_2.out HB.out)); (case side4 => exact HC1_2.out); rintro e w' ⟨rfl, ⟨nd, rfl⟩⟩; (try first | exact ⟨rfl, _, World.drewN_drewN _ _ _⟩ | exact ⟨rfl, _, Eq.trans (World.drewN_drewN _ _ _) (congrArg (World.drewN _) (Nat.add_assoc _ _ _))⟩))); try go_wp2_with (first | (go_at_call 39; (with_reducible refine (proctorref20_Lists.calls k2 _ _ l0_2 _ _ l1_2 t205 _ ?side1 ?side2 ?side3 ?side4 A33.out).mono ?_); (case side1 => exact zY (Kd.C_below HR0_2.out HB.out)); (case side2 => exact HC0_2.out); (case side3 => exact zY (Kd.C_below HR1_2.out HB.out)); (case side4 => exact HC1_2.out); rintro e w' ⟨rfl, ⟨nd, rfl⟩⟩; (try first | exact ⟨rfl, _, World.drewN_drewN _ _ _⟩ | exact ⟨rfl, _, Eq.trans (World.drewN_drewN _ _ _) (congrArg (World.drewN _) (Nat.add_assoc _ _ _))⟩))))
       go_ret
       exact ⟨zE, zB2 HB GE198 GE199⟩
end Go.Proofs.Ytocphkfkdadhaaa.PRF
namespace Go.Proofs.Ytocphkfkdadhaaa.H
open Go.RowKit Go.Proofs.YtocphkfkdadhaaaW.PrintWords Go.Proofs.YtocphkfkdadhaaaW.PrintLast Go.Proofs.YtocphkfkdadhaaaW.PrintMore
abbrev kL : Kd (List Int) := Kd.slice 5 kB
abbrev kQ : Kd PRF.S78 := PRF.k78
theorem bclone_any (ws : List Int) (A : Option Addr) (c : Nat) (w : World) (hC : Kd.C kB w A ws.length ws) (hc : ws.length ≤ c) (hl : ws.length ≤ 1099511627776) :
 Calls Try.prog 130 #[.slice A ws.length c] w fun e w' => ∃ v, e = .returned v ∧ Own w.heap.size w w' [.row kB 5 v ws] := by
 have HC := Aside0.mk hC
 have H0 := Aside0.mk (Own.start w)
 have HL := Aside0.mk hl
 have hq := fun W => Lib.run_eql_slice_nil (P := Try.prog) W 74 5 A ws.length c 0 0 Try.underlying74
 obtain ⟨n, hn⟩ : ∃ n, n = ws.length := ⟨_, rfl⟩
 rcases A with _ | ad
 ·have h0 : ws = [] := by
   by_cases hp : 0 < ws.length
   ·obtain ⟨ad, he, _⟩ := hC.2.2 hp; cases he
   ·exact List.length_eq_zero_iff.1 (by omega)
  subst h0
  simp only [Option.isNone_none, List.length_nil] at hq ⊢
  clear hC hl hc hn
  go_enter Try.func130, Try.ntmps130
  go_wp2
  go_ret
  exact ⟨_, rfl, H0.out.null kB _⟩
 ·simp only [Option.isNone_some] at hq
  rw [← hn] at HC HL hc hq ⊢
  clear hC hl hn
  go_enter Try.func130, Try.ntmps130
  go_wp2_with (first
   | fail
   | ((with_reducible refine gate_dst (N := 5) rfl ?_); refine own_lit kB Flat_B H0.out 5 rfl (N := 5) rfl (xs := ([] : List Int)) (inner := (([] : List Int)).map (Value.int .u8)) ?hr5 (Kd.reps_scalar _) (by simp) ?_; (case hr5 => first | (go_simp; done) | (go_simp; rfl)); intro A1 c1 w1 H1 B1; replace H1 := Aside0.mk H1; replace B1 := Aside0.mk B1)
   | ((with_reducible refine gate_dst (N := 7) rfl ?_); (with_reducible refine gate_builtin (b := .append) (xs := #[.tmp 5, .tmp 6]) rfl ?_); refine own_append_row kB Flat_B H1.out 0 rfl rfl (.tmp 5) (.tmp 6) 74 (.int .u8 0) 1 rfl Try.underlying74 infoB rfl (by decide) (by decide) (ws) _ _ _ rfl rfl (Kd.C_below HC.out B1.out) ?_ ?_; (case _ => have := HL.out; simp only [List.length_nil]; omega); intro v2 w2 H2; replace H2 := Aside0.mk H2)
   )
  go_ret
  exact ⟨_, rfl, by have h := H2.out; rw [List.nil_append] at h; exact h⟩
theorem lclone_any (ws : List (List Int)) (A : Option Addr) (c : Nat) (wx w : World) (hC : Kd.C (shK kL wx) w A ws.length ws) (hc : ws.length ≤ c) (hl : ws.length ≤ 1099511627776) :
 Calls Try.prog 134 #[.slice A ws.length c] w fun e w' => ∃ v, e = .returned v ∧ Own w.heap.size w w' [.row (shK kL wx) 74 v ws] := by
 have HC := Aside0.mk hC
 have H0 := Aside0.mk (Own.start w)
 have HL := Aside0.mk hl
 have hq := fun W => Lib.run_eql_slice_nil (P := Try.prog) W 71 74 A ws.length c 0 0 Try.underlying71
 obtain ⟨n, hn⟩ : ∃ n, n = ws.length := ⟨_, rfl⟩
 rcases A with _ | ad
 ·have h0 : ws = [] := by
   by_cases hp : 0 < ws.length
   ·obtain ⟨ad, he, _⟩ := hC.2.2 hp; cases he
   ·exact List.length_eq_zero_iff.1 (by omega)
  subst h0
  simp only [Option.isNone_none, List.length_nil] at hq ⊢
  clear hC hl hc hn HC
  go_enter Try.func134, Try.ntmps134
  go_wp2
  go_ret
  exact ⟨_, rfl, H0.out.null (shK kL wx) _⟩
 ·simp only [Option.isNone_some] at hq
  rw [← hn] at HC HL hc hq ⊢
  clear hC hl hn
  go_enter Try.func134, Try.ntmps134
  go_wp2_with (first
   | fail
   | ((with_reducible refine gate_dst (N := 5) rfl ?_); refine own_lit (shK kL wx) (Flat_sh _ _) H0.out 74 rfl (N := 5) rfl (xs := []) (inner := []) ?hr5 (Reps.none _ _) (by simp) ?_; (case hr5 => first | (go_simp; done) | (go_simp; rfl)); intro A1 c1 w1 H1 B1; replace H1 := Aside0.mk H1; replace B1 := Aside0.mk B1)
   | ((with_reducible refine gate_dst (N := 7) rfl ?_); (with_reducible refine gate_builtin (b := .append) (xs := #[.tmp 5, .tmp 6]) rfl ?_); refine own_append_row (shK kL wx) (Flat_sh _ _) H1.out 0 rfl rfl (.tmp 5) (.tmp 6) 71 (.slice none 0 0) 24 rfl Try.underlying71 PRF.info74 rfl (show 0 < 1 by decide) (by decide) ws _ _ _ rfl rfl (Kd.C_below HC.out B1.out) ?_ ?_; (case _ => have := HL.out; simp only [List.length_nil]; omega); intro v2 w2 H2; replace H2 := Aside0.mk H2)
   )
  go_ret
  exact ⟨_, rfl, by have h := H2.out; rw [List.nil_append] at h; exact h⟩
theorem qclone_any (ws : List PRF.S78) (A : Option Addr) (c : Nat) (wx w : World) (hC : Kd.C (shK kQ wx) w A ws.length ws) (hc : ws.length ≤ c) (hl : ws.length ≤ 1099511627776) :
 Calls Try.prog 133 #[.slice A ws.length c] w fun e w' => ∃ v, e = .returned v ∧ Own w.heap.size w w' [.row (shK kQ wx) 78 v ws] := by
 have HC := Aside0.mk hC
 have H0 := Aside0.mk (Own.start w)
 have HL := Aside0.mk hl
 have hq := fun W => Lib.run_eql_slice_nil (P := Try.prog) W 70 78 A ws.length c 0 0 Try.underlying70
 obtain ⟨n, hn⟩ : ∃ n, n = ws.length := ⟨_, rfl⟩
 rcases A with _ | ad
 ·have h0 : ws = [] := by
   by_cases hp : 0 < ws.length
   ·obtain ⟨ad, he, _⟩ := hC.2.2 hp; cases he
   ·exact List.length_eq_zero_iff.1 (by omega)
  subst h0
  simp only [Option.isNone_none, List.length_nil] at hq ⊢
  clear hC hl hc hn HC
  go_enter Try.func133, Try.ntmps133
  go_wp2
  go_ret
  exact ⟨_, rfl, H0.out.null (shK kQ wx) _⟩
 ·simp only [Option.isNone_some] at hq
  rw [← hn] at HC HL hc hq ⊢
  clear hC hl hn
  go_enter Try.func133, Try.ntmps133
  go_wp2_with (first
   | fail
   | ((with_reducible refine gate_dst (N := 5) rfl ?_); refine own_lit (shK kQ wx) (Flat_sh _ _) H0.out 78 rfl (N := 5) rfl (xs := []) (inner := []) ?hr5 (Reps.none _ _) (by simp) ?_; (case hr5 => first | (go_simp; done) | (go_simp; rfl)); intro A1 c1 w1 H1 B1; replace H1 := Aside0.mk H1; replace B1 := Aside0.mk B1)
   | ((with_reducible refine gate_dst (N := 7) rfl ?_); (with_reducible refine gate_builtin (b := .append) (xs := #[.tmp 5, .tmp 6]) rfl ?_); refine own_append_row (shK kQ wx) (Flat_sh _ _) H1.out 0 rfl rfl (.tmp 5) (.tmp 6) 70 (.agg #[.int .i64 0, .slice none 0 0]) 32 rfl Try.underlying70 PRF.info78 rfl (show 0 < 2 by decide) (by decide) ws _ _ _ rfl rfl (Kd.C_below HC.out B1.out) ?_ ?_; (case _ => have := HL.out; simp only [List.length_nil]; omega); intro v2 w2 H2; replace H2 := Aside0.mk H2)
   )
  go_ret
  exact ⟨_, rfl, by have h := H2.out; rw [List.nil_append] at h; exact h⟩
def mixL {α : Type} (i : Nat) (q : List α) : List (Bool × α) := (q.take i).map (fun x => (true, x)) ++ (q.drop i).map (fun x => (false, x))
section
variable {α : Type} {q : List α}
theorem mixL_0 : mixL 0 q = q.map (fun x => (false, x)) := by simp [mixL]
theorem mixL_all : mixL q.length q = q.map (fun x => (true, x)) := by simp [mixL]
theorem mixL_len (i : Nat) : (mixL i q).length = q.length := by
 simp only [mixL, List.length_append, List.length_map, List.length_take, List.length_drop]
 omega
theorem mixL_get {i : Nat} (h : i < q.length) : (mixL i q)[i]? = some (false, q[i]) := by
 have h1 : ((q.take i).map (fun x => (true, x))).length = i := by rw [List.length_map, List.length_take]; omega
 rw [mixL, List.getElem?_append_right (by omega), h1, Nat.sub_self, List.getElem?_map, List.getElem?_drop, Nat.add_zero, List.getElem?_eq_getElem h]
 rfl
theorem mixL_set {i : Nat} (h : i < q.length) : (mixL i q).set i (true, q[i]) = mixL (i + 1) q := by
 have h1 : ((q.take i).map (fun x => (true, x))).length = i := by rw [List.length_map, List.length_take]; omega
 rw [mixL, List.set_append_right _ _ (by omega), h1, Nat.sub_self, List.drop_eq_getElem_cons h, List.map_cons, List.set_cons_zero, mixL, List.take_succ_eq_append_getElem h, List.map_append, List.append_assoc]
 rfl
end
theorem Own.cells_at {B : Nat} {w0 W : World} {L : List Item} {α : Type} {d : Kd α} (h : Own B w0 W L) (k : Nat) {g n cap e : Nat} {xs : List α} (hk : L[k]? = some (.row d e (.slice (some ⟨g, 0, none⟩) n cap) xs)) (i : Nat) {x : α} (hx : xs[i]? = some x) :
 ∃ cs, d.K W x cs ∧ ∀ (j : Nat) (u : Value), cs[j]? = some u → W.cell? ⟨g, i * d.sz + j, none⟩ = some u := by
 obtain ⟨S, _, hR⟩ := h.look k hk
 have hR : Kd.R d e W 0 S _ xs := hR
 obtain ⟨hn, cur, inner, hh, hc3, hc1, hc4, hr⟩ := R_block hR
 have hi : i < xs.length := (List.getElem?_eq_some_iff.1 hx).1
 have hm : i * d.sz + d.sz ≤ n * d.sz := by rw [← Nat.succ_mul]; exact Nat.mul_le_mul_right _ (by omega)
 refine ⟨_, d.K_of_M (hr.2 i x hx), fun j u hu => ?_⟩
 have hjs : j < d.sz := by
  have := (List.getElem?_eq_some_iff.1 hu).1
  rw [List.length_take] at this
  omega
 rw [List.getElem?_take_of_lt hjs, List.getElem?_drop, ← hc4, List.getElem?_take_of_lt (by omega), Array.getElem?_toList] at hu
 rw [blk_cell hh, hu]
def shM {α : Type} (d : Kd α) (w1 : World) (S : Nat → Prop) : Kd α where
 sz := d.sz
 E := []
 K := fun _ x cs => d.K w1 x cs
 M := fun _ _ _ x cs => d.M w1 0 S x cs
 K_len := d.K_len
 K_one := d.K_one
 K_below := fun _ h => h
 K_of_M := fun h => d.K_of_M h
 M_mono := fun _ h => h
 M_bound := fun h => h
 M_move := fun _ h => h
 M_lower := fun _ h => h
theorem shM_own {α : Type} {d : Kd α} {w1 W : World} {S : Nat → Prop} {e : Nat} {v : Value} {xs : List α} {ok : Nat → Prop} (h : (shM d w1 S).R e W 0 ok v xs) (hb : Below w1.heap.size w1 W) (hok : ∀ k, ok k → w1.heap.size ≤ k) : d.R e W 0 (fun k => ok k ∨ S k) v xs := by
 obtain ⟨h0, inner, ho, hr⟩ := h
 refine ⟨fun k hk => .inl (h0 k hk), inner, ho, Reps.imp_ hr fun x cs hx => ?_⟩
 have hx : d.M w1 0 S x cs := hx
 have hx := d.M_move (w1 := W) (fun k hk => hb.block k hk.2.2.1) (d.M_bound hx)
 refine d.M_mono (fun k hk => ⟨.inr hk.1, fun he => ?_⟩) hx
 have := hok k (h0 k he.symm)
 omega
section
variable {P : Program} {ops : Array Oper} {rest : List Oper} {o : Oper} {a : Act} {Q : Exit → Act → World → Prop} {Kc : Act → World → Prop} {B : Nat} {w0 W : World} {L : List Item} {α : Type}
theorem ld_at (hgd : o.guard = none) (ty : TypeId) (x : Operand) (ho : o.op = .load ty x) (p : Addr) (cs : List Value) (d : TypeDesc) (hx : a.eval x = .pointer (some p)) (hc : ∀ j v, cs[j]? = some v → W.cell? (p.add j) = some v) (hu : P.underlying ty = some d) (hd : d.isRow = true)
 (hi : (P.info? ty).map (·.size) = some cs.length) (h : wpList P ops Q rest (a.put o.dst (.agg cs.toArray)) W) : wpList P ops Q (o :: rest) a W :=
 wpList_plain hgd fun _ hK => by
  unfold Oper.wp execOp
  simp only [ho, hx, Instr.loadAt, Instr.sureAddr, Sem.run_bind, Sem.run_pure, Result.andThen_ok, run_loadVar_at (P := P) (W := W) p ty cs d hc hu (by cases d <;> first | rfl | cases hd) hi]
  exact hK _ _ h
theorem own_litM (d : Kd α) {it : Item} (H : Own B w0 W (it :: L)) (e : Nat) (hgd : o.guard = none) {N : Tmp} (hd : o.dst = some N) {xs : List α} {inner : List Value}
 (hrun : (execOp a.eval o).run P W = .ok (.value (.slice (some ⟨W.heap.size, 0, none⟩) xs.length xs.length)) (W.alloc (.cells inner.toArray e)))
 (hrep : ∀ S, it.P W S → Reps (d.M W 0 S) d.sz xs inner) (hm : xs.length ≤ 9223372036854775807)
 (h : ∀ A c w1, xs.length ≤ c → Own B w0 w1 (.row d e (.slice A xs.length c) xs :: L) → Below W.heap.size W w1 → wpList P ops Q rest (a.put o.dst (.slice A xs.length c)) w1) : wpList P ops Q (o :: rest) a W := by
 obtain ⟨S, hS, hP, hch⟩ := H.focus 0 rfl
 refine Kd.R_lit d 0 e hgd hd (ok := fun i => S i ∨ W.heap.size ≤ i) (okp := S) (w0 := W) hrun (hrep S hP) (fun k hk => .inl hk) (.inr (Nat.le_refl _)) ⟨rfl, rfl, rfl, Nat.le_refl _, fun _ _ => rfl⟩ (Nat.zero_le _) hm ?_
 intro v1 w1 hR1 hb hg _
 obtain ⟨A, c, rfl, hc, _⟩ := Kd.R_reads hR1
 refine h A c w1 hc (hch w1 (.row d e (.slice A xs.length c) xs) none hg (fun g hr => by cases hr) ?_) ⟨hg.os, hg.tape, hg.output, hg.size, fun k hk => hg.block k hk (by simp)⟩
 exact Kd.R_mono (Kd.R_bound hR1) (fun i hi => by rcases hi with ⟨hi | hi, h2, h3, _⟩; exact .inl hi; exact .inr ⟨hi, h3⟩)
theorem own_append_any (d : Kd α) (H : Own B w0 W L) (k : Nat) {v : Value} {xs : List α} {e : Nat} (hk : L[k]? = some (.row d e v xs)) (hgd : o.guard = none) (s x : Operand) (t : TypeId) (z : Value) (bytes : Nat)
 (ho : o.op = .call { callee := .builtin .append, args := #[s, x], argTypes := #[t, t] })
 (ht : P.underlying t = some (.slice e)) (hinfo : (P.info? e).map (fun i => (i.zero, i.size, i.bytes)) = some (some z, d.sz, bytes)) (hz : z.cells.size = d.sz) (hs0 : 0 < d.sz) (hb0 : 0 < bytes)
 (p : α) (cs : List Value) (hp : ∀ w, d.M w 0 (fun _ => False) p cs) (hs : a.eval s = v) (hx : a.eval x = .slice (some ⟨W.heap.size, 0, none⟩) 1 1) (hl : (xs.length + 1) * bytes ≤ 140737488355328)
 (h : ∀ v1 w1, Own B w0 w1 (L.set k (.row d e v1 (xs ++ [p]))) → wpList P ops Q rest (a.put o.dst v1) w1) :
 wpList P ops Q (o :: rest) a (W.alloc (.cells cs.toArray e)) := by
 obtain ⟨S, hS, hR, hch⟩ := H.focus k hk
 have hR : Kd.R d e W 0 S v xs := hR
 refine Kd.R_append d 0 hgd s x t e z bytes ho ht hinfo hz hs0 hb0 v xs p cs (fun i => S i ∨ W.heap.size ≤ i) (fun _ => False) hs hx (hp W) (fun _ hk => hk.elim) (fun i hi => .inr hi) (Kd.R_mono hR fun i hi => .inl hi) (w0 := W) ⟨rfl, rfl, rfl, Nat.le_refl _, fun _ _ => rfl⟩ (Nat.zero_le _) hl ?_
 intro v1 w1 hR1 _ hg _
 refine h v1 w1 (hch w1 (.row d e v1 (xs ++ [p])) v.ownBlock hg (fun g hr => hR.1 g hr) ?_)
 exact Kd.R_mono (Kd.R_bound hR1) (fun i hi => by rcases hi with ⟨hi | hi, h2, h3, _⟩; exact .inl hi; exact .inr ⟨hi, h3⟩)
end
section
variable {P : Program} {ops : Array Oper} {rest : List Oper} {o : Oper} {a : Act} {Q : Exit → Act → World → Prop} {B : Nat} {w0 W : World} {L : List Item}
theorem OB {N : Tmp} (H : Aside0 (Own B w0 W L)) (t : TypeId) (cs : Array Value) {x : Operand} (h : ∀ g w1, Aside0 (Own B w0 w1 (.blk g cs t :: L)) → Aside0 (Below W.heap.size W w1) → wpList P ops Q rest (a.put o.dst (.pointer (some ⟨g, 0, none⟩))) w1)
 (hd : o.dst = some N := by exact rfl) (hgd : o.guard = none := by exact rfl) (ho : o.op = .box t x := by exact rfl) (hx : a.eval x = .agg cs := by exact rfl) : wpList P ops Q (o :: rest) a W :=
 own_box H.out hgd hd ho (.agg cs) hx fun g w1 h1 h2 => h g w1 ⟨h1⟩ ⟨h2⟩
theorem OA {N : Tmp} (H : Aside0 (Own B w0 W L)) (t : TypeId) (cs : Array Value) (n : Nat) (h : ∀ g w1, Aside0 (Own B w0 w1 (.blk g cs t :: L)) → Aside0 (Below W.heap.size W w1) → wpList P ops Q rest (a.put o.dst (.pointer (some ⟨g, 0, none⟩))) w1)
 (hd : o.dst = some N := by exact rfl) (hgd : o.guard = none := by exact rfl) (ho : o.op = .alloc t := by exact rfl) (hi : (P.info? t).map (fun i => (i.zero, i.size)) = some (some (.agg cs), n) := by kernel_rfl) : wpList P ops Q (o :: rest) a W :=
 own_alloc H.out hgd hd ho cs n hi fun g w1 h1 h2 => h g w1 ⟨h1⟩ ⟨h2⟩
theorem OA1 {N : Tmp} (H : Aside0 (Own B w0 W L)) (t : TypeId) (z : Value) (h : ∀ g w1, Aside0 (Own B w0 w1 (.blk g #[z] t :: L)) → Aside0 (Below W.heap.size W w1) → wpList P ops Q rest (a.put o.dst (.pointer (some ⟨g, 0, none⟩))) w1)
 (hd : o.dst = some N := by exact rfl) (hgd : o.guard = none := by exact rfl) (ho : o.op = .alloc t := by exact rfl) (hz : z.cells = #[z] := by exact rfl) (hi : (P.info? t).map (fun i => (i.zero, i.size)) = some (some z, 1) := by kernel_rfl) : wpList P ops Q (o :: rest) a W :=
 own_alloc1 H.out hgd hd ho z hz hi fun g w1 h1 h2 => h g w1 ⟨h1⟩ ⟨h2⟩
theorem OS (X Y : Tmp) (H : Aside0 (Own B w0 W L)) (k g : Nat) (ty : TypeId) {cs : Array Value} (cells : Array Value) (n : Nat) (hn : Aside0 (Arr n cs)) (h1 : Aside0 (Arr n cells)) (h : ∀ w1, Aside0 (Own B w0 w1 (L.set k (.blk g cells ty))) → wpList P ops Q rest (a.put o.dst undef) w1)
 (ho : o.op = .store ty (.tmp X) (.tmp Y) := by exact rfl) (hgd : o.guard = none := by exact rfl) (hk : L[k]? = some (.blk g cs ty) := by exact rfl) (hx : a.eval (.tmp X) = .pointer (some ⟨g, 0, none⟩) := by exact rfl) (hy : a.eval (.tmp Y) = .agg cells := by exact rfl)
 (hi : (P.info? ty).map (·.size) = some n := by kernel_rfl) : wpList P ops Q (o :: rest) a W :=
 own_store H.out k g cs ty hk hgd _ _ ho cells hx hy n hn.out h1.out hi fun w1 h2 => h w1 ⟨h2⟩
theorem OL (X : Tmp) (H : Aside0 (Own B w0 W L)) (k g : Nat) (ty : TypeId) {cs : Array Value} {m : Nat} {el : TypeId} (hu : P.underlying ty = some (.array m el)) (n : Nat) (hn : Aside0 (Arr n cs)) (h : wpList P ops Q rest (a.put o.dst (.agg cs)) W)
 (hgd : o.guard = none := by exact rfl) (ho : o.op = .load ty (.tmp X) := by exact rfl) (hk : L[k]? = some (.blk g cs ty) := by exact rfl) (hx : a.eval (.tmp X) = .pointer (some ⟨g, 0, none⟩) := by exact rfl)
 (hi : (P.info? ty).map (·.size) = some n := by kernel_rfl) : wpList P ops Q (o :: rest) a W :=
 own_load H.out k g cs ty hk hgd _ ho hx hu n hn.out hi h
theorem OV (X : Tmp) (H : Aside0 (Own B w0 W L)) (k g : Nat) (ty : TypeId) {cs : Array Value} {d : TypeDesc} (hk : L[k]? = some (.blk g cs ty)) (hu : P.underlying ty = some d) (hi : (P.info? ty).map (·.size) = some cs.size) (h : wpList P ops Q rest (a.put o.dst (.agg cs)) W)
 (hgd : o.guard = none := by exact rfl) (ho : o.op = .load ty (.tmp X) := by exact rfl) (hx : a.eval (.tmp X) = .pointer (some ⟨g, 0, none⟩) := by exact rfl)
 (hA : isAggD d = true := by exact rfl) : wpList P ops Q (o :: rest) a W :=
 own_loadV H.out k g cs ty hk hgd _ ho d hx hu hA hi h
theorem GV (X : Tmp) (H : Aside0 (Own B w0 W L)) (k g : Nat) (ty : TypeId) {cs : Array Value} {d : TypeDesc} (hk : L[k]? = some (.blk g cs ty)) (hu : P.underlying ty = some d) (hi : (P.info? ty).map (·.size) = some cs.size) (h : wpList P ops Q rest (a.put o.dst (.agg cs)) W)
 (hw : Region.wanted o (yielded ops a.tmps) = true := by rfl) (ho : o.op = .load ty (.tmp X) := by exact rfl) (hx : a.eval (.tmp X) = .pointer (some ⟨g, 0, none⟩) := by exact rfl)
 (hA : isAggD d = true := by exact rfl) : wpList P ops Q (o :: rest) a W :=
 gate_guard hw (own_loadV (o := { o with guard := none }) H.out k g cs ty hk rfl _ ho d hx hu hA hi h)
theorem Gd (N : Tmp) (h : wpList P ops Q (o :: rest) a W) (hd : o.dst = some N := by with_reducible rfl) : wpList P ops Q (o :: rest) a W := h
theorem Gs (t : TypeId) (p : Tmp) {v : Operand} (h : wpList P ops Q (o :: rest) a W) (ho : o.op = .store t (.tmp p) v := by with_reducible rfl) : wpList P ops Q (o :: rest) a W := h
end
theorem RVt {fn : Func} {p u : Tmp} {ty : TypeId} {tmps : Array Value} {B : Nat} {w0 W : World} {L : List Item} (H : Aside0 (Own B w0 W L)) (k g : Nat) {cs : Array Value} {P : Program} {d : TypeDesc} {v : Value} (hu : P.underlying ty = some d) (h : fn.results = #[.cell p ty, .tmp u] := by exact rfl) (hk : L[k]? = some (.blk g cs ty) := by exact rfl)
 (hp : tmps.getD p undef = .pointer (some ⟨g, 0, none⟩) := by exact rfl) (hd : isAggD d = true := by exact rfl) (hi : (P.info? ty).map (·.size) = some cs.size := by kernel_rfl) (hv : tmps.getD u undef = v := by exact rfl) :
 (results fn tmps).run P W = .ok (.tuple #[.agg cs, v]) W := own_resultV_t h tmps H.out k g cs hk hp d hu hd hi v hv
section
variable {P : Program} {ops : Array Oper} {rest : List Oper} {o : Oper} {a : Act} {Q : Exit → Act → World → Prop} {B : Nat} {w0 W : World} {L : List Item}
theorem OT (X : Tmp) (ty : TypeId) (H : Aside0 (Own B w0 W L)) (k g : Nat) (t : TypeId) (off : Nat) (seg : List Value) (v : Value) {cs : Array Value} (cs' : Array Value) (hk : L[k]? = some (.blk g cs t)) (hl : off + seg.length ≤ cs.size) (hi : (P.info? ty).map (·.size) = some seg.length) (h1 : ∀ v ∈ seg, v.oneCell' = true) (hcs : (splice cs.toList off seg).toArray = cs')
 (h : ∀ w1, Aside0 (Own B w0 w1 (L.set k (.blk g cs' t))) → wpList P ops Q rest (a.put o.dst undef) w1) {y : Operand}
 (ho : o.op = .store ty (.tmp X) y := by exact rfl) (hgd : o.guard = none := by exact rfl) (hx : a.eval (.tmp X) = .pointer (some ⟨g, off, none⟩) := by exact rfl) (hy : a.eval y = v := by exact rfl) (hvc : v.cells = seg.toArray := by exact rfl) : wpList P ops Q (o :: rest) a W :=
 own_st H.out k g cs cs' t hk hgd ty _ _ ho off seg v hx hy hvc hl hi h1 hcs fun w1 h2 => h w1 ⟨h2⟩
theorem OT1 (X : Tmp) (ty : TypeId) (H : Aside0 (Own B w0 W L)) (k g : Nat) (t : TypeId) (off : Nat) (v : Value) {cs : Array Value} (cs' : Array Value) (hk : L[k]? = some (.blk g cs t)) (hl : off + [v].length ≤ cs.size)
 (h : ∀ w1, Aside0 (Own B w0 w1 (L.set k (.blk g cs' t))) → wpList P ops Q rest (a.put o.dst undef) w1) {y : Operand}
 (ho : o.op = .store ty (.tmp X) y := by exact rfl) (hgd : o.guard = none := by exact rfl) (hx : a.eval (.tmp X) = .pointer (some ⟨g, off, none⟩) := by exact rfl) (hy : a.eval y = v := by exact rfl) (hvc : v.cells = [v].toArray := by exact rfl) (hi : (P.info? ty).map (·.size) = some [v].length := by kernel_rfl) (h1 : ∀ u ∈ [v], u.oneCell' = true := by simp [Value.oneCell']) (hcs : (splice cs.toList off [v]).toArray = cs' := by exact rfl) : wpList P ops Q (o :: rest) a W :=
 own_st H.out k g cs cs' t hk hgd ty _ _ ho off [v] v hx hy hvc hl hi h1 hcs fun w1 h2 => h w1 ⟨h2⟩
theorem OD (X : Tmp) (ty : TypeId) (H : Aside0 (Own B w0 W L)) (k g off : Nat) (v : Value) {d : TypeDesc} (hu : P.underlying ty = some d) {cs : Array Value} {t : TypeId} (h : wpList P ops Q rest (a.put o.dst v) W)
 (hgd : o.guard = none := by exact rfl) (ho : o.op = .load ty (.tmp X) := by exact rfl) (hk : L[k]? = some (.blk g cs t) := by exact rfl) (hx : a.eval (.tmp X) = .pointer (some ⟨g, off, none⟩) := by exact rfl) (hl : cs[off]? = some v := by exact rfl) (hr : d.isRow = false := by exact rfl) : wpList P ops Q (o :: rest) a W :=
 own_ld1 H.out k g cs t hk hgd ty _ ho off v d hx hl hu hr h
theorem GD (X : Tmp) (ty : TypeId) (H : Aside0 (Own B w0 W L)) (k g off : Nat) (v : Value) {d : TypeDesc} (hu : P.underlying ty = some d) {cs : Array Value} {t : TypeId} (h : wpList P ops Q rest (a.put o.dst v) W)
 (hw : Region.wanted o (yielded ops a.tmps) = true := by rfl) (ho : o.op = .load ty (.tmp X) := by exact rfl) (hk : L[k]? = some (.blk g cs t) := by exact rfl) (hx : a.eval (.tmp X) = .pointer (some ⟨g, off, none⟩) := by exact rfl) (hl : cs[off]? = some v := by exact rfl) (hr : d.isRow = false := by exact rfl) : wpList P ops Q (o :: rest) a W :=
 gate_guard hw (own_ld1 (o := { o with guard := none }) H.out k g cs t hk rfl ty _ ho off v d hx hl hu hr h)
theorem OU (t : TypeId) (parts : List (Nat × Operand)) (cells : Array Value) {ps : List (Nat × Value)} (hps : parts.map (fun x => (x.1, a.eval x.2)) = ps) (hf : P.built t ps = some cells) (h : wpList P ops Q rest (a.put o.dst (.agg cells)) W)
 (hgd : o.guard = none := by exact rfl) (ho : o.op = .build t parts.toArray := by exact rfl) : wpList P ops Q (o :: rest) a W :=
 build_ hgd t parts ho ps hps cells hf h
end
end Go.Proofs.Ytocphkfkdadhaaa.H
