import Derived.Test.YtocphkfkdadhaaaZPk7
import Derived.Test.YtocphkfkdadhaaaZPk2
import Derived.Test.YtocphkfkdadhaaaZPk0
import Derived.Lib.SmallJoins
import Derived.ChangeSlices
import Derived.ChangeArms
import Derived.OpenShut
import Derived.SizedLaws
import Derived.ProofKit
namespace Go.Proofs.Ytocphkfkdadhaaa.H
open Go.RowKit Go.Proofs.YtocphkfkdadhaaaW.PrintWords Go.Proofs.YtocphkfkdadhaaaW.PrintLast Go.Proofs.YtocphkfkdadhaaaW.PrintMore
set_option linter.unusedVariables false
set_option linter.unusedSimpArgs false
theorem step_of_run {P : Program} {ops : Array Oper} {o : Oper} {a : Act} {Q : Exit → Act → World → Prop} {Kc : Act → World → Prop} {W W1 : World} {v : Value} (hw : Region.wanted o (yielded ops a.tmps) = true) (hrun : (execOp a.eval o).run P W = .ok (.value v) W1) (h : Kc (a.put o.dst v) W1) :
    if Region.wanted o (yielded ops a.tmps) = true then Oper.wp P o a W Kc Q else Kc (a.put o.dst undef) W := by
  rw [if_pos hw]
  unfold Oper.wp
  rw [hrun]
  exact h
theorem be8I_1 : be8I 1 = [0, 0, 0, 0, 0, 0, 0, 1] := by decide
theorem be8I_2 : be8I 2 = [0, 0, 0, 0, 0, 0, 0, 2] := by decide
theorem anch_root : memroot 1 [1, 2] = pairI (leafW 1) (leafW 2) := by
  show rootP 1 (leavesW [1, 2]) = _
  simp [rootP, leavesW]
theorem anch_yes : chkI (pairI (leafW 1) (leafW 2)) 1 2 [leafW 1] = true := by
  unfold chkI
  have : foldI 1 (leafW 2) [leafW 1] = pairI (leafW 1) (leafW 2) := rfl
  rw [this]; simp
theorem anch_no : chkI (pairI (leafW 1) (leafW 2)) 1 3 [leafW 1] = false := by
  decide +kernel
set_option maxHeartbeats 2000000 in
set_option maxRecDepth 100000 in
theorem anchored11 (w : World) : Calls Try.prog 18 #[] w fun e w' => e = .returned (.bool true) ∧ Below w.heap.size w w' := by
  have H0 := Aside0.mk (Own.start w)
  have R32 : Aside0 (Arr 32 (Array.replicate 32 (.int .u8 0))) := ⟨Arr_rep _ _ rfl⟩
  have HL1 := Aside0.mk (fun A c W hC hc => rleaf_any A c [0, 0, 0, 0, 0, 0, 0, 1] W (by unfold Byt; decide) hC hc (by decide))
  have HL2 := Aside0.mk (fun A c W hC hc => rleaf_any A c [0, 0, 0, 0, 0, 0, 0, 2] W (by unfold Byt; decide) hC hc (by decide))
  rw [← be8I_1] at HL1
  rw [← be8I_2] at HL2
  have e1 : leafI (be8I 1) = leafW 1 := rfl
  have e2 : leafI (be8I 2) = leafW 2 := rfl
  rw [e1] at HL1
  rw [e2] at HL2
  have HR : Aside0 (∀ A c W, Kd.C kU W A 2 [1, 2] → 2 ≤ c → Calls Try.prog 14 #[.slice A 2 c] W fun e w' => e = .returned (.tuple #[.agg (cellsB (pairI (leafW 1) (leafW 2))), .int .i64 0]) ∧ Below W.heap.size W w') := ⟨fun A c W hC hc => by
    have h := memroot_yes 1 (by decide) [1, 2] rfl (by unfold Wrd; decide) A c hc W hC
    rw [anch_root] at h
    exact h⟩
  have ha : Hsh (leafW 1) := Hsh_leaf 1
  have hb : Hsh (leafW 2) := Hsh_leaf 2
  have hr : Hsh (pairI (leafW 1) (leafW 2)) := Hsh_pair _ _
  have hps : Hshs [leafW 1] := by intro x hx; rw [List.mem_singleton.1 hx]; exact ha
  have HP := Aside0.mk (fun W => rpair_any (leafW 1) (leafW 2) ha.1 hb.1 ha.2 hb.2 W)
  have HY : Aside0 (∀ A c W, Kd.C kH W A 1 [leafW 1] → 1 ≤ c → Calls Try.prog 16 #[.agg (cellsB (pairI (leafW 1) (leafW 2))), .int .u64 1, .int .u64 2, .slice A 1 c] W fun e w' => e = .returned (.bool true) ∧ Below W.heap.size W w') := ⟨fun A c W hC hc => by
    have h := memcheck_any (pairI (leafW 1) (leafW 2)) 1 2 [leafW 1] (by decide) (by decide) hr hps A c hc W hC
    rw [anch_yes] at h
    exact h⟩
  have HN : Aside0 (∀ A c W, Kd.C kH W A 1 [leafW 1] → 1 ≤ c → Calls Try.prog 16 #[.agg (cellsB (pairI (leafW 1) (leafW 2))), .int .u64 1, .int .u64 3, .slice A 1 c] W fun e w' => e = .returned (.bool false) ∧ Below W.heap.size W w') := ⟨fun A c W hC hc => by
    have h := memcheck_any (pairI (leafW 1) (leafW 2)) 1 3 [leafW 1] (by decide) (by decide) hr hps A c hc W hC
    rw [anch_no] at h
    exact h⟩
  have HH := Aside0.mk (And.intro ha (And.intro hb hr))
  have HA := Aside0.mk (Arr_B ha.1)
  have HB := Aside0.mk (Arr_B hb.1)
  have HRA := Aside0.mk (Arr_B hr.1)
  have hl8 : (be8I 1).length = 8 := rfl
  have hl9 : (be8I 2).length = 8 := rfl
  rw [hl8] at HL1
  rw [hl9] at HL2
  rw [be8I_1] at HL1
  rw [be8I_2] at HL2
  clear e1 e2 ha hb hr hps hl8 hl9
  generalize leafW 1 = la at *
  generalize leafW 2 = lb at *
  generalize pairI la lb = r at *
  go_enter Try.func18, Try.ntmps18
  go_wp2_with (first
    | fail
    | ((with_reducible refine gate_dst (N := 5) rfl ?_); refine own_lit kB Flat_B H0.out 5 rfl (N := 5) rfl (xs := [0, 0, 0, 0, 0, 0, 0, 1]) (inner := ([0, 0, 0, 0, 0, 0, 0, 1]).map (Value.int .u8)) ?hr5 (Kd.reps_scalar _) (by simp) ?_; (case hr5 => first | (go_simp; done) | (go_simp; rfl)); intro A5 c5 w5 H5 B5; replace H5 := Aside0.mk H5; replace B5 := Aside0.mk B5)
    )
  refine (HL1.out A5 c5 w5 (H5.out.C_of 0 rfl) (by obtain ⟨A', c', he, hc', _⟩ := H5.out.reads 0 rfl; injection he with e1 e2 e3; subst e3; exact hc')).mono ?_
  rintro e w6 ⟨rfl, hB6⟩
  have H6 := Aside0.mk (H5.out.step hB6)
  clear hB6
  go_wp2_with (first
    | fail
    | ((with_reducible refine gate_dst (N := 7) rfl ?_); refine own_lit kB Flat_B H6.out 5 rfl (N := 7) rfl (xs := [0, 0, 0, 0, 0, 0, 0, 2]) (inner := ([0, 0, 0, 0, 0, 0, 0, 2]).map (Value.int .u8)) ?hr7 (Kd.reps_scalar _) (by simp) ?_; (case hr7 => first | (go_simp; done) | (go_simp; rfl)); intro A7 c7 w7 H7 B7; replace H7 := Aside0.mk H7; replace B7 := Aside0.mk B7)
    )
  refine (HL2.out A7 c7 w7 (H7.out.C_of 0 rfl) (by obtain ⟨A', c', he, hc', _⟩ := H7.out.reads 0 rfl; injection he with e1 e2 e3; subst e3; exact hc')).mono ?_
  rintro e w8 ⟨rfl, hB8⟩
  have H8 := Aside0.mk ((H7.out.step hB8).erase 0)
  clear hB8
  go_wp2_with (first
    | fail
    | ((with_reducible refine gate_dst (N := 1) rfl ?_); refine own_alloc H8.out rfl (N := 1) rfl (t := 25) rfl (Array.replicate 32 (.int .u8 0)) 32 (by kernel_rfl) ?_; intro g1 w9 H9 B9; replace H9 := Aside0.mk H9; replace B9 := Aside0.mk B9)
    | ((with_reducible refine gate_dst (N := 2) rfl ?_); refine own_alloc H9.out rfl (N := 2) rfl (t := 25) rfl (Array.replicate 32 (.int .u8 0)) 32 (by kernel_rfl) ?_; intro g2 w10 H10 B10; replace H10 := Aside0.mk H10; replace B10 := Aside0.mk B10)
    | ((with_reducible refine own_store H10.out 1 g1 _ 25 rfl rfl (.tmp 1) (.tmp 6) rfl (cellsB la) ?_ ?_ 32 R32.out HA.out (by kernel_rfl) ?_); (case _ => rfl); (case _ => rfl); intro w11 H11; replace H11 := Aside0.mk H11)
    | ((with_reducible refine own_store H11.out 0 g2 _ 25 rfl rfl (.tmp 2) (.tmp 8) rfl (cellsB lb) ?_ ?_ 32 R32.out HB.out (by kernel_rfl) ?_); (case _ => rfl); (case _ => rfl); intro w12 H12; replace H12 := Aside0.mk H12)
    | ((with_reducible refine gate_dst (N := 10) rfl ?_); refine own_lit kU Flat_U H12.out 23 rfl (N := 10) rfl (xs := ([1, 2] : List Int)) (inner := (([1, 2] : List Int)).map (Value.int .u64)) ?hr10 (Kd.reps_scalar _) (by simp) ?_; (case hr10 => first | (go_simp; done) | (go_simp; rfl)); intro A13 c13 w13 H13 B13; replace H13 := Aside0.mk H13; replace B13 := Aside0.mk B13)
    )
  refine (HR.out A13 c13 w13 (H13.out.C_of 0 rfl) (by obtain ⟨A', c', he, hc', _⟩ := H13.out.reads 0 rfl; injection he with e1 e2 e3; subst e3; exact hc')).mono ?_
  rintro e w14 ⟨rfl, hB14⟩
  have H14 := Aside0.mk ((H13.out.step hB14).erase 0)
  clear hB14
  go_wp2_with (first
    | fail
    | ((with_reducible refine gate_dst (N := 3) rfl ?_); refine own_alloc H14.out rfl (N := 3) rfl (t := 25) rfl (Array.replicate 32 (.int .u8 0)) 32 (by kernel_rfl) ?_; intro g3 w15 H15 B15; replace H15 := Aside0.mk H15; replace B15 := Aside0.mk B15)
    | ((with_reducible refine own_store H15.out 0 g3 _ 25 rfl rfl (.tmp 3) (.tmp 12) rfl (cellsB r) ?_ ?_ 32 R32.out HRA.out (by kernel_rfl) ?_); (case _ => rfl); (case _ => rfl); intro w16 H16; replace H16 := Aside0.mk H16)
    )
  have hhp := Try.underlying25
  have HS : Aside0 (∀ W L, Own w.heap.size w W (.blk g3 (cellsB r) 25 :: .blk g2 (cellsB lb) 25 :: .blk g1 (cellsB la) 25 :: L) → W.heap[g3]? = some (.cells (cellsB r) 25 (0, 0)) ∧ W.heap[g2]? = some (.cells (cellsB lb) 25 (0, 0)) ∧ W.heap[g1]? = some (.cells (cellsB la) 25 (0, 0))) := ⟨fun W L h => ⟨h.get 0 rfl, h.get 1 rfl, h.get 2 rfl⟩⟩
  have HZ : Aside0 (∀ xs : List Int, Hsh xs → (Try.prog.info? 25).map (·.size) = some (cellsB xs).size) := ⟨fun xs h => by rw [(Arr_B h.1).1]; kernel_rfl⟩
  refine wp_region_held_drew (S := (fun W => W.heap[g3]? = some (.cells (cellsB r) 25 (0, 0)) ∧ W.heap[g2]? = some (.cells (cellsB lb) 25 (0, 0)) ∧ W.heap[g1]? = some (.cells (cellsB la) 25 (0, 0)))) (by kernel_rfl) ?_ (fun hHeld => ?_)
  · exact HS.out _ _ H16.out.drew
  refine wpAnyH_take (i := 0) (oi := { dst := some 14, op := Go.Op.move (Go.Operand.tmp 4), type := 29, pos := "law.go:17", after := #[], guard := none }) (v := ?_) rfl (by kernel_rfl) (by kernel_rfl) (by kernel_rfl) (fun _ _ _ h => h) (Or.inl ⟨by rfl, ?_⟩) (by assumption) ?_
  rotate_left
  · intro wS hSw; (try dsimp only at hSw); go_simp; (try with_reducible rfl)
  try simp only [Act.put, List.setIfInBounds_toArray, List.set_cons_zero, List.set_cons_succ]
  refine wpAnyH_take (i := 1) (oi := { dst := some 15, op := Go.Op.binOp Go.BinOp.eql 29 (Go.Operand.tmp 14) (Go.Operand.const (Go.Value.int Go.IntKind.i64 0)) 29, type := 4, pos := "law.go:17", after := #[{ on := 0, ground := Go.Ground.data }], guard := none }) (v := ?_) rfl (by kernel_rfl) (by kernel_rfl) (by kernel_rfl) (fun _ _ _ h => h) (Or.inl ⟨by rfl, ?_⟩) (by assumption) ?_
  rotate_left
  · intro wS hSw; (try dsimp only at hSw); go_simp; (try with_reducible rfl)
  try simp only [Act.put, List.setIfInBounds_toArray, List.set_cons_zero, List.set_cons_succ]
  refine wpAnyH_take (i := 2) (oi := { dst := some 16, op := Go.Op.move (Go.Operand.tmp 15), type := 4, pos := "law.go:17", after := #[{ on := 1, ground := Go.Ground.data }], guard := none }) (v := ?_) rfl (by kernel_rfl) (by kernel_rfl) (by kernel_rfl) (fun _ _ _ h => h) (Or.inl ⟨by rfl, ?_⟩) (by assumption) ?_
  rotate_left
  · intro wS hSw; (try dsimp only at hSw); go_simp; (try with_reducible rfl)
  try simp only [Act.put, List.setIfInBounds_toArray, List.set_cons_zero, List.set_cons_succ]
  refine wpAnyH_take (i := 3) (oi := { dst := some 17, op := Go.Op.load 25 (Go.Operand.tmp 3), type := 25, pos := "law.go:17", after := #[{ on := 2, ground := Go.Ground.guard }], guard := some (2, true) }) (v := .agg (cellsB r)) rfl (by kernel_rfl) (by kernel_rfl) (by kernel_rfl) (fun _ _ _ h => h) (yif_loadV (by rfl) 25 (.tmp 3) rfl g3 _ rfl (fun W h => h.1) _ hhp rfl (HZ.out r HH.out.2.2)) (by assumption) ?_
  try simp only [Act.put, List.setIfInBounds_toArray, List.set_cons_zero, List.set_cons_succ]
  refine wpAnyH_take (i := 4) (oi := { dst := some 18, op := Go.Op.load 25 (Go.Operand.tmp 1), type := 25, pos := "law.go:17", after := #[{ on := 2, ground := Go.Ground.guard }], guard := some (2, true) }) (v := .agg (cellsB la)) rfl (by kernel_rfl) (by kernel_rfl) (by kernel_rfl) (fun _ _ _ h => h) (yif_loadV (by rfl) 25 (.tmp 1) rfl g1 _ rfl (fun W h => h.2.2) _ hhp rfl (HZ.out la HH.out.1)) (by assumption) ?_
  try simp only [Act.put, List.setIfInBounds_toArray, List.set_cons_zero, List.set_cons_succ]
  refine wpAnyH_take (i := 5) (oi := { dst := some 19, op := Go.Op.load 25 (Go.Operand.tmp 2), type := 25, pos := "law.go:17", after := #[{ on := 2, ground := Go.Ground.guard }], guard := some (2, true) }) (v := .agg (cellsB lb)) rfl (by kernel_rfl) (by kernel_rfl) (by kernel_rfl) (fun _ _ _ h => h) (yif_loadV (by rfl) 25 (.tmp 2) rfl g2 _ rfl (fun W h => h.2.1) _ hhp rfl (HZ.out lb HH.out.2.1)) (by assumption) ?_
  try simp only [Act.put, List.setIfInBounds_toArray, List.set_cons_zero, List.set_cons_succ]
  refine wpAnyH_ready (rs := [6]) (by kernel_rfl) (by simp) ?_
  refine AllReadyH.cons (o := { dst := some 20, op := Go.Op.call { callee := Go.Callee.value (Go.Operand.func 66), args := #[Go.Operand.tmp 18, Go.Operand.tmp 19], argTypes := #[25, 25] }, type := 25, pos := "law.go:17", after := #[{ on := 4, ground := Go.Ground.data }, { on := 5, ground := Go.Ground.data }, { on := 2, ground := Go.Ground.chain }, { on := 2, ground := Go.Ground.guard }], guard := some (2, true) }) rfl (fun K hK => ?_) AllReadyH.nil
  go_simp
  refine (HP.out _).mono ?_
  rintro e w20 ⟨rfl, hB20⟩
  have H20 := Aside0.mk (H16.out.drew.step hB20)
  clear hB20
  go_wp2_with fail
  refine hK.out _ _ ?_ (fun hHeld => ?_)
  · exact HS.out _ _ H20.out
  clear hK K
  try simp only [Act.put, List.setIfInBounds_toArray, List.set_cons_zero, List.set_cons_succ]
  refine wpAnyH_take (i := 7) (oi := { dst := some 21, op := Go.Op.binOp Go.BinOp.eql 25 (Go.Operand.tmp 17) (Go.Operand.tmp 20) 25, type := 4, pos := "law.go:17", after := #[{ on := 3, ground := Go.Ground.data }, { on := 6, ground := Go.Ground.data }, { on := 2, ground := Go.Ground.guard }], guard := some (2, true) }) (v := .bool true) rfl (by kernel_rfl) (by kernel_rfl) (by kernel_rfl) (fun _ _ _ h => h) (yif_eqb true (by rfl) 25 _ (.tmp 17) (.tmp 20) rfl r r rfl rfl Try.underlying25 Try.underlying5 size1B guardH HH.out.2.2.1 HH.out.2.2.1 (beq_self_eq_true r)) (by assumption) ?_
  try simp only [Act.put, List.setIfInBounds_toArray, List.set_cons_zero, List.set_cons_succ]
  refine wpAnyH_take (i := 8) (oi := { dst := some 22, op := Go.Op.pick (Go.Operand.tmp 16) (Go.Operand.tmp 21) (Go.Operand.const (Go.Value.bool false)), type := 4, pos := "law.go:17", after := #[{ on := 2, ground := Go.Ground.data }, { on := 7, ground := Go.Ground.data }], guard := none }) (v := ?_) rfl (by kernel_rfl) (by kernel_rfl) (by kernel_rfl) (fun _ _ _ h => h) (Or.inl ⟨by rfl, ?_⟩) (by assumption) ?_
  rotate_left
  · intro wS hSw; (try dsimp only at hSw); go_simp; (try with_reducible rfl)
  try simp only [Act.put, List.setIfInBounds_toArray, List.set_cons_zero, List.set_cons_succ]
  refine wpAnyH_take (i := 9) (oi := { dst := some 23, op := Go.Op.move (Go.Operand.tmp 22), type := 4, pos := "law.go:17", after := #[{ on := 8, ground := Go.Ground.data }, { on := 6, ground := Go.Ground.chain }], guard := none }) (v := ?_) rfl (by kernel_rfl) (by kernel_rfl) (by kernel_rfl) (fun _ _ _ h => h) (Or.inl ⟨by rfl, ?_⟩) (by assumption) ?_
  rotate_left
  · intro wS hSw; (try dsimp only at hSw); go_simp; (try with_reducible rfl)
  try simp only [Act.put, List.setIfInBounds_toArray, List.set_cons_zero, List.set_cons_succ]
  refine wpAnyH_take (i := 10) (oi := { dst := some 24, op := Go.Op.load 25 (Go.Operand.tmp 3), type := 25, pos := "law.go:17", after := #[{ on := 9, ground := Go.Ground.guard }], guard := some (9, true) }) (v := .agg (cellsB r)) rfl (by kernel_rfl) (by kernel_rfl) (by kernel_rfl) (fun _ _ _ h => h) (yif_loadV (by rfl) 25 (.tmp 3) rfl g3 _ rfl (fun W h => h.1) _ hhp rfl (HZ.out r HH.out.2.2)) (by assumption) ?_
  try simp only [Act.put, List.setIfInBounds_toArray, List.set_cons_zero, List.set_cons_succ]
  refine wpAnyH_take (i := 11) (oi := { dst := some 25, op := Go.Op.load 25 (Go.Operand.tmp 1), type := 25, pos := "law.go:17", after := #[{ on := 9, ground := Go.Ground.guard }], guard := some (9, true) }) (v := .agg (cellsB la)) rfl (by kernel_rfl) (by kernel_rfl) (by kernel_rfl) (fun _ _ _ h => h) (yif_loadV (by rfl) 25 (.tmp 1) rfl g1 _ rfl (fun W h => h.2.2) _ hhp rfl (HZ.out la HH.out.1)) (by assumption) ?_
  try simp only [Act.put, List.setIfInBounds_toArray, List.set_cons_zero, List.set_cons_succ]
  refine wpAnyH_ready (rs := [12]) (by kernel_rfl) (by simp) ?_
  refine AllReadyH.cons (o := { dst := some 26, op := Go.Op.buildSlice 26 1 #[(0, Go.Operand.tmp 25)], type := 26, pos := "law.go:17", after := #[{ on := 11, ground := Go.Ground.data }, { on := 9, ground := Go.Ground.guard }], guard := some (9, true) }) rfl (fun K hK => ?_) AllReadyH.nil
  refine step_of_run (by rfl) (lit_H_run (.tmp 25) rfl la rfl HH.out.1.1) ?_
  have H22 := Aside0.mk ((H20.out.lit kH Flat_H 25 [la] (la.map (Value.int .u8)) (reps_H1 _ la HH.out.1.1) (by simp)))
  have K22 := Aside0.mk (And.intro (H22.out.get 1 rfl) (And.intro (H22.out.get 2 rfl) (H22.out.get 3 rfl)))
  refine hK.out _ _ ?_ (fun hHeld => ?_)
  · exact K22.out
  clear hK K
  try simp only [Act.put, List.setIfInBounds_toArray, List.set_cons_zero, List.set_cons_succ]
  refine wpAnyH_ready (rs := [13]) (by kernel_rfl) (by simp) ?_
  refine AllReadyH.cons (o := { dst := some 27, op := Go.Op.call { callee := Go.Callee.value (Go.Operand.func 16), args := #[Go.Operand.tmp 24, Go.Operand.const (Go.Value.int Go.IntKind.u64 1), Go.Operand.const (Go.Value.int Go.IntKind.u64 2), Go.Operand.tmp 26], argTypes := #[25, 23, 23, 26] }, type := 4, pos := "law.go:17", after := #[{ on := 10, ground := Go.Ground.data }, { on := 12, ground := Go.Ground.data }, { on := 9, ground := Go.Ground.chain }, { on := 9, ground := Go.Ground.guard }], guard := some (9, true) }) rfl (fun K hK => ?_) AllReadyH.nil
  go_simp
  refine (HY.out _ _ _ (H22.out.C_of 0 rfl) (Nat.le_refl _)).mono ?_
  rintro e w23 ⟨rfl, hB23⟩
  have H23 := Aside0.mk ((H22.out.step hB23).erase 0)
  clear hB23
  go_wp2_with fail
  refine hK.out _ _ ?_ (fun hHeld => ?_)
  · exact HS.out _ _ H23.out
  clear hK K
  try simp only [Act.put, List.setIfInBounds_toArray, List.set_cons_zero, List.set_cons_succ]
  refine wpAnyH_take (i := 14) (oi := { dst := some 28, op := Go.Op.pick (Go.Operand.tmp 23) (Go.Operand.tmp 27) (Go.Operand.const (Go.Value.bool false)), type := 4, pos := "law.go:17", after := #[{ on := 9, ground := Go.Ground.data }, { on := 13, ground := Go.Ground.data }], guard := none }) (v := ?_) rfl (by kernel_rfl) (by kernel_rfl) (by kernel_rfl) (fun _ _ _ h => h) (Or.inl ⟨by rfl, ?_⟩) (by assumption) ?_
  rotate_left
  · intro wS hSw; (try dsimp only at hSw); go_simp; (try with_reducible rfl)
  try simp only [Act.put, List.setIfInBounds_toArray, List.set_cons_zero, List.set_cons_succ]
  refine wpAnyH_take (i := 15) (oi := { dst := some 29, op := Go.Op.move (Go.Operand.tmp 28), type := 4, pos := "law.go:17", after := #[{ on := 14, ground := Go.Ground.data }, { on := 13, ground := Go.Ground.chain }], guard := none }) (v := ?_) rfl (by kernel_rfl) (by kernel_rfl) (by kernel_rfl) (fun _ _ _ h => h) (Or.inl ⟨by rfl, ?_⟩) (by assumption) ?_
  rotate_left
  · intro wS hSw; (try dsimp only at hSw); go_simp; (try with_reducible rfl)
  try simp only [Act.put, List.setIfInBounds_toArray, List.set_cons_zero, List.set_cons_succ]
  refine wpAnyH_take (i := 16) (oi := { dst := some 30, op := Go.Op.load 25 (Go.Operand.tmp 3), type := 25, pos := "law.go:17", after := #[{ on := 15, ground := Go.Ground.guard }], guard := some (15, true) }) (v := .agg (cellsB r)) rfl (by kernel_rfl) (by kernel_rfl) (by kernel_rfl) (fun _ _ _ h => h) (yif_loadV (by rfl) 25 (.tmp 3) rfl g3 _ rfl (fun W h => h.1) _ hhp rfl (HZ.out r HH.out.2.2)) (by assumption) ?_
  try simp only [Act.put, List.setIfInBounds_toArray, List.set_cons_zero, List.set_cons_succ]
  refine wpAnyH_take (i := 17) (oi := { dst := some 31, op := Go.Op.load 25 (Go.Operand.tmp 1), type := 25, pos := "law.go:17", after := #[{ on := 15, ground := Go.Ground.guard }], guard := some (15, true) }) (v := .agg (cellsB la)) rfl (by kernel_rfl) (by kernel_rfl) (by kernel_rfl) (fun _ _ _ h => h) (yif_loadV (by rfl) 25 (.tmp 1) rfl g1 _ rfl (fun W h => h.2.2) _ hhp rfl (HZ.out la HH.out.1)) (by assumption) ?_
  try simp only [Act.put, List.setIfInBounds_toArray, List.set_cons_zero, List.set_cons_succ]
  refine wpAnyH_ready (rs := [18]) (by kernel_rfl) (by simp) ?_
  refine AllReadyH.cons (o := { dst := some 32, op := Go.Op.buildSlice 26 1 #[(0, Go.Operand.tmp 31)], type := 26, pos := "law.go:17", after := #[{ on := 17, ground := Go.Ground.data }, { on := 15, ground := Go.Ground.guard }], guard := some (15, true) }) rfl (fun K hK => ?_) AllReadyH.nil
  refine step_of_run (by rfl) (lit_H_run (.tmp 31) rfl la rfl HH.out.1.1) ?_
  have H32 := Aside0.mk ((H23.out.lit kH Flat_H 25 [la] (la.map (Value.int .u8)) (reps_H1 _ la HH.out.1.1) (by simp)))
  have K32 := Aside0.mk (And.intro (H32.out.get 1 rfl) (And.intro (H32.out.get 2 rfl) (H32.out.get 3 rfl)))
  refine hK.out _ _ ?_ (fun hHeld => ?_)
  · exact K32.out
  clear hK K
  try simp only [Act.put, List.setIfInBounds_toArray, List.set_cons_zero, List.set_cons_succ]
  refine wpAnyH_ready (rs := [19]) (by kernel_rfl) (by simp) ?_
  refine AllReadyH.cons (o := { dst := some 33, op := Go.Op.call { callee := Go.Callee.value (Go.Operand.func 16), args := #[Go.Operand.tmp 30, Go.Operand.const (Go.Value.int Go.IntKind.u64 1), Go.Operand.const (Go.Value.int Go.IntKind.u64 3), Go.Operand.tmp 32], argTypes := #[25, 23, 23, 26] }, type := 4, pos := "law.go:17", after := #[{ on := 16, ground := Go.Ground.data }, { on := 18, ground := Go.Ground.data }, { on := 15, ground := Go.Ground.chain }, { on := 15, ground := Go.Ground.guard }], guard := some (15, true) }) rfl (fun K hK => ?_) AllReadyH.nil
  go_simp
  refine (HN.out _ _ _ (H32.out.C_of 0 rfl) (Nat.le_refl _)).mono ?_
  rintro e w33 ⟨rfl, hB33⟩
  have H33 := Aside0.mk ((H32.out.step hB33).erase 0)
  clear hB33
  go_wp2_with fail
  refine hK.out _ _ ?_ (fun hHeld => ?_)
  · exact HS.out _ _ H33.out
  clear hK K
  try simp only [Act.put, List.setIfInBounds_toArray, List.set_cons_zero, List.set_cons_succ]
  refine wpAnyH_take (i := 20) (oi := { dst := some 34, op := Go.Op.unOp Go.UnOp.not 4 (Go.Operand.tmp 33), type := 4, pos := "law.go:17", after := #[{ on := 19, ground := Go.Ground.data }, { on := 15, ground := Go.Ground.guard }], guard := some (15, true) }) (v := ?_) rfl (by kernel_rfl) (by kernel_rfl) (by kernel_rfl) (fun _ _ _ h => h) (Or.inl ⟨by rfl, ?_⟩) (by assumption) ?_
  rotate_left
  · intro wS hSw; (try dsimp only at hSw); go_simp; (try with_reducible rfl)
  try simp only [Act.put, List.setIfInBounds_toArray, List.set_cons_zero, List.set_cons_succ]
  refine wpAnyH_take (i := 21) (oi := { dst := some 35, op := Go.Op.pick (Go.Operand.tmp 29) (Go.Operand.tmp 34) (Go.Operand.const (Go.Value.bool false)), type := 4, pos := "law.go:17", after := #[{ on := 15, ground := Go.Ground.data }, { on := 20, ground := Go.Ground.data }], guard := none }) (v := ?_) rfl (by kernel_rfl) (by kernel_rfl) (by kernel_rfl) (fun _ _ _ h => h) (Or.inl ⟨by rfl, ?_⟩) (by assumption) ?_
  rotate_left
  · intro wS hSw; (try dsimp only at hSw); go_simp; (try with_reducible rfl)
  try simp only [Act.put, List.setIfInBounds_toArray, List.set_cons_zero, List.set_cons_succ]
  refine wpAnyH_take (i := 22) (oi := { dst := some 0, op := Go.Op.assign (Go.Operand.tmp 35), type := 4, pos := "law.go:17", after := #[{ on := 21, ground := Go.Ground.data }, { on := 19, ground := Go.Ground.chain }, { on := 0, ground := Go.Ground.phase }, { on := 1, ground := Go.Ground.phase }, { on := 2, ground := Go.Ground.phase }, { on := 3, ground := Go.Ground.phase }, { on := 4, ground := Go.Ground.phase }, { on := 5, ground := Go.Ground.phase }, { on := 6, ground := Go.Ground.phase }, { on := 7, ground := Go.Ground.phase }, { on := 8, ground := Go.Ground.phase }, { on := 9, ground := Go.Ground.phase }, { on := 10, ground := Go.Ground.phase }, { on := 11, ground := Go.Ground.phase }, { on := 12, ground := Go.Ground.phase }, { on := 13, ground := Go.Ground.phase }, { on := 14, ground := Go.Ground.phase }, { on := 15, ground := Go.Ground.phase }, { on := 16, ground := Go.Ground.phase }, { on := 17, ground := Go.Ground.phase }, { on := 18, ground := Go.Ground.phase }, { on := 19, ground := Go.Ground.phase }, { on := 20, ground := Go.Ground.phase }, { on := 21, ground := Go.Ground.phase }], guard := none }) (v := ?_) rfl (by kernel_rfl) (by kernel_rfl) (by kernel_rfl) (fun _ _ _ h => h) (Or.inl ⟨by rfl, ?_⟩) (by assumption) ?_
  rotate_left
  · intro wS hSw; (try dsimp only at hSw); go_simp; (try with_reducible rfl)
  try simp only [Act.put, List.setIfInBounds_toArray, List.set_cons_zero, List.set_cons_succ]
  refine wpAnyH_done (by kernel_rfl) ?_ _
  clear hHeld
  go_wp2_with fail
  go_ret
  exact ⟨rfl, H33.out.below⟩
end Go.Proofs.Ytocphkfkdadhaaa.H

namespace Go.Proofs.Ytocphkfkdadhaaa.H
open Go.RowKit Go.Proofs.YtocphkfkdadhaaaW.PrintWords Go.Proofs.YtocphkfkdadhaaaW.PrintLast Go.Proofs.YtocphkfkdadhaaaW.PrintMore
open Go.ChangeShapes Go.WideShapes Go.ChangeAt
set_option linter.unusedVariables false
set_option linter.unusedSimpArgs false
theorem choose_list {α : Type} (Q : Nat → α → Prop) : ∀ n : Nat, (∀ i, i < n → ∃ y, Q i y) → ∃ xs : List α, xs.length = n ∧ ∀ i p, xs[i]? = some p → Q i p
  | 0, _ => ⟨[], rfl, fun i p h => by simp at h⟩
  | n + 1, h => by
    obtain ⟨xs, hl, hx⟩ := choose_list Q n (fun i hi => h i (by omega))
    obtain ⟨y, hy⟩ := h n (by omega)
    refine ⟨xs ++ [y], by rw [List.length_append, hl]; rfl, fun i p hp => ?_⟩
    by_cases hi : i < xs.length
    · rw [List.getElem?_append_left hi] at hp
      exact hx i p hp
    · rw [List.getElem?_append_right (by omega)] at hp
      by_cases h0 : i - xs.length = 0
      · rw [h0] at hp
        simp at hp
        subst hp
        rw [show i = n by omega]
        exact hy
      · rw [List.getElem?_eq_none (by simp; omega)] at hp
        cases hp
def Opens {α : Type} (T : TypeId) (d : Kd α) (ok : α → Prop) : Prop :=
  ∀ {H : Type} {enc : TypeId × Value → H} {W : World} {fuel : Nat} {cs : List Value} {x : DataW H × List MemPlace}, DataW.trod enc Try.prog W 0 (fun _ => true) true fuel T cs = some x → ∃ y, d.K W y cs ∧ ok y
theorem opens_int {T : TypeId} {k : IntKind} (hT : Try.prog.underlying T = some (.int k)) : Opens T (Kd.int k) (fun n => (Lit.int k n).wf = true) := by
  intro H enc W fuel cs x h
  obtain ⟨n, e, _, w⟩ := DataW.trod_int hT h
  exact ⟨n, e, w⟩
theorem opens_row {α : Type} {T e : TypeId} {d : Kd α} {ok : α → Prop} (hT : Try.prog.underlying T = some (.slice e)) (hs : Try.prog.cellsOf e = d.sz) (he : Opens e d ok)
    {H : Type} {enc : TypeId × Value → H} {W : World} {fuel : Nat} {cs : List Value} {x : DataW H × List MemPlace} (h : DataW.trod enc Try.prog W 0 (fun _ => true) true fuel T cs = some x) :
    ∃ A l c, cs = [.slice A l.length c] ∧ l.length ≤ c ∧ d.C W A l.length l ∧ (∀ y ∈ l, ok y) ∧ ((l = [] ∧ x.1 = .nil) ∨ ∃ es rs : List (DataW H), x.1 = .slice es rs ∧ es.length = l.length) := by
  rcases DataW.trod_slice hT h with ⟨hc2, hx⟩ | ⟨a, len, cap, elems, rest, m, hm, hc2, hx, _, hlc, hcm, hle, hel, _, _⟩
  · exact ⟨none, [], 0, hc2, Nat.le_refl _, Kd.C_nil _ _, by simp, .inl ⟨rfl, by rw [hx]⟩⟩
  · rw [hs] at hel
    have each : ∀ i, i < len → ∃ y : α, (∃ c, c.length = d.sz ∧ d.K W y c ∧ ∀ j u, c[j]? = some u → W.cell? (a.add (i * d.sz + j)) = some u) ∧ ok y := by
      intro i hi
      have h3 := hel i hi
      rw [List.getElem?_eq_getElem (by omega), Option.bind_eq_some_iff] at h3
      obtain ⟨c, hc, ht⟩ := h3
      obtain ⟨y, hK, hBy⟩ := he ht
      obtain ⟨_, hcl, hcc⟩ := World.cells?_some hc
      refine ⟨y, ⟨c, hcl, hK, fun j u hj => ?_⟩, hBy⟩
      have hj3 : j < d.sz := by have := (List.getElem?_eq_some_iff.1 hj).1; omega
      rw [← hj, ← hcc j hj3, Addr.add_add]
    obtain ⟨ys, hyl, hys⟩ := choose_list _ len each
    subst hyl
    refine ⟨some a, ys, cap, hc2, hlc, ⟨rfl, ?_, fun _ => ⟨a, rfl, fun j p hj => (hys j p hj).1⟩⟩, ?_, .inr ⟨elems.map (·.1), rest.map (·.1), by rw [hx], by rw [List.length_map]; exact hle⟩⟩
    · have : maxLen ≤ 9223372036854775807 := by decide
      show ys.length ≤ 9223372036854775807
      omega
    · intro y hy
      obtain ⟨i, hi⟩ := List.getElem?_of_mem hy
      exact (hys i y hi).2
theorem opens_slice {α : Type} {T e : TypeId} {d : Kd α} {ok : α → Prop} (hT : Try.prog.underlying T = some (.slice e)) (hs : Try.prog.cellsOf e = d.sz) (he : Opens e d ok) : Opens T (Kd.slice e d) (fun l => ∀ y ∈ l, ok y) := by
  intro H enc W fuel cs x h
  obtain ⟨A, l, c, h1, h2, h3, h4, _⟩ := opens_row hT hs he h
  exact ⟨l, ⟨A, c, h1, h2, h3⟩, h4⟩
def kA (n : Nat) (k : IntKind) : Kd (List Int) where
  sz := n
  E := []
  K := fun _ x cs => x.length = n ∧ cs = x.map (Value.int k)
  M := fun _ _ _ x cs => x.length = n ∧ cs = x.map (Value.int k)
  K_len := fun h => by rw [h.2, List.length_map, h.1]
  K_one := fun h u hu => by
    rw [h.2] at hu
    obtain ⟨x, _, rfl⟩ := List.mem_map.1 hu
    rfl
  K_below := fun _ h => h
  K_of_M := fun h => h
  M_mono := fun _ h => h
  M_bound := fun h => h
  M_move := fun _ h => h
  M_lower := fun _ h => h
theorem opens_arr {T e : TypeId} {n : Nat} {k : IntKind} (hT : Try.prog.underlying T = some (.array n e)) (he : Try.prog.underlying e = some (.int k)) (hs : Try.prog.cellsOf e = 1) (hn : Try.prog.cellsOf T = n) : Opens T (kA n k) (fun l => l.length = n ∧ ∀ y ∈ l, (Lit.int k y).wf = true) := by
  intro H enc W fuel cs x h
  obtain ⟨xs, m, _, _, hl, hlen, hel⟩ := DataW.trod_array hT h
  rw [hn] at hl
  rw [hs] at hel
  have each : ∀ i, i < n → ∃ y : Int, cs[i]? = some (.int k y) ∧ (Lit.int k y).wf = true := by
    intro i hi
    have h3 := hel i hi
    rw [List.getElem?_eq_getElem (by omega), Nat.mul_one] at h3
    obtain ⟨y, e1, _, w⟩ := DataW.trod_int he h3
    refine ⟨y, ?_, w⟩
    have h4 : ((cs.drop i).take 1)[0]? = some (.int k y) := by rw [e1]; rfl
    rw [List.getElem?_take, if_pos (by decide), List.getElem?_drop, Nat.add_zero] at h4
    exact h4
  obtain ⟨ys, hyl, hys⟩ := choose_list _ n each
  refine ⟨ys, ⟨hyl, ?_⟩, hyl, fun y hy => ?_⟩
  · refine List.ext_getElem? fun i => ?_
    by_cases hi : i < n
    · have h5 : ys[i]? = some ys[i] := List.getElem?_eq_getElem (by omega)
      rw [(hys i _ h5).1, List.getElem?_map, h5]
      rfl
    · rw [List.getElem?_eq_none (by omega), List.getElem?_eq_none (by rw [List.length_map]; omega)]
  · obtain ⟨i, hi⟩ := List.getElem?_of_mem hy
    exact (hys i y hi).2
theorem opens_H {T : TypeId} {e : TypeId} (hT : Try.prog.underlying T = some (.array 32 e)) (he : Try.prog.underlying e = some (.int .u8)) (hs : Try.prog.cellsOf e = 1) (hn : Try.prog.cellsOf T = 32) : Opens T kH (fun l => l.length = 32 ∧ ∀ y ∈ l, (Lit.int .u8 y).wf = true) :=
  fun h => opens_arr hT he hs hn h
noncomputable def offs : List TypeId → Nat → Nat
  | [] => fun _ => 0
  | t :: ts => fun i => match i with
    | 0 => 0
    | i + 1 => Try.prog.cellsOf t + offs ts i
def Many {α : Type} (ts : List TypeId) (d : Kd α) (ok : α → Prop) : Prop :=
  ∀ {H : Type} {enc : TypeId × Value → H} {W : World} {n : Nat} {cs : List Value}, cs.length = d.sz → (∀ i t, ts[i]? = some t → ∃ x : DataW H × List MemPlace, DataW.trod enc Try.prog W 0 (fun _ => true) true n t ((cs.drop (offs ts i)).take (Try.prog.cellsOf t)) = some x) → ∃ y, d.K W y cs ∧ ok y
theorem many_one {α : Type} {T : TypeId} {d : Kd α} {ok : α → Prop} (h : Opens T d ok) (hs : Try.prog.cellsOf T = d.sz) : Many [T] d ok := by
  intro H enc W n cs hl hf
  obtain ⟨x, hx⟩ := hf 0 T rfl
  rw [show offs [T] 0 = 0 from rfl, List.drop_zero, List.take_of_length_le (by omega)] at hx
  exact h hx
theorem many_cons {α β : Type} {T : TypeId} {ts : List TypeId} {a : Kd α} {b : Kd β} {ok1 : α → Prop} {ok2 : β → Prop} (h : Opens T a ok1) (hs : Try.prog.cellsOf T = a.sz) (hm : Many ts b ok2) : Many (T :: ts) (Kd.pair a b) (fun y => ok1 y.1 ∧ ok2 y.2) := by
  intro H enc W n cs hl hf
  have hl' : cs.length = a.sz + b.sz := hl
  obtain ⟨x, hx⟩ := hf 0 T rfl
  rw [show offs (T :: ts) 0 = 0 from rfl, List.drop_zero, hs] at hx
  obtain ⟨y1, hK1, ho1⟩ := h hx
  obtain ⟨y2, hK2, ho2⟩ := hm (cs := cs.drop a.sz) (by rw [List.length_drop]; omega) (fun i t ht => by
    obtain ⟨x, hx⟩ := hf (i + 1) t (by simpa using ht)
    refine ⟨x, ?_⟩
    rw [show offs (T :: ts) (i + 1) = Try.prog.cellsOf T + offs ts i from rfl, hs, ← List.drop_drop] at hx
    exact hx)
  exact ⟨(y1, y2), ⟨cs.take a.sz, cs.drop a.sz, (List.take_append_drop _ _).symm, hK1, hK2⟩, ho1, ho2⟩
theorem opens_struct {α : Type} {T : TypeId} {fs : Array Field} {ts : List TypeId} {d : Kd α} {ok : α → Prop} (hT : Try.prog.underlying T = some (.struct fs)) (hm : Many ts d ok) (hsz : Try.prog.cellsOf T = d.sz)
    (hts : (List.range ts.length).map (fun i => (fs[i]?).map fun f => (f.type, f.offset)) = (List.range ts.length).map (fun i => (ts[i]?).map fun t => (t, offs ts i))) : Opens T d ok := by
  intro H enc W fuel cs x h
  obtain ⟨xs, n, hfu, _, hl, hlen, hf⟩ := DataW.trod_struct hT h
  refine hm (H := H) (enc := enc) (W := W) (n := n) (by rw [hl, hsz]) (fun i t ht => ?_)
  have hi := (List.getElem?_eq_some_iff.1 ht).1
  have h1 := congrArg (fun l => l[i]?) hts
  simp only [List.getElem?_map, List.getElem?_range hi, Option.map_some, ht] at h1
  have h2 := Option.some.inj h1
  obtain ⟨f, hfe, hfo⟩ := Option.map_eq_some_iff.1 h2
  simp only [Prod.mk.injEq] at hfo
  have h3 := hf i f hfe
  have hfi : i < fs.size := by
    have := (Array.getElem?_eq_some_iff.1 hfe).1
    exact this
  rw [List.getElem?_eq_getElem (by omega)] at h3
  rw [hfo.1, hfo.2] at h3
  exact ⟨_, h3⟩
set_option maxRecDepth 100000 in
theorem open_agg {α : Type} {T : TypeId} {fs : Array Field} {d : Kd α} {ok : α → Prop} (hT : Try.prog.underlying T = some (.struct fs)) (ho : Opens T d ok) {H : Type} {enc : TypeId × Value → H} {W : World} {r : Reach} {b0 : Nat} {v : Value} {x : DataW H} {p : List MemPlace}
    (hv : Value.okWide Try.prog W r b0 T v) (h : DataW.Trod enc Try.prog W 0 (fun _ => true) true T v x p) : ∃ (cs : Array Value) (y : α), v = .agg cs ∧ d.K W y cs.toList ∧ ok y := by
  obtain ⟨cs, rfl, hsz⟩ := okWide_struct hT hv
  obtain ⟨fuel, hf⟩ := h
  obtain ⟨y, hK, hB⟩ := ho hf
  exact ⟨cs, y, rfl, hK, hB⟩
set_option maxRecDepth 100000 in
theorem open_row {α : Type} {T e : TypeId} {d : Kd α} {ok : α → Prop} (hT : Try.prog.underlying T = some (.slice e)) (hs : Try.prog.cellsOf e = d.sz) (ho : Opens e d ok) {H : Type} {enc : TypeId × Value → H} {W : World} {r : Reach} {b0 : Nat} {v : Value} {x : DataW H} {p : List MemPlace}
    (hv : Value.okWide Try.prog W r b0 T v) (h : DataW.Trod enc Try.prog W 0 (fun _ => true) true T v x p) {ts : List TypeId} {ds : List (DataW H)} {j : Nat} (hsz : (DataW.weightsEach Try.prog ts ds).all (· ≤ reachBytes) = true) (ht : ts[j]? = some T) (hd : ds[j]? = some x) :
    ∃ (A : Option Addr) (l : List α) (c : Nat), v = .slice A l.length c ∧ l.length ≤ c ∧ d.C W A l.length l ∧ (∀ y ∈ l, ok y) ∧ l.length * Try.prog.bytesOf e ≤ 140737488351232 := by
  obtain ⟨a, len, cap, rfl⟩ := okWide_slice hT hv
  obtain ⟨fuel, hf⟩ := h
  obtain ⟨A, l, c, hc, h1, h2, h3, h4⟩ := opens_row hT hs ho hf
  simp only [Value.cells, List.cons.injEq, and_true] at hc
  refine ⟨A, l, c, hc, h1, h2, h3, ?_⟩
  rcases h4 with ⟨rfl, _⟩ | ⟨es, rs, hx, hl⟩
  · simp
  · have h5 := sized_slice hsz ht (by rw [hd]; exact congrArg some hx) hT
    have h6 : reachBytes = 140737488351232 := rfl
    rw [hl, h6] at h5
    exact Nat.le_trans (Nat.mul_le_mul_right _ (Nat.le_add_right _ _)) h5
end Go.Proofs.Ytocphkfkdadhaaa.H

namespace Go.Proofs.Ytocphkfkdadhaaa.H
open Go.RowKit Go.Proofs.YtocphkfkdadhaaaW.PrintWords Go.Proofs.YtocphkfkdadhaaaW.PrintLast Go.Proofs.YtocphkfkdadhaaaW.PrintMore
set_option linter.unusedVariables false
set_option linter.unusedSimpArgs false
theorem wf_u64 {n : Int} (h : (Lit.int .u64 n).wf = true) : 0 ≤ n ∧ n ≤ 18446744073709551615 := by
  simp [Lit.wf, IntKind.min, IntKind.max, IntKind.signed, IntKind.bits] at h
  omega
theorem wf_u8 {n : Int} (h : (Lit.int .u8 n).wf = true) : 0 ≤ n ∧ n ≤ 255 := by
  simp [Lit.wf, IntKind.min, IntKind.max, IntKind.signed, IntKind.bits] at h
  omega
theorem size_ways (n : Nat) : sizeB n = false ∨ ∃ D, D ≤ 12 ∧ n = 2 ^ D := by
  cases h : sizeB n with
  | false => exact .inl rfl
  | true => exact .inr (sizeB_yes h)
abbrev kAsk : Kd (Int × Int × List Int × List (List Int)) := Kd.pair kU (Kd.pair kU (Kd.pair kH (Kd.slice 25 kH)))
theorem kAsk_open {W : World} {y : Int × Int × List Int × List (List Int)} {cs : List Value} (h : kAsk.K W y cs) :
    ∃ A c, cs = [.int .u64 y.1, .int .u64 y.2.1] ++ (y.2.2.1.map (Value.int .u8) ++ [.slice A y.2.2.2.length c]) ∧ y.2.2.1.length = 32 ∧ y.2.2.2.length ≤ c ∧ Kd.C kH W A y.2.2.2.length y.2.2.2 := by
  obtain ⟨c0, c1, rfl, h0, c2, c3, rfl, h2, c4, c5, rfl, h4, A, c, h5, h6, h7⟩ := h
  have e0 : c0 = [.int .u64 y.1] := h0
  have e2 : c2 = [.int .u64 y.2.1] := h2
  have e4 : c4 = y.2.2.1.map (Value.int .u8) := h4.2
  have e5 : c5 = [.slice A y.2.2.2.length c] := h5
  refine ⟨A, c, ?_, h4.1, h6, h7⟩
  rw [e0, e2, e4, e5]
  rfl
set_option maxHeartbeats 4000000 in
set_option maxRecDepth 100000 in
theorem checks_walk (v : Value) (w : World) (r : List Int) (e : Int) (hr : Hsh r)
    (HA : ∀ W, Below w.heap.size w W → Calls Try.prog 14 #[v] W fun e' w' => e' = .returned (.tuple #[.agg (cellsB r), .int .i64 e]) ∧ Below W.heap.size W w')
    (HB : ∀ W, Below w.heap.size w W → Calls Try.prog 15 #[v] W fun e' w' => e' = .returned (.tuple #[.agg (cellsB r), .int .i64 e]) ∧ Below W.heap.size W w')
    (at_ m : Nat) (ha : at_ ≤ 18446744073709551615) (hm : m ≤ 18446744073709551615) (root : List Int) (hro : Hsh root) (ps : List (List Int)) (hps : Hshs ps) (A : Option Addr) (c : Nat) (hc : ps.length ≤ c) (hC : Kd.C kH w A ps.length ps) :
    Calls Try.prog 3 #[v, .agg ([Value.int .u64 (at_ : Int), .int .u64 (m : Int)] ++ (root.map (Value.int .u8) ++ [Value.slice A ps.length c])).toArray] w fun e w' => e = .returned (.bool true) ∧ Below w.heap.size w w' := by
  have H0 := Aside0.mk (Own.start w)
  have HA := Aside0.mk HA
  have HB := Aside0.mk HB
  have HX := Aside0.mk (fun W h => memcheck_any root at_ m ps ha hm hro hps A c hc W h)
  have HY := Aside0.mk (fun W h => rcheck_any root at_ m ps ha hm hro hps A c hc W h)
  have HAN := Aside0.mk (fun W => anchored11 W)
  have HC := Aside0.mk hC
  have HH := Aside0.mk (And.intro hr hro)
  have R32 : Aside0 (Arr 32 (Array.replicate 32 (.int .u8 0))) := ⟨Arr_rep _ _ rfl⟩
  have HAR := Aside0.mk (Arr_B hr.1)
  generalize chkI root at_ m ps = b at *
  obtain ⟨ac, hac⟩ : ∃ ac : Array Value, ac = ([Value.int .u64 (at_ : Int), .int .u64 (m : Int)] ++ (root.map (Value.int .u8) ++ [Value.slice A ps.length c])).toArray := ⟨_, rfl⟩
  rw [← hac]
  have h0 : Aside0 (ac[0]? = some (.int .u64 (at_ : Int)) ∧ ac[1]? = some (.int .u64 (m : Int)) ∧ ac[34]? = some (.slice A ps.length c) ∧ ∀ j u, (root.map (Value.int .u8))[j]? = some u → ac[2 + j]? = some u) := ⟨by
    have hl : (root.map (Value.int .u8)).length = 32 := by rw [List.length_map]; exact hro.1
    refine ⟨by rw [hac]; simp, by rw [hac]; simp, ?_, fun j u hj => ?_⟩
    · rw [hac]
      simp only [List.getElem?_toArray]
      rw [List.getElem?_append_right (by simp), List.getElem?_append_right (by rw [hl]; simp), hl]
      rfl
    · rw [hac]
      simp only [List.getElem?_toArray]
      rw [List.getElem?_append_right (by simp), show 2 + j - ([Value.int .u64 (at_ : Int), .int .u64 (m : Int)]).length = j by simp, List.getElem?_append_left (by exact (List.getElem?_eq_some_iff.1 hj).1)]
      exact hj⟩
  clear hac hC
  have hn : Aside0 (ps.length = ps.length) := ⟨rfl⟩
  generalize ps.length = n at *
  go_enter Try.func3, Try.ntmps3
  go_wp2_with (first
    | fail
    | ((with_reducible refine gate_dst (N := 3) rfl ?_); refine own_box H0.out rfl (N := 3) rfl (t := 28) rfl (.agg ac) rfl ?_; intro g3 w1 H1 B1; replace H1 := Aside0.mk H1; replace B1 := Aside0.mk B1)
    )
  refine (HA.out _ H1.out.below).mono ?_
  rintro e2 w2 ⟨rfl, hB2⟩
  have H2 := Aside0.mk (H1.out.step hB2)
  clear hB2
  go_wp2_with (first
    | fail
    | ((with_reducible refine gate_dst (N := 5) rfl ?_); refine own_alloc H2.out rfl (N := 5) rfl (t := 25) rfl (Array.replicate 32 (.int .u8 0)) 32 (by kernel_rfl) ?_; intro g5 w3 H3 B3; replace H3 := Aside0.mk H3; replace B3 := Aside0.mk B3)
    | ((with_reducible refine own_store H3.out 0 g5 _ 25 rfl rfl (.tmp 5) (.tmp 12) rfl (cellsB r) ?_ ?_ 32 R32.out HAR.out (by kernel_rfl) ?_); (case _ => rfl); (case _ => rfl); intro w4 H4; replace H4 := Aside0.mk H4)
    )
  refine (HB.out _ H4.out.below).mono ?_
  rintro e2 w5 ⟨rfl, hB5⟩
  have H5 := Aside0.mk (H4.out.step hB5)
  clear hB5
  go_wp2_with (first
    | fail
    | ((with_reducible refine gate_dst (N := 7) rfl ?_); refine own_alloc H5.out rfl (N := 7) rfl (t := 25) rfl (Array.replicate 32 (.int .u8 0)) 32 (by kernel_rfl) ?_; intro g7 w6 H6 B6; replace H6 := Aside0.mk H6; replace B6 := Aside0.mk B6)
    | ((with_reducible refine own_store H6.out 0 g7 _ 25 rfl rfl (.tmp 7) (.tmp 17) rfl (cellsB r) ?_ ?_ 32 R32.out HAR.out (by kernel_rfl) ?_); (case _ => rfl); (case _ => rfl); intro w7 H7; replace H7 := Aside0.mk H7)
    )
  have hhp := Try.underlying25
  have HZ : Aside0 (∀ xs : List Int, Hsh xs → (Try.prog.info? 25).map (·.size) = some (cellsB xs).size) := ⟨fun xs h => by rw [(Arr_B h.1).1]; kernel_rfl⟩
  have HS : Aside0 (∀ W, Own w.heap.size w W [.blk g7 (cellsB r) 25, .blk g5 (cellsB r) 25, .blk g3 ac 28] → (W.heap[g7]? = some (.cells (cellsB r) 25 (0, 0)) ∧ W.heap[g5]? = some (.cells (cellsB r) 25 (0, 0)) ∧ W.heap[g3]? = some (.cells ac 28 (0, 0))) ∧
      W.cell? ⟨g3, 0, none⟩ = some (.int .u64 (at_ : Int)) ∧ W.cell? ⟨g3, 1, none⟩ = some (.int .u64 (m : Int)) ∧ W.cell? ⟨g3, 34, none⟩ = some (.slice A n c)) := ⟨fun W h => ⟨⟨h.get 0 rfl, h.get 1 rfl, h.get 2 rfl⟩, h.cell 2 rfl 0 h0.out.1, h.cell 2 rfl 1 h0.out.2.1, h.cell 2 rfl 34 h0.out.2.2.1⟩⟩
  have HRT : Aside0 (∀ W : World, W.heap[g3]? = some (.cells ac 28 (0, 0)) → ∀ j u, (root.map (Value.int .u8))[j]? = some u → W.cell? ((⟨g3, 2, none⟩ : Addr).add j) = some u) := ⟨fun W h j u hj => by rw [add_at]; exact (blk_cell h _).trans (h0.out.2.2.2 j u hj)⟩
  refine wp_region_held_drew (S := (fun W => (W.heap[g7]? = some (.cells (cellsB r) 25 (0, 0)) ∧ W.heap[g5]? = some (.cells (cellsB r) 25 (0, 0)) ∧ W.heap[g3]? = some (.cells ac 28 (0, 0))) ∧ W.cell? ⟨g3, 0, none⟩ = some (.int .u64 (at_ : Int)) ∧ W.cell? ⟨g3, 1, none⟩ = some (.int .u64 (m : Int)) ∧ W.cell? ⟨g3, 34, none⟩ = some (.slice A n c))) (by kernel_rfl) ?_ (fun hHeld => ?_)
  · exact HS.out _ H7.out.drew
  refine wpAnyH_take (i := 0) (oi := { dst := some 19, op := Go.Op.load 25 (Go.Operand.tmp 5), type := 25, pos := "law.go:105", after := #[], guard := none }) (v := .agg (cellsB r)) rfl (by kernel_rfl) (by kernel_rfl) (by kernel_rfl) (fun _ _ _ h => h) (yif_loadV (by rfl) 25 (.tmp 5) rfl g5 _ rfl (fun W h => h.1.2.1) _ hhp rfl (HZ.out r HH.out.1)) (by assumption) ?_
  try simp only [Act.put, List.setIfInBounds_toArray, List.set_cons_zero, List.set_cons_succ]
  refine wpAnyH_take (i := 1) (oi := { dst := some 20, op := Go.Op.load 25 (Go.Operand.tmp 7), type := 25, pos := "law.go:105", after := #[], guard := none }) (v := .agg (cellsB r)) rfl (by kernel_rfl) (by kernel_rfl) (by kernel_rfl) (fun _ _ _ h => h) (yif_loadV (by rfl) 25 (.tmp 7) rfl g7 _ rfl (fun W h => h.1.1) _ hhp rfl (HZ.out r HH.out.1)) (by assumption) ?_
  try simp only [Act.put, List.setIfInBounds_toArray, List.set_cons_zero, List.set_cons_succ]
  refine wpAnyH_take (i := 2) (oi := { dst := some 21, op := Go.Op.binOp Go.BinOp.eql 25 (Go.Operand.tmp 19) (Go.Operand.tmp 20) 25, type := 4, pos := "law.go:105", after := #[{ on := 0, ground := Go.Ground.data }, { on := 1, ground := Go.Ground.data }], guard := none }) (v := .bool true) rfl (by kernel_rfl) (by kernel_rfl) (by kernel_rfl) (fun _ _ _ h => h) (yif_eqb true (by rfl) 25 _ (.tmp 19) (.tmp 20) rfl r r rfl rfl Try.underlying25 Try.underlying5 size1B guardH HH.out.1.1 HH.out.1.1 (beq_self_eq_true r)) (by assumption) ?_
  try simp only [Act.put, List.setIfInBounds_toArray, List.set_cons_zero, List.set_cons_succ]
  refine wpAnyH_take (i := 3) (oi := { dst := some 22, op := Go.Op.move (Go.Operand.tmp 21), type := 4, pos := "law.go:105", after := #[{ on := 2, ground := Go.Ground.data }], guard := none }) (v := ?_) rfl (by kernel_rfl) (by kernel_rfl) (by kernel_rfl) (fun _ _ _ h => h) (Or.inl ⟨by rfl, ?_⟩) (by assumption) ?_
  rotate_left
  · intro wS hSw; (try dsimp only at hSw); go_simp; (try with_reducible rfl)
  try simp only [Act.put, List.setIfInBounds_toArray, List.set_cons_zero, List.set_cons_succ]
  refine wpAnyH_take (i := 4) (oi := { dst := some 23, op := Go.Op.move (Go.Operand.tmp 6), type := 29, pos := "law.go:105", after := #[{ on := 3, ground := Go.Ground.guard }], guard := some (3, true) }) (v := ?_) rfl (by kernel_rfl) (by kernel_rfl) (by kernel_rfl) (fun _ _ _ h => h) (Or.inl ⟨by rfl, ?_⟩) (by assumption) ?_
  rotate_left
  · intro wS hSw; (try dsimp only at hSw); go_simp; (try with_reducible rfl)
  try simp only [Act.put, List.setIfInBounds_toArray, List.set_cons_zero, List.set_cons_succ]
  refine wpAnyH_take (i := 5) (oi := { dst := some 24, op := Go.Op.move (Go.Operand.tmp 8), type := 3, pos := "law.go:105", after := #[{ on := 3, ground := Go.Ground.guard }], guard := some (3, true) }) (v := ?_) rfl (by kernel_rfl) (by kernel_rfl) (by kernel_rfl) (fun _ _ _ h => h) (Or.inl ⟨by rfl, ?_⟩) (by assumption) ?_
  rotate_left
  · intro wS hSw; (try dsimp only at hSw); go_simp; (try with_reducible rfl)
  try simp only [Act.put, List.setIfInBounds_toArray, List.set_cons_zero, List.set_cons_succ]
  refine wpAnyH_take (i := 6) (oi := { dst := some 25, op := Go.Op.binOp Go.BinOp.eql 3 (Go.Operand.tmp 23) (Go.Operand.tmp 24) 3, type := 4, pos := "law.go:105", after := #[{ on := 4, ground := Go.Ground.data }, { on := 5, ground := Go.Ground.data }, { on := 3, ground := Go.Ground.guard }], guard := some (3, true) }) (v := ?_) rfl (by kernel_rfl) (by kernel_rfl) (by kernel_rfl) (fun _ _ _ h => h) (Or.inl ⟨by rfl, ?_⟩) (by assumption) ?_
  rotate_left
  · intro wS hSw; (try dsimp only at hSw); go_simp; (try with_reducible rfl)
  try simp only [Act.put, List.setIfInBounds_toArray, List.set_cons_zero, List.set_cons_succ]
  refine wpAnyH_take (i := 7) (oi := { dst := some 26, op := Go.Op.pick (Go.Operand.tmp 22) (Go.Operand.tmp 25) (Go.Operand.const (Go.Value.bool false)), type := 4, pos := "law.go:105", after := #[{ on := 3, ground := Go.Ground.data }, { on := 6, ground := Go.Ground.data }], guard := none }) (v := ?_) rfl (by kernel_rfl) (by kernel_rfl) (by kernel_rfl) (fun _ _ _ h => h) (Or.inl ⟨by rfl, ?_⟩) (by assumption) ?_
  rotate_left
  · intro wS hSw; (try dsimp only at hSw); go_simp; (try with_reducible rfl)
  try simp only [Act.put, List.setIfInBounds_toArray, List.set_cons_zero, List.set_cons_succ]
  refine wpAnyH_take (i := 8) (oi := { dst := some 27, op := Go.Op.move (Go.Operand.tmp 26), type := 4, pos := "law.go:105", after := #[{ on := 7, ground := Go.Ground.data }, { on := 3, ground := Go.Ground.chain }], guard := none }) (v := ?_) rfl (by kernel_rfl) (by kernel_rfl) (by kernel_rfl) (fun _ _ _ h => h) (Or.inl ⟨by rfl, ?_⟩) (by assumption) ?_
  rotate_left
  · intro wS hSw; (try dsimp only at hSw); go_simp; (try with_reducible rfl)
  try simp only [Act.put, List.setIfInBounds_toArray, List.set_cons_zero, List.set_cons_succ]
  refine wpAnyH_take (i := 9) (oi := { dst := some 28, op := Go.Op.fieldAddr 28 (Go.Operand.tmp 3) 2, type := 0, pos := "law.go:105", after := #[{ on := 8, ground := Go.Ground.guard }], guard := some (8, true) }) (v := ?_) rfl (by kernel_rfl) (by kernel_rfl) (by kernel_rfl) (fun _ _ _ h => h) (Or.inl ⟨by rfl, ?_⟩) (by assumption) ?_
  rotate_left
  · intro wS hSw; (try dsimp only at hSw); go_simp; (try with_reducible rfl)
  try simp only [Act.put, List.setIfInBounds_toArray, List.set_cons_zero, List.set_cons_succ]
  refine wpAnyH_take (i := 10) (oi := { dst := some 29, op := Go.Op.load 25 (Go.Operand.tmp 28), type := 25, pos := "law.go:105", after := #[{ on := 9, ground := Go.Ground.data }, { on := 8, ground := Go.Ground.guard }], guard := some (8, true) }) (v := .agg (cellsB root)) rfl (by kernel_rfl) (by kernel_rfl) (by kernel_rfl) (fun _ _ _ h => h) (yif_load_H (by rfl) 25 (.tmp 28) rfl ⟨g3, 2, none⟩ root rfl (fun W h => HRT.out W h.1.2.2) hhp (by rw [HH.out.2.1]; kernel_rfl)) (by assumption) ?_
  try simp only [Act.put, List.setIfInBounds_toArray, List.set_cons_zero, List.set_cons_succ]
  refine wpAnyH_take (i := 11) (oi := { dst := some 30, op := Go.Op.fieldAddr 28 (Go.Operand.tmp 3) 0, type := 0, pos := "law.go:105", after := #[{ on := 8, ground := Go.Ground.guard }], guard := some (8, true) }) (v := ?_) rfl (by kernel_rfl) (by kernel_rfl) (by kernel_rfl) (fun _ _ _ h => h) (Or.inl ⟨by rfl, ?_⟩) (by assumption) ?_
  rotate_left
  · intro wS hSw; (try dsimp only at hSw); go_simp; (try with_reducible rfl)
  try simp only [Act.put, List.setIfInBounds_toArray, List.set_cons_zero, List.set_cons_succ]
  refine wpAnyH_take (i := 12) (oi := { dst := some 31, op := Go.Op.load 23 (Go.Operand.tmp 30), type := 23, pos := "law.go:105", after := #[{ on := 11, ground := Go.Ground.data }, { on := 8, ground := Go.Ground.guard }], guard := some (8, true) }) (v := ?_) rfl (by kernel_rfl) (by kernel_rfl) (by kernel_rfl) (fun _ _ _ h => h) (Or.inl ⟨by rfl, ?_⟩) (by assumption) ?_
  rotate_left
  · intro wS hSw; (try dsimp only at hSw); go_simp; (try with_reducible rfl)
  try simp only [Act.put, List.setIfInBounds_toArray, List.set_cons_zero, List.set_cons_succ]
  refine wpAnyH_take (i := 13) (oi := { dst := some 32, op := Go.Op.fieldAddr 28 (Go.Operand.tmp 3) 1, type := 0, pos := "law.go:105", after := #[{ on := 8, ground := Go.Ground.guard }], guard := some (8, true) }) (v := ?_) rfl (by kernel_rfl) (by kernel_rfl) (by kernel_rfl) (fun _ _ _ h => h) (Or.inl ⟨by rfl, ?_⟩) (by assumption) ?_
  rotate_left
  · intro wS hSw; (try dsimp only at hSw); go_simp; (try with_reducible rfl)
  try simp only [Act.put, List.setIfInBounds_toArray, List.set_cons_zero, List.set_cons_succ]
  refine wpAnyH_take (i := 14) (oi := { dst := some 33, op := Go.Op.load 23 (Go.Operand.tmp 32), type := 23, pos := "law.go:105", after := #[{ on := 13, ground := Go.Ground.data }, { on := 8, ground := Go.Ground.guard }], guard := some (8, true) }) (v := ?_) rfl (by kernel_rfl) (by kernel_rfl) (by kernel_rfl) (fun _ _ _ h => h) (Or.inl ⟨by rfl, ?_⟩) (by assumption) ?_
  rotate_left
  · intro wS hSw; (try dsimp only at hSw); go_simp; (try with_reducible rfl)
  try simp only [Act.put, List.setIfInBounds_toArray, List.set_cons_zero, List.set_cons_succ]
  refine wpAnyH_take (i := 15) (oi := { dst := some 34, op := Go.Op.fieldAddr 28 (Go.Operand.tmp 3) 3, type := 0, pos := "law.go:105", after := #[{ on := 8, ground := Go.Ground.guard }], guard := some (8, true) }) (v := ?_) rfl (by kernel_rfl) (by kernel_rfl) (by kernel_rfl) (fun _ _ _ h => h) (Or.inl ⟨by rfl, ?_⟩) (by assumption) ?_
  rotate_left
  · intro wS hSw; (try dsimp only at hSw); go_simp; (try with_reducible rfl)
  try simp only [Act.put, List.setIfInBounds_toArray, List.set_cons_zero, List.set_cons_succ]
  refine wpAnyH_take (i := 16) (oi := { dst := some 35, op := Go.Op.load 26 (Go.Operand.tmp 34), type := 26, pos := "law.go:105", after := #[{ on := 15, ground := Go.Ground.data }, { on := 8, ground := Go.Ground.guard }], guard := some (8, true) }) (v := ?_) rfl (by kernel_rfl) (by kernel_rfl) (by kernel_rfl) (fun _ _ _ h => h) (Or.inl ⟨by rfl, ?_⟩) (by assumption) ?_
  rotate_left
  · intro wS hSw; (try dsimp only at hSw); go_simp; (try with_reducible rfl)
  try simp only [Act.put, List.setIfInBounds_toArray, List.set_cons_zero, List.set_cons_succ]
  refine wpAnyH_take (i := 18) (oi := { dst := some 37, op := Go.Op.fieldAddr 28 (Go.Operand.tmp 3) 2, type := 0, pos := "law.go:105", after := #[{ on := 8, ground := Go.Ground.guard }], guard := some (8, true) }) (v := ?_) rfl (by kernel_rfl) (by kernel_rfl) (by kernel_rfl) (fun _ _ _ h => h) (Or.inl ⟨by rfl, ?_⟩) (by assumption) ?_
  rotate_left
  · intro wS hSw; (try dsimp only at hSw); go_simp; (try with_reducible rfl)
  try simp only [Act.put, List.setIfInBounds_toArray, List.set_cons_zero, List.set_cons_succ]
  refine wpAnyH_take (i := 19) (oi := { dst := some 38, op := Go.Op.load 25 (Go.Operand.tmp 37), type := 25, pos := "law.go:105", after := #[{ on := 18, ground := Go.Ground.data }, { on := 8, ground := Go.Ground.guard }], guard := some (8, true) }) (v := .agg (cellsB root)) rfl (by kernel_rfl) (by kernel_rfl) (by kernel_rfl) (fun _ _ _ h => h) (yif_load_H (by rfl) 25 (.tmp 37) rfl ⟨g3, 2, none⟩ root rfl (fun W h => HRT.out W h.1.2.2) hhp (by rw [HH.out.2.1]; kernel_rfl)) (by assumption) ?_
  try simp only [Act.put, List.setIfInBounds_toArray, List.set_cons_zero, List.set_cons_succ]
  refine wpAnyH_take (i := 20) (oi := { dst := some 39, op := Go.Op.fieldAddr 28 (Go.Operand.tmp 3) 0, type := 0, pos := "law.go:105", after := #[{ on := 8, ground := Go.Ground.guard }], guard := some (8, true) }) (v := ?_) rfl (by kernel_rfl) (by kernel_rfl) (by kernel_rfl) (fun _ _ _ h => h) (Or.inl ⟨by rfl, ?_⟩) (by assumption) ?_
  rotate_left
  · intro wS hSw; (try dsimp only at hSw); go_simp; (try with_reducible rfl)
  try simp only [Act.put, List.setIfInBounds_toArray, List.set_cons_zero, List.set_cons_succ]
  refine wpAnyH_take (i := 21) (oi := { dst := some 40, op := Go.Op.load 23 (Go.Operand.tmp 39), type := 23, pos := "law.go:105", after := #[{ on := 20, ground := Go.Ground.data }, { on := 8, ground := Go.Ground.guard }], guard := some (8, true) }) (v := ?_) rfl (by kernel_rfl) (by kernel_rfl) (by kernel_rfl) (fun _ _ _ h => h) (Or.inl ⟨by rfl, ?_⟩) (by assumption) ?_
  rotate_left
  · intro wS hSw; (try dsimp only at hSw); go_simp; (try with_reducible rfl)
  try simp only [Act.put, List.setIfInBounds_toArray, List.set_cons_zero, List.set_cons_succ]
  refine wpAnyH_take (i := 22) (oi := { dst := some 41, op := Go.Op.fieldAddr 28 (Go.Operand.tmp 3) 1, type := 0, pos := "law.go:105", after := #[{ on := 8, ground := Go.Ground.guard }], guard := some (8, true) }) (v := ?_) rfl (by kernel_rfl) (by kernel_rfl) (by kernel_rfl) (fun _ _ _ h => h) (Or.inl ⟨by rfl, ?_⟩) (by assumption) ?_
  rotate_left
  · intro wS hSw; (try dsimp only at hSw); go_simp; (try with_reducible rfl)
  try simp only [Act.put, List.setIfInBounds_toArray, List.set_cons_zero, List.set_cons_succ]
  refine wpAnyH_take (i := 23) (oi := { dst := some 42, op := Go.Op.load 23 (Go.Operand.tmp 41), type := 23, pos := "law.go:105", after := #[{ on := 22, ground := Go.Ground.data }, { on := 8, ground := Go.Ground.guard }], guard := some (8, true) }) (v := ?_) rfl (by kernel_rfl) (by kernel_rfl) (by kernel_rfl) (fun _ _ _ h => h) (Or.inl ⟨by rfl, ?_⟩) (by assumption) ?_
  rotate_left
  · intro wS hSw; (try dsimp only at hSw); go_simp; (try with_reducible rfl)
  try simp only [Act.put, List.setIfInBounds_toArray, List.set_cons_zero, List.set_cons_succ]
  refine wpAnyH_take (i := 24) (oi := { dst := some 43, op := Go.Op.fieldAddr 28 (Go.Operand.tmp 3) 3, type := 0, pos := "law.go:105", after := #[{ on := 8, ground := Go.Ground.guard }], guard := some (8, true) }) (v := ?_) rfl (by kernel_rfl) (by kernel_rfl) (by kernel_rfl) (fun _ _ _ h => h) (Or.inl ⟨by rfl, ?_⟩) (by assumption) ?_
  rotate_left
  · intro wS hSw; (try dsimp only at hSw); go_simp; (try with_reducible rfl)
  try simp only [Act.put, List.setIfInBounds_toArray, List.set_cons_zero, List.set_cons_succ]
  refine wpAnyH_take (i := 25) (oi := { dst := some 44, op := Go.Op.load 26 (Go.Operand.tmp 43), type := 26, pos := "law.go:105", after := #[{ on := 24, ground := Go.Ground.data }, { on := 8, ground := Go.Ground.guard }], guard := some (8, true) }) (v := ?_) rfl (by kernel_rfl) (by kernel_rfl) (by kernel_rfl) (fun _ _ _ h => h) (Or.inl ⟨by rfl, ?_⟩) (by assumption) ?_
  rotate_left
  · intro wS hSw; (try dsimp only at hSw); go_simp; (try with_reducible rfl)
  try simp only [Act.put, List.setIfInBounds_toArray, List.set_cons_zero, List.set_cons_succ]
  refine wpAnyH_ready (rs := [17]) (by kernel_rfl) (by simp) ?_
  refine AllReadyH.cons (o := { dst := some 36, op := Go.Op.call { callee := Go.Callee.value (Go.Operand.func 16), args := #[Go.Operand.tmp 29, Go.Operand.tmp 31, Go.Operand.tmp 33, Go.Operand.tmp 35], argTypes := #[25, 23, 23, 26] }, type := 4, pos := "law.go:105", after := #[{ on := 10, ground := Go.Ground.data }, { on := 12, ground := Go.Ground.data }, { on := 14, ground := Go.Ground.data }, { on := 16, ground := Go.Ground.data }, { on := 8, ground := Go.Ground.chain }, { on := 8, ground := Go.Ground.guard }], guard := some (8, true) }) rfl (fun K hK => ?_) AllReadyH.nil
  go_simp
  refine (HX.out _ (Kd.C_below HC.out H7.out.drew.below)).mono ?_
  rintro e2 w20 ⟨rfl, hB20⟩
  have H20 := Aside0.mk (H7.out.drew.step hB20)
  clear hB20
  go_wp2_with fail
  refine hK.out _ _ ?_ (fun hHeld => ?_)
  · exact HS.out _ H20.out
  clear hK K
  try simp only [Act.put, List.setIfInBounds_toArray, List.set_cons_zero, List.set_cons_succ]
  refine wpAnyH_ready (rs := [26]) (by kernel_rfl) (by simp) ?_
  refine AllReadyH.cons (o := { dst := some 45, op := Go.Op.call { callee := Go.Callee.value (Go.Operand.func 17), args := #[Go.Operand.tmp 38, Go.Operand.tmp 40, Go.Operand.tmp 42, Go.Operand.tmp 44], argTypes := #[25, 23, 23, 26] }, type := 4, pos := "law.go:105", after := #[{ on := 19, ground := Go.Ground.data }, { on := 21, ground := Go.Ground.data }, { on := 23, ground := Go.Ground.data }, { on := 25, ground := Go.Ground.data }, { on := 17, ground := Go.Ground.chain }, { on := 8, ground := Go.Ground.guard }], guard := some (8, true) }) rfl (fun K hK => ?_) AllReadyH.nil
  go_simp
  refine (HY.out _ (Kd.C_below HC.out H20.out.below)).mono ?_
  rintro e2 w21 ⟨rfl, hB21⟩
  have H21 := Aside0.mk (H20.out.step hB21)
  clear hB21
  go_wp2_with fail
  refine hK.out _ _ ?_ (fun hHeld => ?_)
  · exact HS.out _ H21.out
  clear hK K
  try simp only [Act.put, List.setIfInBounds_toArray, List.set_cons_zero, List.set_cons_succ]
  refine wpAnyH_take (i := 27) (oi := { dst := some 46, op := Go.Op.binOp Go.BinOp.eql 4 (Go.Operand.tmp 36) (Go.Operand.tmp 45) 4, type := 4, pos := "law.go:105", after := #[{ on := 17, ground := Go.Ground.data }, { on := 26, ground := Go.Ground.data }, { on := 8, ground := Go.Ground.guard }], guard := some (8, true) }) (v := ?_) rfl (by kernel_rfl) (by kernel_rfl) (by kernel_rfl) (fun _ _ _ h => h) (Or.inl ⟨by rfl, ?_⟩) (by assumption) ?_
  rotate_left
  · intro wS hSw; (try dsimp only at hSw); go_simp; (try with_reducible rfl)
  try simp only [Act.put, List.setIfInBounds_toArray, List.set_cons_zero, List.set_cons_succ]
  refine wpAnyH_take (i := 28) (oi := { dst := some 47, op := Go.Op.pick (Go.Operand.tmp 27) (Go.Operand.tmp 46) (Go.Operand.const (Go.Value.bool false)), type := 4, pos := "law.go:105", after := #[{ on := 8, ground := Go.Ground.data }, { on := 27, ground := Go.Ground.data }], guard := none }) (v := ?_) rfl (by kernel_rfl) (by kernel_rfl) (by kernel_rfl) (fun _ _ _ h => h) (Or.inl ⟨by rfl, ?_⟩) (by assumption) ?_
  rotate_left
  · intro wS hSw; (try dsimp only at hSw); go_simp; (try with_reducible rfl)
  try simp only [Act.put, List.setIfInBounds_toArray, List.set_cons_zero, List.set_cons_succ]
  refine wpAnyH_take (i := 29) (oi := { dst := some 48, op := Go.Op.move (Go.Operand.tmp 47), type := 4, pos := "law.go:105", after := #[{ on := 28, ground := Go.Ground.data }, { on := 26, ground := Go.Ground.chain }], guard := none }) (v := ?_) rfl (by kernel_rfl) (by kernel_rfl) (by kernel_rfl) (fun _ _ _ h => h) (Or.inl ⟨by rfl, ?_⟩) (by assumption) ?_
  rotate_left
  · intro wS hSw; (try dsimp only at hSw); go_simp; (try with_reducible rfl)
  try simp only [Act.put, List.setIfInBounds_toArray, List.set_cons_zero, List.set_cons_succ]
  refine wpAnyH_ready (rs := [30]) (by kernel_rfl) (by simp) ?_
  refine AllReadyH.cons (o := { dst := some 49, op := Go.Op.call { callee := Go.Callee.value (Go.Operand.func 18), args := #[], argTypes := #[] }, type := 4, pos := "law.go:105", after := #[{ on := 29, ground := Go.Ground.chain }, { on := 29, ground := Go.Ground.guard }], guard := some (29, true) }) rfl (fun K hK => ?_) AllReadyH.nil
  go_simp
  refine (HAN.out _).mono ?_
  rintro e2 w22 ⟨rfl, hB22⟩
  have H22 := Aside0.mk (H21.out.step hB22)
  clear hB22
  go_wp2_with fail
  refine hK.out _ _ ?_ (fun hHeld => ?_)
  · exact HS.out _ H22.out
  clear hK K
  try simp only [Act.put, List.setIfInBounds_toArray, List.set_cons_zero, List.set_cons_succ]
  refine wpAnyH_take (i := 31) (oi := { dst := some 50, op := Go.Op.pick (Go.Operand.tmp 48) (Go.Operand.tmp 49) (Go.Operand.const (Go.Value.bool false)), type := 4, pos := "law.go:105", after := #[{ on := 29, ground := Go.Ground.data }, { on := 30, ground := Go.Ground.data }], guard := none }) (v := ?_) rfl (by kernel_rfl) (by kernel_rfl) (by kernel_rfl) (fun _ _ _ h => h) (Or.inl ⟨by rfl, ?_⟩) (by assumption) ?_
  rotate_left
  · intro wS hSw; (try dsimp only at hSw); go_simp; (try with_reducible rfl)
  try simp only [Act.put, List.setIfInBounds_toArray, List.set_cons_zero, List.set_cons_succ]
  refine wpAnyH_take (i := 32) (oi := { dst := some 4, op := Go.Op.assign (Go.Operand.tmp 50), type := 4, pos := "law.go:105", after := #[{ on := 31, ground := Go.Ground.data }, { on := 30, ground := Go.Ground.chain }, { on := 0, ground := Go.Ground.phase }, { on := 1, ground := Go.Ground.phase }, { on := 2, ground := Go.Ground.phase }, { on := 3, ground := Go.Ground.phase }, { on := 4, ground := Go.Ground.phase }, { on := 5, ground := Go.Ground.phase }, { on := 6, ground := Go.Ground.phase }, { on := 7, ground := Go.Ground.phase }, { on := 8, ground := Go.Ground.phase }, { on := 9, ground := Go.Ground.phase }, { on := 10, ground := Go.Ground.phase }, { on := 11, ground := Go.Ground.phase }, { on := 12, ground := Go.Ground.phase }, { on := 13, ground := Go.Ground.phase }, { on := 14, ground := Go.Ground.phase }, { on := 15, ground := Go.Ground.phase }, { on := 16, ground := Go.Ground.phase }, { on := 17, ground := Go.Ground.phase }, { on := 18, ground := Go.Ground.phase }, { on := 19, ground := Go.Ground.phase }, { on := 20, ground := Go.Ground.phase }, { on := 21, ground := Go.Ground.phase }, { on := 22, ground := Go.Ground.phase }, { on := 23, ground := Go.Ground.phase }, { on := 24, ground := Go.Ground.phase }, { on := 25, ground := Go.Ground.phase }, { on := 26, ground := Go.Ground.phase }, { on := 27, ground := Go.Ground.phase }, { on := 28, ground := Go.Ground.phase }, { on := 29, ground := Go.Ground.phase }, { on := 30, ground := Go.Ground.phase }, { on := 31, ground := Go.Ground.phase }], guard := none }) (v := ?_) rfl (by kernel_rfl) (by kernel_rfl) (by kernel_rfl) (fun _ _ _ h => h) (Or.inl ⟨by rfl, ?_⟩) (by assumption) ?_
  rotate_left
  · intro wS hSw; (try dsimp only at hSw); go_simp; (try with_reducible rfl)
  try simp only [Act.put, List.setIfInBounds_toArray, List.set_cons_zero, List.set_cons_succ]
  refine wpAnyH_done (by kernel_rfl) ?_ _
  clear hHeld
  go_wp2_with fail
  go_ret
  exact ⟨rfl, H22.out.below⟩
end Go.Proofs.Ytocphkfkdadhaaa.H

namespace Go.Proofs.Ytocphkfkdadhaaa.H
open Go.RowKit Go.Proofs.YtocphkfkdadhaaaW.PrintWords Go.Proofs.YtocphkfkdadhaaaW.PrintLast Go.Proofs.YtocphkfkdadhaaaW.PrintMore
set_option linter.unusedVariables false
set_option linter.unusedSimpArgs false
theorem o_u64 : Opens 23 kU (fun n => (Lit.int .u64 n).wf = true) := opens_int Try.underlying23
theorem o_H : Opens 25 kH (fun l => l.length = 32 ∧ ∀ y ∈ l, (Lit.int .u8 y).wf = true) := opens_H Try.underlying25 Try.underlying5 (by kernel_rfl) (by kernel_rfl)
theorem o_Hs : Opens 26 (Kd.slice 25 kH) (fun l => ∀ y ∈ l, y.length = 32 ∧ ∀ z ∈ y, (Lit.int .u8 z).wf = true) := opens_slice Try.underlying26 (by kernel_rfl) o_H
theorem o_Ask : Opens 28 kAsk (fun y => (Lit.int .u64 y.1).wf = true ∧ (Lit.int .u64 y.2.1).wf = true ∧ (y.2.2.1.length = 32 ∧ ∀ z ∈ y.2.2.1, (Lit.int .u8 z).wf = true) ∧ ∀ x ∈ y.2.2.2, x.length = 32 ∧ ∀ z ∈ x, (Lit.int .u8 z).wf = true) :=
  opens_struct Try.underlying28 (many_cons o_u64 (by kernel_rfl) (many_cons o_u64 (by kernel_rfl) (many_cons o_H (by kernel_rfl) (many_one o_Hs (by kernel_rfl))))) (by kernel_rfl) (by kernel_rfl)
theorem Wrd_of {l : List Int} (h : ∀ y ∈ l, (Lit.int .u64 y).wf = true) : Wrd l := fun x hx => wf_u64 (h x hx)
theorem Hsh_of {l : List Int} (h : l.length = 32 ∧ ∀ y ∈ l, (Lit.int .u8 y).wf = true) : Hsh l := ⟨h.1, fun x hx => wf_u8 (h.2 x hx)⟩
theorem Hshs_of {l : List (List Int)} (h : ∀ x ∈ l, x.length = 32 ∧ ∀ y ∈ x, (Lit.int .u8 y).wf = true) : Hshs l := fun x hx => Hsh_of (h x hx)
theorem checks_law (ws : List Int) (hw : Wrd ws) (A : Option Addr) (c : Nat) (hc : ws.length ≤ c) (w : World) (hC : Kd.C kU w A ws.length ws) (cs : Array Value) (y : Int × Int × List Int × List (List Int)) (hK : kAsk.K w y cs.toList)
    (hy : (Lit.int .u64 y.1).wf = true ∧ (Lit.int .u64 y.2.1).wf = true ∧ (y.2.2.1.length = 32 ∧ ∀ z ∈ y.2.2.1, (Lit.int .u8 z).wf = true) ∧ ∀ x ∈ y.2.2.2, x.length = 32 ∧ ∀ z ∈ x, (Lit.int .u8 z).wf = true) :
    Calls Try.prog 3 #[.slice A ws.length c, .agg cs] w fun e w' => e = .returned (.bool true) ∧ Below w.heap.size w w' := by
  obtain ⟨A2, c2, hcs, h32, hc2, hC2⟩ := kAsk_open hK
  obtain ⟨at_, m, root, ps⟩ := y
  obtain ⟨h1, h2, h3, h4⟩ := hy
  obtain ⟨b1, b2⟩ := wf_u64 h1
  obtain ⟨b3, b4⟩ := wf_u64 h2
  obtain ⟨at_, rfl⟩ := Int.eq_ofNat_of_zero_le b1
  obtain ⟨m, rfl⟩ := Int.eq_ofNat_of_zero_le b3
  have b2' : (at_ : Int) ≤ 18446744073709551615 := b2
  have b4' : (m : Int) ≤ 18446744073709551615 := b4
  have hcs' : cs = ([Value.int .u64 (at_ : Int), .int .u64 (m : Int)] ++ (root.map (Value.int .u8) ++ [Value.slice A2 ps.length c2])).toArray := by
    apply Array.toList_inj.1
    exact hcs
  rw [hcs']
  have hn := hC.2.1
  rcases size_ways ws.length with hs | ⟨D, hD, hl⟩
  · exact checks_walk (.slice A ws.length c) w zero32 2 Hsh_zero (fun W hb => memroot_no _ hn hs A c W) (fun W hb => rroot_no _ hn hs A c W) at_ m (by omega) (by omega) root (Hsh_of h3) ps (Hshs_of h4) A2 c2 hc2 hC2
  · exact checks_walk (.slice A ws.length c) w (memroot D ws) 0 (Hsh_memroot D ws) (fun W hb => memroot_yes D hD ws hl hw A c hc W (Kd.C_below hC hb)) (fun W hb => rroot_yes D hD ws hl hw A c hc W (Kd.C_below hC hb)) at_ m (by omega) (by omega) root (Hsh_of h3) ps (Hshs_of h4) A2 c2 hc2 hC2
end Go.Proofs.Ytocphkfkdadhaaa.H

