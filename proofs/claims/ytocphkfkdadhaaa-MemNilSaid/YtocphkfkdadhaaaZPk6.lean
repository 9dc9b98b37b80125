import Derived.Test.YtocphkfkdadhaaaZPk5
namespace Go.Proofs.Ytocphkfkdadhaaa.H
open Go.RowKit Go.Proofs.YtocphkfkdadhaaaW.PrintWords Go.Proofs.YtocphkfkdadhaaaW.PrintLast Go.Proofs.YtocphkfkdadhaaaW.PrintMore
set_option linter.unusedVariables false
set_option linter.unusedSimpArgs false
set_option maxHeartbeats 1000000 in
set_option maxRecDepth 100000 in
theorem mroot_mem {D : Nat} (hD : D ≤ 12) {B : Nat} {w0 W : World} {L : List Item} {g : Nat} {v1 v2 : Value} {ws : List Int} {ss : List (List Int)} (hM : MemAt D ws ss) (h : Own B w0 W (memL g v1 v2 ws ss L)) :
    Calls Try.prog 25 #[.pointer (some ⟨g, 0, none⟩)] W fun e w' => e = .returned (.agg (cellsB (memroot D ws))) ∧ Below W.heap.size W w' := by
  have HN := Aside0.mk (fun W1 (hb : Below W.heap.size W W1) => none_mem hM (h.step hb))
  have hn4 : 1 ≤ ws.length := by rw [hM.2.2.1]; exact Nat.two_pow_pos D
  have hsl : ss.length = 2 * ws.length := by rw [hM.1.len, hM.2.2.1]
  obtain ⟨g2, c2, rfl, _⟩ := h.form 2 rfl (by omega)
  have HX : Aside0 (ss.getD 1 [] = memroot D ws) := ⟨hM.1.root⟩
  have HH := Aside0.mk (Hsh_memroot D ws)
  have H := Aside0.mk h
  have H0 := Aside0.mk (Own.start W)
  have HCC := Aside0.mk (fun W1 (hb : Below W.heap.size W W1) => ((h.step hb).cells_row 2 rfl 1 (by omega)).2)
  rw [HX.out] at HCC
  have hA := Aside0.mk (fun W1 (hb : Below W.heap.size W W1) => memc1 (h.step hb))
  have hm2 : (1 : Int) < (ss.length : Int) := by omega
  clear h hM HX
  generalize memroot D ws = r at *
  generalize ss.length = m at *
  have R32 : Aside0 (Arr 32 (Array.replicate 32 (.int .u8 0))) := ⟨Arr_rep _ _ rfl⟩
  have HA : Aside0 (Arr 32 (cellsB r)) := ⟨Arr_B HH.out.1⟩
  go_enter Try.func25, Try.ntmps25
  go_wp2_with (first
    | fail
    | ((with_reducible refine gate_dst (N := 2) rfl ?_); refine own_alloc H0.out rfl (N := 2) rfl (t := 25) rfl (Array.replicate 32 (.int .u8 0)) 32 (by kernel_rfl) ?_; intro g3 w1 H1 B1; replace H1 := Aside0.mk H1; replace B1 := Aside0.mk B1)
    )
  refine (HN.out _ H1.out.below).mono ?_
  rintro e w2 ⟨rfl, rfl⟩
  have hcA := hA.out _ H1.out.below
  have hcC := Aside0.mk (HCC.out _ H1.out.below)
  go_wp2_with (first
    | fail
    | ((with_reducible refine gate_dst (N := 12) rfl ?_); refine load_H rfl 25 (.tmp 11) rfl ⟨g2, 32, none⟩ r rfl hcC.out Try.underlying25 (by rw [HH.out.1]; kernel_rfl) ?_)
    | ((with_reducible refine own_store H1.out 0 g3 _ 25 rfl rfl (.tmp 2) (.tmp 12) rfl (cellsB r) ?_ ?_ 32 R32.out HA.out (by kernel_rfl) ?_); (case _ => rfl); (case _ => rfl); intro w3 H3; replace H3 := Aside0.mk H3)
    )
  refine bodyPost_ret (own_result rfl _ H3.out 0 g3 (cellsB r) rfl rfl Try.underlying25 32 HA.out (by kernel_rfl)) rfl ?_
  exact ⟨rfl, H3.out.below⟩
set_option maxHeartbeats 1000000 in
set_option maxRecDepth 100000 in
theorem mroot_nil (W : World) : Calls Try.prog 25 #[.pointer none] W fun e w' => e = .returned (.agg (cellsB zero32)) ∧ Below W.heap.size W w' := by
  have HN := Aside0.mk (fun W1 => none_nil W1)
  have H0 := Aside0.mk (Own.start W)
  have R32 : Aside0 (Arr 32 (Array.replicate 32 (.int .u8 0))) := ⟨Arr_rep _ _ rfl⟩
  have HA : Aside0 (Arr 32 (cellsB zero32)) := ⟨Arr_B Hsh_zero.1⟩
  go_enter Try.func25, Try.ntmps25
  go_wp2_with (first
    | fail
    | ((with_reducible refine gate_dst (N := 2) rfl ?_); refine own_alloc H0.out rfl (N := 2) rfl (t := 25) rfl (Array.replicate 32 (.int .u8 0)) 32 (by kernel_rfl) ?_; intro g3 w1 H1 B1; replace H1 := Aside0.mk H1; replace B1 := Aside0.mk B1)
    )
  refine (HN.out _).mono ?_
  rintro e w2 ⟨rfl, rfl⟩
  go_wp2_with (first
    | fail
    | ((with_reducible refine own_store H1.out 0 g3 _ 25 rfl rfl (.tmp 2) (.tmp 5) rfl (cellsB zero32) ?_ ?_ 32 R32.out HA.out (by kernel_rfl) ?_); (case _ => rfl); (case _ => rfl); intro w3 H3; replace H3 := Aside0.mk H3)
    )
  refine bodyPost_ret (own_result rfl _ H3.out 0 g3 (cellsB zero32) rfl rfl Try.underlying25 32 HA.out (by kernel_rfl)) rfl ?_
  exact ⟨rfl, H3.out.below⟩
theorem words_nil (W : World) : Calls Try.prog 21 #[.pointer none] W fun e w' => e = .returned (.slice none 0 0) ∧ w' = W := by
  have HN := Aside0.mk (none_nil W)
  go_enter Try.func21, Try.ntmps21
  go_wp2_with fail
  refine HN.out.mono ?_
  rintro e w1 ⟨rfl, rfl⟩
  go_wp2_with fail
  go_ret
  exact ⟨rfl, rfl⟩
set_option maxHeartbeats 1000000 in
set_option maxRecDepth 100000 in
theorem memroot_yes (D : Nat) (hD : D ≤ 12) (ws : List Int) (hl : ws.length = 2 ^ D) (hw : Wrd ws) (A : Option Addr) (c : Nat) (hc : ws.length ≤ c) (w : World) (hC : Kd.C kU w A ws.length ws) :
    Calls Try.prog 14 #[.slice A ws.length c] w fun e w' => e = .returned (.tuple #[.agg (cellsB (memroot D ws)), .int .i64 0]) ∧ Below w.heap.size w w' := by
  have H0 := Aside0.mk (Own.start w)
  have HN := Aside0.mk (fun W h => new_ok D hD ws hl hw A c hc W h)
  have HC := Aside0.mk hC
  have R32 : Aside0 (Arr 32 (Array.replicate 32 (.int .u8 0))) := ⟨Arr_rep _ _ rfl⟩
  have HA : Aside0 (Arr 32 (cellsB (memroot D ws))) := ⟨Arr_B (Hsh_memroot D ws).1⟩
  have HRT := Aside0.mk (fun B w0 W g v1 v2 ss L (hM : MemAt D ws ss) (h : Own B w0 W (memL g v1 v2 ws ss L)) => mroot_mem hD hM h)
  generalize memroot D ws = r at *
  clear hC hl
  generalize ws.length = n at *
  go_enter Try.func14, Try.ntmps14
  go_wp2_with (first
    | fail
    | ((with_reducible refine gate_dst (N := 2) rfl ?_); refine own_alloc H0.out rfl (N := 2) rfl (t := 25) rfl (Array.replicate 32 (.int .u8 0)) 32 (by kernel_rfl) ?_; intro g3 w1 H1 B1; replace H1 := Aside0.mk H1; replace B1 := Aside0.mk B1)
    )
  refine (HN.out _ (Kd.C_below HC.out H1.out.below)).mono ?_
  rintro e w2 ⟨g, v1, v2, ss, rfl, hM, hO⟩
  have HR2 := Aside0.mk (HRT.out _ _ _ _ _ _ _ _ hM hO)
  have H2 := Aside0.mk (H1.out.call hO)
  clear hM hO
  go_wp2_with fail
  refine HR2.out.mono ?_
  rintro e w3 ⟨rfl, hB3⟩
  have H3 := Aside0.mk (H2.out.step hB3)
  clear hB3
  go_wp2_with (first
    | fail
    | ((with_reducible refine own_store H3.out 3 g3 _ 25 rfl rfl (.tmp 2) (.tmp 12) rfl (cellsB r) ?_ ?_ 32 R32.out HA.out (by kernel_rfl) ?_); (case _ => rfl); (case _ => rfl); intro w4 H4; replace H4 := Aside0.mk H4)
    )
  refine bodyPost_ret (own_result_ct rfl _ H4.out 3 g3 (cellsB r) rfl rfl Try.underlying25 32 HA.out (by kernel_rfl) (.int .i64 0) rfl) rfl ?_
  exact ⟨rfl, H4.out.below⟩
end Go.Proofs.Ytocphkfkdadhaaa.H

namespace Go.Proofs.Ytocphkfkdadhaaa.H
open Go.RowKit Go.Proofs.YtocphkfkdadhaaaW.PrintWords Go.Proofs.YtocphkfkdadhaaaW.PrintLast Go.Proofs.YtocphkfkdadhaaaW.PrintMore
set_option linter.unusedVariables false
set_option linter.unusedSimpArgs false
section
variable {P : Program} {ops : Array Oper} {S : World → Prop} {o : Oper} {a : Act}
theorem yif_loadV (hw : Region.wanted o (yielded ops a.tmps) = true) (ty : TypeId) (x : Operand) (ho : o.op = .load ty x) (g : Nat) (cs : Array Value) (hx : a.eval x = .pointer (some ⟨g, 0, none⟩))
    (hS : ∀ w, S w → w.heap[g]? = some (.cells cs ty (0, 0))) (d : TypeDesc) (hu : P.underlying ty = some d) (hd : isAggD d = true) (hi : (P.info? ty).map (·.size) = some cs.size) : YieldsIf P ops S o (.agg cs) a :=
  .inl ⟨hw, fun w h => by
    unfold execOp
    simp only [ho, hx, Instr.loadAt, Instr.sureAddr, Sem.run_bind, Sem.run_pure, Result.andThen_ok, run_loadVar_row w g ty ty cs (0, 0) d (hS w h) hu (by cases d <;> first | rfl | cases hd) hi]⟩
theorem yif_eq_H (hw : Region.wanted o (yielded ops a.tmps) = true) (t u : TypeId) (x y : Operand) (ho : o.op = .binOp .eql t x y u) (xs ys : List Int) (hx : a.eval x = .agg (cellsB xs)) (hy : a.eval y = .agg (cellsB ys)) {n : Nat} {e : TypeId} (ht : P.underlying t = some (.array n e)) (he : P.underlying e = some (.int .u8)) (hs : (P.info? e).map (·.size) = some 1) (hg : P.eqGuardType P.depth t = false) (lx : xs.length = n) (ly : ys.length = n) :
    YieldsIf P ops S o (.bool (xs == ys)) a :=
  .inl ⟨hw, fun w _ => by
    unfold execOp
    have := (run_eqH (P := P) 0 t e n ht he hs hg xs ys lx ly x y w).1
    simp only [Sem.run_bind] at this
    simp only [ho, hx, hy, Sem.run_bind, Sem.run_pure]
    rw [this]
    rfl⟩
end
theorem yif_eqb {P : Program} {ops : Array Oper} {S : World → Prop} {o : Oper} {a : Act} (b : Bool) (hw : Region.wanted o (yielded ops a.tmps) = true) (t u : TypeId) (x y : Operand) (ho : o.op = .binOp .eql t x y u) (xs ys : List Int) (hx : a.eval x = .agg (cellsB xs)) (hy : a.eval y = .agg (cellsB ys)) {n : Nat} {e : TypeId} (ht : P.underlying t = some (.array n e)) (he : P.underlying e = some (.int .u8)) (hs : (P.info? e).map (·.size) = some 1) (hg : P.eqGuardType P.depth t = false) (lx : xs.length = n) (ly : ys.length = n) (hb : (xs == ys) = b) :
    YieldsIf P ops S o (.bool b) a := by
  rw [← hb]
  exact yif_eq_H hw t u x y ho xs ys hx hy ht he hs hg lx ly
theorem reps_H1 (W : World) (x : List Int) (hx : x.length = 32) : Reps (kH.K W) kH.sz [x] (x.map (Value.int .u8)) := by
  refine ⟨by simp [hx, kH], fun j p hj => ?_⟩
  have hj0 : j = 0 := by
    have := (List.getElem?_eq_some_iff.1 hj).1
    simpa using this
  subst hj0
  obtain rfl : x = p := by simpa using hj
  refine ⟨hx, ?_⟩
  rw [Nat.zero_mul, List.drop_zero]
  exact List.take_of_length_le (by rw [List.length_map, hx]; exact Nat.le_refl _)
end Go.Proofs.Ytocphkfkdadhaaa.H

namespace Go.Proofs.Ytocphkfkdadhaaa.H
open Go.RowKit Go.Proofs.YtocphkfkdadhaaaW.PrintWords Go.Proofs.YtocphkfkdadhaaaW.PrintLast Go.Proofs.YtocphkfkdadhaaaW.PrintMore
set_option linter.unusedVariables false
set_option linter.unusedSimpArgs false
theorem step_of_run {P : Program} {ops : Array Oper} {o : Oper} {a : Act} {Q : Exit → Act → World → Prop} {Kc : Act → World → Prop} {W W1 : World} {v : Value} (hw : Region.wanted o (yielded ops a.tmps) = true) (hrun : (execOp a.eval o).run P W = .ok (.value v) W1) (h : Kc (a.put o.dst v) W1) :
    if Region.wanted o (yielded ops a.tmps) = true then Oper.wp P o a W Kc Q else Kc (a.put o.dst undef) W := by
  rw [if_pos hw]
  unfold Oper.wp
  rw [hrun]
  exact h
theorem be8I_1 : be8I 1 = [0, 0, 0, 0, 0, 0, 0, 1] := by decide
theorem be8I_2 : be8I 2 = [0, 0, 0, 0, 0, 0, 0, 2] := by decide
theorem anch_root : memroot 1 [1, 2] = pairI (leafW 1) (leafW 2) := by
  show rootP 1 (leavesW [1, 2]) = _
  simp [rootP, leavesW]
theorem anch_yes : chkI (pairI (leafW 1) (leafW 2)) 1 2 [leafW 1] = true := by
  unfold chkI
  have : foldI 1 (leafW 2) [leafW 1] = pairI (leafW 1) (leafW 2) := rfl
  rw [this]; simp
theorem anch_no : chkI (pairI (leafW 1) (leafW 2)) 1 3 [leafW 1] = false := by
  decide +kernel
set_option maxHeartbeats 2000000 in
set_option maxRecDepth 100000 in
theorem anchored11 (w : World) : Calls Try.prog 18 #[] w fun e w' => e = .returned (.bool true) ∧ Below w.heap.size w w' := by
  have H0 := Aside0.mk (Own.start w)
  have R32 : Aside0 (Arr 32 (Array.replicate 32 (.int .u8 0))) := ⟨Arr_rep _ _ rfl⟩
  have HL1 := Aside0.mk (fun A c W hC hc => rleaf_any A c [0, 0, 0, 0, 0, 0, 0, 1] W (by unfold Byt; decide) hC hc (by decide))
  have HL2 := Aside0.mk (fun A c W hC hc => rleaf_any A c [0, 0, 0, 0, 0, 0, 0, 2] W (by unfold Byt; decide) hC hc (by decide))
  rw [← be8I_1] at HL1
  rw [← be8I_2] at HL2
  have e1 : leafI (be8I 1) = leafW 1 := rfl
  have e2 : leafI (be8I 2) = leafW 2 := rfl
  rw [e1] at HL1
  rw [e2] at HL2
  have HR : Aside0 (∀ A c W, Kd.C kU W A 2 [1, 2] → 2 ≤ c → Calls Try.prog 14 #[.slice A 2 c] W fun e w' => e = .returned (.tuple #[.agg (cellsB (pairI (leafW 1) (leafW 2))), .int .i64 0]) ∧ Below W.heap.size W w') := ⟨fun A c W hC hc => by
    have h := memroot_yes 1 (by decide) [1, 2] rfl (by unfold Wrd; decide) A c hc W hC
    rw [anch_root] at h
    exact h⟩
  have ha : Hsh (leafW 1) := Hsh_leaf 1
  have hb : Hsh (leafW 2) := Hsh_leaf 2
  have hr : Hsh (pairI (leafW 1) (leafW 2)) := Hsh_pair _ _
  have hps : Hshs [leafW 1] := by intro x hx; rw [List.mem_singleton.1 hx]; exact ha
  have HP := Aside0.mk (fun W => rpair_any (leafW 1) (leafW 2) ha.1 hb.1 ha.2 hb.2 W)
  have HY : Aside0 (∀ A c W, Kd.C kH W A 1 [leafW 1] → 1 ≤ c → Calls Try.prog 16 #[.agg (cellsB (pairI (leafW 1) (leafW 2))), .int .u64 1, .int .u64 2, .slice A 1 c] W fun e w' => e = .returned (.bool true) ∧ Below W.heap.size W w') := ⟨fun A c W hC hc => by
    have h := memcheck_any (pairI (leafW 1) (leafW 2)) 1 2 [leafW 1] (by decide) (by decide) hr hps A c hc W hC
    rw [anch_yes] at h
    exact h⟩
  have HN : Aside0 (∀ A c W, Kd.C kH W A 1 [leafW 1] → 1 ≤ c → Calls Try.prog 16 #[.agg (cellsB (pairI (leafW 1) (leafW 2))), .int .u64 1, .int .u64 3, .slice A 1 c] W fun e w' => e = .returned (.bool false) ∧ Below W.heap.size W w') := ⟨fun A c W hC hc => by
    have h := memcheck_any (pairI (leafW 1) (leafW 2)) 1 3 [leafW 1] (by decide) (by decide) hr hps A c hc W hC
    rw [anch_no] at h
    exact h⟩
  have HH := Aside0.mk (And.intro ha (And.intro hb hr))
  have HA := Aside0.mk (Arr_B ha.1)
  have HB := Aside0.mk (Arr_B hb.1)
  have HRA := Aside0.mk (Arr_B hr.1)
  have hl8 : (be8I 1).length = 8 := rfl
  have hl9 : (be8I 2).length = 8 := rfl
  rw [hl8] at HL1
  rw [hl9] at HL2
  rw [be8I_1] at HL1
  rw [be8I_2] at HL2
  clear e1 e2 ha hb hr hps hl8 hl9
  generalize leafW 1 = la at *
  generalize leafW 2 = lb at *
  generalize pairI la lb = r at *
  go_enter Try.func18, Try.ntmps18
  go_wp2_with (first
    | fail
    | ((with_reducible refine gate_dst (N := 5) rfl ?_); refine own_lit kB Flat_B H0.out 5 rfl (N := 5) rfl (xs := [0, 0, 0, 0, 0, 0, 0, 1]) (inner := ([0, 0, 0, 0, 0, 0, 0, 1]).map (Value.int .u8)) ?hr5 (Kd.reps_scalar _) (by simp) ?_; (case hr5 => first | (go_simp; done) | (go_simp; rfl)); intro A5 c5 w5 H5 B5; replace H5 := Aside0.mk H5; replace B5 := Aside0.mk B5)
    )
  refine (HL1.out A5 c5 w5 (H5.out.C_of 0 rfl) (by obtain ⟨A', c', he, hc', _⟩ := H5.out.reads 0 rfl; injection he with e1 e2 e3; subst e3; exact hc')).mono ?_
  rintro e w6 ⟨rfl, hB6⟩
  have H6 := Aside0.mk (H5.out.step hB6)
  clear hB6
  go_wp2_with (first
    | fail
    | ((with_reducible refine gate_dst (N := 7) rfl ?_); refine own_lit kB Flat_B H6.out 5 rfl (N := 7) rfl (xs := [0, 0, 0, 0, 0, 0, 0, 2]) (inner := ([0, 0, 0, 0, 0, 0, 0, 2]).map (Value.int .u8)) ?hr7 (Kd.reps_scalar _) (by simp) ?_; (case hr7 => first | (go_simp; done) | (go_simp; rfl)); intro A7 c7 w7 H7 B7; replace H7 := Aside0.mk H7; replace B7 := Aside0.mk B7)
    )
  refine (HL2.out A7 c7 w7 (H7.out.C_of 0 rfl) (by obtain ⟨A', c', he, hc', _⟩ := H7.out.reads 0 rfl; injection he with e1 e2 e3; subst e3; exact hc')).mono ?_
  rintro e w8 ⟨rfl, hB8⟩
  have H8 := Aside0.mk ((H7.out.step hB8).erase 0)
  clear hB8
  go_wp2_with (first
    | fail
    | ((with_reducible refine gate_dst (N := 1) rfl ?_); refine own_alloc H8.out rfl (N := 1) rfl (t := 25) rfl (Array.replicate 32 (.int .u8 0)) 32 (by kernel_rfl) ?_; intro g1 w9 H9 B9; replace H9 := Aside0.mk H9; replace B9 := Aside0.mk B9)
    | ((with_reducible refine gate_dst (N := 2) rfl ?_); refine own_alloc H9.out rfl (N := 2) rfl (t := 25) rfl (Array.replicate 32 (.int .u8 0)) 32 (by kernel_rfl) ?_; intro g2 w10 H10 B10; replace H10 := Aside0.mk H10; replace B10 := Aside0.mk B10)
    | ((with_reducible refine own_store H10.out 1 g1 _ 25 rfl rfl (.tmp 1) (.tmp 6) rfl (cellsB la) ?_ ?_ 32 R32.out HA.out (by kernel_rfl) ?_); (case _ => rfl); (case _ => rfl); intro w11 H11; replace H11 := Aside0.mk H11)
    | ((with_reducible refine own_store H11.out 0 g2 _ 25 rfl rfl (.tmp 2) (.tmp 8) rfl (cellsB lb) ?_ ?_ 32 R32.out HB.out (by kernel_rfl) ?_); (case _ => rfl); (case _ => rfl); intro w12 H12; replace H12 := Aside0.mk H12)
    | ((with_reducible refine gate_dst (N := 10) rfl ?_); refine own_lit kU Flat_U H12.out 23 rfl (N := 10) rfl (xs := ([1, 2] : List Int)) (inner := (([1, 2] : List Int)).map (Value.int .u64)) ?hr10 (Kd.reps_scalar _) (by simp) ?_; (case hr10 => first | (go_simp; done) | (go_simp; rfl)); intro A13 c13 w13 H13 B13; replace H13 := Aside0.mk H13; replace B13 := Aside0.mk B13)
    )
  refine (HR.out A13 c13 w13 (H13.out.C_of 0 rfl) (by obtain ⟨A', c', he, hc', _⟩ := H13.out.reads 0 rfl; injection he with e1 e2 e3; subst e3; exact hc')).mono ?_
  rintro e w14 ⟨rfl, hB14⟩
  have H14 := Aside0.mk ((H13.out.step hB14).erase 0)
  clear hB14
  go_wp2_with (first
    | fail
    | ((with_reducible refine gate_dst (N := 3) rfl ?_); refine own_alloc H14.out rfl (N := 3) rfl (t := 25) rfl (Array.replicate 32 (.int .u8 0)) 32 (by kernel_rfl) ?_; intro g3 w15 H15 B15; replace H15 := Aside0.mk H15; replace B15 := Aside0.mk B15)
    | ((with_reducible refine own_store H15.out 0 g3 _ 25 rfl rfl (.tmp 3) (.tmp 12) rfl (cellsB r) ?_ ?_ 32 R32.out HRA.out (by kernel_rfl) ?_); (case _ => rfl); (case _ => rfl); intro w16 H16; replace H16 := Aside0.mk H16)
    )
  have hhp := Try.underlying25
  have HS : Aside0 (∀ W L, Own w.heap.size w W (.blk g3 (cellsB r) 25 :: .blk g2 (cellsB lb) 25 :: .blk g1 (cellsB la) 25 :: L) → W.heap[g3]? = some (.cells (cellsB r) 25 (0, 0)) ∧ W.heap[g2]? = some (.cells (cellsB lb) 25 (0, 0)) ∧ W.heap[g1]? = some (.cells (cellsB la) 25 (0, 0))) := ⟨fun W L h => ⟨h.get 0 rfl, h.get 1 rfl, h.get 2 rfl⟩⟩
  have HZ : Aside0 (∀ xs : List Int, Hsh xs → (Try.prog.info? 25).map (·.size) = some (cellsB xs).size) := ⟨fun xs h => by rw [(Arr_B h.1).1]; kernel_rfl⟩
  refine wp_region_held_drew (S := (fun W => W.heap[g3]? = some (.cells (cellsB r) 25 (0, 0)) ∧ W.heap[g2]? = some (.cells (cellsB lb) 25 (0, 0)) ∧ W.heap[g1]? = some (.cells (cellsB la) 25 (0, 0)))) (by kernel_rfl) ?_ (fun hHeld => ?_)
  · exact HS.out _ _ H16.out.drew
  refine wpAnyH_take (i := 0) (oi := { dst := some 14, op := Go.Op.move (Go.Operand.tmp 4), type := 29, pos := "law.go:17", after := #[], guard := none }) (v := ?_) rfl (by kernel_rfl) (by kernel_rfl) (by kernel_rfl) (fun _ _ _ h => h) (Or.inl ⟨by rfl, ?_⟩) (by assumption) ?_
  rotate_left
  · intro wS hSw; (try dsimp only at hSw); go_simp; (try with_reducible rfl)
  try simp only [Act.put, List.setIfInBounds_toArray, List.set_cons_zero, List.set_cons_succ]
  refine wpAnyH_take (i := 1) (oi := { dst := some 15, op := Go.Op.binOp Go.BinOp.eql 29 (Go.Operand.tmp 14) (Go.Operand.const (Go.Value.int Go.IntKind.i64 0)) 29, type := 4, pos := "law.go:17", after := #[{ on := 0, ground := Go.Ground.data }], guard := none }) (v := ?_) rfl (by kernel_rfl) (by kernel_rfl) (by kernel_rfl) (fun _ _ _ h => h) (Or.inl ⟨by rfl, ?_⟩) (by assumption) ?_
  rotate_left
  · intro wS hSw; (try dsimp only at hSw); go_simp; (try with_reducible rfl)
  try simp only [Act.put, List.setIfInBounds_toArray, List.set_cons_zero, List.set_cons_succ]
  refine wpAnyH_take (i := 2) (oi := { dst := some 16, op := Go.Op.move (Go.Operand.tmp 15), type := 4, pos := "law.go:17", after := #[{ on := 1, ground := Go.Ground.data }], guard := none }) (v := ?_) rfl (by kernel_rfl) (by kernel_rfl) (by kernel_rfl) (fun _ _ _ h => h) (Or.inl ⟨by rfl, ?_⟩) (by assumption) ?_
  rotate_left
  · intro wS hSw; (try dsimp only at hSw); go_simp; (try with_reducible rfl)
  try simp only [Act.put, List.setIfInBounds_toArray, List.set_cons_zero, List.set_cons_succ]
  refine wpAnyH_take (i := 3) (oi := { dst := some 17, op := Go.Op.load 25 (Go.Operand.tmp 3), type := 25, pos := "law.go:17", after := #[{ on := 2, ground := Go.Ground.guard }], guard := some (2, true) }) (v := .agg (cellsB r)) rfl (by kernel_rfl) (by kernel_rfl) (by kernel_rfl) (fun _ _ _ h => h) (yif_loadV (by rfl) 25 (.tmp 3) rfl g3 _ rfl (fun W h => h.1) _ hhp rfl (HZ.out r HH.out.2.2)) (by assumption) ?_
  try simp only [Act.put, List.setIfInBounds_toArray, List.set_cons_zero, List.set_cons_succ]
  refine wpAnyH_take (i := 4) (oi := { dst := some 18, op := Go.Op.load 25 (Go.Operand.tmp 1), type := 25, pos := "law.go:17", after := #[{ on := 2, ground := Go.Ground.guard }], guard := some (2, true) }) (v := .agg (cellsB la)) rfl (by kernel_rfl) (by kernel_rfl) (by kernel_rfl) (fun _ _ _ h => h) (yif_loadV (by rfl) 25 (.tmp 1) rfl g1 _ rfl (fun W h => h.2.2) _ hhp rfl (HZ.out la HH.out.1)) (by assumption) ?_
  try simp only [Act.put, List.setIfInBounds_toArray, List.set_cons_zero, List.set_cons_succ]
  refine wpAnyH_take (i := 5) (oi := { dst := some 19, op := Go.Op.load 25 (Go.Operand.tmp 2), type := 25, pos := "law.go:17", after := #[{ on := 2, ground := Go.Ground.guard }], guard := some (2, true) }) (v := .agg (cellsB lb)) rfl (by kernel_rfl) (by kernel_rfl) (by kernel_rfl) (fun _ _ _ h => h) (yif_loadV (by rfl) 25 (.tmp 2) rfl g2 _ rfl (fun W h => h.2.1) _ hhp rfl (HZ.out lb HH.out.2.1)) (by assumption) ?_
  try simp only [Act.put, List.setIfInBounds_toArray, List.set_cons_zero, List.set_cons_succ]
  refine wpAnyH_ready (rs := [6]) (by kernel_rfl) (by simp) ?_
  refine AllReadyH.cons (o := { dst := some 20, op := Go.Op.call { callee := Go.Callee.value (Go.Operand.func 66), args := #[Go.Operand.tmp 18, Go.Operand.tmp 19], argTypes := #[25, 25] }, type := 25, pos := "law.go:17", after := #[{ on := 4, ground := Go.Ground.data }, { on := 5, ground := Go.Ground.data }, { on := 2, ground := Go.Ground.chain }, { on := 2, ground := Go.Ground.guard }], guard := some (2, true) }) rfl (fun K hK => ?_) AllReadyH.nil
  go_simp
  refine (HP.out _).mono ?_
  rintro e w20 ⟨rfl, hB20⟩
  have H20 := Aside0.mk (H16.out.drew.step hB20)
  clear hB20
  go_wp2_with fail
  refine hK.out _ _ ?_ (fun hHeld => ?_)
  · exact HS.out _ _ H20.out
  clear hK K
  try simp only [Act.put, List.setIfInBounds_toArray, List.set_cons_zero, List.set_cons_succ]
  refine wpAnyH_take (i := 7) (oi := { dst := some 21, op := Go.Op.binOp Go.BinOp.eql 25 (Go.Operand.tmp 17) (Go.Operand.tmp 20) 25, type := 4, pos := "law.go:17", after := #[{ on := 3, ground := Go.Ground.data }, { on := 6, ground := Go.Ground.data }, { on := 2, ground := Go.Ground.guard }], guard := some (2, true) }) (v := .bool true) rfl (by kernel_rfl) (by kernel_rfl) (by kernel_rfl) (fun _ _ _ h => h) (yif_eqb true (by rfl) 25 _ (.tmp 17) (.tmp 20) rfl r r rfl rfl Try.underlying25 Try.underlying5 size1B guardH HH.out.2.2.1 HH.out.2.2.1 (beq_self_eq_true r)) (by assumption) ?_
  try simp only [Act.put, List.setIfInBounds_toArray, List.set_cons_zero, List.set_cons_succ]
  refine wpAnyH_take (i := 8) (oi := { dst := some 22, op := Go.Op.pick (Go.Operand.tmp 16) (Go.Operand.tmp 21) (Go.Operand.const (Go.Value.bool false)), type := 4, pos := "law.go:17", after := #[{ on := 2, ground := Go.Ground.data }, { on := 7, ground := Go.Ground.data }], guard := none }) (v := ?_) rfl (by kernel_rfl) (by kernel_rfl) (by kernel_rfl) (fun _ _ _ h => h) (Or.inl ⟨by rfl, ?_⟩) (by assumption) ?_
  rotate_left
  · intro wS hSw; (try dsimp only at hSw); go_simp; (try with_reducible rfl)
  try simp only [Act.put, List.setIfInBounds_toArray, List.set_cons_zero, List.set_cons_succ]
  refine wpAnyH_take (i := 9) (oi := { dst := some 23, op := Go.Op.move (Go.Operand.tmp 22), type := 4, pos := "law.go:17", after := #[{ on := 8, ground := Go.Ground.data }, { on := 6, ground := Go.Ground.chain }], guard := none }) (v := ?_) rfl (by kernel_rfl) (by kernel_rfl) (by kernel_rfl) (fun _ _ _ h => h) (Or.inl ⟨by rfl, ?_⟩) (by assumption) ?_
  rotate_left
  · intro wS hSw; (try dsimp only at hSw); go_simp; (try with_reducible rfl)
  try simp only [Act.put, List.setIfInBounds_toArray, List.set_cons_zero, List.set_cons_succ]
  refine wpAnyH_take (i := 10) (oi := { dst := some 24, op := Go.Op.load 25 (Go.Operand.tmp 3), type := 25, pos := "law.go:17", after := #[{ on := 9, ground := Go.Ground.guard }], guard := some (9, true) }) (v := .agg (cellsB r)) rfl (by kernel_rfl) (by kernel_rfl) (by kernel_rfl) (fun _ _ _ h => h) (yif_loadV (by rfl) 25 (.tmp 3) rfl g3 _ rfl (fun W h => h.1) _ hhp rfl (HZ.out r HH.out.2.2)) (by assumption) ?_
  try simp only [Act.put, List.setIfInBounds_toArray, List.set_cons_zero, List.set_cons_succ]
  refine wpAnyH_take (i := 11) (oi := { dst := some 25, op := Go.Op.load 25 (Go.Operand.tmp 1), type := 25, pos := "law.go:17", after := #[{ on := 9, ground := Go.Ground.guard }], guard := some (9, true) }) (v := .agg (cellsB la)) rfl (by kernel_rfl) (by kernel_rfl) (by kernel_rfl) (fun _ _ _ h => h) (yif_loadV (by rfl) 25 (.tmp 1) rfl g1 _ rfl (fun W h => h.2.2) _ hhp rfl (HZ.out la HH.out.1)) (by assumption) ?_
  try simp only [Act.put, List.setIfInBounds_toArray, List.set_cons_zero, List.set_cons_succ]
  refine wpAnyH_ready (rs := [12]) (by kernel_rfl) (by simp) ?_
  refine AllReadyH.cons (o := { dst := some 26, op := Go.Op.buildSlice 26 1 #[(0, Go.Operand.tmp 25)], type := 26, pos := "law.go:17", after := #[{ on := 11, ground := Go.Ground.data }, { on := 9, ground := Go.Ground.guard }], guard := some (9, true) }) rfl (fun K hK => ?_) AllReadyH.nil
  refine step_of_run (by rfl) (lit_H_run (.tmp 25) rfl la rfl HH.out.1.1) ?_
  have H22 := Aside0.mk ((H20.out.lit kH Flat_H 25 [la] (la.map (Value.int .u8)) (reps_H1 _ la HH.out.1.1) (by simp)))
  have K22 := Aside0.mk (And.intro (H22.out.get 1 rfl) (And.intro (H22.out.get 2 rfl) (H22.out.get 3 rfl)))
  refine hK.out _ _ ?_ (fun hHeld => ?_)
  · exact K22.out
  clear hK K
  try simp only [Act.put, List.setIfInBounds_toArray, List.set_cons_zero, List.set_cons_succ]
  refine wpAnyH_ready (rs := [13]) (by kernel_rfl) (by simp) ?_
  refine AllReadyH.cons (o := { dst := some 27, op := Go.Op.call { callee := Go.Callee.value (Go.Operand.func 16), args := #[Go.Operand.tmp 24, Go.Operand.const (Go.Value.int Go.IntKind.u64 1), Go.Operand.const (Go.Value.int Go.IntKind.u64 2), Go.Operand.tmp 26], argTypes := #[25, 23, 23, 26] }, type := 4, pos := "law.go:17", after := #[{ on := 10, ground := Go.Ground.data }, { on := 12, ground := Go.Ground.data }, { on := 9, ground := Go.Ground.chain }, { on := 9, ground := Go.Ground.guard }], guard := some (9, true) }) rfl (fun K hK => ?_) AllReadyH.nil
  go_simp
  refine (HY.out _ _ _ (H22.out.C_of 0 rfl) (Nat.le_refl _)).mono ?_
  rintro e w23 ⟨rfl, hB23⟩
  have H23 := Aside0.mk ((H22.out.step hB23).erase 0)
  clear hB23
  go_wp2_with fail
  refine hK.out _ _ ?_ (fun hHeld => ?_)
  · exact HS.out _ _ H23.out
  clear hK K
  try simp only [Act.put, List.setIfInBounds_toArray, List.set_cons_zero, List.set_cons_succ]
  refine wpAnyH_take (i := 14) (oi := { dst := some 28, op := Go.Op.pick (Go.Operand.tmp 23) (Go.Operand.tmp 27) (Go.Operand.const (Go.Value.bool false)), type := 4, pos := "law.go:17", after := #[{ on := 9, ground := Go.Ground.data }, { on := 13, ground := Go.Ground.data }], guard := none }) (v := ?_) rfl (by kernel_rfl) (by kernel_rfl) (by kernel_rfl) (fun _ _ _ h => h) (Or.inl ⟨by rfl, ?_⟩) (by assumption) ?_
  rotate_left
  · intro wS hSw; (try dsimp only at hSw); go_simp; (try with_reducible rfl)
  try simp only [Act.put, List.setIfInBounds_toArray, List.set_cons_zero, List.set_cons_succ]
  refine wpAnyH_take (i := 15) (oi := { dst := some 29, op := Go.Op.move (Go.Operand.tmp 28), type := 4, pos := "law.go:17", after := #[{ on := 14, ground := Go.Ground.data }, { on := 13, ground := Go.Ground.chain }], guard := none }) (v := ?_) rfl (by kernel_rfl) (by kernel_rfl) (by kernel_rfl) (fun _ _ _ h => h) (Or.inl ⟨by rfl, ?_⟩) (by assumption) ?_
  rotate_left
  · intro wS hSw; (try dsimp only at hSw); go_simp; (try with_reducible rfl)
  try simp only [Act.put, List.setIfInBounds_toArray, List.set_cons_zero, List.set_cons_succ]
  refine wpAnyH_take (i := 16) (oi := { dst := some 30, op := Go.Op.load 25 (Go.Operand.tmp 3), type := 25, pos := "law.go:17", after := #[{ on := 15, ground := Go.Ground.guard }], guard := some (15, true) }) (v := .agg (cellsB r)) rfl (by kernel_rfl) (by kernel_rfl) (by kernel_rfl) (fun _ _ _ h => h) (yif_loadV (by rfl) 25 (.tmp 3) rfl g3 _ rfl (fun W h => h.1) _ hhp rfl (HZ.out r HH.out.2.2)) (by assumption) ?_
  try simp only [Act.put, List.setIfInBounds_toArray, List.set_cons_zero, List.set_cons_succ]
  refine wpAnyH_take (i := 17) (oi := { dst := some 31, op := Go.Op.load 25 (Go.Operand.tmp 1), type := 25, pos := "law.go:17", after := #[{ on := 15, ground := Go.Ground.guard }], guard := some (15, true) }) (v := .agg (cellsB la)) rfl (by kernel_rfl) (by kernel_rfl) (by kernel_rfl) (fun _ _ _ h => h) (yif_loadV (by rfl) 25 (.tmp 1) rfl g1 _ rfl (fun W h => h.2.2) _ hhp rfl (HZ.out la HH.out.1)) (by assumption) ?_
  try simp only [Act.put, List.setIfInBounds_toArray, List.set_cons_zero, List.set_cons_succ]
  refine wpAnyH_ready (rs := [18]) (by kernel_rfl) (by simp) ?_
  refine AllReadyH.cons (o := { dst := some 32, op := Go.Op.buildSlice 26 1 #[(0, Go.Operand.tmp 31)], type := 26, pos := "law.go:17", after := #[{ on := 17, ground := Go.Ground.data }, { on := 15, ground := Go.Ground.guard }], guard := some (15, true) }) rfl (fun K hK => ?_) AllReadyH.nil
  refine step_of_run (by rfl) (lit_H_run (.tmp 31) rfl la rfl HH.out.1.1) ?_
  have H32 := Aside0.mk ((H23.out.lit kH Flat_H 25 [la] (la.map (Value.int .u8)) (reps_H1 _ la HH.out.1.1) (by simp)))
  have K32 := Aside0.mk (And.intro (H32.out.get 1 rfl) (And.intro (H32.out.get 2 rfl) (H32.out.get 3 rfl)))
  refine hK.out _ _ ?_ (fun hHeld => ?_)
  · exact K32.out
  clear hK K
  try simp only [Act.put, List.setIfInBounds_toArray, List.set_cons_zero, List.set_cons_succ]
  refine wpAnyH_ready (rs := [19]) (by kernel_rfl) (by simp) ?_
  refine AllReadyH.cons (o := { dst := some 33, op := Go.Op.call { callee := Go.Callee.value (Go.Operand.func 16), args := #[Go.Operand.tmp 30, Go.Operand.const (Go.Value.int Go.IntKind.u64 1), Go.Operand.const (Go.Value.int Go.IntKind.u64 3), Go.Operand.tmp 32], argTypes := #[25, 23, 23, 26] }, type := 4, pos := "law.go:17", after := #[{ on := 16, ground := Go.Ground.data }, { on := 18, ground := Go.Ground.data }, { on := 15, ground := Go.Ground.chain }, { on := 15, ground := Go.Ground.guard }], guard := some (15, true) }) rfl (fun K hK => ?_) AllReadyH.nil
  go_simp
  refine (HN.out _ _ _ (H32.out.C_of 0 rfl) (Nat.le_refl _)).mono ?_
  rintro e w33 ⟨rfl, hB33⟩
  have H33 := Aside0.mk ((H32.out.step hB33).erase 0)
  clear hB33
  go_wp2_with fail
  refine hK.out _ _ ?_ (fun hHeld => ?_)
  · exact HS.out _ _ H33.out
  clear hK K
  try simp only [Act.put, List.setIfInBounds_toArray, List.set_cons_zero, List.set_cons_succ]
  refine wpAnyH_take (i := 20) (oi := { dst := some 34, op := Go.Op.unOp Go.UnOp.not 4 (Go.Operand.tmp 33), type := 4, pos := "law.go:17", after := #[{ on := 19, ground := Go.Ground.data }, { on := 15, ground := Go.Ground.guard }], guard := some (15, true) }) (v := ?_) rfl (by kernel_rfl) (by kernel_rfl) (by kernel_rfl) (fun _ _ _ h => h) (Or.inl ⟨by rfl, ?_⟩) (by assumption) ?_
  rotate_left
  · intro wS hSw; (try dsimp only at hSw); go_simp; (try with_reducible rfl)
  try simp only [Act.put, List.setIfInBounds_toArray, List.set_cons_zero, List.set_cons_succ]
  refine wpAnyH_take (i := 21) (oi := { dst := some 35, op := Go.Op.pick (Go.Operand.tmp 29) (Go.Operand.tmp 34) (Go.Operand.const (Go.Value.bool false)), type := 4, pos := "law.go:17", after := #[{ on := 15, ground := Go.Ground.data }, { on := 20, ground := Go.Ground.data }], guard := none }) (v := ?_) rfl (by kernel_rfl) (by kernel_rfl) (by kernel_rfl) (fun _ _ _ h => h) (Or.inl ⟨by rfl, ?_⟩) (by assumption) ?_
  rotate_left
  · intro wS hSw; (try dsimp only at hSw); go_simp; (try with_reducible rfl)
  try simp only [Act.put, List.setIfInBounds_toArray, List.set_cons_zero, List.set_cons_succ]
  refine wpAnyH_take (i := 22) (oi := { dst := some 0, op := Go.Op.assign (Go.Operand.tmp 35), type := 4, pos := "law.go:17", after := #[{ on := 21, ground := Go.Ground.data }, { on := 19, ground := Go.Ground.chain }, { on := 0, ground := Go.Ground.phase }, { on := 1, ground := Go.Ground.phase }, { on := 2, ground := Go.Ground.phase }, { on := 3, ground := Go.Ground.phase }, { on := 4, ground := Go.Ground.phase }, { on := 5, ground := Go.Ground.phase }, { on := 6, ground := Go.Ground.phase }, { on := 7, ground := Go.Ground.phase }, { on := 8, ground := Go.Ground.phase }, { on := 9, ground := Go.Ground.phase }, { on := 10, ground := Go.Ground.phase }, { on := 11, ground := Go.Ground.phase }, { on := 12, ground := Go.Ground.phase }, { on := 13, ground := Go.Ground.phase }, { on := 14, ground := Go.Ground.phase }, { on := 15, ground := Go.Ground.phase }, { on := 16, ground := Go.Ground.phase }, { on := 17, ground := Go.Ground.phase }, { on := 18, ground := Go.Ground.phase }, { on := 19, ground := Go.Ground.phase }, { on := 20, ground := Go.Ground.phase }, { on := 21, ground := Go.Ground.phase }], guard := none }) (v := ?_) rfl (by kernel_rfl) (by kernel_rfl) (by kernel_rfl) (fun _ _ _ h => h) (Or.inl ⟨by rfl, ?_⟩) (by assumption) ?_
  rotate_left
  · intro wS hSw; (try dsimp only at hSw); go_simp; (try with_reducible rfl)
  try simp only [Act.put, List.setIfInBounds_toArray, List.set_cons_zero, List.set_cons_succ]
  refine wpAnyH_done (by kernel_rfl) ?_ _
  clear hHeld
  go_wp2_with fail
  go_ret
  exact ⟨rfl, H33.out.below⟩
end Go.Proofs.Ytocphkfkdadhaaa.H

namespace Go.Proofs.Ytocphkfkdadhaaa.H
open Go.RowKit Go.Proofs.YtocphkfkdadhaaaW.PrintWords Go.Proofs.YtocphkfkdadhaaaW.PrintLast Go.Proofs.YtocphkfkdadhaaaW.PrintMore
set_option linter.unusedVariables false
set_option linter.unusedSimpArgs false
theorem geqb_H {P : Program} {ops : Array Oper} {rest : List Oper} {o : Oper} {a : Act} {Q : Exit → Act → World → Prop} {W : World} (b : Bool) (hw : Region.wanted o (yielded ops a.tmps) = true) (t u : TypeId) (x y : Operand) (ho : o.op = .binOp .eql t x y u) (xs ys : List Int) (hx : a.eval x = .agg (cellsB xs)) (hy : a.eval y = .agg (cellsB ys)) {n : Nat} {e : TypeId} (ht : P.underlying t = some (.array n e)) (he : P.underlying e = some (.int .u8)) (hs : (P.info? e).map (·.size) = some 1) (hg : P.eqGuardType P.depth t = false) (lx : xs.length = n) (ly : ys.length = n) (hb : (xs == ys) = b)
    (h : wpList P ops Q rest (a.put o.dst (.bool b)) W) : wpList P ops Q (o :: rest) a W := by
  subst hb
  exact geq_H hw t u x y ho xs ys hx hy ht he hs hg lx ly h
set_option maxHeartbeats 2000000 in
set_option maxRecDepth 100000 in
theorem nil_law (at_ : Nat) (w : World) : Calls Try.prog 6 #[.int .u64 (at_ : Int)] w fun e w' => e = .returned (.bool true) ∧ Below w.heap.size w w' := by
  have H0 := Aside0.mk (Own.start w)
  have HG := Aside0.mk (fun W => get_nil W (at_ : Int))
  have HP := Aside0.mk (fun W => prove_nil W (at_ : Int))
  have HS := Aside0.mk (fun W => set_nil W (at_ : Int) 1)
  have HR := Aside0.mk (fun W => mroot_nil W)
  have HW := Aside0.mk (fun W => words_nil W)
  have HA := Aside0.mk (fun W => anchored11 W)
  go_enter Try.func6, Try.ntmps6
  go_wp2_with (first
    | fail
    | (go_at_call 27; refine (HG.out _).mono ?_; rintro e w2 ⟨rfl, rfl⟩)
    | (go_at_call 22; refine (HP.out _).mono ?_; rintro e w2 ⟨rfl, rfl⟩)
    | (go_at_call 28; refine (HS.out _).mono ?_; rintro e w2 ⟨rfl, rfl⟩)
    | (go_at_call 25; refine (HR.out _).mono ?_; rintro e w3 ⟨rfl, hB3⟩; have H3 := Aside0.mk (H0.out.step hB3); clear hB3)
    | ((with_reducible refine gate_dst (N := 36) rfl ?_); refine geqb_H true (by rfl) 25 _ (.tmp 34) (.tmp 35) rfl zero32 zero32 rfl rfl Try.underlying25 Try.underlying5 size1B guardH Hsh_zero.1 Hsh_zero.1 (beq_self_eq_true zero32) ?_)
    | (go_at_call 21; refine (HW.out _).mono ?_; rintro e w4 ⟨rfl, rfl⟩)
    | (go_at_call 18; refine (HA.out _).mono ?_; rintro e w5 ⟨rfl, hB5⟩; have H5 := Aside0.mk (H3.out.step hB5); clear hB5)
    )
  go_ret
  exact ⟨rfl, H5.out.below⟩
end Go.Proofs.Ytocphkfkdadhaaa.H

