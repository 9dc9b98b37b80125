import Derived.Test.YtocphkfkdadhaaaZPk2
import Derived.Deep.QuietTactic
import Derived.StillTail
namespace Go.Proofs.Ytocphkfkdadhaaa.H
open Go.RowKit Go.Proofs.YtocphkfkdadhaaaW.PrintWords Go.Proofs.YtocphkfkdadhaaaW.PrintLast Go.Proofs.YtocphkfkdadhaaaW.PrintMore
set_option linter.unusedVariables false
set_option linter.unusedSimpArgs false
def findR (id : Nat) : Code → Option Code
  | .region i ops d => if i = id then some (.region i ops d) else none
  | .seq a b => (findR id a).orElse fun _ => findR id b
  | .loop c => findR id c
  | .block _ c => findR id c
  | .scope c => findR id c
  | .cond _ a b => (findR id a).orElse fun _ => findR id b
  | _ => none
noncomputable def regOf (F : Func) (id : Nat) : Code := (F.body.bind (findR id)).getD .skip
theorem size_put (a : Act) (d : Tmp) (v : Value) : (a.put (some d) v).tmps.size = a.tmps.size := by simp [Act.put]
theorem eval_put_eq (a : Act) (d : Tmp) (v : Value) (h : d < a.tmps.size) : (a.put (some d) v).eval (.tmp d) = v := by simp [Act.put, Act.eval, h]
theorem eval_put_ne (a : Act) (d k : Tmp) (v : Value) (h : k ≠ d) : (a.put (some d) v).eval (.tmp k) = a.eval (.tmp k) := by
  simp [Act.put, Act.eval, Array.getElem?_setIfInBounds_ne (Ne.symm h)]
theorem eval_const (a : Act) (v : Value) : a.eval (.const v) = v := rfl
theorem eval_func (a : Act) (f : FuncId) : a.eval (.func f) = .func (.func f) #[] #[] := rfl
section
variable {P : Program} {ops : Array Oper} {rest : List Oper} {o : Oper} {a : Act} {Q : Act → Prop} {C : World → Prop}
theorem qs (hg : o.guard = none) (h : ∃ v, (∀ w, C w → o.quietAt P a C w v) ∧ wpQuiet P ops C Q rest (a.put o.dst v)) : wpQuiet P ops C Q (o :: rest) a := by
  unfold wpQuiet
  rw [if_pos (by simp [Region.wanted, hg])]
  exact h
theorem q_run (hg : o.guard = none) (v : Value) (hv : ∀ w, C w → (execOp a.eval o).run P w = .ok (.value v) w) (h : wpQuiet P ops C Q rest (a.put o.dst v)) : wpQuiet P ops C Q (o :: rest) a :=
  qs hg ⟨v, fun w hw => by unfold Oper.quietAt; rw [hv w hw]; exact ⟨rfl, rfl⟩, h⟩
theorem q_move (hg : o.guard = none) (x : Operand) (ho : o.op = .move x ∨ o.op = .assign x) (v : Value) (hx : a.eval x = v) (h : wpQuiet P ops C Q rest (a.put o.dst v)) : wpQuiet P ops C Q (o :: rest) a :=
  q_run hg v (fun w _ => by
    unfold execOp
    rcases ho with ho | ho <;> simp only [ho, hx, Sem.run_pure]) h
theorem q_instr (hg : o.guard = none) (s : Sem Value) (v : Value) (he : execOp a.eval o = (do pure (.value (← s)))) (hs : ∀ w, C w → s.run P w = .ok v w) (h : wpQuiet P ops C Q rest (a.put o.dst v)) : wpQuiet P ops C Q (o :: rest) a :=
  q_run hg v (fun w hw => by rw [he]; simp [Sem.run_bind, hs w hw]) h
theorem q_bin (hg : o.guard = none) (op : BinOp) (t u : TypeId) (x y : Operand) (ho : o.op = .binOp op t x y u) (vx vy v : Value) (hx : a.eval x = vx) (hy : a.eval y = vy)
    (hs : ∀ w, C w → (do eqGuard op t x y vx vy; binOp op t vx vy : Sem Value).run P w = .ok v w) (h : wpQuiet P ops C Q rest (a.put o.dst v)) : wpQuiet P ops C Q (o :: rest) a :=
  q_instr hg _ v (by unfold execOp; simp only [ho, hx, hy]) hs h
theorem q_un (hg : o.guard = none) (op : UnOp) (t : TypeId) (x : Operand) (ho : o.op = .unOp op t x) (vx v : Value) (hx : a.eval x = vx)
    (hs : ∀ w, C w → (Op.unary op vx).run P w = .ok v w) (h : wpQuiet P ops C Q rest (a.put o.dst v)) : wpQuiet P ops C Q (o :: rest) a :=
  q_instr hg _ v (by unfold execOp; simp only [ho, hx]) hs h
theorem q_load (hg : o.guard = none) (t : TypeId) (x : Operand) (ho : o.op = .load t x) (vx v : Value) (hx : a.eval x = vx)
    (hs : ∀ w, C w → (Instr.loadAt t vx).run P w = .ok v w) (h : wpQuiet P ops C Q rest (a.put o.dst v)) : wpQuiet P ops C Q (o :: rest) a :=
  q_instr hg _ v (by unfold execOp; simp only [ho, hx]) hs h
theorem q_index (hg : o.guard = none) (t : TypeId) (x y : Operand) (ho : o.op = .indexAddr t x y) (vx vy v : Value) (hx : a.eval x = vx) (hy : a.eval y = vy)
    (hs : ∀ w, C w → (Instr.indexAt t vx vy).run P w = .ok v w) (h : wpQuiet P ops C Q rest (a.put o.dst v)) : wpQuiet P ops C Q (o :: rest) a :=
  q_instr hg _ v (by unfold execOp; simp only [ho, hx, hy]) hs h
theorem q_call2 (hg : o.guard = none) (f : FuncId) (x y : Operand) (ts : Array TypeId) (ho : o.op = .call { callee := .value (.func f), args := #[x, y], argTypes := ts }) (vx vy v : Value) (hx : a.eval x = vx) (hy : a.eval y = vy)
    (hf : ∀ w, (execOp a.eval o).run P w = .ok (.enter f #[vx, vy]) w) (hs : ∀ w, C w → Calls P f #[vx, vy] w (fun e w'' => e = .returned v ∧ C w'')) (h : wpQuiet P ops C Q rest (a.put o.dst v)) : wpQuiet P ops C Q (o :: rest) a :=
  qs hg ⟨v, fun w hw => by unfold Oper.quietAt; rw [hf w]; exact ⟨rfl, hs w hw⟩, h⟩
end
section
variable {P : Program} {ops : Array Oper} {rest : List Oper} {o : Oper} {a : Act} {Q : Act → Prop} {w : World}
theorem ss (hg : o.guard = none) (h : o.still P a w (wpStill P ops w Q rest)) : wpStill P ops w Q (o :: rest) a := by
  unfold wpStill
  rw [if_pos (by simp [Region.wanted, hg])]
  exact h
theorem s_run (hg : o.guard = none) (v : Value) (hv : (execOp a.eval o).run P w = .ok (.value v) w) (h : wpStill P ops w Q rest (a.put o.dst v)) : wpStill P ops w Q (o :: rest) a :=
  ss hg (by unfold Oper.still; rw [hv]; exact ⟨rfl, h⟩)
theorem s_move (hg : o.guard = none) (x : Operand) (ho : o.op = .move x ∨ o.op = .assign x) (v : Value) (hx : a.eval x = v) (h : wpStill P ops w Q rest (a.put o.dst v)) : wpStill P ops w Q (o :: rest) a :=
  s_run hg v (by
    unfold execOp
    rcases ho with ho | ho <;> simp only [ho, hx, Sem.run_pure]) h
theorem s_instr (hg : o.guard = none) (s : Sem Value) (v : Value) (he : execOp a.eval o = (do pure (.value (← s)))) (hs : s.run P w = .ok v w) (h : wpStill P ops w Q rest (a.put o.dst v)) : wpStill P ops w Q (o :: rest) a :=
  s_run hg v (by rw [he]; simp [Sem.run_bind, hs]) h
theorem s_bin (hg : o.guard = none) (op : BinOp) (t u : TypeId) (x y : Operand) (ho : o.op = .binOp op t x y u) (vx vy v : Value) (hx : a.eval x = vx) (hy : a.eval y = vy)
    (hs : (do eqGuard op t x y vx vy; binOp op t vx vy : Sem Value).run P w = .ok v w) (h : wpStill P ops w Q rest (a.put o.dst v)) : wpStill P ops w Q (o :: rest) a :=
  s_instr hg _ v (by unfold execOp; simp only [ho, hx, hy]) hs h
theorem s_load (hg : o.guard = none) (t : TypeId) (x : Operand) (ho : o.op = .load t x) (vx v : Value) (hx : a.eval x = vx)
    (hs : (Instr.loadAt t vx).run P w = .ok v w) (h : wpStill P ops w Q rest (a.put o.dst v)) : wpStill P ops w Q (o :: rest) a :=
  s_instr hg _ v (by unfold execOp; simp only [ho, hx]) hs h
theorem s_index (hg : o.guard = none) (t : TypeId) (x y : Operand) (ho : o.op = .indexAddr t x y) (vx vy v : Value) (hx : a.eval x = vx) (hy : a.eval y = vy)
    (hs : (Instr.indexAt t vx vy).run P w = .ok v w) (h : wpStill P ops w Q rest (a.put o.dst v)) : wpStill P ops w Q (o :: rest) a :=
  s_instr hg _ v (by unfold execOp; simp only [ho, hx, hy]) hs h
theorem s_conv (hg : o.guard = none) (s t : TypeId) (x : Operand) (ho : o.op = .convert s t x) (vx v : Value) (hx : a.eval x = vx)
    (hs : (convert s t vx).run P w = .ok v w) (h : wpStill P ops w Q rest (a.put o.dst v)) : wpStill P ops w Q (o :: rest) a :=
  s_instr hg _ v (by unfold execOp; simp only [ho, hx]) hs h
theorem t_store {Q : Exit → Act → World → Prop} {w w1 : World} (hg : o.guard = none) (hd : o.dst = none) (t : TypeId) (p x : Operand) (ho : o.op = .store t p x) (vp v : Value) (hp : a.eval p = vp) (hx : a.eval x = v)
    (hrun : (Instr.storeAt t vp v).run P w = .ok () w1) (h : Q .normal a w1) : wpList P ops Q [o] a w := by
  refine wpList_plain hg fun K hK => ?_
  unfold Oper.wp execOp
  simp only [ho, hp, hx, Sem.run_bind, hrun, Result.andThen_ok, Sem.run_pure]
  have := hK a w1 h
  simpa [Oper.upon, hd, Act.put] using this
end
end Go.Proofs.Ytocphkfkdadhaaa.H

