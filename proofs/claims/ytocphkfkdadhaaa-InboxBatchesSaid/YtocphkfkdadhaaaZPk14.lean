import Derived.Test.YtocphkfkdadhaaaZPk13
import Derived.Test.YtocphkfkdadhaaaZPk11
import Derived.Test.YtocphkfkdadhaaaZPk2
import Derived.Test.YtocphkfkdadhaaaZPk10
import Derived.Test.YtocphkfkdadhaaaZPk1
namespace Go.Proofs.Ytocphkfkdadhaaa.K
open Go.RowKit Go.Proofs.YtocphkfkdadhaaaW.PrintWords Go.Proofs.YtocphkfkdadhaaaW.PrintLast Go.Proofs.YtocphkfkdadhaaaW.PrintMore Go.Proofs.Ytocphkfkdadhaaa.PRF
attribute [local go_sem] max2_int min2_int max_two min_two max_three min_three max_four min_four
set_option linter.unusedVariables false
set_option linter.unusedSimpArgs false
theorem form_any_aux : ∀ (s : Nat) (x : S159), SizeOf.sizeOf x ≤ s → ∀ (v : Value) (xs : List Int) (A1 A2 : Option Addr) (c1 c2 : Nat) (w0 w : World), Below w0.heap.size w0 w →
 Kd.C (Kd.int .u8) w0 A1 x.f1.length x.f1 → x.f1.length ≤ c1 → Kd.C k159 w0 A2 x.f2.length x.f2 → x.f2.length ≤ c2 →
 Kd.R (Kd.int .u8) 5 w w0.heap.size (fun _ => True) v xs → xs.length + (formP x).length ≤ 1099511627776 →
 Calls Try.prog 139 #[v, .agg #[.bool x.f0, .slice A1 x.f1.length c1, .slice A2 x.f2.length c2]] w (GrewPost w0 (xs ++ formP x)) := by
 intro s
 induction s with
 | zero => intro x hx; exfalso; cases x; simp at hx
 | succ s ih =>
  intro x hx v xs A1 A2 c1 c2 w0 w hB hC1 hc1 hC2 hc2 hR hl
  cases h0 : x.f0 with
  | false => exact form_str x h0 v xs A1 A2 c1 c2 w0 w hB hC1 hc1 hR hl
  | true =>
   rw [formP_list x h0] at hl ⊢
   exact form_list x.f1 x.f2 v xs A1 A2 c1 c2 w0 w hB hC2 hc2 hR hl (fun y hy => ih y (by have := size_f2 x y hy; omega))
theorem form_any (x : S159) (v : Value) (xs : List Int) (A1 A2 : Option Addr) (c1 c2 : Nat) (w0 w : World) (hB : Below w0.heap.size w0 w)
 (hC1 : Kd.C (Kd.int .u8) w0 A1 x.f1.length x.f1) (hc1 : x.f1.length ≤ c1) (hC2 : Kd.C k159 w0 A2 x.f2.length x.f2) (hc2 : x.f2.length ≤ c2)
 (hR : Kd.R (Kd.int .u8) 5 w w0.heap.size (fun _ => True) v xs) (hl : xs.length + (formP x).length ≤ 1099511627776) :
 Calls Try.prog 139 #[v, .agg #[.bool x.f0, .slice A1 x.f1.length c1, .slice A2 x.f2.length c2]] w (GrewPost w0 (xs ++ formP x)) :=
 form_any_aux _ x (Nat.le_refl _) v xs A1 A2 c1 c2 w0 w hB hC1 hc1 hC2 hc2 hR hl
set_option maxHeartbeats 2000000 in
set_option maxRecDepth 100000 in
theorem encode_any (x : S159) (A1 A2 : Option Addr) (c1 c2 : Nat) (w : World)
 (hC1 : Kd.C (Kd.int .u8) w A1 x.f1.length x.f1) (hc1 : x.f1.length ≤ c1) (hC2 : Kd.C k159 w A2 x.f2.length x.f2) (hc2 : x.f2.length ≤ c2) :
 Calls Try.prog 100 #[.agg #[.bool x.f0, .slice A1 x.f1.length c1, .slice A2 x.f2.length c2]] w
  fun e w' => ∃ v, e = .returned (.tuple #[v, .int .i64 (encP x).2]) ∧ Kd.R (Kd.int .u8) 5 w' w.heap.size (fun _ => True) v (encP x).1 ∧ Below w.heap.size w w' := by
 obtain ⟨K, hK⟩ := may_spec x
 have hm := hK K (Nat.le_refl _)
 simp only at hm
 have HC1 := Aside0.mk hC1
 have HC2 := Aside0.mk hC2
 have Hc1 := Aside0.mk hc1
 have Hc2 := Aside0.mk hc2
 have HB := Aside0.mk (Below.refl w.heap.size w)
 have HF := Aside0.mk (form_any x (.slice none 0 0) [] A1 A2 c1 c2)
 have HM := Aside0.mk hm
 clear hK hm hC1 hC2 hc1 hc2
 obtain ⟨all, hall⟩ : ∃ all, all = formP x := ⟨_, rfl⟩
 have HV := Aside0.mk (show vP 16 65536 x = true → all.length ≤ 65536 by
  intro h
  simp only [vP, Bool.and_eq_true, decide_eq_true_eq] at h
  rw [hall]; exact h.2)
 have he : encP x = if vP 16 65536 x = true then (all, 0) else ([], 2) := by rw [hall]; rfl
 rw [he]
 rw [← hall] at HF
 clear he hall
 obtain ⟨res, hres⟩ : ∃ b, b = vP 16 65536 x := ⟨_, rfl⟩
 rw [← hres] at HM HV ⊢
 clear hres
 obtain ⟨f0, f1, f2⟩ := x
 simp only at *
 obtain ⟨n1, hn1⟩ : ∃ n, n = f1.length := ⟨_, rfl⟩
 obtain ⟨n2, hn2⟩ : ∃ n, n = f2.length := ⟨_, rfl⟩
 have HN1 := Aside0.mk hn1
 have HN2 := Aside0.mk hn2
 rw [← hn1] at HF ⊢
 rw [← hn2] at HF ⊢
 clear hn1 hn2
 cases res with
 | false =>
  simp only [Bool.false_eq_true, if_false]
  go_enter Try.func100, Try.ntmps100
  go_wp2_with (first
   | ((with_reducible refine gate_dst (N := 1) rfl ?_); refine alloc_ev rfl (N := 1) rfl (cs := #[.bool f0, .slice A1 n1 c1, .slice A2 n2 c2]) (t := 159) HB ?hr ?_; (case hr => first | (go_simp; done) | (go_simp; rfl)); intro g3 w1 HG3 HGe3 HE1 HB1; have hcf := cf3 HG3))
  rw [HN1.out, HN2.out]
  refine (rlp_May.calls K f0 A1 c1 f1 A2 c2 f2 false _ (Kd.C_below HC1.out HB1.out) Hc1.out (Kd.C_below HC2.out HB1.out) Hc2.out HM.out).mono ?_
  rintro e w2 ⟨rfl, hE2⟩
  have HB2 := Aside0.mk (below_step HB1.out hE2)
  clear hE2
  go_wp2
  go_ret2
  exact ⟨_, rfl, Kd.R_nil _ _ _ _ _, HB2.out⟩
 | true =>
  simp only [if_true]
  go_enter Try.func100, Try.ntmps100
  go_wp2_with (first
   | ((with_reducible refine gate_dst (N := 1) rfl ?_); refine alloc_ev rfl (N := 1) rfl (cs := #[.bool f0, .slice A1 n1 c1, .slice A2 n2 c2]) (t := 159) HB ?hr ?_; (case hr => first | (go_simp; done) | (go_simp; rfl)); intro g3 w1 HG3 HGe3 HE1 HB1; have hcf := cf3 HG3))
  rw [HN1.out, HN2.out]
  refine (rlp_May.calls K f0 A1 c1 f1 A2 c2 f2 true _ (Kd.C_below HC1.out HB1.out) Hc1.out (Kd.C_below HC2.out HB1.out) Hc2.out HM.out).mono ?_
  rintro e w2 ⟨rfl, hE2⟩
  rw [← HN1.out, ← HN2.out]
  have HB2 := Aside0.mk (below_step HB1.out hE2)
  have hcf2 := cf3 ⟨blk_below HG3.out hE2⟩
  clear hE2 hcf
  go_wp2_with fail
  refine (HF.out w _ HB2.out (by rw [HN1.out]; exact HC1.out) (by rw [HN1.out]; exact Hc1.out) (by rw [HN2.out]; exact HC2.out) (by rw [HN2.out]; exact Hc2.out) (Kd.R_nil _ _ _ _ _) (by have := HV.out trivial; simp only [List.length_nil]; omega)).mono ?_
  rintro e w3 ⟨v3, rfl, hR3, hB3⟩
  have HR3 := Aside0.mk hR3
  have HB3 := Aside0.mk hB3
  clear hR3 hB3
  go_wp2
  go_ret2
  exact ⟨v3, rfl, HR3.out, HB3.out⟩
end Go.Proofs.Ytocphkfkdadhaaa.K

namespace Go.Proofs.Ytocphkfkdadhaaa.H
open Go.RowKit Go.Proofs.YtocphkfkdadhaaaW.PrintWords Go.Proofs.YtocphkfkdadhaaaW.PrintLast Go.Proofs.YtocphkfkdadhaaaW.PrintMore
set_option linter.unusedVariables false
set_option linter.unusedSimpArgs false
structure MsgI where
 kd : Int
 fr : Int
 tt : Int
 am : Int
 no : Int
 ky : List Int
 nx : List Int
def z32 : List Int := List.replicate 32 0
def vB (l : List Int) : List Value := l.map (Value.int .u8)
theorem vB_len (l : List Int) : (vB l).length = l.length := by simp [vB]
theorem vB_one (l : List Int) : ∀ v ∈ vB l, v.oneCell' = true := by
 intro v hv
 obtain ⟨x, _, rfl⟩ := List.mem_map.1 hv
 rfl
def MsgI.cells (m : MsgI) : List Value := [Value.int .u8 m.kd, Value.int .u64 m.fr, Value.int .u64 m.tt, Value.int .u64 m.am, Value.int .u64 m.no] ++ (vB m.ky ++ vB m.nx)
def msgA (m : MsgI) : Array Value := ([Value.int .u8 m.kd, Value.int .u64 m.fr, Value.int .u64 m.tt, Value.int .u64 m.am, Value.int .u64 m.no] ++ (vB m.ky ++ vB m.nx)).toArray
def zeroM : MsgI := ⟨0, 0, 0, 0, 0, z32, z32⟩
structure MsgI.ok (m : MsgI) : Prop where
 kd : 0 ≤ m.kd ∧ m.kd ≤ 255
 fr : 0 ≤ m.fr ∧ m.fr ≤ 18446744073709551615
 tt : 0 ≤ m.tt ∧ m.tt ≤ 18446744073709551615
 am : 0 ≤ m.am ∧ m.am ≤ 18446744073709551615
 no : 0 ≤ m.no ∧ m.no ≤ 18446744073709551615
 ky : m.ky.length = 32 ∧ ∀ x ∈ m.ky, 0 ≤ x ∧ x ≤ 255
 nx : m.nx.length = 32 ∧ ∀ x ∈ m.nx, 0 ≤ x ∧ x ≤ 255
theorem msgA_size {m : MsgI} (h1 : m.ky.length = 32) (h2 : m.nx.length = 32) : (msgA m).size = 69 := by
 simp [msgA, vB, h1, h2]
theorem msgA_arr {m : MsgI} (h1 : m.ky.length = 32) (h2 : m.nx.length = 32) : Arr 69 (msgA m) := by
 refine ⟨msgA_size h1 h2, all_oneCell_toArray ?_⟩
 intro v hv
 simp only [List.mem_append, List.mem_cons, List.not_mem_nil, or_false] at hv
 rcases hv with (rfl | rfl | rfl | rfl | rfl) | hv | hv
 ·rfl
 ·rfl
 ·rfl
 ·rfl
 ·rfl
 ·exact vB_one _ v hv
 ·exact vB_one _ v hv
def mayM (m : MsgI) : Bool :=
 if m.kd = 1 then decide (m.fr = 0) && decide (m.tt < 32) && decide (0 < m.am) && (decide (m.no = 0) && (m.ky == z32) && (m.nx == z32))
 else if m.kd = 2 then decide (m.fr < 32) && decide (m.tt < 32)
 else if m.kd = 3 then decide (m.fr < 32) && decide (0 < m.am) else false
def eqM (m n : MsgI) : Bool := (m.kd == n.kd) && ((m.fr == n.fr) && ((m.tt == n.tt) && ((m.am == n.am) && ((m.no == n.no) && ((m.ky == n.ky) && (m.nx == n.nx))))))
theorem part_scalar {P : Program} (t : TypeId) (d : TypeDesc) (ht : P.underlying t = some d) (hd : d.isRow = false) (cs : Array Value) (off : Nat) (v : Value) (hv : cs[off]? = some v) (w : World) : (part t cs off).run P w = .ok v w := by
 have hag : (isAgg t).run P w = .ok false w := by
  unfold isAgg
  rw [Sem.run_bind, run_underlying ht w]
  cases d <;> simp_all [TypeDesc.isRow]
 simp [part, hag, hv, go_sem]
theorem part_agg {P : Program} (t : TypeId) (d : TypeDesc) (ht : P.underlying t = some d) (hd : d.isRow = true) (cs : Array Value) (off n : Nat) (hs : (P.info? t).map (·.size) = some n) (w : World) : (part t cs off).run P w = .ok (.agg (cs.extract off (off + n))) w := by
 have hag : (isAgg t).run P w = .ok true w := by
  unfold isAgg
  rw [Sem.run_bind, run_underlying ht w]
  cases d <;> simp_all [TypeDesc.isRow]
 obtain ⟨ti, hti, hsz⟩ := Option.map_eq_some_iff.1 hs
 simp [part, hag, sizeOf, typeInfo, hti, hsz, go_sem]
theorem extract_mid (a s b : List Value) (o n : Nat) (ho : a.length = o) (hn : s.length = n) : ((a ++ (s ++ b)).toArray).extract o (o + n) = s.toArray := by
 subst ho hn
 rw [← Array.toArray_toList (xs := Array.extract _ _ _)]
 congr 1
 simp
def fieldsM : List (TypeId × Nat) := [(90, 0), (23, 1), (23, 2), (23, 3), (23, 4), (25, 5), (25, 37)]
theorem fieldsM_eq : (Try.prog.fieldsOf 92).toList.map (fun f => (f.name == "_", f.type, f.offset)) = fieldsM.map (fun x => (false, x.1, x.2)) := by kernel_rfl
theorem eqFields_map {P : Program} (d : Nat) (xs ys : Array Value) (w : World) : ∀ (fs : List Field) (l : List (TypeId × Nat)), fs.map (fun f => (f.name == "_", f.type, f.offset)) = l.map (fun x => (false, x.1, x.2)) →
 (Op.eqFields d xs ys fs).run P w = (l.foldr (fun x (k : Sem Bool) => do
  let a ← part x.1 xs x.2
  let b ← part x.1 ys x.2
  let r ← Op.equalIn d x.1 a b
  if (!r) = true then pure false else k) (pure true)).run P w
 | [], [], _ => rfl
 | [], _ :: _, h => by simp at h
 | _ :: _, [], h => by simp at h
 | f :: fs, (t, o) :: l, h => by
  simp only [List.map_cons, List.cons.injEq, Prod.mk.injEq] at h
  obtain ⟨⟨h1, h2, h3⟩, h4⟩ := h
  subst h2 h3
  have hn : f.name ≠ "_" := by simpa using h1
  simp only [Op.eqFields, if_pos hn, List.foldr_cons, Sem.run_bind]
  cases hq : (part f.type xs f.offset).run P w with
  | halt x w1 => rfl
  | ok a w1 =>
   simp only [Result.andThen_ok]
   cases hq2 : (part f.type ys f.offset).run P w1 with
   | halt x w2 => rfl
   | ok b w2 =>
    simp only [Result.andThen_ok]
    cases hq3 : (Op.equalIn d f.type a b).run P w2 with
    | halt x w3 => rfl
    | ok r w3 =>
     simp only [Result.andThen_ok]
     cases r
     ·rfl
     ·simp only [Bool.not_true, Bool.false_eq_true, if_false]
      exact eqFields_map d xs ys w3 fs l h4
theorem undM : Try.prog.underlying 92 = some (.struct (Try.prog.fieldsOf 92)) := by kernel_rfl
theorem stoodM : Try.prog.stoodInHeld 92 = false := by kernel_rfl
theorem partM_ky (x : MsgI) (h1 : x.ky.length = 32) (w : World) : (part 25 (msgA x) 5).run Try.prog w = .ok (.agg (cellsB x.ky)) w := by
 rw [part_agg _ _ Try.underlying25 rfl _ _ 32 sizeH]
 unfold msgA
 rw [extract_mid _ _ _ 5 32 rfl (by rw [vB_len, h1])]
 rfl
theorem partM_nx (x : MsgI) (h1 : x.ky.length = 32) (h2 : x.nx.length = 32) (w : World) : (part 25 (msgA x) 37).run Try.prog w = .ok (.agg (cellsB x.nx)) w := by
 rw [part_agg _ _ Try.underlying25 rfl _ _ 32 sizeH]
 unfold msgA
 rw [show ∀ (a b c : List Value), a ++ (b ++ c) = (a ++ b) ++ (c ++ []) from fun a b c => by simp, extract_mid _ _ _ 37 32 (by rw [List.length_append, vB_len, h1]; rfl) (by rw [vB_len, h2])]
 rfl
theorem partM_sc (x : MsgI) (w : World) : (part 90 (msgA x) 0).run Try.prog w = .ok (.int .u8 x.kd) w ∧ (part 23 (msgA x) 1).run Try.prog w = .ok (.int .u64 x.fr) w ∧ (part 23 (msgA x) 2).run Try.prog w = .ok (.int .u64 x.tt) w ∧ (part 23 (msgA x) 3).run Try.prog w = .ok (.int .u64 x.am) w ∧ (part 23 (msgA x) 4).run Try.prog w = .ok (.int .u64 x.no) w :=
 ⟨part_scalar _ _ Try.underlying90 rfl _ _ _ (by simp [msgA]) w, part_scalar _ _ Try.underlying23 rfl _ _ _ (by simp [msgA]) w, part_scalar _ _ Try.underlying23 rfl _ _ _ (by simp [msgA]) w, part_scalar _ _ Try.underlying23 rfl _ _ _ (by simp [msgA]) w, part_scalar _ _ Try.underlying23 rfl _ _ _ (by simp [msgA]) w⟩
theorem step_eq {P : Program} (d : Nat) (t : TypeId) (xs ys : Array Value) (off : Nat) (a b : Value) (r r2 : Bool) (w : World) (k : Sem Bool) (h1 : (part t xs off).run P w = .ok a w) (h2 : (part t ys off).run P w = .ok b w) (h3 : (Op.equalIn d t a b).run P w = .ok r w) (h4 : k.run P w = .ok r2 w) :
 (do
  let a ← part t xs off
  let b ← part t ys off
  let r ← Op.equalIn d t a b
  if (!r) = true then pure false else k : Sem Bool).run P w = .ok (r && r2) w := by
 simp only [Sem.run_bind, h1, h2, h3, Result.andThen_ok]
 cases r
 ·rfl
 ·simp [h4]
theorem run_eqM (d : Nat) (m n : MsgI) (hm1 : m.ky.length = 32) (hm2 : m.nx.length = 32) (hn1 : n.ky.length = 32) (hn2 : n.nx.length = 32) (w : World) :
 (Op.equalIn (d + 3) 92 (.agg (msgA m)) (.agg (msgA n))).run Try.prog w = .ok (eqM m n) w := by
 rw [run_equalIn_struct w (d + 2) _ _ _ undM stoodM, eqFields_map (d + 2) _ _ w _ fieldsM fieldsM_eq]
 obtain ⟨a1, a2, a3, a4, a5⟩ := partM_sc m w
 obtain ⟨b1, b2, b3, b4, b5⟩ := partM_sc n w
 have he := fun (t : TypeId) (k : IntKind) (x y : Int) (ht : Try.prog.underlying t = some (.int k)) => run_equalIn_int (P := Try.prog) w (d + 1) t k k x y ht
 have heH := fun (x y : List Int) (hx : x.length = 32) (hy : y.length = 32) => run_equalIn_B (P := Try.prog) d 25 5 32 Try.underlying25 Try.underlying5 size1B x y hx hy w
 have e : eqM m n = ((m.kd == n.kd) && ((m.fr == n.fr) && ((m.tt == n.tt) && ((m.am == n.am) && ((m.no == n.no) && ((m.ky == n.ky) && ((m.nx == n.nx) && true))))))) := by simp [eqM]
 rw [e]
 exact step_eq _ _ _ _ _ _ _ _ _ w _ a1 b1 (he _ _ _ _ Try.underlying90) (step_eq _ _ _ _ _ _ _ _ _ w _ a2 b2 (he _ _ _ _ Try.underlying23) (step_eq _ _ _ _ _ _ _ _ _ w _ a3 b3 (he _ _ _ _ Try.underlying23) (step_eq _ _ _ _ _ _ _ _ _ w _ a4 b4 (he _ _ _ _ Try.underlying23) (step_eq _ _ _ _ _ _ _ _ _ w _ a5 b5 (he _ _ _ _ Try.underlying23)
  (step_eq _ _ _ _ _ _ _ _ _ w _ (partM_ky m hm1 w) (partM_ky n hn1 w) (heH _ _ hm1 hn1) (step_eq _ _ _ _ _ _ _ _ _ w _ (partM_nx m hm1 hm2 w) (partM_nx n hn1 hn2 w) (heH _ _ hm2 hn2) rfl))))))
theorem guardM : Try.prog.eqGuardType Try.prog.depth 92 = false := by kernel_rfl
theorem sizeM : (Try.prog.info? 92).map (·.size) = some 69 := by kernel_rfl
theorem builtM0 : Try.prog.built 92 [] = some (msgA zeroM) := by kernel_rfl
theorem builtH0 : Try.prog.built 25 [] = some (cellsB z32) := by kernel_rfl
section
variable {ops : Array Oper} {rest : List Oper} {o : Oper} {a : Act} {Q : Exit → Act → World → Prop} {W : World}
theorem eq_M (hgd : o.guard = none) (u : TypeId) (x y : Operand) (ho : o.op = .binOp .eql 92 x y u) (m n : MsgI) (hx : a.eval x = .agg (msgA m)) (hy : a.eval y = .agg (msgA n)) (hm1 : m.ky.length = 32) (hm2 : m.nx.length = 32) (hn1 : n.ky.length = 32) (hn2 : n.nx.length = 32)
 (h : wpList Try.prog ops Q rest (a.put o.dst (.bool (eqM m n))) W) : wpList Try.prog ops Q (o :: rest) a W :=
 wpList_plain hgd fun _ hK => by
  have h1 : (Op.equal 92 (.agg (msgA m)) (.agg (msgA n))).run Try.prog W = .ok (eqM m n) W := run_eqM 9997 m n hm1 hm2 hn1 hn2 W
  have h2 : (eqGuard .eql 92 x y (.agg (msgA m)) (.agg (msgA n))).run Try.prog W = .ok () W := by simp [eqGuard, guardM, go_sem]
  have h3 : (binOp .eql 92 (.agg (msgA m)) (.agg (msgA n))).run Try.prog W = .ok (.bool (eqM m n)) W := by simp only [binOp]; simp [h1, go_sem]
  unfold Oper.wp execOp
  simp only [ho, hx, hy, Sem.run_bind, Sem.run_pure, h2, h3, Result.andThen_ok]
  exact hK _ _ h
end
end Go.Proofs.Ytocphkfkdadhaaa.H

namespace Go.Proofs.Ytocphkfkdadhaaa.H
open Go.RowKit Go.Proofs.YtocphkfkdadhaaaW.PrintWords Go.Proofs.YtocphkfkdadhaaaW.PrintLast Go.Proofs.YtocphkfkdadhaaaW.PrintMore
set_option linter.unusedVariables false
set_option linter.unusedSimpArgs false
theorem sizeM_of {cs : Array Value} (h : cs.size = 69) : (Try.prog.info? 92).map (·.size) = some cs.size := by rw [h]; exact sizeM
theorem z32_len : z32.length = 32 := rfl
theorem spl5 {a b c d e : Value} {K K' N : List Value} (h : K.length = K'.length) : (splice (([a, b, c, d, e] ++ (K ++ N)).toArray.toList) 5 K').toArray = ([a, b, c, d, e] ++ (K' ++ N)).toArray := by
 have := splice_mid [a, b, c, d, e] K K' N h
 exact congrArg List.toArray this
theorem spl37 {a b c d e : Value} {K N N' : List Value} (hk : K.length = 32) (h : N.length = N'.length) : (splice (([a, b, c, d, e] ++ (K ++ N)).toArray.toList) 37 N').toArray = ([a, b, c, d, e] ++ (K ++ N')).toArray := by
 have := splice_mid ([a, b, c, d, e] ++ K) N N' [] h
 have hl : ([a, b, c, d, e] ++ K).length = 37 := by rw [List.length_append, hk]; rfl
 rw [hl] at this
 simp only [List.append_nil, List.append_assoc] at this
 exact congrArg List.toArray this
set_option maxHeartbeats 4000000 in
set_option maxRecDepth 100000 in
theorem mmay_any (m : MsgI) (hm : m.ok) (w : World) : Calls Try.prog 136 #[.agg (msgA m)] w fun e w' => e = .returned (.bool (mayM m)) ∧ Below w.heap.size w w' := by
 obtain ⟨_, hfr, htt, ham, hno, ⟨hky, _⟩, ⟨hnx, _⟩⟩ := hm
 obtain ⟨kd, fr, tt, am, no, ky, nx⟩ := m
 dsimp only at *
 have H0 := Aside0.mk (Own.start w)
 have HSZ := Aside0.mk (msgA_size (m := ⟨kd, fr, tt, am, no, ky, nx⟩) hky hnx)
 have HAR := Aside0.mk (msgA_arr (m := ⟨kd, fr, tt, am, no, ky, nx⟩) hky hnx)
 have HAZ : Aside0 (Arr 69 (msgA zeroM)) := ⟨msgA_arr rfl rfl⟩
 have HK := Aside0.mk hky
 have HN := Aside0.mk hnx
 clear hky hnx
 obtain ⟨r, hr⟩ : ∃ r, r = mayM ⟨kd, fr, tt, am, no, ky, nx⟩ := ⟨_, rfl⟩
 rw [← hr]
 by_cases h2 : kd = 2
 ·simp only [mayM] at hr
  rw [if_neg (by omega), if_pos h2] at hr
  subst h2
  by_cases h3 : fr < 32
  ·have e3 : decide (32 ≤ fr) = false := decide_eq_false (by omega)
   by_cases h4 : tt < 32
   ·have e4 : decide (32 ≤ tt) = false := decide_eq_false (by omega)
    obtain rfl : r = true := by rw [hr, decide_eq_true h3, decide_eq_true h4]; rfl
    clear hr
    go_enter Try.func136, Try.ntmps136
    go_wp2_with (first
     | fail
     | ((with_reducible refine gate_dst (N := 1) rfl ?_); refine own_box H0.out rfl (N := 1) rfl (t := 92) rfl (.agg (msgA ⟨2, fr, tt, am, no, ky, nx⟩)) rfl ?_; intro g1 w1 H1 B1; replace H1 := Aside0.mk H1; replace B1 := Aside0.mk B1)
     | ((with_reducible refine gate_dst (N := 4) rfl ?_); ( refine own_loadV H1.out 0 g1 _ 92 rfl rfl (.tmp 1) rfl _ rfl Try.underlying92 rfl (sizeM_of HSZ.out) ?_))
     | ((with_reducible refine gate_dst (N := 3) rfl ?_); refine own_alloc H1.out rfl (N := 3) rfl (t := 92) rfl (msgA zeroM) 69 (by kernel_rfl) ?_; intro g3 w2 H2 B2; replace H2 := Aside0.mk H2; replace B2 := Aside0.mk B2)
     | ((with_reducible refine own_store H2.out 0 g3 _ 92 rfl rfl (.tmp 3) (.tmp 4) rfl (msgA ⟨2, fr, tt, am, no, ky, nx⟩) ?_ ?_ 69 HAZ.out HAR.out (by kernel_rfl) ?_); (case _ => rfl); (case _ => rfl); intro w3 H3; replace H3 := Aside0.mk H3)
     | ((with_reducible refine gate_dst (N := 6) rfl ?_); ( refine own_ld1 H3.out 1 g1 _ _ rfl rfl 90 (.tmp 5) rfl 0 (.int .u8 2) _ rfl rfl Try.underlying90 rfl ?_))
     | ((with_reducible refine gate_dst (N := 13) rfl ?_); ( refine own_ld1 H3.out 1 g1 _ _ rfl rfl 23 (.tmp 12) rfl 1 (.int .u64 fr) _ rfl rfl Try.underlying23 rfl ?_))
     | ((with_reducible refine gate_dst (N := 15) rfl ?_); ( refine build_ rfl 25 [] rfl _ rfl (cellsB z32) (builtH0) ?_))
     | ((with_reducible refine gate_dst (N := 16) rfl ?_); ( refine build_ rfl 25 [] rfl _ rfl (cellsB z32) (builtH0) ?_))
     | ((with_reducible refine gate_store (t := 23) (p := 17) rfl ?_); ( refine own_st H3.out 0 g3 _ (msgA ⟨2, 0, tt, am, no, ky, nx⟩) 92 (by rfl) rfl 23 (.tmp 17) _ rfl 1 [.int .u64 0] (.int .u64 0) (by rfl) (by rfl) (by rfl) (by simp [msgA, vB]; try omega) (by kernel_rfl) (by simp [Value.oneCell']) (by rfl) ?_; intro w4 H4; replace H4 := Aside0.mk H4))
     | ((with_reducible refine gate_store (t := 23) (p := 18) rfl ?_); ( refine own_st H4.out 0 g3 _ (msgA ⟨2, 0, tt, am, 0, ky, nx⟩) 92 (by rfl) rfl 23 (.tmp 18) _ rfl 4 [.int .u64 0] (.int .u64 0) (by rfl) (by rfl) (by rfl) (by simp [msgA, vB]; try omega) (by kernel_rfl) (by simp [Value.oneCell']) (by rfl) ?_; intro w5 H5; replace H5 := Aside0.mk H5))
     | ((with_reducible refine gate_store (t := 25) (p := 19) rfl ?_); ( refine own_st H5.out 0 g3 _ (msgA ⟨2, 0, tt, am, 0, z32, nx⟩) 92 (by rfl) rfl 25 (.tmp 19) _ rfl 5 (vB z32) (.agg (cellsB z32)) (by rfl) (by rfl) (by rfl) (by rw [msgA_size HK.out HN.out]; decide) (by kernel_rfl) (by exact vB_one _) (by exact spl5 (by rw [vB_len, vB_len, HK.out]; rfl)) ?_; intro w6 H6; replace H6 := Aside0.mk H6))
     | ((with_reducible refine gate_store (t := 25) (p := 20) rfl ?_); ( refine own_st H6.out 0 g3 _ (msgA ⟨2, 0, tt, am, 0, z32, z32⟩) 92 (by rfl) rfl 25 (.tmp 20) _ rfl 37 (vB z32) (.agg (cellsB z32)) (by rfl) (by rfl) (by rfl) (by rw [msgA_size z32_len HN.out]; decide) (by kernel_rfl) (by exact vB_one _) (by exact spl37 (by rw [vB_len]; rfl) (by rw [vB_len, vB_len, HN.out]; rfl)) ?_; intro w7 H7; replace H7 := Aside0.mk H7))
     | ((with_reducible refine gate_dst (N := 22) rfl ?_); ( refine own_ld1 H7.out 1 g1 _ _ rfl rfl 90 (.tmp 21) rfl 0 (.int .u8 2) _ rfl rfl Try.underlying90 rfl ?_))
     | ((with_reducible refine gate_dst (N := 26) rfl ?_); (refine gate_guard (by rfl) ?_); ( refine own_ld1 H7.out 1 g1 _ _ rfl rfl 23 (.tmp 25) rfl 2 (.int .u64 tt) _ rfl rfl Try.underlying23 rfl ?_))
     | ((with_reducible refine gate_dst (N := 31) rfl ?_); (refine gate_guard (by rfl) ?_); ( refine own_ld1 H7.out 1 g1 _ _ rfl rfl 90 (.tmp 30) rfl 0 (.int .u8 2) _ rfl rfl Try.underlying90 rfl ?_))
     | ((with_reducible refine gate_dst (N := 35) rfl ?_); (refine gate_guard (by rfl) ?_); ( refine own_ld1 H7.out 1 g1 _ _ rfl rfl 23 (.tmp 34) rfl 3 (.int .u64 am) _ rfl rfl Try.underlying23 rfl ?_))
     | ((with_reducible refine gate_store (t := 90) (p := 39) rfl ?_); ( refine own_st H7.out 0 g3 _ (msgA ⟨0, 0, tt, am, 0, z32, z32⟩) 92 (by rfl) rfl 90 (.tmp 39) _ rfl 0 [.int .u8 0] (.int .u8 0) (by rfl) (by rfl) (by rfl) (by simp [msgA, vB]; try omega) (by kernel_rfl) (by simp [Value.oneCell']) (by rfl) ?_; intro w8 H8; replace H8 := Aside0.mk H8))
     | ((with_reducible refine gate_store (t := 23) (p := 40) rfl ?_); ( refine own_st H8.out 0 g3 _ (msgA ⟨0, 0, 0, am, 0, z32, z32⟩) 92 (by rfl) rfl 23 (.tmp 40) _ rfl 2 [.int .u64 0] (.int .u64 0) (by rfl) (by rfl) (by rfl) (by simp [msgA, vB]; try omega) (by kernel_rfl) (by simp [Value.oneCell']) (by rfl) ?_; intro w9 H9; replace H9 := Aside0.mk H9))
     | ((with_reducible refine gate_store (t := 23) (p := 41) rfl ?_); ( refine own_st H9.out 0 g3 _ (msgA ⟨0, 0, 0, 0, 0, z32, z32⟩) 92 (by rfl) rfl 23 (.tmp 41) _ rfl 3 [.int .u64 0] (.int .u64 0) (by rfl) (by rfl) (by rfl) (by simp [msgA, vB]; try omega) (by kernel_rfl) (by simp [Value.oneCell']) (by rfl) ?_; intro w10 H10; replace H10 := Aside0.mk H10))
     | ((with_reducible refine gate_dst (N := 42) rfl ?_); ( refine own_loadV H10.out 0 g3 _ 92 rfl rfl (.tmp 3) rfl _ rfl Try.underlying92 rfl (sizeM_of (msgA_size rfl rfl)) ?_))
     | ((with_reducible refine gate_dst (N := 43) rfl ?_); ( refine build_ rfl 92 [] rfl _ rfl (msgA zeroM) (builtM0) ?_))
     | ((with_reducible refine gate_dst (N := 44) rfl ?_); refine eq_M rfl _ (.tmp 42) (.tmp 43) rfl ⟨0, 0, 0, 0, 0, z32, z32⟩ zeroM rfl rfl rfl rfl rfl rfl ?_)
     )
    go_ret
    exact ⟨rfl, H10.out.below⟩
   ·have e4 : decide (32 ≤ tt) = true := decide_eq_true (by omega)
    obtain rfl : r = false := by rw [hr, decide_eq_false h4]; simp
    clear hr
    go_enter Try.func136, Try.ntmps136
    go_wp2_with (first
     | fail
     | ((with_reducible refine gate_dst (N := 1) rfl ?_); refine own_box H0.out rfl (N := 1) rfl (t := 92) rfl (.agg (msgA ⟨2, fr, tt, am, no, ky, nx⟩)) rfl ?_; intro g1 w1 H1 B1; replace H1 := Aside0.mk H1; replace B1 := Aside0.mk B1)
     | ((with_reducible refine gate_dst (N := 4) rfl ?_); ( refine own_loadV H1.out 0 g1 _ 92 rfl rfl (.tmp 1) rfl _ rfl Try.underlying92 rfl (sizeM_of HSZ.out) ?_))
     | ((with_reducible refine gate_dst (N := 3) rfl ?_); refine own_alloc H1.out rfl (N := 3) rfl (t := 92) rfl (msgA zeroM) 69 (by kernel_rfl) ?_; intro g3 w2 H2 B2; replace H2 := Aside0.mk H2; replace B2 := Aside0.mk B2)
     | ((with_reducible refine own_store H2.out 0 g3 _ 92 rfl rfl (.tmp 3) (.tmp 4) rfl (msgA ⟨2, fr, tt, am, no, ky, nx⟩) ?_ ?_ 69 HAZ.out HAR.out (by kernel_rfl) ?_); (case _ => rfl); (case _ => rfl); intro w3 H3; replace H3 := Aside0.mk H3)
     | ((with_reducible refine gate_dst (N := 6) rfl ?_); ( refine own_ld1 H3.out 1 g1 _ _ rfl rfl 90 (.tmp 5) rfl 0 (.int .u8 2) _ rfl rfl Try.underlying90 rfl ?_))
     | ((with_reducible refine gate_dst (N := 13) rfl ?_); ( refine own_ld1 H3.out 1 g1 _ _ rfl rfl 23 (.tmp 12) rfl 1 (.int .u64 fr) _ rfl rfl Try.underlying23 rfl ?_))
     | ((with_reducible refine gate_dst (N := 15) rfl ?_); ( refine build_ rfl 25 [] rfl _ rfl (cellsB z32) (builtH0) ?_))
     | ((with_reducible refine gate_dst (N := 16) rfl ?_); ( refine build_ rfl 25 [] rfl _ rfl (cellsB z32) (builtH0) ?_))
     | ((with_reducible refine gate_store (t := 23) (p := 17) rfl ?_); ( refine own_st H3.out 0 g3 _ (msgA ⟨2, 0, tt, am, no, ky, nx⟩) 92 (by rfl) rfl 23 (.tmp 17) _ rfl 1 [.int .u64 0] (.int .u64 0) (by rfl) (by rfl) (by rfl) (by simp [msgA, vB]; try omega) (by kernel_rfl) (by simp [Value.oneCell']) (by rfl) ?_; intro w4 H4; replace H4 := Aside0.mk H4))
     | ((with_reducible refine gate_store (t := 23) (p := 18) rfl ?_); ( refine own_st H4.out 0 g3 _ (msgA ⟨2, 0, tt, am, 0, ky, nx⟩) 92 (by rfl) rfl 23 (.tmp 18) _ rfl 4 [.int .u64 0] (.int .u64 0) (by rfl) (by rfl) (by rfl) (by simp [msgA, vB]; try omega) (by kernel_rfl) (by simp [Value.oneCell']) (by rfl) ?_; intro w5 H5; replace H5 := Aside0.mk H5))
     | ((with_reducible refine gate_store (t := 25) (p := 19) rfl ?_); ( refine own_st H5.out 0 g3 _ (msgA ⟨2, 0, tt, am, 0, z32, nx⟩) 92 (by rfl) rfl 25 (.tmp 19) _ rfl 5 (vB z32) (.agg (cellsB z32)) (by rfl) (by rfl) (by rfl) (by rw [msgA_size HK.out HN.out]; decide) (by kernel_rfl) (by exact vB_one _) (by exact spl5 (by rw [vB_len, vB_len, HK.out]; rfl)) ?_; intro w6 H6; replace H6 := Aside0.mk H6))
     | ((with_reducible refine gate_store (t := 25) (p := 20) rfl ?_); ( refine own_st H6.out 0 g3 _ (msgA ⟨2, 0, tt, am, 0, z32, z32⟩) 92 (by rfl) rfl 25 (.tmp 20) _ rfl 37 (vB z32) (.agg (cellsB z32)) (by rfl) (by rfl) (by rfl) (by rw [msgA_size z32_len HN.out]; decide) (by kernel_rfl) (by exact vB_one _) (by exact spl37 (by rw [vB_len]; rfl) (by rw [vB_len, vB_len, HN.out]; rfl)) ?_; intro w7 H7; replace H7 := Aside0.mk H7))
     | ((with_reducible refine gate_dst (N := 22) rfl ?_); ( refine own_ld1 H7.out 1 g1 _ _ rfl rfl 90 (.tmp 21) rfl 0 (.int .u8 2) _ rfl rfl Try.underlying90 rfl ?_))
     | ((with_reducible refine gate_dst (N := 26) rfl ?_); (refine gate_guard (by rfl) ?_); ( refine own_ld1 H7.out 1 g1 _ _ rfl rfl 23 (.tmp 25) rfl 2 (.int .u64 tt) _ rfl rfl Try.underlying23 rfl ?_))
     | ((with_reducible refine gate_dst (N := 31) rfl ?_); (refine gate_guard (by rfl) ?_); ( refine own_ld1 H7.out 1 g1 _ _ rfl rfl 90 (.tmp 30) rfl 0 (.int .u8 2) _ rfl rfl Try.underlying90 rfl ?_))
     | ((with_reducible refine gate_dst (N := 35) rfl ?_); (refine gate_guard (by rfl) ?_); ( refine own_ld1 H7.out 1 g1 _ _ rfl rfl 23 (.tmp 34) rfl 3 (.int .u64 am) _ rfl rfl Try.underlying23 rfl ?_))
     | ((with_reducible refine gate_store (t := 90) (p := 39) rfl ?_); ( refine own_st H7.out 0 g3 _ (msgA ⟨0, 0, tt, am, 0, z32, z32⟩) 92 (by rfl) rfl 90 (.tmp 39) _ rfl 0 [.int .u8 0] (.int .u8 0) (by rfl) (by rfl) (by rfl) (by simp [msgA, vB]; try omega) (by kernel_rfl) (by simp [Value.oneCell']) (by rfl) ?_; intro w8 H8; replace H8 := Aside0.mk H8))
     | ((with_reducible refine gate_store (t := 23) (p := 40) rfl ?_); ( refine own_st H8.out 0 g3 _ (msgA ⟨0, 0, 0, am, 0, z32, z32⟩) 92 (by rfl) rfl 23 (.tmp 40) _ rfl 2 [.int .u64 0] (.int .u64 0) (by rfl) (by rfl) (by rfl) (by simp [msgA, vB]; try omega) (by kernel_rfl) (by simp [Value.oneCell']) (by rfl) ?_; intro w9 H9; replace H9 := Aside0.mk H9))
     | ((with_reducible refine gate_store (t := 23) (p := 41) rfl ?_); ( refine own_st H9.out 0 g3 _ (msgA ⟨0, 0, 0, 0, 0, z32, z32⟩) 92 (by rfl) rfl 23 (.tmp 41) _ rfl 3 [.int .u64 0] (.int .u64 0) (by rfl) (by rfl) (by rfl) (by simp [msgA, vB]; try omega) (by kernel_rfl) (by simp [Value.oneCell']) (by rfl) ?_; intro w10 H10; replace H10 := Aside0.mk H10))
     | ((with_reducible refine gate_dst (N := 42) rfl ?_); ( refine own_loadV H10.out 0 g3 _ 92 rfl rfl (.tmp 3) rfl _ rfl Try.underlying92 rfl (sizeM_of (msgA_size rfl rfl)) ?_))
     | ((with_reducible refine gate_dst (N := 43) rfl ?_); ( refine build_ rfl 92 [] rfl _ rfl (msgA zeroM) (builtM0) ?_))
     | ((with_reducible refine gate_dst (N := 44) rfl ?_); refine eq_M rfl _ (.tmp 42) (.tmp 43) rfl ⟨0, 0, 0, 0, 0, z32, z32⟩ zeroM rfl rfl rfl rfl rfl rfl ?_)
     )
    go_ret
    exact ⟨rfl, H7.out.below⟩
  ·have e3 : decide (32 ≤ fr) = true := decide_eq_true (by omega)
   obtain rfl : r = false := by rw [hr, decide_eq_false h3]; rfl
   clear hr
   go_enter Try.func136, Try.ntmps136
   go_wp2_with (first
    | fail
    | ((with_reducible refine gate_dst (N := 1) rfl ?_); refine own_box H0.out rfl (N := 1) rfl (t := 92) rfl (.agg (msgA ⟨2, fr, tt, am, no, ky, nx⟩)) rfl ?_; intro g1 w1 H1 B1; replace H1 := Aside0.mk H1; replace B1 := Aside0.mk B1)
    | ((with_reducible refine gate_dst (N := 4) rfl ?_); ( refine own_loadV H1.out 0 g1 _ 92 rfl rfl (.tmp 1) rfl _ rfl Try.underlying92 rfl (sizeM_of HSZ.out) ?_))
    | ((with_reducible refine gate_dst (N := 3) rfl ?_); refine own_alloc H1.out rfl (N := 3) rfl (t := 92) rfl (msgA zeroM) 69 (by kernel_rfl) ?_; intro g3 w2 H2 B2; replace H2 := Aside0.mk H2; replace B2 := Aside0.mk B2)
    | ((with_reducible refine own_store H2.out 0 g3 _ 92 rfl rfl (.tmp 3) (.tmp 4) rfl (msgA ⟨2, fr, tt, am, no, ky, nx⟩) ?_ ?_ 69 HAZ.out HAR.out (by kernel_rfl) ?_); (case _ => rfl); (case _ => rfl); intro w3 H3; replace H3 := Aside0.mk H3)
    | ((with_reducible refine gate_dst (N := 6) rfl ?_); ( refine own_ld1 H3.out 1 g1 _ _ rfl rfl 90 (.tmp 5) rfl 0 (.int .u8 2) _ rfl rfl Try.underlying90 rfl ?_))
    | ((with_reducible refine gate_dst (N := 13) rfl ?_); ( refine own_ld1 H3.out 1 g1 _ _ rfl rfl 23 (.tmp 12) rfl 1 (.int .u64 fr) _ rfl rfl Try.underlying23 rfl ?_))
    | ((with_reducible refine gate_dst (N := 15) rfl ?_); ( refine build_ rfl 25 [] rfl _ rfl (cellsB z32) (builtH0) ?_))
    | ((with_reducible refine gate_dst (N := 16) rfl ?_); ( refine build_ rfl 25 [] rfl _ rfl (cellsB z32) (builtH0) ?_))
    | ((with_reducible refine gate_store (t := 23) (p := 17) rfl ?_); ( refine own_st H3.out 0 g3 _ (msgA ⟨2, 0, tt, am, no, ky, nx⟩) 92 (by rfl) rfl 23 (.tmp 17) _ rfl 1 [.int .u64 0] (.int .u64 0) (by rfl) (by rfl) (by rfl) (by simp [msgA, vB]; try omega) (by kernel_rfl) (by simp [Value.oneCell']) (by rfl) ?_; intro w4 H4; replace H4 := Aside0.mk H4))
    | ((with_reducible refine gate_store (t := 23) (p := 18) rfl ?_); ( refine own_st H4.out 0 g3 _ (msgA ⟨2, 0, tt, am, 0, ky, nx⟩) 92 (by rfl) rfl 23 (.tmp 18) _ rfl 4 [.int .u64 0] (.int .u64 0) (by rfl) (by rfl) (by rfl) (by simp [msgA, vB]; try omega) (by kernel_rfl) (by simp [Value.oneCell']) (by rfl) ?_; intro w5 H5; replace H5 := Aside0.mk H5))
    | ((with_reducible refine gate_store (t := 25) (p := 19) rfl ?_); ( refine own_st H5.out 0 g3 _ (msgA ⟨2, 0, tt, am, 0, z32, nx⟩) 92 (by rfl) rfl 25 (.tmp 19) _ rfl 5 (vB z32) (.agg (cellsB z32)) (by rfl) (by rfl) (by rfl) (by rw [msgA_size HK.out HN.out]; decide) (by kernel_rfl) (by exact vB_one _) (by exact spl5 (by rw [vB_len, vB_len, HK.out]; rfl)) ?_; intro w6 H6; replace H6 := Aside0.mk H6))
    | ((with_reducible refine gate_store (t := 25) (p := 20) rfl ?_); ( refine own_st H6.out 0 g3 _ (msgA ⟨2, 0, tt, am, 0, z32, z32⟩) 92 (by rfl) rfl 25 (.tmp 20) _ rfl 37 (vB z32) (.agg (cellsB z32)) (by rfl) (by rfl) (by rfl) (by rw [msgA_size z32_len HN.out]; decide) (by kernel_rfl) (by exact vB_one _) (by exact spl37 (by rw [vB_len]; rfl) (by rw [vB_len, vB_len, HN.out]; rfl)) ?_; intro w7 H7; replace H7 := Aside0.mk H7))
    | ((with_reducible refine gate_dst (N := 22) rfl ?_); ( refine own_ld1 H7.out 1 g1 _ _ rfl rfl 90 (.tmp 21) rfl 0 (.int .u8 2) _ rfl rfl Try.underlying90 rfl ?_))
    | ((with_reducible refine gate_dst (N := 26) rfl ?_); (refine gate_guard (by rfl) ?_); ( refine own_ld1 H7.out 1 g1 _ _ rfl rfl 23 (.tmp 25) rfl 2 (.int .u64 tt) _ rfl rfl Try.underlying23 rfl ?_))
    | ((with_reducible refine gate_dst (N := 31) rfl ?_); (refine gate_guard (by rfl) ?_); ( refine own_ld1 H7.out 1 g1 _ _ rfl rfl 90 (.tmp 30) rfl 0 (.int .u8 2) _ rfl rfl Try.underlying90 rfl ?_))
    | ((with_reducible refine gate_dst (N := 35) rfl ?_); (refine gate_guard (by rfl) ?_); ( refine own_ld1 H7.out 1 g1 _ _ rfl rfl 23 (.tmp 34) rfl 3 (.int .u64 am) _ rfl rfl Try.underlying23 rfl ?_))
    | ((with_reducible refine gate_store (t := 90) (p := 39) rfl ?_); ( refine own_st H7.out 0 g3 _ (msgA ⟨0, 0, tt, am, 0, z32, z32⟩) 92 (by rfl) rfl 90 (.tmp 39) _ rfl 0 [.int .u8 0] (.int .u8 0) (by rfl) (by rfl) (by rfl) (by simp [msgA, vB]; try omega) (by kernel_rfl) (by simp [Value.oneCell']) (by rfl) ?_; intro w8 H8; replace H8 := Aside0.mk H8))
    | ((with_reducible refine gate_store (t := 23) (p := 40) rfl ?_); ( refine own_st H8.out 0 g3 _ (msgA ⟨0, 0, 0, am, 0, z32, z32⟩) 92 (by rfl) rfl 23 (.tmp 40) _ rfl 2 [.int .u64 0] (.int .u64 0) (by rfl) (by rfl) (by rfl) (by simp [msgA, vB]; try omega) (by kernel_rfl) (by simp [Value.oneCell']) (by rfl) ?_; intro w9 H9; replace H9 := Aside0.mk H9))
    | ((with_reducible refine gate_store (t := 23) (p := 41) rfl ?_); ( refine own_st H9.out 0 g3 _ (msgA ⟨0, 0, 0, 0, 0, z32, z32⟩) 92 (by rfl) rfl 23 (.tmp 41) _ rfl 3 [.int .u64 0] (.int .u64 0) (by rfl) (by rfl) (by rfl) (by simp [msgA, vB]; try omega) (by kernel_rfl) (by simp [Value.oneCell']) (by rfl) ?_; intro w10 H10; replace H10 := Aside0.mk H10))
    | ((with_reducible refine gate_dst (N := 42) rfl ?_); ( refine own_loadV H10.out 0 g3 _ 92 rfl rfl (.tmp 3) rfl _ rfl Try.underlying92 rfl (sizeM_of (msgA_size rfl rfl)) ?_))
    | ((with_reducible refine gate_dst (N := 43) rfl ?_); ( refine build_ rfl 92 [] rfl _ rfl (msgA zeroM) (builtM0) ?_))
    | ((with_reducible refine gate_dst (N := 44) rfl ?_); refine eq_M rfl _ (.tmp 42) (.tmp 43) rfl ⟨0, 0, 0, 0, 0, z32, z32⟩ zeroM rfl rfl rfl rfl rfl rfl ?_)
    )
   go_ret
   exact ⟨rfl, H3.out.below⟩
 by_cases h3 : kd = 3
 ·simp only [mayM] at hr
  rw [if_neg (by omega), if_neg h2, if_pos h3] at hr
  subst h3
  clear h2
  by_cases h3 : fr < 32
  ·have e3 : decide (32 ≤ fr) = false := decide_eq_false (by omega)
   by_cases h4 : 0 < am
   ·have e4 : (am == 0) = false := beq_eq_false_iff_ne.2 (by omega)
    obtain rfl : r = true := by rw [hr, decide_eq_true h3, decide_eq_true h4]; rfl
    clear hr
    go_enter Try.func136, Try.ntmps136
    go_wp2_with (first
     | fail
     | ((with_reducible refine gate_dst (N := 1) rfl ?_); refine own_box H0.out rfl (N := 1) rfl (t := 92) rfl (.agg (msgA ⟨3, fr, tt, am, no, ky, nx⟩)) rfl ?_; intro g1 w1 H1 B1; replace H1 := Aside0.mk H1; replace B1 := Aside0.mk B1)
     | ((with_reducible refine gate_dst (N := 4) rfl ?_); ( refine own_loadV H1.out 0 g1 _ 92 rfl rfl (.tmp 1) rfl _ rfl Try.underlying92 rfl (sizeM_of HSZ.out) ?_))
     | ((with_reducible refine gate_dst (N := 3) rfl ?_); refine own_alloc H1.out rfl (N := 3) rfl (t := 92) rfl (msgA zeroM) 69 (by kernel_rfl) ?_; intro g3 w2 H2 B2; replace H2 := Aside0.mk H2; replace B2 := Aside0.mk B2)
     | ((with_reducible refine own_store H2.out 0 g3 _ 92 rfl rfl (.tmp 3) (.tmp 4) rfl (msgA ⟨3, fr, tt, am, no, ky, nx⟩) ?_ ?_ 69 HAZ.out HAR.out (by kernel_rfl) ?_); (case _ => rfl); (case _ => rfl); intro w3 H3; replace H3 := Aside0.mk H3)
     | ((with_reducible refine gate_dst (N := 6) rfl ?_); ( refine own_ld1 H3.out 1 g1 _ _ rfl rfl 90 (.tmp 5) rfl 0 (.int .u8 3) _ rfl rfl Try.underlying90 rfl ?_))
     | ((with_reducible refine gate_dst (N := 13) rfl ?_); ( refine own_ld1 H3.out 1 g1 _ _ rfl rfl 23 (.tmp 12) rfl 1 (.int .u64 fr) _ rfl rfl Try.underlying23 rfl ?_))
     | ((with_reducible refine gate_dst (N := 15) rfl ?_); ( refine build_ rfl 25 [] rfl _ rfl (cellsB z32) (builtH0) ?_))
     | ((with_reducible refine gate_dst (N := 16) rfl ?_); ( refine build_ rfl 25 [] rfl _ rfl (cellsB z32) (builtH0) ?_))
     | ((with_reducible refine gate_store (t := 23) (p := 17) rfl ?_); ( refine own_st H3.out 0 g3 _ (msgA ⟨3, 0, tt, am, no, ky, nx⟩) 92 (by rfl) rfl 23 (.tmp 17) _ rfl 1 [.int .u64 0] (.int .u64 0) (by rfl) (by rfl) (by rfl) (by simp [msgA, vB]; try omega) (by kernel_rfl) (by simp [Value.oneCell']) (by rfl) ?_; intro w4 H4; replace H4 := Aside0.mk H4))
     | ((with_reducible refine gate_store (t := 23) (p := 18) rfl ?_); ( refine own_st H4.out 0 g3 _ (msgA ⟨3, 0, tt, am, 0, ky, nx⟩) 92 (by rfl) rfl 23 (.tmp 18) _ rfl 4 [.int .u64 0] (.int .u64 0) (by rfl) (by rfl) (by rfl) (by simp [msgA, vB]; try omega) (by kernel_rfl) (by simp [Value.oneCell']) (by rfl) ?_; intro w5 H5; replace H5 := Aside0.mk H5))
     | ((with_reducible refine gate_store (t := 25) (p := 19) rfl ?_); ( refine own_st H5.out 0 g3 _ (msgA ⟨3, 0, tt, am, 0, z32, nx⟩) 92 (by rfl) rfl 25 (.tmp 19) _ rfl 5 (vB z32) (.agg (cellsB z32)) (by rfl) (by rfl) (by rfl) (by rw [msgA_size HK.out HN.out]; decide) (by kernel_rfl) (by exact vB_one _) (by exact spl5 (by rw [vB_len, vB_len, HK.out]; rfl)) ?_; intro w6 H6; replace H6 := Aside0.mk H6))
     | ((with_reducible refine gate_store (t := 25) (p := 20) rfl ?_); ( refine own_st H6.out 0 g3 _ (msgA ⟨3, 0, tt, am, 0, z32, z32⟩) 92 (by rfl) rfl 25 (.tmp 20) _ rfl 37 (vB z32) (.agg (cellsB z32)) (by rfl) (by rfl) (by rfl) (by rw [msgA_size z32_len HN.out]; decide) (by kernel_rfl) (by exact vB_one _) (by exact spl37 (by rw [vB_len]; rfl) (by rw [vB_len, vB_len, HN.out]; rfl)) ?_; intro w7 H7; replace H7 := Aside0.mk H7))
     | ((with_reducible refine gate_dst (N := 22) rfl ?_); ( refine own_ld1 H7.out 1 g1 _ _ rfl rfl 90 (.tmp 21) rfl 0 (.int .u8 3) _ rfl rfl Try.underlying90 rfl ?_))
     | ((with_reducible refine gate_dst (N := 26) rfl ?_); (refine gate_guard (by rfl) ?_); ( refine own_ld1 H7.out 1 g1 _ _ rfl rfl 23 (.tmp 25) rfl 2 (.int .u64 tt) _ rfl rfl Try.underlying23 rfl ?_))
     | ((with_reducible refine gate_dst (N := 31) rfl ?_); (refine gate_guard (by rfl) ?_); ( refine own_ld1 H7.out 1 g1 _ _ rfl rfl 90 (.tmp 30) rfl 0 (.int .u8 3) _ rfl rfl Try.underlying90 rfl ?_))
     | ((with_reducible refine gate_dst (N := 35) rfl ?_); (refine gate_guard (by rfl) ?_); ( refine own_ld1 H7.out 1 g1 _ _ rfl rfl 23 (.tmp 34) rfl 3 (.int .u64 am) _ rfl rfl Try.underlying23 rfl ?_))
     | ((with_reducible refine gate_store (t := 90) (p := 39) rfl ?_); ( refine own_st H7.out 0 g3 _ (msgA ⟨0, 0, tt, am, 0, z32, z32⟩) 92 (by rfl) rfl 90 (.tmp 39) _ rfl 0 [.int .u8 0] (.int .u8 0) (by rfl) (by rfl) (by rfl) (by simp [msgA, vB]; try omega) (by kernel_rfl) (by simp [Value.oneCell']) (by rfl) ?_; intro w8 H8; replace H8 := Aside0.mk H8))
     | ((with_reducible refine gate_store (t := 23) (p := 40) rfl ?_); ( refine own_st H8.out 0 g3 _ (msgA ⟨0, 0, 0, am, 0, z32, z32⟩) 92 (by rfl) rfl 23 (.tmp 40) _ rfl 2 [.int .u64 0] (.int .u64 0) (by rfl) (by rfl) (by rfl) (by simp [msgA, vB]; try omega) (by kernel_rfl) (by simp [Value.oneCell']) (by rfl) ?_; intro w9 H9; replace H9 := Aside0.mk H9))
     | ((with_reducible refine gate_store (t := 23) (p := 41) rfl ?_); ( refine own_st H9.out 0 g3 _ (msgA ⟨0, 0, 0, 0, 0, z32, z32⟩) 92 (by rfl) rfl 23 (.tmp 41) _ rfl 3 [.int .u64 0] (.int .u64 0) (by rfl) (by rfl) (by rfl) (by simp [msgA, vB]; try omega) (by kernel_rfl) (by simp [Value.oneCell']) (by rfl) ?_; intro w10 H10; replace H10 := Aside0.mk H10))
     | ((with_reducible refine gate_dst (N := 42) rfl ?_); ( refine own_loadV H10.out 0 g3 _ 92 rfl rfl (.tmp 3) rfl _ rfl Try.underlying92 rfl (sizeM_of (msgA_size rfl rfl)) ?_))
     | ((with_reducible refine gate_dst (N := 43) rfl ?_); ( refine build_ rfl 92 [] rfl _ rfl (msgA zeroM) (builtM0) ?_))
     | ((with_reducible refine gate_dst (N := 44) rfl ?_); refine eq_M rfl _ (.tmp 42) (.tmp 43) rfl ⟨0, 0, 0, 0, 0, z32, z32⟩ zeroM rfl rfl rfl rfl rfl rfl ?_)
     )
    go_ret
    exact ⟨rfl, H10.out.below⟩
   ·have e4 : (am == 0) = true := beq_iff_eq.2 (by omega)
    obtain rfl : r = false := by rw [hr, decide_eq_false h4]; simp
    clear hr
    go_enter Try.func136, Try.ntmps136
    go_wp2_with (first
     | fail
     | ((with_reducible refine gate_dst (N := 1) rfl ?_); refine own_box H0.out rfl (N := 1) rfl (t := 92) rfl (.agg (msgA ⟨3, fr, tt, am, no, ky, nx⟩)) rfl ?_; intro g1 w1 H1 B1; replace H1 := Aside0.mk H1; replace B1 := Aside0.mk B1)
     | ((with_reducible refine gate_dst (N := 4) rfl ?_); ( refine own_loadV H1.out 0 g1 _ 92 rfl rfl (.tmp 1) rfl _ rfl Try.underlying92 rfl (sizeM_of HSZ.out) ?_))
     | ((with_reducible refine gate_dst (N := 3) rfl ?_); refine own_alloc H1.out rfl (N := 3) rfl (t := 92) rfl (msgA zeroM) 69 (by kernel_rfl) ?_; intro g3 w2 H2 B2; replace H2 := Aside0.mk H2; replace B2 := Aside0.mk B2)
     | ((with_reducible refine own_store H2.out 0 g3 _ 92 rfl rfl (.tmp 3) (.tmp 4) rfl (msgA ⟨3, fr, tt, am, no, ky, nx⟩) ?_ ?_ 69 HAZ.out HAR.out (by kernel_rfl) ?_); (case _ => rfl); (case _ => rfl); intro w3 H3; replace H3 := Aside0.mk H3)
     | ((with_reducible refine gate_dst (N := 6) rfl ?_); ( refine own_ld1 H3.out 1 g1 _ _ rfl rfl 90 (.tmp 5) rfl 0 (.int .u8 3) _ rfl rfl Try.underlying90 rfl ?_))
     | ((with_reducible refine gate_dst (N := 13) rfl ?_); ( refine own_ld1 H3.out 1 g1 _ _ rfl rfl 23 (.tmp 12) rfl 1 (.int .u64 fr) _ rfl rfl Try.underlying23 rfl ?_))
     | ((with_reducible refine gate_dst (N := 15) rfl ?_); ( refine build_ rfl 25 [] rfl _ rfl (cellsB z32) (builtH0) ?_))
     | ((with_reducible refine gate_dst (N := 16) rfl ?_); ( refine build_ rfl 25 [] rfl _ rfl (cellsB z32) (builtH0) ?_))
     | ((with_reducible refine gate_store (t := 23) (p := 17) rfl ?_); ( refine own_st H3.out 0 g3 _ (msgA ⟨3, 0, tt, am, no, ky, nx⟩) 92 (by rfl) rfl 23 (.tmp 17) _ rfl 1 [.int .u64 0] (.int .u64 0) (by rfl) (by rfl) (by rfl) (by simp [msgA, vB]; try omega) (by kernel_rfl) (by simp [Value.oneCell']) (by rfl) ?_; intro w4 H4; replace H4 := Aside0.mk H4))
     | ((with_reducible refine gate_store (t := 23) (p := 18) rfl ?_); ( refine own_st H4.out 0 g3 _ (msgA ⟨3, 0, tt, am, 0, ky, nx⟩) 92 (by rfl) rfl 23 (.tmp 18) _ rfl 4 [.int .u64 0] (.int .u64 0) (by rfl) (by rfl) (by rfl) (by simp [msgA, vB]; try omega) (by kernel_rfl) (by simp [Value.oneCell']) (by rfl) ?_; intro w5 H5; replace H5 := Aside0.mk H5))
     | ((with_reducible refine gate_store (t := 25) (p := 19) rfl ?_); ( refine own_st H5.out 0 g3 _ (msgA ⟨3, 0, tt, am, 0, z32, nx⟩) 92 (by rfl) rfl 25 (.tmp 19) _ rfl 5 (vB z32) (.agg (cellsB z32)) (by rfl) (by rfl) (by rfl) (by rw [msgA_size HK.out HN.out]; decide) (by kernel_rfl) (by exact vB_one _) (by exact spl5 (by rw [vB_len, vB_len, HK.out]; rfl)) ?_; intro w6 H6; replace H6 := Aside0.mk H6))
     | ((with_reducible refine gate_store (t := 25) (p := 20) rfl ?_); ( refine own_st H6.out 0 g3 _ (msgA ⟨3, 0, tt, am, 0, z32, z32⟩) 92 (by rfl) rfl 25 (.tmp 20) _ rfl 37 (vB z32) (.agg (cellsB z32)) (by rfl) (by rfl) (by rfl) (by rw [msgA_size z32_len HN.out]; decide) (by kernel_rfl) (by exact vB_one _) (by exact spl37 (by rw [vB_len]; rfl) (by rw [vB_len, vB_len, HN.out]; rfl)) ?_; intro w7 H7; replace H7 := Aside0.mk H7))
     | ((with_reducible refine gate_dst (N := 22) rfl ?_); ( refine own_ld1 H7.out 1 g1 _ _ rfl rfl 90 (.tmp 21) rfl 0 (.int .u8 3) _ rfl rfl Try.underlying90 rfl ?_))
     | ((with_reducible refine gate_dst (N := 26) rfl ?_); (refine gate_guard (by rfl) ?_); ( refine own_ld1 H7.out 1 g1 _ _ rfl rfl 23 (.tmp 25) rfl 2 (.int .u64 tt) _ rfl rfl Try.underlying23 rfl ?_))
     | ((with_reducible refine gate_dst (N := 31) rfl ?_); (refine gate_guard (by rfl) ?_); ( refine own_ld1 H7.out 1 g1 _ _ rfl rfl 90 (.tmp 30) rfl 0 (.int .u8 3) _ rfl rfl Try.underlying90 rfl ?_))
     | ((with_reducible refine gate_dst (N := 35) rfl ?_); (refine gate_guard (by rfl) ?_); ( refine own_ld1 H7.out 1 g1 _ _ rfl rfl 23 (.tmp 34) rfl 3 (.int .u64 am) _ rfl rfl Try.underlying23 rfl ?_))
     | ((with_reducible refine gate_store (t := 90) (p := 39) rfl ?_); ( refine own_st H7.out 0 g3 _ (msgA ⟨0, 0, tt, am, 0, z32, z32⟩) 92 (by rfl) rfl 90 (.tmp 39) _ rfl 0 [.int .u8 0] (.int .u8 0) (by rfl) (by rfl) (by rfl) (by simp [msgA, vB]; try omega) (by kernel_rfl) (by simp [Value.oneCell']) (by rfl) ?_; intro w8 H8; replace H8 := Aside0.mk H8))
     | ((with_reducible refine gate_store (t := 23) (p := 40) rfl ?_); ( refine own_st H8.out 0 g3 _ (msgA ⟨0, 0, 0, am, 0, z32, z32⟩) 92 (by rfl) rfl 23 (.tmp 40) _ rfl 2 [.int .u64 0] (.int .u64 0) (by rfl) (by rfl) (by rfl) (by simp [msgA, vB]; try omega) (by kernel_rfl) (by simp [Value.oneCell']) (by rfl) ?_; intro w9 H9; replace H9 := Aside0.mk H9))
     | ((with_reducible refine gate_store (t := 23) (p := 41) rfl ?_); ( refine own_st H9.out 0 g3 _ (msgA ⟨0, 0, 0, 0, 0, z32, z32⟩) 92 (by rfl) rfl 23 (.tmp 41) _ rfl 3 [.int .u64 0] (.int .u64 0) (by rfl) (by rfl) (by rfl) (by simp [msgA, vB]; try omega) (by kernel_rfl) (by simp [Value.oneCell']) (by rfl) ?_; intro w10 H10; replace H10 := Aside0.mk H10))
     | ((with_reducible refine gate_dst (N := 42) rfl ?_); ( refine own_loadV H10.out 0 g3 _ 92 rfl rfl (.tmp 3) rfl _ rfl Try.underlying92 rfl (sizeM_of (msgA_size rfl rfl)) ?_))
     | ((with_reducible refine gate_dst (N := 43) rfl ?_); ( refine build_ rfl 92 [] rfl _ rfl (msgA zeroM) (builtM0) ?_))
     | ((with_reducible refine gate_dst (N := 44) rfl ?_); refine eq_M rfl _ (.tmp 42) (.tmp 43) rfl ⟨0, 0, 0, 0, 0, z32, z32⟩ zeroM rfl rfl rfl rfl rfl rfl ?_)
     )
    go_ret
    exact ⟨rfl, H7.out.below⟩
  ·have e3 : decide (32 ≤ fr) = true := decide_eq_true (by omega)
   obtain rfl : r = false := by rw [hr, decide_eq_false h3]; rfl
   clear hr
   go_enter Try.func136, Try.ntmps136
   go_wp2_with (first
    | fail
    | ((with_reducible refine gate_dst (N := 1) rfl ?_); refine own_box H0.out rfl (N := 1) rfl (t := 92) rfl (.agg (msgA ⟨3, fr, tt, am, no, ky, nx⟩)) rfl ?_; intro g1 w1 H1 B1; replace H1 := Aside0.mk H1; replace B1 := Aside0.mk B1)
    | ((with_reducible refine gate_dst (N := 4) rfl ?_); ( refine own_loadV H1.out 0 g1 _ 92 rfl rfl (.tmp 1) rfl _ rfl Try.underlying92 rfl (sizeM_of HSZ.out) ?_))
    | ((with_reducible refine gate_dst (N := 3) rfl ?_); refine own_alloc H1.out rfl (N := 3) rfl (t := 92) rfl (msgA zeroM) 69 (by kernel_rfl) ?_; intro g3 w2 H2 B2; replace H2 := Aside0.mk H2; replace B2 := Aside0.mk B2)
    | ((with_reducible refine own_store H2.out 0 g3 _ 92 rfl rfl (.tmp 3) (.tmp 4) rfl (msgA ⟨3, fr, tt, am, no, ky, nx⟩) ?_ ?_ 69 HAZ.out HAR.out (by kernel_rfl) ?_); (case _ => rfl); (case _ => rfl); intro w3 H3; replace H3 := Aside0.mk H3)
    | ((with_reducible refine gate_dst (N := 6) rfl ?_); ( refine own_ld1 H3.out 1 g1 _ _ rfl rfl 90 (.tmp 5) rfl 0 (.int .u8 3) _ rfl rfl Try.underlying90 rfl ?_))
    | ((with_reducible refine gate_dst (N := 13) rfl ?_); ( refine own_ld1 H3.out 1 g1 _ _ rfl rfl 23 (.tmp 12) rfl 1 (.int .u64 fr) _ rfl rfl Try.underlying23 rfl ?_))
    | ((with_reducible refine gate_dst (N := 15) rfl ?_); ( refine build_ rfl 25 [] rfl _ rfl (cellsB z32) (builtH0) ?_))
    | ((with_reducible refine gate_dst (N := 16) rfl ?_); ( refine build_ rfl 25 [] rfl _ rfl (cellsB z32) (builtH0) ?_))
    | ((with_reducible refine gate_store (t := 23) (p := 17) rfl ?_); ( refine own_st H3.out 0 g3 _ (msgA ⟨3, 0, tt, am, no, ky, nx⟩) 92 (by rfl) rfl 23 (.tmp 17) _ rfl 1 [.int .u64 0] (.int .u64 0) (by rfl) (by rfl) (by rfl) (by simp [msgA, vB]; try omega) (by kernel_rfl) (by simp [Value.oneCell']) (by rfl) ?_; intro w4 H4; replace H4 := Aside0.mk H4))
    | ((with_reducible refine gate_store (t := 23) (p := 18) rfl ?_); ( refine own_st H4.out 0 g3 _ (msgA ⟨3, 0, tt, am, 0, ky, nx⟩) 92 (by rfl) rfl 23 (.tmp 18) _ rfl 4 [.int .u64 0] (.int .u64 0) (by rfl) (by rfl) (by rfl) (by simp [msgA, vB]; try omega) (by kernel_rfl) (by simp [Value.oneCell']) (by rfl) ?_; intro w5 H5; replace H5 := Aside0.mk H5))
    | ((with_reducible refine gate_store (t := 25) (p := 19) rfl ?_); ( refine own_st H5.out 0 g3 _ (msgA ⟨3, 0, tt, am, 0, z32, nx⟩) 92 (by rfl) rfl 25 (.tmp 19) _ rfl 5 (vB z32) (.agg (cellsB z32)) (by rfl) (by rfl) (by rfl) (by rw [msgA_size HK.out HN.out]; decide) (by kernel_rfl) (by exact vB_one _) (by exact spl5 (by rw [vB_len, vB_len, HK.out]; rfl)) ?_; intro w6 H6; replace H6 := Aside0.mk H6))
    | ((with_reducible refine gate_store (t := 25) (p := 20) rfl ?_); ( refine own_st H6.out 0 g3 _ (msgA ⟨3, 0, tt, am, 0, z32, z32⟩) 92 (by rfl) rfl 25 (.tmp 20) _ rfl 37 (vB z32) (.agg (cellsB z32)) (by rfl) (by rfl) (by rfl) (by rw [msgA_size z32_len HN.out]; decide) (by kernel_rfl) (by exact vB_one _) (by exact spl37 (by rw [vB_len]; rfl) (by rw [vB_len, vB_len, HN.out]; rfl)) ?_; intro w7 H7; replace H7 := Aside0.mk H7))
    | ((with_reducible refine gate_dst (N := 22) rfl ?_); ( refine own_ld1 H7.out 1 g1 _ _ rfl rfl 90 (.tmp 21) rfl 0 (.int .u8 3) _ rfl rfl Try.underlying90 rfl ?_))
    | ((with_reducible refine gate_dst (N := 26) rfl ?_); (refine gate_guard (by rfl) ?_); ( refine own_ld1 H7.out 1 g1 _ _ rfl rfl 23 (.tmp 25) rfl 2 (.int .u64 tt) _ rfl rfl Try.underlying23 rfl ?_))
    | ((with_reducible refine gate_dst (N := 31) rfl ?_); (refine gate_guard (by rfl) ?_); ( refine own_ld1 H7.out 1 g1 _ _ rfl rfl 90 (.tmp 30) rfl 0 (.int .u8 3) _ rfl rfl Try.underlying90 rfl ?_))
    | ((with_reducible refine gate_dst (N := 35) rfl ?_); (refine gate_guard (by rfl) ?_); ( refine own_ld1 H7.out 1 g1 _ _ rfl rfl 23 (.tmp 34) rfl 3 (.int .u64 am) _ rfl rfl Try.underlying23 rfl ?_))
    | ((with_reducible refine gate_store (t := 90) (p := 39) rfl ?_); ( refine own_st H7.out 0 g3 _ (msgA ⟨0, 0, tt, am, 0, z32, z32⟩) 92 (by rfl) rfl 90 (.tmp 39) _ rfl 0 [.int .u8 0] (.int .u8 0) (by rfl) (by rfl) (by rfl) (by simp [msgA, vB]; try omega) (by kernel_rfl) (by simp [Value.oneCell']) (by rfl) ?_; intro w8 H8; replace H8 := Aside0.mk H8))
    | ((with_reducible refine gate_store (t := 23) (p := 40) rfl ?_); ( refine own_st H8.out 0 g3 _ (msgA ⟨0, 0, 0, am, 0, z32, z32⟩) 92 (by rfl) rfl 23 (.tmp 40) _ rfl 2 [.int .u64 0] (.int .u64 0) (by rfl) (by rfl) (by rfl) (by simp [msgA, vB]; try omega) (by kernel_rfl) (by simp [Value.oneCell']) (by rfl) ?_; intro w9 H9; replace H9 := Aside0.mk H9))
    | ((with_reducible refine gate_store (t := 23) (p := 41) rfl ?_); ( refine own_st H9.out 0 g3 _ (msgA ⟨0, 0, 0, 0, 0, z32, z32⟩) 92 (by rfl) rfl 23 (.tmp 41) _ rfl 3 [.int .u64 0] (.int .u64 0) (by rfl) (by rfl) (by rfl) (by simp [msgA, vB]; try omega) (by kernel_rfl) (by simp [Value.oneCell']) (by rfl) ?_; intro w10 H10; replace H10 := Aside0.mk H10))
    | ((with_reducible refine gate_dst (N := 42) rfl ?_); ( refine own_loadV H10.out 0 g3 _ 92 rfl rfl (.tmp 3) rfl _ rfl Try.underlying92 rfl (sizeM_of (msgA_size rfl rfl)) ?_))
    | ((with_reducible refine gate_dst (N := 43) rfl ?_); ( refine build_ rfl 92 [] rfl _ rfl (msgA zeroM) (builtM0) ?_))
    | ((with_reducible refine gate_dst (N := 44) rfl ?_); refine eq_M rfl _ (.tmp 42) (.tmp 43) rfl ⟨0, 0, 0, 0, 0, z32, z32⟩ zeroM rfl rfl rfl rfl rfl rfl ?_)
    )
   go_ret
   exact ⟨rfl, H3.out.below⟩
 by_cases h1 : kd = 1
 ·simp only [mayM] at hr
  rw [if_pos h1] at hr
  subst h1
  clear h2 h3
  by_cases h4 : tt < 32
  ·have e4 : decide (32 ≤ tt) = false := decide_eq_false (by omega)
   by_cases h5 : 0 < am
   ·have e5 : (am == 0) = false := beq_eq_false_iff_ne.2 (by omega)
    have HE : Aside0 (eqM ⟨0, fr, 0, 0, no, ky, nx⟩ zeroM = r) := ⟨by
     rw [hr, decide_eq_true h4, decide_eq_true h5]
     simp only [eqM, zeroM, Bool.and_true]
     rw [show (fr == 0) = decide (fr = 0) from rfl, show (no == 0) = decide (no = 0) from rfl]
     cases decide (fr = 0) <;> simp [Bool.and_assoc]⟩
    clear hr
    go_enter Try.func136, Try.ntmps136
    go_wp2_with (first
     | fail
     | ((with_reducible refine gate_dst (N := 1) rfl ?_); refine own_box H0.out rfl (N := 1) rfl (t := 92) rfl (.agg (msgA ⟨1, fr, tt, am, no, ky, nx⟩)) rfl ?_; intro g1 w1 H1 B1; replace H1 := Aside0.mk H1; replace B1 := Aside0.mk B1)
     | ((with_reducible refine gate_dst (N := 4) rfl ?_); ( refine own_loadV H1.out 0 g1 _ 92 rfl rfl (.tmp 1) rfl _ rfl Try.underlying92 rfl (sizeM_of HSZ.out) ?_))
     | ((with_reducible refine gate_dst (N := 3) rfl ?_); refine own_alloc H1.out rfl (N := 3) rfl (t := 92) rfl (msgA zeroM) 69 (by kernel_rfl) ?_; intro g3 w2 H2 B2; replace H2 := Aside0.mk H2; replace B2 := Aside0.mk B2)
     | ((with_reducible refine own_store H2.out 0 g3 _ 92 rfl rfl (.tmp 3) (.tmp 4) rfl (msgA ⟨1, fr, tt, am, no, ky, nx⟩) ?_ ?_ 69 HAZ.out HAR.out (by kernel_rfl) ?_); (case _ => rfl); (case _ => rfl); intro w3 H3; replace H3 := Aside0.mk H3)
     | ((with_reducible refine gate_dst (N := 6) rfl ?_); ( refine own_ld1 H3.out 1 g1 _ _ rfl rfl 90 (.tmp 5) rfl 0 (.int .u8 1) _ rfl rfl Try.underlying90 rfl ?_))
     | ((with_reducible refine gate_dst (N := 13) rfl ?_); ( refine own_ld1 H3.out 1 g1 _ _ rfl rfl 23 (.tmp 12) rfl 1 (.int .u64 fr) _ rfl rfl Try.underlying23 rfl ?_))
     | ((with_reducible refine gate_dst (N := 15) rfl ?_); ( refine build_ rfl 25 [] rfl _ rfl (cellsB z32) (builtH0) ?_))
     | ((with_reducible refine gate_dst (N := 16) rfl ?_); ( refine build_ rfl 25 [] rfl _ rfl (cellsB z32) (builtH0) ?_))
     | ((with_reducible refine gate_store (t := 23) (p := 17) rfl ?_); ( refine own_st H3.out 0 g3 _ (msgA ⟨1, 0, tt, am, no, ky, nx⟩) 92 (by rfl) rfl 23 (.tmp 17) _ rfl 1 [.int .u64 0] (.int .u64 0) (by rfl) (by rfl) (by rfl) (by simp [msgA, vB]; try omega) (by kernel_rfl) (by simp [Value.oneCell']) (by rfl) ?_; intro w4 H4; replace H4 := Aside0.mk H4))
     | ((with_reducible refine gate_store (t := 23) (p := 18) rfl ?_); ( refine own_st H4.out 0 g3 _ (msgA ⟨1, 0, tt, am, 0, ky, nx⟩) 92 (by rfl) rfl 23 (.tmp 18) _ rfl 4 [.int .u64 0] (.int .u64 0) (by rfl) (by rfl) (by rfl) (by simp [msgA, vB]; try omega) (by kernel_rfl) (by simp [Value.oneCell']) (by rfl) ?_; intro w5 H5; replace H5 := Aside0.mk H5))
     | ((with_reducible refine gate_store (t := 25) (p := 19) rfl ?_); ( refine own_st H5.out 0 g3 _ (msgA ⟨1, 0, tt, am, 0, z32, nx⟩) 92 (by rfl) rfl 25 (.tmp 19) _ rfl 5 (vB z32) (.agg (cellsB z32)) (by rfl) (by rfl) (by rfl) (by rw [msgA_size HK.out HN.out]; decide) (by kernel_rfl) (by exact vB_one _) (by exact spl5 (by rw [vB_len, vB_len, HK.out]; rfl)) ?_; intro w6 H6; replace H6 := Aside0.mk H6))
     | ((with_reducible refine gate_store (t := 25) (p := 20) rfl ?_); ( refine own_st H6.out 0 g3 _ (msgA ⟨1, 0, tt, am, 0, z32, z32⟩) 92 (by rfl) rfl 25 (.tmp 20) _ rfl 37 (vB z32) (.agg (cellsB z32)) (by rfl) (by rfl) (by rfl) (by rw [msgA_size z32_len HN.out]; decide) (by kernel_rfl) (by exact vB_one _) (by exact spl37 (by rw [vB_len]; rfl) (by rw [vB_len, vB_len, HN.out]; rfl)) ?_; intro w7 H7; replace H7 := Aside0.mk H7))
     | ((with_reducible refine gate_dst (N := 22) rfl ?_); ( refine own_ld1 H3.out 1 g1 _ _ rfl rfl 90 (.tmp 21) rfl 0 (.int .u8 1) _ rfl rfl Try.underlying90 rfl ?_))
     | ((with_reducible refine gate_dst (N := 26) rfl ?_); (refine gate_guard (by rfl) ?_); ( refine own_ld1 H3.out 1 g1 _ _ rfl rfl 23 (.tmp 25) rfl 2 (.int .u64 tt) _ rfl rfl Try.underlying23 rfl ?_))
     | ((with_reducible refine gate_dst (N := 31) rfl ?_); (refine gate_guard (by rfl) ?_); ( refine own_ld1 H3.out 1 g1 _ _ rfl rfl 90 (.tmp 30) rfl 0 (.int .u8 1) _ rfl rfl Try.underlying90 rfl ?_))
     | ((with_reducible refine gate_dst (N := 35) rfl ?_); (refine gate_guard (by rfl) ?_); ( refine own_ld1 H3.out 1 g1 _ _ rfl rfl 23 (.tmp 34) rfl 3 (.int .u64 am) _ rfl rfl Try.underlying23 rfl ?_))
     | ((with_reducible refine gate_store (t := 90) (p := 39) rfl ?_); ( refine own_st H3.out 0 g3 _ (msgA ⟨0, fr, tt, am, no, ky, nx⟩) 92 (by rfl) rfl 90 (.tmp 39) _ rfl 0 [.int .u8 0] (.int .u8 0) (by rfl) (by rfl) (by rfl) (by simp [msgA, vB]; try omega) (by kernel_rfl) (by simp [Value.oneCell']) (by rfl) ?_; intro w8 H8; replace H8 := Aside0.mk H8))
     | ((with_reducible refine gate_store (t := 23) (p := 40) rfl ?_); ( refine own_st H8.out 0 g3 _ (msgA ⟨0, fr, 0, am, no, ky, nx⟩) 92 (by rfl) rfl 23 (.tmp 40) _ rfl 2 [.int .u64 0] (.int .u64 0) (by rfl) (by rfl) (by rfl) (by simp [msgA, vB]; try omega) (by kernel_rfl) (by simp [Value.oneCell']) (by rfl) ?_; intro w9 H9; replace H9 := Aside0.mk H9))
     | ((with_reducible refine gate_store (t := 23) (p := 41) rfl ?_); ( refine own_st H9.out 0 g3 _ (msgA ⟨0, fr, 0, 0, no, ky, nx⟩) 92 (by rfl) rfl 23 (.tmp 41) _ rfl 3 [.int .u64 0] (.int .u64 0) (by rfl) (by rfl) (by rfl) (by simp [msgA, vB]; try omega) (by kernel_rfl) (by simp [Value.oneCell']) (by rfl) ?_; intro w10 H10; replace H10 := Aside0.mk H10))
     | ((with_reducible refine gate_dst (N := 42) rfl ?_); ( refine own_loadV H10.out 0 g3 _ 92 rfl rfl (.tmp 3) rfl _ rfl Try.underlying92 rfl (sizeM_of (msgA_size HK.out HN.out)) ?_))
     | ((with_reducible refine gate_dst (N := 43) rfl ?_); ( refine build_ rfl 92 [] rfl _ rfl (msgA zeroM) (builtM0) ?_))
     | ((with_reducible refine gate_dst (N := 44) rfl ?_); refine eq_M rfl _ (.tmp 42) (.tmp 43) rfl ⟨0, fr, 0, 0, no, ky, nx⟩ zeroM rfl rfl HK.out HN.out rfl rfl ?_)
     )
    go_ret
    exact ⟨by rw [HE.out]; rfl, H10.out.below⟩
   ·have e5 : (am == 0) = true := beq_iff_eq.2 (by omega)
    obtain rfl : r = false := by rw [hr, decide_eq_false h5]; simp
    clear hr
    go_enter Try.func136, Try.ntmps136
    go_wp2_with (first
     | fail
     | ((with_reducible refine gate_dst (N := 1) rfl ?_); refine own_box H0.out rfl (N := 1) rfl (t := 92) rfl (.agg (msgA ⟨1, fr, tt, am, no, ky, nx⟩)) rfl ?_; intro g1 w1 H1 B1; replace H1 := Aside0.mk H1; replace B1 := Aside0.mk B1)
     | ((with_reducible refine gate_dst (N := 4) rfl ?_); ( refine own_loadV H1.out 0 g1 _ 92 rfl rfl (.tmp 1) rfl _ rfl Try.underlying92 rfl (sizeM_of HSZ.out) ?_))
     | ((with_reducible refine gate_dst (N := 3) rfl ?_); refine own_alloc H1.out rfl (N := 3) rfl (t := 92) rfl (msgA zeroM) 69 (by kernel_rfl) ?_; intro g3 w2 H2 B2; replace H2 := Aside0.mk H2; replace B2 := Aside0.mk B2)
     | ((with_reducible refine own_store H2.out 0 g3 _ 92 rfl rfl (.tmp 3) (.tmp 4) rfl (msgA ⟨1, fr, tt, am, no, ky, nx⟩) ?_ ?_ 69 HAZ.out HAR.out (by kernel_rfl) ?_); (case _ => rfl); (case _ => rfl); intro w3 H3; replace H3 := Aside0.mk H3)
     | ((with_reducible refine gate_dst (N := 6) rfl ?_); ( refine own_ld1 H3.out 1 g1 _ _ rfl rfl 90 (.tmp 5) rfl 0 (.int .u8 1) _ rfl rfl Try.underlying90 rfl ?_))
     | ((with_reducible refine gate_dst (N := 13) rfl ?_); ( refine own_ld1 H3.out 1 g1 _ _ rfl rfl 23 (.tmp 12) rfl 1 (.int .u64 fr) _ rfl rfl Try.underlying23 rfl ?_))
     | ((with_reducible refine gate_dst (N := 15) rfl ?_); ( refine build_ rfl 25 [] rfl _ rfl (cellsB z32) (builtH0) ?_))
     | ((with_reducible refine gate_dst (N := 16) rfl ?_); ( refine build_ rfl 25 [] rfl _ rfl (cellsB z32) (builtH0) ?_))
     | ((with_reducible refine gate_store (t := 23) (p := 17) rfl ?_); ( refine own_st H3.out 0 g3 _ (msgA ⟨1, 0, tt, am, no, ky, nx⟩) 92 (by rfl) rfl 23 (.tmp 17) _ rfl 1 [.int .u64 0] (.int .u64 0) (by rfl) (by rfl) (by rfl) (by simp [msgA, vB]; try omega) (by kernel_rfl) (by simp [Value.oneCell']) (by rfl) ?_; intro w4 H4; replace H4 := Aside0.mk H4))
     | ((with_reducible refine gate_store (t := 23) (p := 18) rfl ?_); ( refine own_st H4.out 0 g3 _ (msgA ⟨1, 0, tt, am, 0, ky, nx⟩) 92 (by rfl) rfl 23 (.tmp 18) _ rfl 4 [.int .u64 0] (.int .u64 0) (by rfl) (by rfl) (by rfl) (by simp [msgA, vB]; try omega) (by kernel_rfl) (by simp [Value.oneCell']) (by rfl) ?_; intro w5 H5; replace H5 := Aside0.mk H5))
     | ((with_reducible refine gate_store (t := 25) (p := 19) rfl ?_); ( refine own_st H5.out 0 g3 _ (msgA ⟨1, 0, tt, am, 0, z32, nx⟩) 92 (by rfl) rfl 25 (.tmp 19) _ rfl 5 (vB z32) (.agg (cellsB z32)) (by rfl) (by rfl) (by rfl) (by rw [msgA_size HK.out HN.out]; decide) (by kernel_rfl) (by exact vB_one _) (by exact spl5 (by rw [vB_len, vB_len, HK.out]; rfl)) ?_; intro w6 H6; replace H6 := Aside0.mk H6))
     | ((with_reducible refine gate_store (t := 25) (p := 20) rfl ?_); ( refine own_st H6.out 0 g3 _ (msgA ⟨1, 0, tt, am, 0, z32, z32⟩) 92 (by rfl) rfl 25 (.tmp 20) _ rfl 37 (vB z32) (.agg (cellsB z32)) (by rfl) (by rfl) (by rfl) (by rw [msgA_size z32_len HN.out]; decide) (by kernel_rfl) (by exact vB_one _) (by exact spl37 (by rw [vB_len]; rfl) (by rw [vB_len, vB_len, HN.out]; rfl)) ?_; intro w7 H7; replace H7 := Aside0.mk H7))
     | ((with_reducible refine gate_dst (N := 22) rfl ?_); ( refine own_ld1 H3.out 1 g1 _ _ rfl rfl 90 (.tmp 21) rfl 0 (.int .u8 1) _ rfl rfl Try.underlying90 rfl ?_))
     | ((with_reducible refine gate_dst (N := 26) rfl ?_); (refine gate_guard (by rfl) ?_); ( refine own_ld1 H3.out 1 g1 _ _ rfl rfl 23 (.tmp 25) rfl 2 (.int .u64 tt) _ rfl rfl Try.underlying23 rfl ?_))
     | ((with_reducible refine gate_dst (N := 31) rfl ?_); (refine gate_guard (by rfl) ?_); ( refine own_ld1 H3.out 1 g1 _ _ rfl rfl 90 (.tmp 30) rfl 0 (.int .u8 1) _ rfl rfl Try.underlying90 rfl ?_))
     | ((with_reducible refine gate_dst (N := 35) rfl ?_); (refine gate_guard (by rfl) ?_); ( refine own_ld1 H3.out 1 g1 _ _ rfl rfl 23 (.tmp 34) rfl 3 (.int .u64 am) _ rfl rfl Try.underlying23 rfl ?_))
     | ((with_reducible refine gate_store (t := 90) (p := 39) rfl ?_); ( refine own_st H3.out 0 g3 _ (msgA ⟨0, fr, tt, am, no, ky, nx⟩) 92 (by rfl) rfl 90 (.tmp 39) _ rfl 0 [.int .u8 0] (.int .u8 0) (by rfl) (by rfl) (by rfl) (by simp [msgA, vB]; try omega) (by kernel_rfl) (by simp [Value.oneCell']) (by rfl) ?_; intro w8 H8; replace H8 := Aside0.mk H8))
     | ((with_reducible refine gate_store (t := 23) (p := 40) rfl ?_); ( refine own_st H8.out 0 g3 _ (msgA ⟨0, fr, 0, am, no, ky, nx⟩) 92 (by rfl) rfl 23 (.tmp 40) _ rfl 2 [.int .u64 0] (.int .u64 0) (by rfl) (by rfl) (by rfl) (by simp [msgA, vB]; try omega) (by kernel_rfl) (by simp [Value.oneCell']) (by rfl) ?_; intro w9 H9; replace H9 := Aside0.mk H9))
     | ((with_reducible refine gate_store (t := 23) (p := 41) rfl ?_); ( refine own_st H9.out 0 g3 _ (msgA ⟨0, fr, 0, 0, no, ky, nx⟩) 92 (by rfl) rfl 23 (.tmp 41) _ rfl 3 [.int .u64 0] (.int .u64 0) (by rfl) (by rfl) (by rfl) (by simp [msgA, vB]; try omega) (by kernel_rfl) (by simp [Value.oneCell']) (by rfl) ?_; intro w10 H10; replace H10 := Aside0.mk H10))
     | ((with_reducible refine gate_dst (N := 42) rfl ?_); ( refine own_loadV H10.out 0 g3 _ 92 rfl rfl (.tmp 3) rfl _ rfl Try.underlying92 rfl (sizeM_of (msgA_size HK.out HN.out)) ?_))
     | ((with_reducible refine gate_dst (N := 43) rfl ?_); ( refine build_ rfl 92 [] rfl _ rfl (msgA zeroM) (builtM0) ?_))
     | ((with_reducible refine gate_dst (N := 44) rfl ?_); refine eq_M rfl _ (.tmp 42) (.tmp 43) rfl ⟨0, fr, 0, 0, no, ky, nx⟩ zeroM rfl rfl HK.out HN.out rfl rfl ?_)
     )
    go_ret
    exact ⟨rfl, H3.out.below⟩
  ·have e4 : decide (32 ≤ tt) = true := decide_eq_true (by omega)
   obtain rfl : r = false := by rw [hr, decide_eq_false h4]; simp
   clear hr
   go_enter Try.func136, Try.ntmps136
   go_wp2_with (first
    | fail
    | ((with_reducible refine gate_dst (N := 1) rfl ?_); refine own_box H0.out rfl (N := 1) rfl (t := 92) rfl (.agg (msgA ⟨1, fr, tt, am, no, ky, nx⟩)) rfl ?_; intro g1 w1 H1 B1; replace H1 := Aside0.mk H1; replace B1 := Aside0.mk B1)
    | ((with_reducible refine gate_dst (N := 4) rfl ?_); ( refine own_loadV H1.out 0 g1 _ 92 rfl rfl (.tmp 1) rfl _ rfl Try.underlying92 rfl (sizeM_of HSZ.out) ?_))
    | ((with_reducible refine gate_dst (N := 3) rfl ?_); refine own_alloc H1.out rfl (N := 3) rfl (t := 92) rfl (msgA zeroM) 69 (by kernel_rfl) ?_; intro g3 w2 H2 B2; replace H2 := Aside0.mk H2; replace B2 := Aside0.mk B2)
    | ((with_reducible refine own_store H2.out 0 g3 _ 92 rfl rfl (.tmp 3) (.tmp 4) rfl (msgA ⟨1, fr, tt, am, no, ky, nx⟩) ?_ ?_ 69 HAZ.out HAR.out (by kernel_rfl) ?_); (case _ => rfl); (case _ => rfl); intro w3 H3; replace H3 := Aside0.mk H3)
    | ((with_reducible refine gate_dst (N := 6) rfl ?_); ( refine own_ld1 H3.out 1 g1 _ _ rfl rfl 90 (.tmp 5) rfl 0 (.int .u8 1) _ rfl rfl Try.underlying90 rfl ?_))
    | ((with_reducible refine gate_dst (N := 13) rfl ?_); ( refine own_ld1 H3.out 1 g1 _ _ rfl rfl 23 (.tmp 12) rfl 1 (.int .u64 fr) _ rfl rfl Try.underlying23 rfl ?_))
    | ((with_reducible refine gate_dst (N := 15) rfl ?_); ( refine build_ rfl 25 [] rfl _ rfl (cellsB z32) (builtH0) ?_))
    | ((with_reducible refine gate_dst (N := 16) rfl ?_); ( refine build_ rfl 25 [] rfl _ rfl (cellsB z32) (builtH0) ?_))
    | ((with_reducible refine gate_store (t := 23) (p := 17) rfl ?_); ( refine own_st H3.out 0 g3 _ (msgA ⟨1, 0, tt, am, no, ky, nx⟩) 92 (by rfl) rfl 23 (.tmp 17) _ rfl 1 [.int .u64 0] (.int .u64 0) (by rfl) (by rfl) (by rfl) (by simp [msgA, vB]; try omega) (by kernel_rfl) (by simp [Value.oneCell']) (by rfl) ?_; intro w4 H4; replace H4 := Aside0.mk H4))
    | ((with_reducible refine gate_store (t := 23) (p := 18) rfl ?_); ( refine own_st H4.out 0 g3 _ (msgA ⟨1, 0, tt, am, 0, ky, nx⟩) 92 (by rfl) rfl 23 (.tmp 18) _ rfl 4 [.int .u64 0] (.int .u64 0) (by rfl) (by rfl) (by rfl) (by simp [msgA, vB]; try omega) (by kernel_rfl) (by simp [Value.oneCell']) (by rfl) ?_; intro w5 H5; replace H5 := Aside0.mk H5))
    | ((with_reducible refine gate_store (t := 25) (p := 19) rfl ?_); ( refine own_st H5.out 0 g3 _ (msgA ⟨1, 0, tt, am, 0, z32, nx⟩) 92 (by rfl) rfl 25 (.tmp 19) _ rfl 5 (vB z32) (.agg (cellsB z32)) (by rfl) (by rfl) (by rfl) (by rw [msgA_size HK.out HN.out]; decide) (by kernel_rfl) (by exact vB_one _) (by exact spl5 (by rw [vB_len, vB_len, HK.out]; rfl)) ?_; intro w6 H6; replace H6 := Aside0.mk H6))
    | ((with_reducible refine gate_store (t := 25) (p := 20) rfl ?_); ( refine own_st H6.out 0 g3 _ (msgA ⟨1, 0, tt, am, 0, z32, z32⟩) 92 (by rfl) rfl 25 (.tmp 20) _ rfl 37 (vB z32) (.agg (cellsB z32)) (by rfl) (by rfl) (by rfl) (by rw [msgA_size z32_len HN.out]; decide) (by kernel_rfl) (by exact vB_one _) (by exact spl37 (by rw [vB_len]; rfl) (by rw [vB_len, vB_len, HN.out]; rfl)) ?_; intro w7 H7; replace H7 := Aside0.mk H7))
    | ((with_reducible refine gate_dst (N := 22) rfl ?_); ( refine own_ld1 H3.out 1 g1 _ _ rfl rfl 90 (.tmp 21) rfl 0 (.int .u8 1) _ rfl rfl Try.underlying90 rfl ?_))
    | ((with_reducible refine gate_dst (N := 26) rfl ?_); (refine gate_guard (by rfl) ?_); ( refine own_ld1 H3.out 1 g1 _ _ rfl rfl 23 (.tmp 25) rfl 2 (.int .u64 tt) _ rfl rfl Try.underlying23 rfl ?_))
    | ((with_reducible refine gate_dst (N := 31) rfl ?_); (refine gate_guard (by rfl) ?_); ( refine own_ld1 H3.out 1 g1 _ _ rfl rfl 90 (.tmp 30) rfl 0 (.int .u8 1) _ rfl rfl Try.underlying90 rfl ?_))
    | ((with_reducible refine gate_dst (N := 35) rfl ?_); (refine gate_guard (by rfl) ?_); ( refine own_ld1 H3.out 1 g1 _ _ rfl rfl 23 (.tmp 34) rfl 3 (.int .u64 am) _ rfl rfl Try.underlying23 rfl ?_))
    | ((with_reducible refine gate_store (t := 90) (p := 39) rfl ?_); ( refine own_st H3.out 0 g3 _ (msgA ⟨0, fr, tt, am, no, ky, nx⟩) 92 (by rfl) rfl 90 (.tmp 39) _ rfl 0 [.int .u8 0] (.int .u8 0) (by rfl) (by rfl) (by rfl) (by simp [msgA, vB]; try omega) (by kernel_rfl) (by simp [Value.oneCell']) (by rfl) ?_; intro w8 H8; replace H8 := Aside0.mk H8))
    | ((with_reducible refine gate_store (t := 23) (p := 40) rfl ?_); ( refine own_st H8.out 0 g3 _ (msgA ⟨0, fr, 0, am, no, ky, nx⟩) 92 (by rfl) rfl 23 (.tmp 40) _ rfl 2 [.int .u64 0] (.int .u64 0) (by rfl) (by rfl) (by rfl) (by simp [msgA, vB]; try omega) (by kernel_rfl) (by simp [Value.oneCell']) (by rfl) ?_; intro w9 H9; replace H9 := Aside0.mk H9))
    | ((with_reducible refine gate_store (t := 23) (p := 41) rfl ?_); ( refine own_st H9.out 0 g3 _ (msgA ⟨0, fr, 0, 0, no, ky, nx⟩) 92 (by rfl) rfl 23 (.tmp 41) _ rfl 3 [.int .u64 0] (.int .u64 0) (by rfl) (by rfl) (by rfl) (by simp [msgA, vB]; try omega) (by kernel_rfl) (by simp [Value.oneCell']) (by rfl) ?_; intro w10 H10; replace H10 := Aside0.mk H10))
    | ((with_reducible refine gate_dst (N := 42) rfl ?_); ( refine own_loadV H10.out 0 g3 _ 92 rfl rfl (.tmp 3) rfl _ rfl Try.underlying92 rfl (sizeM_of (msgA_size HK.out HN.out)) ?_))
    | ((with_reducible refine gate_dst (N := 43) rfl ?_); ( refine build_ rfl 92 [] rfl _ rfl (msgA zeroM) (builtM0) ?_))
    | ((with_reducible refine gate_dst (N := 44) rfl ?_); refine eq_M rfl _ (.tmp 42) (.tmp 43) rfl ⟨0, fr, 0, 0, no, ky, nx⟩ zeroM rfl rfl HK.out HN.out rfl rfl ?_)
    )
   go_ret
   exact ⟨rfl, H3.out.below⟩
 ·simp only [mayM] at hr
  rw [if_neg h1, if_neg h2, if_neg h3] at hr
  subst hr
  have e1 : (kd == 1) = false := beq_eq_false_iff_ne.2 h1
  have e2 : (kd == 2) = false := beq_eq_false_iff_ne.2 h2
  have e3 : (kd == 3) = false := beq_eq_false_iff_ne.2 h3
  clear h1 h2 h3
  go_enter Try.func136, Try.ntmps136
  go_wp2_with (first
   | fail
   | ((with_reducible refine gate_dst (N := 1) rfl ?_); refine own_box H0.out rfl (N := 1) rfl (t := 92) rfl (.agg (msgA ⟨kd, fr, tt, am, no, ky, nx⟩)) rfl ?_; intro g1 w1 H1 B1; replace H1 := Aside0.mk H1; replace B1 := Aside0.mk B1)
   | ((with_reducible refine gate_dst (N := 4) rfl ?_); ( refine own_loadV H1.out 0 g1 _ 92 rfl rfl (.tmp 1) rfl _ rfl Try.underlying92 rfl (sizeM_of HSZ.out) ?_))
   | ((with_reducible refine gate_dst (N := 3) rfl ?_); refine own_alloc H1.out rfl (N := 3) rfl (t := 92) rfl (msgA zeroM) 69 (by kernel_rfl) ?_; intro g3 w2 H2 B2; replace H2 := Aside0.mk H2; replace B2 := Aside0.mk B2)
   | ((with_reducible refine own_store H2.out 0 g3 _ 92 rfl rfl (.tmp 3) (.tmp 4) rfl (msgA ⟨kd, fr, tt, am, no, ky, nx⟩) ?_ ?_ 69 HAZ.out HAR.out (by kernel_rfl) ?_); (case _ => rfl); (case _ => rfl); intro w3 H3; replace H3 := Aside0.mk H3)
   | ((with_reducible refine gate_dst (N := 6) rfl ?_); ( refine own_ld1 H3.out 1 g1 _ _ rfl rfl 90 (.tmp 5) rfl 0 (.int .u8 kd) _ rfl rfl Try.underlying90 rfl ?_))
   | ((with_reducible refine gate_dst (N := 13) rfl ?_); ( refine own_ld1 H3.out 1 g1 _ _ rfl rfl 23 (.tmp 12) rfl 1 (.int .u64 fr) _ rfl rfl Try.underlying23 rfl ?_))
   | ((with_reducible refine gate_dst (N := 15) rfl ?_); ( refine build_ rfl 25 [] rfl _ rfl (cellsB z32) (builtH0) ?_))
   | ((with_reducible refine gate_dst (N := 16) rfl ?_); ( refine build_ rfl 25 [] rfl _ rfl (cellsB z32) (builtH0) ?_))
   | ((with_reducible refine gate_store (t := 23) (p := 17) rfl ?_); ( refine own_st H3.out 0 g3 _ (msgA ⟨kd, 0, tt, am, no, ky, nx⟩) 92 (by rfl) rfl 23 (.tmp 17) _ rfl 1 [.int .u64 0] (.int .u64 0) (by rfl) (by rfl) (by rfl) (by simp [msgA, vB]; try omega) (by kernel_rfl) (by simp [Value.oneCell']) (by rfl) ?_; intro w4 H4; replace H4 := Aside0.mk H4))
   | ((with_reducible refine gate_store (t := 23) (p := 18) rfl ?_); ( refine own_st H4.out 0 g3 _ (msgA ⟨kd, 0, tt, am, 0, ky, nx⟩) 92 (by rfl) rfl 23 (.tmp 18) _ rfl 4 [.int .u64 0] (.int .u64 0) (by rfl) (by rfl) (by rfl) (by simp [msgA, vB]; try omega) (by kernel_rfl) (by simp [Value.oneCell']) (by rfl) ?_; intro w5 H5; replace H5 := Aside0.mk H5))
   | ((with_reducible refine gate_store (t := 25) (p := 19) rfl ?_); ( refine own_st H5.out 0 g3 _ (msgA ⟨kd, 0, tt, am, 0, z32, nx⟩) 92 (by rfl) rfl 25 (.tmp 19) _ rfl 5 (vB z32) (.agg (cellsB z32)) (by rfl) (by rfl) (by rfl) (by rw [msgA_size HK.out HN.out]; decide) (by kernel_rfl) (by exact vB_one _) (by exact spl5 (by rw [vB_len, vB_len, HK.out]; rfl)) ?_; intro w6 H6; replace H6 := Aside0.mk H6))
   | ((with_reducible refine gate_store (t := 25) (p := 20) rfl ?_); ( refine own_st H6.out 0 g3 _ (msgA ⟨kd, 0, tt, am, 0, z32, z32⟩) 92 (by rfl) rfl 25 (.tmp 20) _ rfl 37 (vB z32) (.agg (cellsB z32)) (by rfl) (by rfl) (by rfl) (by rw [msgA_size z32_len HN.out]; decide) (by kernel_rfl) (by exact vB_one _) (by exact spl37 (by rw [vB_len]; rfl) (by rw [vB_len, vB_len, HN.out]; rfl)) ?_; intro w7 H7; replace H7 := Aside0.mk H7))
   | ((with_reducible refine gate_dst (N := 22) rfl ?_); ( refine own_ld1 H7.out 1 g1 _ _ rfl rfl 90 (.tmp 21) rfl 0 (.int .u8 kd) _ rfl rfl Try.underlying90 rfl ?_))
   | ((with_reducible refine gate_dst (N := 26) rfl ?_); (refine gate_guard (by rfl) ?_); ( refine own_ld1 H7.out 1 g1 _ _ rfl rfl 23 (.tmp 25) rfl 2 (.int .u64 tt) _ rfl rfl Try.underlying23 rfl ?_))
   | ((with_reducible refine gate_dst (N := 31) rfl ?_); (refine gate_guard (by rfl) ?_); ( refine own_ld1 H7.out 1 g1 _ _ rfl rfl 90 (.tmp 30) rfl 0 (.int .u8 kd) _ rfl rfl Try.underlying90 rfl ?_))
   | ((with_reducible refine gate_dst (N := 35) rfl ?_); (refine gate_guard (by rfl) ?_); ( refine own_ld1 H7.out 1 g1 _ _ rfl rfl 23 (.tmp 34) rfl 3 (.int .u64 am) _ rfl rfl Try.underlying23 rfl ?_))
   | ((with_reducible refine gate_store (t := 90) (p := 39) rfl ?_); ( refine own_st H7.out 0 g3 _ (msgA ⟨0, 0, tt, am, 0, z32, z32⟩) 92 (by rfl) rfl 90 (.tmp 39) _ rfl 0 [.int .u8 0] (.int .u8 0) (by rfl) (by rfl) (by rfl) (by simp [msgA, vB]; try omega) (by kernel_rfl) (by simp [Value.oneCell']) (by rfl) ?_; intro w8 H8; replace H8 := Aside0.mk H8))
   | ((with_reducible refine gate_store (t := 23) (p := 40) rfl ?_); ( refine own_st H8.out 0 g3 _ (msgA ⟨0, 0, 0, am, 0, z32, z32⟩) 92 (by rfl) rfl 23 (.tmp 40) _ rfl 2 [.int .u64 0] (.int .u64 0) (by rfl) (by rfl) (by rfl) (by simp [msgA, vB]; try omega) (by kernel_rfl) (by simp [Value.oneCell']) (by rfl) ?_; intro w9 H9; replace H9 := Aside0.mk H9))
   | ((with_reducible refine gate_store (t := 23) (p := 41) rfl ?_); ( refine own_st H9.out 0 g3 _ (msgA ⟨0, 0, 0, 0, 0, z32, z32⟩) 92 (by rfl) rfl 23 (.tmp 41) _ rfl 3 [.int .u64 0] (.int .u64 0) (by rfl) (by rfl) (by rfl) (by simp [msgA, vB]; try omega) (by kernel_rfl) (by simp [Value.oneCell']) (by rfl) ?_; intro w10 H10; replace H10 := Aside0.mk H10))
   | ((with_reducible refine gate_dst (N := 42) rfl ?_); ( refine own_loadV H10.out 0 g3 _ 92 rfl rfl (.tmp 3) rfl _ rfl Try.underlying92 rfl (sizeM_of (msgA_size rfl rfl)) ?_))
   | ((with_reducible refine gate_dst (N := 43) rfl ?_); ( refine build_ rfl 92 [] rfl _ rfl (msgA zeroM) (builtM0) ?_))
   | ((with_reducible refine gate_dst (N := 44) rfl ?_); refine eq_M rfl _ (.tmp 42) (.tmp 43) rfl ⟨0, 0, 0, 0, 0, z32, z32⟩ zeroM rfl rfl rfl rfl rfl rfl ?_)
   )
  go_ret
  exact ⟨rfl, H3.out.below⟩
end Go.Proofs.Ytocphkfkdadhaaa.H

namespace Go.Proofs.Ytocphkfkdadhaaa.H
open Go.RowKit Go.Proofs.YtocphkfkdadhaaaW.PrintWords Go.Proofs.YtocphkfkdadhaaaW.PrintLast Go.Proofs.YtocphkfkdadhaaaW.PrintMore
set_option linter.unusedVariables false
set_option linter.unusedSimpArgs false
def wordU (b : List Int) (i j : Nat) : Nat := K.num (((b.take i).drop (8 * j)).take 8)
def wordsU (n : Nat) (b : List Int) (i : Nat) : List Nat := (List.range n).map fun j => wordU b i j
theorem wordsU_len (n : Nat) (b : List Int) (i : Nat) : (wordsU n b i).length = n := by simp [wordsU]
theorem wordsU_at (n : Nat) (b : List Int) (i j : Nat) (h : j < (wordsU n b i).length) : (wordsU n b i)[j] = wordU b i j := by simp [wordsU]
theorem wordU_snoc (b : List Int) (i : Nat) (h : i < b.length) : wordU b (i + 1) (i / 8) = wordU b i (i / 8) * 256 + b[i].toNat := by
 unfold wordU
 rw [List.take_succ_eq_append_getElem h, List.drop_append_of_le_length (by rw [List.length_take]; omega)]
 have hl : ((b.take i).drop (8 * (i / 8))).length ≤ 7 := by simp [List.length_take]; omega
 generalize (b.take i).drop (8 * (i / 8)) = t at *
 rw [List.take_of_length_le (l := t ++ _) (by simp; omega), List.take_of_length_le (l := t) (by omega), K.num_snoc]
theorem wordU_other (b : List Int) (i j : Nat) (h : i < b.length) (hj : j ≠ i / 8) : wordU b (i + 1) j = wordU b i j := by
 unfold wordU
 rw [List.take_succ_eq_append_getElem h]
 by_cases hlt : 8 * j ≤ i
 ·rw [List.drop_append_of_le_length (by rw [List.length_take]; omega), List.take_append_of_le_length (by simp [List.length_take]; omega)]
 ·rw [List.drop_of_length_le (by simp [List.length_take]; omega), List.drop_of_length_le (by simp [List.length_take]; omega)]
theorem wordsU_step (n : Nat) (b : List Int) (i : Nat) (h : i < b.length) (hi : i / 8 < n) : (wordsU n b i).set (i / 8) (wordU b i (i / 8) * 256 + b[i].toNat) = wordsU n b (i + 1) := by
 refine List.ext_getElem (by simp [wordsU]) fun j h1 h2 => ?_
 rw [wordsU_at, List.getElem_set]
 split
 ·rename_i he
  rw [← he, wordU_snoc b i h]
 ·rename_i he
  rw [wordsU_at, wordU_other b i j h (fun e => he e.symm)]
theorem wordsU_zero (n : Nat) (b : List Int) : wordsU n b 0 = List.replicate n 0 := by
 refine List.ext_getElem (by simp [wordsU]) fun j h1 h2 => ?_
 rw [wordsU_at, List.getElem_replicate]
 simp [wordU, K.num]
theorem wordU_lt (b : List Int) (i : Nat) (hb : ∀ x ∈ b, 0 ≤ x ∧ x ≤ 255) (hi : i < b.length) : wordU b i (i / 8) < 72057594037927936 := by
 have h1 : K.Byt (((b.take i).drop (8 * (i / 8))).take 8) := fun x hx => hb x (List.mem_of_mem_take (List.mem_of_mem_drop (List.mem_of_mem_take hx)))
 have h2 := K.num_lt _ h1
 have h3 : (((b.take i).drop (8 * (i / 8))).take 8).length ≤ 7 := by simp [List.length_take]; omega
 have h4 := K.pow256_le h3
 rw [K.pow256_7] at h4
 exact Nat.lt_of_lt_of_le h2 h4
def cellsN (l : List Nat) : Array Value := (l.map fun n : Nat => Value.int .u64 (n : Int)).toArray
theorem cellsN_size (l : List Nat) : (cellsN l).size = l.length := by simp [cellsN]
theorem cellsN_at (l : List Nat) (i : Nat) (h : i < l.length) : (cellsN l)[i]? = some (.int .u64 ((l[i] : Nat) : Int)) := by simp [cellsN, h]
theorem cellsN_set (l : List Nat) (i : Nat) (x : Nat) : (cellsN l).setIfInBounds i (.int .u64 (x : Int)) = cellsN (l.set i x) := by
 simp [cellsN, List.map_set]
theorem cellsN_arr {l : List Nat} {n : Nat} (h : l.length = n) : Arr n (cellsN l) := ⟨by rw [cellsN_size, h], all_oneCell_toArray (by
 intro v hv
 obtain ⟨x, _, rfl⟩ := List.mem_map.1 hv
 rfl)⟩
def wordsAll (n : Nat) (b : List Int) : List Nat := (List.range n).map fun j => K.num ((b.drop (8 * j)).take 8)
theorem wordsU_all (n : Nat) (b : List Int) (h : b.length = 8 * n) : wordsU n b (8 * n) = wordsAll n b := by
 refine List.ext_getElem (by simp [wordsU, wordsAll]) fun j h1 h2 => ?_
 rw [wordsU_at]
 simp only [wordsAll, List.getElem_map, List.getElem_range, wordU]
 rw [List.take_of_length_le (l := b) (by omega)]
theorem wordsAll_lt (n : Nat) (b : List Int) (hb : ∀ x ∈ b, 0 ≤ x ∧ x ≤ 255) : ∀ x ∈ wordsAll n b, x ≤ 18446744073709551615 := by
 intro x hx
 obtain ⟨j, _, rfl⟩ := List.mem_map.1 hx
 exact K.num_small _ (fun y hy => hb y (List.mem_of_mem_drop (List.mem_of_mem_take hy))) (by simp; omega)
theorem be8I_num (l : List Int) (hb : ∀ x ∈ l, 0 ≤ x ∧ x ≤ 255) (hl : l.length = 8) : be8I (K.num l) = l := by
 match l, hl with
 | [a, b, c, d, e, f, g, h], _ =>
  have ha := hb a (by simp); have hb' := hb b (by simp); have hc := hb c (by simp); have hd := hb d (by simp)
  have he := hb e (by simp); have hf := hb f (by simp); have hg := hb g (by simp); have hh := hb h (by simp)
  clear hb
  obtain ⟨a, rfl⟩ := Int.eq_ofNat_of_zero_le ha.1
  obtain ⟨b, rfl⟩ := Int.eq_ofNat_of_zero_le hb'.1
  obtain ⟨c, rfl⟩ := Int.eq_ofNat_of_zero_le hc.1
  obtain ⟨d, rfl⟩ := Int.eq_ofNat_of_zero_le hd.1
  obtain ⟨e, rfl⟩ := Int.eq_ofNat_of_zero_le he.1
  obtain ⟨f, rfl⟩ := Int.eq_ofNat_of_zero_le hf.1
  obtain ⟨g, rfl⟩ := Int.eq_ofNat_of_zero_le hg.1
  obtain ⟨h, rfl⟩ := Int.eq_ofNat_of_zero_le hh.1
  simp only [be8I, toI, be8, K.num, List.foldl_cons, List.foldl_nil, Int.toNat_natCast, List.map_cons, List.map_nil, Nat.zero_mul, Nat.zero_add]
  have h1 : (((((((a * 256 + b) * 256 + c) * 256 + d) * 256 + e) * 256 + f) * 256 + g) * 256 + h) = a * 72057594037927936 + b * 281474976710656 + c * 1099511627776 + d * 4294967296 + e * 16777216 + f * 65536 + g * 256 + h := by omega
  rw [h1]
  simp only [List.cons.injEq, and_true]
  refine ⟨?_, ?_, ?_, ?_, ?_, ?_, ?_, ?_⟩ <;> (congr 1; omega)
def bytesOf (ws : List Nat) : List Int := (ws.map be8I).flatten
theorem bytesOf_four (b : List Int) (hb : ∀ x ∈ b, 0 ≤ x ∧ x ≤ 255) (hl : b.length = 32) : bytesOf (wordsAll 4 b) = b := by
 have h (j : Nat) (hj : j < 4) : be8I (K.num ((b.drop (8 * j)).take 8)) = (b.drop (8 * j)).take 8 := be8I_num _ (fun y hy => hb y (List.mem_of_mem_drop (List.mem_of_mem_take hy))) (by simp; omega)
 have e : wordsAll 4 b = [K.num ((b.drop (8 * 0)).take 8), K.num ((b.drop (8 * 1)).take 8), K.num ((b.drop (8 * 2)).take 8), K.num ((b.drop (8 * 3)).take 8)] := rfl
 rw [e]
 simp only [bytesOf, List.map_cons, List.map_nil, List.flatten_cons, List.flatten_nil, h 0 (by omega), h 1 (by omega), h 2 (by omega), h 3 (by omega)]
 have e1 : b.drop (8 * 3) = (b.drop (8 * 3)).take 8 ++ [] := by rw [List.append_nil, List.take_of_length_le (by simp; omega)]
 have e2 : b.drop (8 * 2) = (b.drop (8 * 2)).take 8 ++ b.drop (8 * 3) := by
  rw [show 8 * 3 = 8 * 2 + 8 by omega, ← List.drop_drop, List.take_append_drop]
 have e3 : b.drop (8 * 1) = (b.drop (8 * 1)).take 8 ++ b.drop (8 * 2) := by
  rw [show 8 * 2 = 8 * 1 + 8 by omega, ← List.drop_drop, List.take_append_drop]
 have e4 : b = (b.drop (8 * 0)).take 8 ++ b.drop (8 * 1) := by
  rw [show 8 * 1 = 8 by omega, show 8 * 0 = 0 by omega, List.drop_zero, List.take_append_drop]
 rw [← e1, ← e2, ← e3, ← e4]
end Go.Proofs.Ytocphkfkdadhaaa.H

