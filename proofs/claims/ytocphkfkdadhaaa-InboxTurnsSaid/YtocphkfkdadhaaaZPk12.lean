import Derived.Test.YtocphkfkdadhaaaZPk2
import Derived.Test.YtocphkfkdadhaaaZPk8
import Derived.Test.YtocphkfkdadhaaaZPk9
import Derived.Test.YtocphkfkdadhaaaZPk1
import Derived.BigRegion
set_option maxHeartbeats 4000000
set_option linter.unusedVariables false
set_option linter.unusedSimpArgs false
set_option maxRecDepth 100000
namespace Go.Proofs.Ytocphkfkdadhaaa.H
open Go.RowKit Go.Proofs.YtocphkfkdadhaaaW.PrintWords Go.Proofs.YtocphkfkdadhaaaW.PrintLast Go.Proofs.YtocphkfkdadhaaaW.PrintMore
structure MsgI where
 kd : Int
 fr : Int
 tt : Int
 am : Int
 no : Int
 ky : List Int
 nx : List Int
def z32 : List Int := List.replicate 32 0
def vB (l : List Int) : List Value := l.map (Value.int .u8)
theorem vB_len (l : List Int) : (vB l).length = l.length := by simp [vB]
theorem vB_one (l : List Int) : ∀ v ∈ vB l, v.oneCell' = true := by
 intro v hv
 obtain ⟨x, _, rfl⟩ := List.mem_map.1 hv
 rfl
def MsgI.cells (m : MsgI) : List Value := [Value.int .u8 m.kd, Value.int .u64 m.fr, Value.int .u64 m.tt, Value.int .u64 m.am, Value.int .u64 m.no] ++ (vB m.ky ++ vB m.nx)
def msgA (m : MsgI) : Array Value := ([Value.int .u8 m.kd, Value.int .u64 m.fr, Value.int .u64 m.tt, Value.int .u64 m.am, Value.int .u64 m.no] ++ (vB m.ky ++ vB m.nx)).toArray
def zeroM : MsgI := ⟨0, 0, 0, 0, 0, z32, z32⟩
structure MsgI.ok (m : MsgI) : Prop where
 kd : 0 ≤ m.kd ∧ m.kd ≤ 255
 fr : 0 ≤ m.fr ∧ m.fr ≤ 18446744073709551615
 tt : 0 ≤ m.tt ∧ m.tt ≤ 18446744073709551615
 am : 0 ≤ m.am ∧ m.am ≤ 18446744073709551615
 no : 0 ≤ m.no ∧ m.no ≤ 18446744073709551615
 ky : m.ky.length = 32 ∧ ∀ x ∈ m.ky, 0 ≤ x ∧ x ≤ 255
 nx : m.nx.length = 32 ∧ ∀ x ∈ m.nx, 0 ≤ x ∧ x ≤ 255
theorem msgA_size {m : MsgI} (h1 : m.ky.length = 32) (h2 : m.nx.length = 32) : (msgA m).size = 69 := by
 simp [msgA, vB, h1, h2]
theorem msgA_arr {m : MsgI} (h1 : m.ky.length = 32) (h2 : m.nx.length = 32) : Arr 69 (msgA m) := by
 refine ⟨msgA_size h1 h2, all_oneCell_toArray ?_⟩
 intro v hv
 simp only [List.mem_append, List.mem_cons, List.not_mem_nil, or_false] at hv
 rcases hv with (rfl | rfl | rfl | rfl | rfl) | hv | hv
 ·rfl
 ·rfl
 ·rfl
 ·rfl
 ·rfl
 ·exact vB_one _ v hv
 ·exact vB_one _ v hv
def mayM (m : MsgI) : Bool :=
 if m.kd = 1 then decide (m.fr = 0) && decide (m.tt < 32) && decide (0 < m.am) && (decide (m.no = 0) && (m.ky == z32) && (m.nx == z32))
 else if m.kd = 2 then decide (m.fr < 32) && decide (m.tt < 32)
 else if m.kd = 3 then decide (m.fr < 32) && decide (0 < m.am) else false
def eqM (m n : MsgI) : Bool := (m.kd == n.kd) && ((m.fr == n.fr) && ((m.tt == n.tt) && ((m.am == n.am) && ((m.no == n.no) && ((m.ky == n.ky) && (m.nx == n.nx))))))
theorem part_scalar {P : Program} (t : TypeId) (d : TypeDesc) (ht : P.underlying t = some d) (hd : d.isRow = false) (cs : Array Value) (off : Nat) (v : Value) (hv : cs[off]? = some v) (w : World) : (part t cs off).run P w = .ok v w := by
 have hag : (isAgg t).run P w = .ok false w := by
  unfold isAgg
  rw [Sem.run_bind, run_underlying ht w]
  cases d <;> simp_all [TypeDesc.isRow]
 simp [part, hag, hv, go_sem]
theorem part_agg {P : Program} (t : TypeId) (d : TypeDesc) (ht : P.underlying t = some d) (hd : d.isRow = true) (cs : Array Value) (off n : Nat) (hs : (P.info? t).map (·.size) = some n) (w : World) : (part t cs off).run P w = .ok (.agg (cs.extract off (off + n))) w := by
 have hag : (isAgg t).run P w = .ok true w := by
  unfold isAgg
  rw [Sem.run_bind, run_underlying ht w]
  cases d <;> simp_all [TypeDesc.isRow]
 obtain ⟨ti, hti, hsz⟩ := Option.map_eq_some_iff.1 hs
 simp [part, hag, sizeOf, typeInfo, hti, hsz, go_sem]
theorem extract_mid (a s b : List Value) (o n : Nat) (ho : a.length = o) (hn : s.length = n) : ((a ++ (s ++ b)).toArray).extract o (o + n) = s.toArray := by
 subst ho hn
 rw [← Array.toArray_toList (xs := Array.extract _ _ _)]
 congr 1
 simp
def fieldsM : List (TypeId × Nat) := [(90, 0), (23, 1), (23, 2), (23, 3), (23, 4), (25, 5), (25, 37)]
theorem fieldsM_eq : (Try.prog.fieldsOf 92).toList.map (fun f => (f.name == "_", f.type, f.offset)) = fieldsM.map (fun x => (false, x.1, x.2)) := by kernel_rfl
theorem eqFields_map {P : Program} (d : Nat) (xs ys : Array Value) (w : World) : ∀ (fs : List Field) (l : List (TypeId × Nat)), fs.map (fun f => (f.name == "_", f.type, f.offset)) = l.map (fun x => (false, x.1, x.2)) →
 (Op.eqFields d xs ys fs).run P w = (l.foldr (fun x (k : Sem Bool) => do
  let a ← part x.1 xs x.2
  let b ← part x.1 ys x.2
  let r ← Op.equalIn d x.1 a b
  if (!r) = true then pure false else k) (pure true)).run P w
 | [], [], _ => rfl
 | [], _ :: _, h => by simp at h
 | _ :: _, [], h => by simp at h
 | f :: fs, (t, o) :: l, h => by
  simp only [List.map_cons, List.cons.injEq, Prod.mk.injEq] at h
  obtain ⟨⟨h1, h2, h3⟩, h4⟩ := h
  subst h2 h3
  have hn : f.name ≠ "_" := by simpa using h1
  simp only [Op.eqFields, if_pos hn, List.foldr_cons, Sem.run_bind]
  cases hq : (part f.type xs f.offset).run P w with
  | halt x w1 => rfl
  | ok a w1 =>
   simp only [Result.andThen_ok]
   cases hq2 : (part f.type ys f.offset).run P w1 with
   | halt x w2 => rfl
   | ok b w2 =>
    simp only [Result.andThen_ok]
    cases hq3 : (Op.equalIn d f.type a b).run P w2 with
    | halt x w3 => rfl
    | ok r w3 =>
     simp only [Result.andThen_ok]
     cases r
     ·rfl
     ·simp only [Bool.not_true, Bool.false_eq_true, if_false]
      exact eqFields_map d xs ys w3 fs l h4
theorem undM : Try.prog.underlying 92 = some (.struct (Try.prog.fieldsOf 92)) := by kernel_rfl
theorem stoodM : Try.prog.stoodInHeld 92 = false := by kernel_rfl
theorem partM_ky (x : MsgI) (h1 : x.ky.length = 32) (w : World) : (part 25 (msgA x) 5).run Try.prog w = .ok (.agg (cellsB x.ky)) w := by
 rw [part_agg _ _ Try.underlying25 rfl _ _ 32 sizeH]
 unfold msgA
 rw [extract_mid _ _ _ 5 32 rfl (by rw [vB_len, h1])]
 rfl
theorem partM_nx (x : MsgI) (h1 : x.ky.length = 32) (h2 : x.nx.length = 32) (w : World) : (part 25 (msgA x) 37).run Try.prog w = .ok (.agg (cellsB x.nx)) w := by
 rw [part_agg _ _ Try.underlying25 rfl _ _ 32 sizeH]
 unfold msgA
 rw [show ∀ (a b c : List Value), a ++ (b ++ c) = (a ++ b) ++ (c ++ []) from fun a b c => by simp, extract_mid _ _ _ 37 32 (by rw [List.length_append, vB_len, h1]; rfl) (by rw [vB_len, h2])]
 rfl
theorem partM_sc (x : MsgI) (w : World) : (part 90 (msgA x) 0).run Try.prog w = .ok (.int .u8 x.kd) w ∧ (part 23 (msgA x) 1).run Try.prog w = .ok (.int .u64 x.fr) w ∧ (part 23 (msgA x) 2).run Try.prog w = .ok (.int .u64 x.tt) w ∧ (part 23 (msgA x) 3).run Try.prog w = .ok (.int .u64 x.am) w ∧ (part 23 (msgA x) 4).run Try.prog w = .ok (.int .u64 x.no) w :=
 ⟨part_scalar _ _ Try.underlying90 rfl _ _ _ (by simp [msgA]) w, part_scalar _ _ Try.underlying23 rfl _ _ _ (by simp [msgA]) w, part_scalar _ _ Try.underlying23 rfl _ _ _ (by simp [msgA]) w, part_scalar _ _ Try.underlying23 rfl _ _ _ (by simp [msgA]) w, part_scalar _ _ Try.underlying23 rfl _ _ _ (by simp [msgA]) w⟩
theorem step_eq {P : Program} (d : Nat) (t : TypeId) (xs ys : Array Value) (off : Nat) (a b : Value) (r r2 : Bool) (w : World) (k : Sem Bool) (h1 : (part t xs off).run P w = .ok a w) (h2 : (part t ys off).run P w = .ok b w) (h3 : (Op.equalIn d t a b).run P w = .ok r w) (h4 : k.run P w = .ok r2 w) :
 (do
  let a ← part t xs off
  let b ← part t ys off
  let r ← Op.equalIn d t a b
  if (!r) = true then pure false else k : Sem Bool).run P w = .ok (r && r2) w := by
 simp only [Sem.run_bind, h1, h2, h3, Result.andThen_ok]
 cases r
 ·rfl
 ·simp [h4]
theorem run_eqM (d : Nat) (m n : MsgI) (hm1 : m.ky.length = 32) (hm2 : m.nx.length = 32) (hn1 : n.ky.length = 32) (hn2 : n.nx.length = 32) (w : World) :
 (Op.equalIn (d + 3) 92 (.agg (msgA m)) (.agg (msgA n))).run Try.prog w = .ok (eqM m n) w := by
 rw [run_equalIn_struct w (d + 2) _ _ _ undM stoodM, eqFields_map (d + 2) _ _ w _ fieldsM fieldsM_eq]
 obtain ⟨a1, a2, a3, a4, a5⟩ := partM_sc m w
 obtain ⟨b1, b2, b3, b4, b5⟩ := partM_sc n w
 have he := fun (t : TypeId) (k : IntKind) (x y : Int) (ht : Try.prog.underlying t = some (.int k)) => run_equalIn_int (P := Try.prog) w (d + 1) t k k x y ht
 have heH := fun (x y : List Int) (hx : x.length = 32) (hy : y.length = 32) => run_equalIn_B (P := Try.prog) d 25 5 32 Try.underlying25 Try.underlying5 size1B x y hx hy w
 have e : eqM m n = ((m.kd == n.kd) && ((m.fr == n.fr) && ((m.tt == n.tt) && ((m.am == n.am) && ((m.no == n.no) && ((m.ky == n.ky) && ((m.nx == n.nx) && true))))))) := by simp [eqM]
 rw [e]
 exact step_eq _ _ _ _ _ _ _ _ _ w _ a1 b1 (he _ _ _ _ Try.underlying90) (step_eq _ _ _ _ _ _ _ _ _ w _ a2 b2 (he _ _ _ _ Try.underlying23) (step_eq _ _ _ _ _ _ _ _ _ w _ a3 b3 (he _ _ _ _ Try.underlying23) (step_eq _ _ _ _ _ _ _ _ _ w _ a4 b4 (he _ _ _ _ Try.underlying23) (step_eq _ _ _ _ _ _ _ _ _ w _ a5 b5 (he _ _ _ _ Try.underlying23)
  (step_eq _ _ _ _ _ _ _ _ _ w _ (partM_ky m hm1 w) (partM_ky n hn1 w) (heH _ _ hm1 hn1) (step_eq _ _ _ _ _ _ _ _ _ w _ (partM_nx m hm1 hm2 w) (partM_nx n hn1 hn2 w) (heH _ _ hm2 hn2) rfl))))))
theorem guardM : Try.prog.eqGuardType Try.prog.depth 92 = false := by kernel_rfl
theorem sizeM : (Try.prog.info? 92).map (·.size) = some 69 := by kernel_rfl
theorem builtM0 : Try.prog.built 92 [] = some (msgA zeroM) := by kernel_rfl
theorem builtH0 : Try.prog.built 25 [] = some (cellsB z32) := by kernel_rfl
section
variable {ops : Array Oper} {rest : List Oper} {o : Oper} {a : Act} {Q : Exit → Act → World → Prop} {W : World}
theorem eq_M (hgd : o.guard = none) (u : TypeId) (x y : Operand) (ho : o.op = .binOp .eql 92 x y u) (m n : MsgI) (hx : a.eval x = .agg (msgA m)) (hy : a.eval y = .agg (msgA n)) (hm1 : m.ky.length = 32) (hm2 : m.nx.length = 32) (hn1 : n.ky.length = 32) (hn2 : n.nx.length = 32)
 (h : wpList Try.prog ops Q rest (a.put o.dst (.bool (eqM m n))) W) : wpList Try.prog ops Q (o :: rest) a W :=
 wpList_plain hgd fun _ hK => by
  have h1 : (Op.equal 92 (.agg (msgA m)) (.agg (msgA n))).run Try.prog W = .ok (eqM m n) W := run_eqM 9997 m n hm1 hm2 hn1 hn2 W
  have h2 : (eqGuard .eql 92 x y (.agg (msgA m)) (.agg (msgA n))).run Try.prog W = .ok () W := by simp [eqGuard, guardM, go_sem]
  have h3 : (binOp .eql 92 (.agg (msgA m)) (.agg (msgA n))).run Try.prog W = .ok (.bool (eqM m n)) W := by simp only [binOp]; simp [h1, go_sem]
  unfold Oper.wp execOp
  simp only [ho, hx, hy, Sem.run_bind, Sem.run_pure, h2, h3, Result.andThen_ok]
  exact hK _ _ h
end
theorem sizeM_of {cs : Array Value} (h : cs.size = 69) : (Try.prog.info? 92).map (·.size) = some cs.size := by rw [h]; exact sizeM
theorem z32_len : z32.length = 32 := rfl
theorem spl5 {a b c d e : Value} {K K' N : List Value} (h : K.length = K'.length) : (splice (([a, b, c, d, e] ++ (K ++ N)).toArray.toList) 5 K').toArray = ([a, b, c, d, e] ++ (K' ++ N)).toArray := by
 have := splice_mid [a, b, c, d, e] K K' N h
 exact congrArg List.toArray this
theorem spl37 {a b c d e : Value} {K N N' : List Value} (hk : K.length = 32) (h : N.length = N'.length) : (splice (([a, b, c, d, e] ++ (K ++ N)).toArray.toList) 37 N').toArray = ([a, b, c, d, e] ++ (K ++ N')).toArray := by
 have := splice_mid ([a, b, c, d, e] ++ K) N N' [] h
 have hl : ([a, b, c, d, e] ++ K).length = 37 := by rw [List.length_append, hk]; rfl
 rw [hl] at this
 simp only [List.append_nil, List.append_assoc] at this
 exact congrArg List.toArray this
theorem mmay_any (m : MsgI) (hm : m.ok) (w : World) : Calls Try.prog 136 #[.agg (msgA m)] w fun e w' => e = .returned (.bool (mayM m)) ∧ Below w.heap.size w w' := by
 obtain ⟨_, hfr, htt, ham, hno, ⟨hky, _⟩, ⟨hnx, _⟩⟩ := hm
 obtain ⟨kd, fr, tt, am, no, ky, nx⟩ := m
 dsimp only at *
 have H0 := Aside0.mk (Own.start w)
 have HSZ := Aside0.mk (msgA_size (m := ⟨kd, fr, tt, am, no, ky, nx⟩) hky hnx)
 have HAR := Aside0.mk (msgA_arr (m := ⟨kd, fr, tt, am, no, ky, nx⟩) hky hnx)
 have HAZ : Aside0 (Arr 69 (msgA zeroM)) := ⟨msgA_arr rfl rfl⟩
 have HK := Aside0.mk hky
 have HN := Aside0.mk hnx
 clear hky hnx
 obtain ⟨r, hr⟩ : ∃ r, r = mayM ⟨kd, fr, tt, am, no, ky, nx⟩ := ⟨_, rfl⟩
 rw [← hr]
 by_cases h2 : kd = 2
 ·simp only [mayM] at hr
  rw [if_neg (by omega), if_pos h2] at hr
  subst h2
  by_cases h3 : fr < 32
  ·have e3 : decide (32 ≤ fr) = false := decide_eq_false (by omega)
   by_cases h4 : tt < 32
   ·have e4 : decide (32 ≤ tt) = false := decide_eq_false (by omega)
    obtain rfl : r = true := by rw [hr, decide_eq_true h3, decide_eq_true h4]; rfl
    clear hr
    go_enter Try.func136, Try.ntmps136
    go_wp2_with (first
     | fail
     | ((with_reducible refine Gd 1 ?_); refine OB H0 92 ((msgA ⟨2, fr, tt, am, no, ky, nx⟩)) ?_; intro g1 w1 H1 B1)
     | ((with_reducible refine Gd 4 ?_); refine OV 1 H1 0 g1 92 rfl Try.underlying92 (sizeM_of HSZ.out) ?_)
     | ((with_reducible refine Gd 3 ?_); refine OA H1 92 (msgA zeroM) 69 ?_; intro g3 w2 H2 B2)
     | ((with_reducible refine Gs 92 3 ?_); refine OS 3 4 H2 0 g3 92 (msgA ⟨2, fr, tt, am, no, ky, nx⟩) 69 HAZ HAR ?_; intro w3 H3)
     | ((with_reducible refine Gd 6 ?_); refine OD 5 90 H3 1 g1 0 (.int .u8 2) Try.underlying90 ?_)
     | ((with_reducible refine Gd 13 ?_); refine OD 12 23 H3 1 g1 1 (.int .u64 fr) Try.underlying23 ?_)
     | ((with_reducible refine Gd 15 ?_); refine OU 25 [] (cellsB z32) rfl (builtH0) ?_)
     | ((with_reducible refine Gd 16 ?_); refine OU 25 [] (cellsB z32) rfl (builtH0) ?_)
     | ((with_reducible refine Gs 23 17 ?_); refine OT1 17 23 H3 0 g3 92 1 (.int .u64 0) (msgA ⟨2, 0, tt, am, no, ky, nx⟩) rfl (by simp [msgA, vB]; try omega) ?_; intro w4 H4)
     | ((with_reducible refine Gs 23 18 ?_); refine OT1 18 23 H4 0 g3 92 4 (.int .u64 0) (msgA ⟨2, 0, tt, am, 0, ky, nx⟩) rfl (by simp [msgA, vB]; try omega) ?_; intro w5 H5)
     | ((with_reducible refine Gs 25 19 ?_); refine OT 19 25 H5 0 g3 92 5 (vB z32) (.agg (cellsB z32)) (msgA ⟨2, 0, tt, am, 0, z32, nx⟩) rfl (by rw [msgA_size HK.out HN.out]; decide) (by kernel_rfl) (by exact vB_one _) (by exact spl5 (by rw [vB_len, vB_len, HK.out]; rfl)) ?_; intro w6 H6)
     | ((with_reducible refine Gs 25 20 ?_); refine OT 20 25 H6 0 g3 92 37 (vB z32) (.agg (cellsB z32)) (msgA ⟨2, 0, tt, am, 0, z32, z32⟩) rfl (by rw [msgA_size z32_len HN.out]; decide) (by kernel_rfl) (by exact vB_one _) (by exact spl37 (by rw [vB_len]; rfl) (by rw [vB_len, vB_len, HN.out]; rfl)) ?_; intro w7 H7)
     | ((with_reducible refine Gd 22 ?_); refine OD 21 90 H7 1 g1 0 (.int .u8 2) Try.underlying90 ?_)
     | ((with_reducible refine Gd 26 ?_); refine GD 25 23 H7 1 g1 2 (.int .u64 tt) Try.underlying23 ?_)
     | ((with_reducible refine Gd 31 ?_); refine GD 30 90 H7 1 g1 0 (.int .u8 2) Try.underlying90 ?_)
     | ((with_reducible refine Gd 35 ?_); refine GD 34 23 H7 1 g1 3 (.int .u64 am) Try.underlying23 ?_)
     | ((with_reducible refine Gs 90 39 ?_); refine OT1 39 90 H7 0 g3 92 0 (.int .u8 0) (msgA ⟨0, 0, tt, am, 0, z32, z32⟩) rfl (by simp [msgA, vB]; try omega) ?_; intro w8 H8)
     | ((with_reducible refine Gs 23 40 ?_); refine OT1 40 23 H8 0 g3 92 2 (.int .u64 0) (msgA ⟨0, 0, 0, am, 0, z32, z32⟩) rfl (by simp [msgA, vB]; try omega) ?_; intro w9 H9)
     | ((with_reducible refine Gs 23 41 ?_); refine OT1 41 23 H9 0 g3 92 3 (.int .u64 0) (msgA ⟨0, 0, 0, 0, 0, z32, z32⟩) rfl (by simp [msgA, vB]; try omega) ?_; intro w10 H10)
     | ((with_reducible refine Gd 42 ?_); refine OV 3 H10 0 g3 92 rfl Try.underlying92 (sizeM_of (msgA_size rfl rfl)) ?_)
     | ((with_reducible refine Gd 43 ?_); refine OU 92 [] (msgA zeroM) rfl (builtM0) ?_)
     | ((with_reducible refine gate_dst (N := 44) rfl ?_); refine eq_M rfl _ (.tmp 42) (.tmp 43) rfl ⟨0, 0, 0, 0, 0, z32, z32⟩ zeroM rfl rfl rfl rfl rfl rfl ?_)
     )
    go_ret
    exact ⟨rfl, H10.out.below⟩
   ·have e4 : decide (32 ≤ tt) = true := decide_eq_true (by omega)
    obtain rfl : r = false := by rw [hr, decide_eq_false h4]; simp
    clear hr
    go_enter Try.func136, Try.ntmps136
    go_wp2_with (first
     | fail
     | ((with_reducible refine Gd 1 ?_); refine OB H0 92 ((msgA ⟨2, fr, tt, am, no, ky, nx⟩)) ?_; intro g1 w1 H1 B1)
     | ((with_reducible refine Gd 4 ?_); refine OV 1 H1 0 g1 92 rfl Try.underlying92 (sizeM_of HSZ.out) ?_)
     | ((with_reducible refine Gd 3 ?_); refine OA H1 92 (msgA zeroM) 69 ?_; intro g3 w2 H2 B2)
     | ((with_reducible refine Gs 92 3 ?_); refine OS 3 4 H2 0 g3 92 (msgA ⟨2, fr, tt, am, no, ky, nx⟩) 69 HAZ HAR ?_; intro w3 H3)
     | ((with_reducible refine Gd 6 ?_); refine OD 5 90 H3 1 g1 0 (.int .u8 2) Try.underlying90 ?_)
     | ((with_reducible refine Gd 13 ?_); refine OD 12 23 H3 1 g1 1 (.int .u64 fr) Try.underlying23 ?_)
     | ((with_reducible refine Gd 15 ?_); refine OU 25 [] (cellsB z32) rfl (builtH0) ?_)
     | ((with_reducible refine Gd 16 ?_); refine OU 25 [] (cellsB z32) rfl (builtH0) ?_)
     | ((with_reducible refine Gs 23 17 ?_); refine OT1 17 23 H3 0 g3 92 1 (.int .u64 0) (msgA ⟨2, 0, tt, am, no, ky, nx⟩) rfl (by simp [msgA, vB]; try omega) ?_; intro w4 H4)
     | ((with_reducible refine Gs 23 18 ?_); refine OT1 18 23 H4 0 g3 92 4 (.int .u64 0) (msgA ⟨2, 0, tt, am, 0, ky, nx⟩) rfl (by simp [msgA, vB]; try omega) ?_; intro w5 H5)
     | ((with_reducible refine Gs 25 19 ?_); refine OT 19 25 H5 0 g3 92 5 (vB z32) (.agg (cellsB z32)) (msgA ⟨2, 0, tt, am, 0, z32, nx⟩) rfl (by rw [msgA_size HK.out HN.out]; decide) (by kernel_rfl) (by exact vB_one _) (by exact spl5 (by rw [vB_len, vB_len, HK.out]; rfl)) ?_; intro w6 H6)
     | ((with_reducible refine Gs 25 20 ?_); refine OT 20 25 H6 0 g3 92 37 (vB z32) (.agg (cellsB z32)) (msgA ⟨2, 0, tt, am, 0, z32, z32⟩) rfl (by rw [msgA_size z32_len HN.out]; decide) (by kernel_rfl) (by exact vB_one _) (by exact spl37 (by rw [vB_len]; rfl) (by rw [vB_len, vB_len, HN.out]; rfl)) ?_; intro w7 H7)
     | ((with_reducible refine Gd 22 ?_); refine OD 21 90 H7 1 g1 0 (.int .u8 2) Try.underlying90 ?_)
     | ((with_reducible refine Gd 26 ?_); refine GD 25 23 H7 1 g1 2 (.int .u64 tt) Try.underlying23 ?_)
     | ((with_reducible refine Gd 31 ?_); refine GD 30 90 H7 1 g1 0 (.int .u8 2) Try.underlying90 ?_)
     | ((with_reducible refine Gd 35 ?_); refine GD 34 23 H7 1 g1 3 (.int .u64 am) Try.underlying23 ?_)
     | ((with_reducible refine Gs 90 39 ?_); refine OT1 39 90 H7 0 g3 92 0 (.int .u8 0) (msgA ⟨0, 0, tt, am, 0, z32, z32⟩) rfl (by simp [msgA, vB]; try omega) ?_; intro w8 H8)
     | ((with_reducible refine Gs 23 40 ?_); refine OT1 40 23 H8 0 g3 92 2 (.int .u64 0) (msgA ⟨0, 0, 0, am, 0, z32, z32⟩) rfl (by simp [msgA, vB]; try omega) ?_; intro w9 H9)
     | ((with_reducible refine Gs 23 41 ?_); refine OT1 41 23 H9 0 g3 92 3 (.int .u64 0) (msgA ⟨0, 0, 0, 0, 0, z32, z32⟩) rfl (by simp [msgA, vB]; try omega) ?_; intro w10 H10)
     | ((with_reducible refine Gd 42 ?_); refine OV 3 H10 0 g3 92 rfl Try.underlying92 (sizeM_of (msgA_size rfl rfl)) ?_)
     | ((with_reducible refine Gd 43 ?_); refine OU 92 [] (msgA zeroM) rfl (builtM0) ?_)
     | ((with_reducible refine gate_dst (N := 44) rfl ?_); refine eq_M rfl _ (.tmp 42) (.tmp 43) rfl ⟨0, 0, 0, 0, 0, z32, z32⟩ zeroM rfl rfl rfl rfl rfl rfl ?_)
     )
    go_ret
    exact ⟨rfl, H7.out.below⟩
  ·have e3 : decide (32 ≤ fr) = true := decide_eq_true (by omega)
   obtain rfl : r = false := by rw [hr, decide_eq_false h3]; rfl
   clear hr
   go_enter Try.func136, Try.ntmps136
   go_wp2_with (first
    | fail
    | ((with_reducible refine Gd 1 ?_); refine OB H0 92 ((msgA ⟨2, fr, tt, am, no, ky, nx⟩)) ?_; intro g1 w1 H1 B1)
    | ((with_reducible refine Gd 4 ?_); refine OV 1 H1 0 g1 92 rfl Try.underlying92 (sizeM_of HSZ.out) ?_)
    | ((with_reducible refine Gd 3 ?_); refine OA H1 92 (msgA zeroM) 69 ?_; intro g3 w2 H2 B2)
    | ((with_reducible refine Gs 92 3 ?_); refine OS 3 4 H2 0 g3 92 (msgA ⟨2, fr, tt, am, no, ky, nx⟩) 69 HAZ HAR ?_; intro w3 H3)
    | ((with_reducible refine Gd 6 ?_); refine OD 5 90 H3 1 g1 0 (.int .u8 2) Try.underlying90 ?_)
    | ((with_reducible refine Gd 13 ?_); refine OD 12 23 H3 1 g1 1 (.int .u64 fr) Try.underlying23 ?_)
    | ((with_reducible refine Gd 15 ?_); refine OU 25 [] (cellsB z32) rfl (builtH0) ?_)
    | ((with_reducible refine Gd 16 ?_); refine OU 25 [] (cellsB z32) rfl (builtH0) ?_)
    | ((with_reducible refine Gs 23 17 ?_); refine OT1 17 23 H3 0 g3 92 1 (.int .u64 0) (msgA ⟨2, 0, tt, am, no, ky, nx⟩) rfl (by simp [msgA, vB]; try omega) ?_; intro w4 H4)
    | ((with_reducible refine Gs 23 18 ?_); refine OT1 18 23 H4 0 g3 92 4 (.int .u64 0) (msgA ⟨2, 0, tt, am, 0, ky, nx⟩) rfl (by simp [msgA, vB]; try omega) ?_; intro w5 H5)
    | ((with_reducible refine Gs 25 19 ?_); refine OT 19 25 H5 0 g3 92 5 (vB z32) (.agg (cellsB z32)) (msgA ⟨2, 0, tt, am, 0, z32, nx⟩) rfl (by rw [msgA_size HK.out HN.out]; decide) (by kernel_rfl) (by exact vB_one _) (by exact spl5 (by rw [vB_len, vB_len, HK.out]; rfl)) ?_; intro w6 H6)
    | ((with_reducible refine Gs 25 20 ?_); refine OT 20 25 H6 0 g3 92 37 (vB z32) (.agg (cellsB z32)) (msgA ⟨2, 0, tt, am, 0, z32, z32⟩) rfl (by rw [msgA_size z32_len HN.out]; decide) (by kernel_rfl) (by exact vB_one _) (by exact spl37 (by rw [vB_len]; rfl) (by rw [vB_len, vB_len, HN.out]; rfl)) ?_; intro w7 H7)
    | ((with_reducible refine Gd 22 ?_); refine OD 21 90 H7 1 g1 0 (.int .u8 2) Try.underlying90 ?_)
    | ((with_reducible refine Gd 26 ?_); refine GD 25 23 H7 1 g1 2 (.int .u64 tt) Try.underlying23 ?_)
    | ((with_reducible refine Gd 31 ?_); refine GD 30 90 H7 1 g1 0 (.int .u8 2) Try.underlying90 ?_)
    | ((with_reducible refine Gd 35 ?_); refine GD 34 23 H7 1 g1 3 (.int .u64 am) Try.underlying23 ?_)
    | ((with_reducible refine Gs 90 39 ?_); refine OT1 39 90 H7 0 g3 92 0 (.int .u8 0) (msgA ⟨0, 0, tt, am, 0, z32, z32⟩) rfl (by simp [msgA, vB]; try omega) ?_; intro w8 H8)
    | ((with_reducible refine Gs 23 40 ?_); refine OT1 40 23 H8 0 g3 92 2 (.int .u64 0) (msgA ⟨0, 0, 0, am, 0, z32, z32⟩) rfl (by simp [msgA, vB]; try omega) ?_; intro w9 H9)
    | ((with_reducible refine Gs 23 41 ?_); refine OT1 41 23 H9 0 g3 92 3 (.int .u64 0) (msgA ⟨0, 0, 0, 0, 0, z32, z32⟩) rfl (by simp [msgA, vB]; try omega) ?_; intro w10 H10)
    | ((with_reducible refine Gd 42 ?_); refine OV 3 H10 0 g3 92 rfl Try.underlying92 (sizeM_of (msgA_size rfl rfl)) ?_)
    | ((with_reducible refine Gd 43 ?_); refine OU 92 [] (msgA zeroM) rfl (builtM0) ?_)
    | ((with_reducible refine gate_dst (N := 44) rfl ?_); refine eq_M rfl _ (.tmp 42) (.tmp 43) rfl ⟨0, 0, 0, 0, 0, z32, z32⟩ zeroM rfl rfl rfl rfl rfl rfl ?_)
    )
   go_ret
   exact ⟨rfl, H3.out.below⟩
 by_cases h3 : kd = 3
 ·simp only [mayM] at hr
  rw [if_neg (by omega), if_neg h2, if_pos h3] at hr
  subst h3
  clear h2
  by_cases h3 : fr < 32
  ·have e3 : decide (32 ≤ fr) = false := decide_eq_false (by omega)
   by_cases h4 : 0 < am
   ·have e4 : (am == 0) = false := beq_eq_false_iff_ne.2 (by omega)
    obtain rfl : r = true := by rw [hr, decide_eq_true h3, decide_eq_true h4]; rfl
    clear hr
    go_enter Try.func136, Try.ntmps136
    go_wp2_with (first
     | fail
     | ((with_reducible refine Gd 1 ?_); refine OB H0 92 ((msgA ⟨3, fr, tt, am, no, ky, nx⟩)) ?_; intro g1 w1 H1 B1)
     | ((with_reducible refine Gd 4 ?_); refine OV 1 H1 0 g1 92 rfl Try.underlying92 (sizeM_of HSZ.out) ?_)
     | ((with_reducible refine Gd 3 ?_); refine OA H1 92 (msgA zeroM) 69 ?_; intro g3 w2 H2 B2)
     | ((with_reducible refine Gs 92 3 ?_); refine OS 3 4 H2 0 g3 92 (msgA ⟨3, fr, tt, am, no, ky, nx⟩) 69 HAZ HAR ?_; intro w3 H3)
     | ((with_reducible refine Gd 6 ?_); refine OD 5 90 H3 1 g1 0 (.int .u8 3) Try.underlying90 ?_)
     | ((with_reducible refine Gd 13 ?_); refine OD 12 23 H3 1 g1 1 (.int .u64 fr) Try.underlying23 ?_)
     | ((with_reducible refine Gd 15 ?_); refine OU 25 [] (cellsB z32) rfl (builtH0) ?_)
     | ((with_reducible refine Gd 16 ?_); refine OU 25 [] (cellsB z32) rfl (builtH0) ?_)
     | ((with_reducible refine Gs 23 17 ?_); refine OT1 17 23 H3 0 g3 92 1 (.int .u64 0) (msgA ⟨3, 0, tt, am, no, ky, nx⟩) rfl (by simp [msgA, vB]; try omega) ?_; intro w4 H4)
     | ((with_reducible refine Gs 23 18 ?_); refine OT1 18 23 H4 0 g3 92 4 (.int .u64 0) (msgA ⟨3, 0, tt, am, 0, ky, nx⟩) rfl (by simp [msgA, vB]; try omega) ?_; intro w5 H5)
     | ((with_reducible refine Gs 25 19 ?_); refine OT 19 25 H5 0 g3 92 5 (vB z32) (.agg (cellsB z32)) (msgA ⟨3, 0, tt, am, 0, z32, nx⟩) rfl (by rw [msgA_size HK.out HN.out]; decide) (by kernel_rfl) (by exact vB_one _) (by exact spl5 (by rw [vB_len, vB_len, HK.out]; rfl)) ?_; intro w6 H6)
     | ((with_reducible refine Gs 25 20 ?_); refine OT 20 25 H6 0 g3 92 37 (vB z32) (.agg (cellsB z32)) (msgA ⟨3, 0, tt, am, 0, z32, z32⟩) rfl (by rw [msgA_size z32_len HN.out]; decide) (by kernel_rfl) (by exact vB_one _) (by exact spl37 (by rw [vB_len]; rfl) (by rw [vB_len, vB_len, HN.out]; rfl)) ?_; intro w7 H7)
     | ((with_reducible refine Gd 22 ?_); refine OD 21 90 H7 1 g1 0 (.int .u8 3) Try.underlying90 ?_)
     | ((with_reducible refine Gd 26 ?_); refine GD 25 23 H7 1 g1 2 (.int .u64 tt) Try.underlying23 ?_)
     | ((with_reducible refine Gd 31 ?_); refine GD 30 90 H7 1 g1 0 (.int .u8 3) Try.underlying90 ?_)
     | ((with_reducible refine Gd 35 ?_); refine GD 34 23 H7 1 g1 3 (.int .u64 am) Try.underlying23 ?_)
     | ((with_reducible refine Gs 90 39 ?_); refine OT1 39 90 H7 0 g3 92 0 (.int .u8 0) (msgA ⟨0, 0, tt, am, 0, z32, z32⟩) rfl (by simp [msgA, vB]; try omega) ?_; intro w8 H8)
     | ((with_reducible refine Gs 23 40 ?_); refine OT1 40 23 H8 0 g3 92 2 (.int .u64 0) (msgA ⟨0, 0, 0, am, 0, z32, z32⟩) rfl (by simp [msgA, vB]; try omega) ?_; intro w9 H9)
     | ((with_reducible refine Gs 23 41 ?_); refine OT1 41 23 H9 0 g3 92 3 (.int .u64 0) (msgA ⟨0, 0, 0, 0, 0, z32, z32⟩) rfl (by simp [msgA, vB]; try omega) ?_; intro w10 H10)
     | ((with_reducible refine Gd 42 ?_); refine OV 3 H10 0 g3 92 rfl Try.underlying92 (sizeM_of (msgA_size rfl rfl)) ?_)
     | ((with_reducible refine Gd 43 ?_); refine OU 92 [] (msgA zeroM) rfl (builtM0) ?_)
     | ((with_reducible refine gate_dst (N := 44) rfl ?_); refine eq_M rfl _ (.tmp 42) (.tmp 43) rfl ⟨0, 0, 0, 0, 0, z32, z32⟩ zeroM rfl rfl rfl rfl rfl rfl ?_)
     )
    go_ret
    exact ⟨rfl, H10.out.below⟩
   ·have e4 : (am == 0) = true := beq_iff_eq.2 (by omega)
    obtain rfl : r = false := by rw [hr, decide_eq_false h4]; simp
    clear hr
    go_enter Try.func136, Try.ntmps136
    go_wp2_with (first
     | fail
     | ((with_reducible refine Gd 1 ?_); refine OB H0 92 ((msgA ⟨3, fr, tt, am, no, ky, nx⟩)) ?_; intro g1 w1 H1 B1)
     | ((with_reducible refine Gd 4 ?_); refine OV 1 H1 0 g1 92 rfl Try.underlying92 (sizeM_of HSZ.out) ?_)
     | ((with_reducible refine Gd 3 ?_); refine OA H1 92 (msgA zeroM) 69 ?_; intro g3 w2 H2 B2)
     | ((with_reducible refine Gs 92 3 ?_); refine OS 3 4 H2 0 g3 92 (msgA ⟨3, fr, tt, am, no, ky, nx⟩) 69 HAZ HAR ?_; intro w3 H3)
     | ((with_reducible refine Gd 6 ?_); refine OD 5 90 H3 1 g1 0 (.int .u8 3) Try.underlying90 ?_)
     | ((with_reducible refine Gd 13 ?_); refine OD 12 23 H3 1 g1 1 (.int .u64 fr) Try.underlying23 ?_)
     | ((with_reducible refine Gd 15 ?_); refine OU 25 [] (cellsB z32) rfl (builtH0) ?_)
     | ((with_reducible refine Gd 16 ?_); refine OU 25 [] (cellsB z32) rfl (builtH0) ?_)
     | ((with_reducible refine Gs 23 17 ?_); refine OT1 17 23 H3 0 g3 92 1 (.int .u64 0) (msgA ⟨3, 0, tt, am, no, ky, nx⟩) rfl (by simp [msgA, vB]; try omega) ?_; intro w4 H4)
     | ((with_reducible refine Gs 23 18 ?_); refine OT1 18 23 H4 0 g3 92 4 (.int .u64 0) (msgA ⟨3, 0, tt, am, 0, ky, nx⟩) rfl (by simp [msgA, vB]; try omega) ?_; intro w5 H5)
     | ((with_reducible refine Gs 25 19 ?_); refine OT 19 25 H5 0 g3 92 5 (vB z32) (.agg (cellsB z32)) (msgA ⟨3, 0, tt, am, 0, z32, nx⟩) rfl (by rw [msgA_size HK.out HN.out]; decide) (by kernel_rfl) (by exact vB_one _) (by exact spl5 (by rw [vB_len, vB_len, HK.out]; rfl)) ?_; intro w6 H6)
     | ((with_reducible refine Gs 25 20 ?_); refine OT 20 25 H6 0 g3 92 37 (vB z32) (.agg (cellsB z32)) (msgA ⟨3, 0, tt, am, 0, z32, z32⟩) rfl (by rw [msgA_size z32_len HN.out]; decide) (by kernel_rfl) (by exact vB_one _) (by exact spl37 (by rw [vB_len]; rfl) (by rw [vB_len, vB_len, HN.out]; rfl)) ?_; intro w7 H7)
     | ((with_reducible refine Gd 22 ?_); refine OD 21 90 H7 1 g1 0 (.int .u8 3) Try.underlying90 ?_)
     | ((with_reducible refine Gd 26 ?_); refine GD 25 23 H7 1 g1 2 (.int .u64 tt) Try.underlying23 ?_)
     | ((with_reducible refine Gd 31 ?_); refine GD 30 90 H7 1 g1 0 (.int .u8 3) Try.underlying90 ?_)
     | ((with_reducible refine Gd 35 ?_); refine GD 34 23 H7 1 g1 3 (.int .u64 am) Try.underlying23 ?_)
     | ((with_reducible refine Gs 90 39 ?_); refine OT1 39 90 H7 0 g3 92 0 (.int .u8 0) (msgA ⟨0, 0, tt, am, 0, z32, z32⟩) rfl (by simp [msgA, vB]; try omega) ?_; intro w8 H8)
     | ((with_reducible refine Gs 23 40 ?_); refine OT1 40 23 H8 0 g3 92 2 (.int .u64 0) (msgA ⟨0, 0, 0, am, 0, z32, z32⟩) rfl (by simp [msgA, vB]; try omega) ?_; intro w9 H9)
     | ((with_reducible refine Gs 23 41 ?_); refine OT1 41 23 H9 0 g3 92 3 (.int .u64 0) (msgA ⟨0, 0, 0, 0, 0, z32, z32⟩) rfl (by simp [msgA, vB]; try omega) ?_; intro w10 H10)
     | ((with_reducible refine Gd 42 ?_); refine OV 3 H10 0 g3 92 rfl Try.underlying92 (sizeM_of (msgA_size rfl rfl)) ?_)
     | ((with_reducible refine Gd 43 ?_); refine OU 92 [] (msgA zeroM) rfl (builtM0) ?_)
     | ((with_reducible refine gate_dst (N := 44) rfl ?_); refine eq_M rfl _ (.tmp 42) (.tmp 43) rfl ⟨0, 0, 0, 0, 0, z32, z32⟩ zeroM rfl rfl rfl rfl rfl rfl ?_)
     )
    go_ret
    exact ⟨rfl, H7.out.below⟩
  ·have e3 : decide (32 ≤ fr) = true := decide_eq_true (by omega)
   obtain rfl : r = false := by rw [hr, decide_eq_false h3]; rfl
   clear hr
   go_enter Try.func136, Try.ntmps136
   go_wp2_with (first
    | fail
    | ((with_reducible refine Gd 1 ?_); refine OB H0 92 ((msgA ⟨3, fr, tt, am, no, ky, nx⟩)) ?_; intro g1 w1 H1 B1)
    | ((with_reducible refine Gd 4 ?_); refine OV 1 H1 0 g1 92 rfl Try.underlying92 (sizeM_of HSZ.out) ?_)
    | ((with_reducible refine Gd 3 ?_); refine OA H1 92 (msgA zeroM) 69 ?_; intro g3 w2 H2 B2)
    | ((with_reducible refine Gs 92 3 ?_); refine OS 3 4 H2 0 g3 92 (msgA ⟨3, fr, tt, am, no, ky, nx⟩) 69 HAZ HAR ?_; intro w3 H3)
    | ((with_reducible refine Gd 6 ?_); refine OD 5 90 H3 1 g1 0 (.int .u8 3) Try.underlying90 ?_)
    | ((with_reducible refine Gd 13 ?_); refine OD 12 23 H3 1 g1 1 (.int .u64 fr) Try.underlying23 ?_)
    | ((with_reducible refine Gd 15 ?_); refine OU 25 [] (cellsB z32) rfl (builtH0) ?_)
    | ((with_reducible refine Gd 16 ?_); refine OU 25 [] (cellsB z32) rfl (builtH0) ?_)
    | ((with_reducible refine Gs 23 17 ?_); refine OT1 17 23 H3 0 g3 92 1 (.int .u64 0) (msgA ⟨3, 0, tt, am, no, ky, nx⟩) rfl (by simp [msgA, vB]; try omega) ?_; intro w4 H4)
    | ((with_reducible refine Gs 23 18 ?_); refine OT1 18 23 H4 0 g3 92 4 (.int .u64 0) (msgA ⟨3, 0, tt, am, 0, ky, nx⟩) rfl (by simp [msgA, vB]; try omega) ?_; intro w5 H5)
    | ((with_reducible refine Gs 25 19 ?_); refine OT 19 25 H5 0 g3 92 5 (vB z32) (.agg (cellsB z32)) (msgA ⟨3, 0, tt, am, 0, z32, nx⟩) rfl (by rw [msgA_size HK.out HN.out]; decide) (by kernel_rfl) (by exact vB_one _) (by exact spl5 (by rw [vB_len, vB_len, HK.out]; rfl)) ?_; intro w6 H6)
    | ((with_reducible refine Gs 25 20 ?_); refine OT 20 25 H6 0 g3 92 37 (vB z32) (.agg (cellsB z32)) (msgA ⟨3, 0, tt, am, 0, z32, z32⟩) rfl (by rw [msgA_size z32_len HN.out]; decide) (by kernel_rfl) (by exact vB_one _) (by exact spl37 (by rw [vB_len]; rfl) (by rw [vB_len, vB_len, HN.out]; rfl)) ?_; intro w7 H7)
    | ((with_reducible refine Gd 22 ?_); refine OD 21 90 H7 1 g1 0 (.int .u8 3) Try.underlying90 ?_)
    | ((with_reducible refine Gd 26 ?_); refine GD 25 23 H7 1 g1 2 (.int .u64 tt) Try.underlying23 ?_)
    | ((with_reducible refine Gd 31 ?_); refine GD 30 90 H7 1 g1 0 (.int .u8 3) Try.underlying90 ?_)
    | ((with_reducible refine Gd 35 ?_); refine GD 34 23 H7 1 g1 3 (.int .u64 am) Try.underlying23 ?_)
    | ((with_reducible refine Gs 90 39 ?_); refine OT1 39 90 H7 0 g3 92 0 (.int .u8 0) (msgA ⟨0, 0, tt, am, 0, z32, z32⟩) rfl (by simp [msgA, vB]; try omega) ?_; intro w8 H8)
    | ((with_reducible refine Gs 23 40 ?_); refine OT1 40 23 H8 0 g3 92 2 (.int .u64 0) (msgA ⟨0, 0, 0, am, 0, z32, z32⟩) rfl (by simp [msgA, vB]; try omega) ?_; intro w9 H9)
    | ((with_reducible refine Gs 23 41 ?_); refine OT1 41 23 H9 0 g3 92 3 (.int .u64 0) (msgA ⟨0, 0, 0, 0, 0, z32, z32⟩) rfl (by simp [msgA, vB]; try omega) ?_; intro w10 H10)
    | ((with_reducible refine Gd 42 ?_); refine OV 3 H10 0 g3 92 rfl Try.underlying92 (sizeM_of (msgA_size rfl rfl)) ?_)
    | ((with_reducible refine Gd 43 ?_); refine OU 92 [] (msgA zeroM) rfl (builtM0) ?_)
    | ((with_reducible refine gate_dst (N := 44) rfl ?_); refine eq_M rfl _ (.tmp 42) (.tmp 43) rfl ⟨0, 0, 0, 0, 0, z32, z32⟩ zeroM rfl rfl rfl rfl rfl rfl ?_)
    )
   go_ret
   exact ⟨rfl, H3.out.below⟩
 by_cases h1 : kd = 1
 ·simp only [mayM] at hr
  rw [if_pos h1] at hr
  subst h1
  clear h2 h3
  by_cases h4 : tt < 32
  ·have e4 : decide (32 ≤ tt) = false := decide_eq_false (by omega)
   by_cases h5 : 0 < am
   ·have e5 : (am == 0) = false := beq_eq_false_iff_ne.2 (by omega)
    have HE : Aside0 (eqM ⟨0, fr, 0, 0, no, ky, nx⟩ zeroM = r) := ⟨by
     rw [hr, decide_eq_true h4, decide_eq_true h5]
     simp only [eqM, zeroM, Bool.and_true]
     rw [show (fr == 0) = decide (fr = 0) from rfl, show (no == 0) = decide (no = 0) from rfl]
     cases decide (fr = 0) <;> simp [Bool.and_assoc]⟩
    clear hr
    go_enter Try.func136, Try.ntmps136
    go_wp2_with (first
     | fail
     | ((with_reducible refine Gd 1 ?_); refine OB H0 92 ((msgA ⟨1, fr, tt, am, no, ky, nx⟩)) ?_; intro g1 w1 H1 B1)
     | ((with_reducible refine Gd 4 ?_); refine OV 1 H1 0 g1 92 rfl Try.underlying92 (sizeM_of HSZ.out) ?_)
     | ((with_reducible refine Gd 3 ?_); refine OA H1 92 (msgA zeroM) 69 ?_; intro g3 w2 H2 B2)
     | ((with_reducible refine Gs 92 3 ?_); refine OS 3 4 H2 0 g3 92 (msgA ⟨1, fr, tt, am, no, ky, nx⟩) 69 HAZ HAR ?_; intro w3 H3)
     | ((with_reducible refine Gd 6 ?_); refine OD 5 90 H3 1 g1 0 (.int .u8 1) Try.underlying90 ?_)
     | ((with_reducible refine Gd 13 ?_); refine OD 12 23 H3 1 g1 1 (.int .u64 fr) Try.underlying23 ?_)
     | ((with_reducible refine Gd 15 ?_); refine OU 25 [] (cellsB z32) rfl (builtH0) ?_)
     | ((with_reducible refine Gd 16 ?_); refine OU 25 [] (cellsB z32) rfl (builtH0) ?_)
     | ((with_reducible refine Gs 23 17 ?_); refine OT1 17 23 H3 0 g3 92 1 (.int .u64 0) (msgA ⟨1, 0, tt, am, no, ky, nx⟩) rfl (by simp [msgA, vB]; try omega) ?_; intro w4 H4)
     | ((with_reducible refine Gs 23 18 ?_); refine OT1 18 23 H4 0 g3 92 4 (.int .u64 0) (msgA ⟨1, 0, tt, am, 0, ky, nx⟩) rfl (by simp [msgA, vB]; try omega) ?_; intro w5 H5)
     | ((with_reducible refine Gs 25 19 ?_); refine OT 19 25 H5 0 g3 92 5 (vB z32) (.agg (cellsB z32)) (msgA ⟨1, 0, tt, am, 0, z32, nx⟩) rfl (by rw [msgA_size HK.out HN.out]; decide) (by kernel_rfl) (by exact vB_one _) (by exact spl5 (by rw [vB_len, vB_len, HK.out]; rfl)) ?_; intro w6 H6)
     | ((with_reducible refine Gs 25 20 ?_); refine OT 20 25 H6 0 g3 92 37 (vB z32) (.agg (cellsB z32)) (msgA ⟨1, 0, tt, am, 0, z32, z32⟩) rfl (by rw [msgA_size z32_len HN.out]; decide) (by kernel_rfl) (by exact vB_one _) (by exact spl37 (by rw [vB_len]; rfl) (by rw [vB_len, vB_len, HN.out]; rfl)) ?_; intro w7 H7)
     | ((with_reducible refine Gd 22 ?_); refine OD 21 90 H3 1 g1 0 (.int .u8 1) Try.underlying90 ?_)
     | ((with_reducible refine Gd 26 ?_); refine GD 25 23 H3 1 g1 2 (.int .u64 tt) Try.underlying23 ?_)
     | ((with_reducible refine Gd 31 ?_); refine GD 30 90 H3 1 g1 0 (.int .u8 1) Try.underlying90 ?_)
     | ((with_reducible refine Gd 35 ?_); refine GD 34 23 H3 1 g1 3 (.int .u64 am) Try.underlying23 ?_)
     | ((with_reducible refine Gs 90 39 ?_); refine OT1 39 90 H3 0 g3 92 0 (.int .u8 0) (msgA ⟨0, fr, tt, am, no, ky, nx⟩) rfl (by simp [msgA, vB]; try omega) ?_; intro w8 H8)
     | ((with_reducible refine Gs 23 40 ?_); refine OT1 40 23 H8 0 g3 92 2 (.int .u64 0) (msgA ⟨0, fr, 0, am, no, ky, nx⟩) rfl (by simp [msgA, vB]; try omega) ?_; intro w9 H9)
     | ((with_reducible refine Gs 23 41 ?_); refine OT1 41 23 H9 0 g3 92 3 (.int .u64 0) (msgA ⟨0, fr, 0, 0, no, ky, nx⟩) rfl (by simp [msgA, vB]; try omega) ?_; intro w10 H10)
     | ((with_reducible refine Gd 42 ?_); refine OV 3 H10 0 g3 92 rfl Try.underlying92 (sizeM_of (msgA_size HK.out HN.out)) ?_)
     | ((with_reducible refine Gd 43 ?_); refine OU 92 [] (msgA zeroM) rfl (builtM0) ?_)
     | ((with_reducible refine gate_dst (N := 44) rfl ?_); refine eq_M rfl _ (.tmp 42) (.tmp 43) rfl ⟨0, fr, 0, 0, no, ky, nx⟩ zeroM rfl rfl HK.out HN.out rfl rfl ?_)
     )
    go_ret
    exact ⟨by rw [HE.out]; rfl, H10.out.below⟩
   ·have e5 : (am == 0) = true := beq_iff_eq.2 (by omega)
    obtain rfl : r = false := by rw [hr, decide_eq_false h5]; simp
    clear hr
    go_enter Try.func136, Try.ntmps136
    go_wp2_with (first
     | fail
     | ((with_reducible refine Gd 1 ?_); refine OB H0 92 ((msgA ⟨1, fr, tt, am, no, ky, nx⟩)) ?_; intro g1 w1 H1 B1)
     | ((with_reducible refine Gd 4 ?_); refine OV 1 H1 0 g1 92 rfl Try.underlying92 (sizeM_of HSZ.out) ?_)
     | ((with_reducible refine Gd 3 ?_); refine OA H1 92 (msgA zeroM) 69 ?_; intro g3 w2 H2 B2)
     | ((with_reducible refine Gs 92 3 ?_); refine OS 3 4 H2 0 g3 92 (msgA ⟨1, fr, tt, am, no, ky, nx⟩) 69 HAZ HAR ?_; intro w3 H3)
     | ((with_reducible refine Gd 6 ?_); refine OD 5 90 H3 1 g1 0 (.int .u8 1) Try.underlying90 ?_)
     | ((with_reducible refine Gd 13 ?_); refine OD 12 23 H3 1 g1 1 (.int .u64 fr) Try.underlying23 ?_)
     | ((with_reducible refine Gd 15 ?_); refine OU 25 [] (cellsB z32) rfl (builtH0) ?_)
     | ((with_reducible refine Gd 16 ?_); refine OU 25 [] (cellsB z32) rfl (builtH0) ?_)
     | ((with_reducible refine Gs 23 17 ?_); refine OT1 17 23 H3 0 g3 92 1 (.int .u64 0) (msgA ⟨1, 0, tt, am, no, ky, nx⟩) rfl (by simp [msgA, vB]; try omega) ?_; intro w4 H4)
     | ((with_reducible refine Gs 23 18 ?_); refine OT1 18 23 H4 0 g3 92 4 (.int .u64 0) (msgA ⟨1, 0, tt, am, 0, ky, nx⟩) rfl (by simp [msgA, vB]; try omega) ?_; intro w5 H5)
     | ((with_reducible refine Gs 25 19 ?_); refine OT 19 25 H5 0 g3 92 5 (vB z32) (.agg (cellsB z32)) (msgA ⟨1, 0, tt, am, 0, z32, nx⟩) rfl (by rw [msgA_size HK.out HN.out]; decide) (by kernel_rfl) (by exact vB_one _) (by exact spl5 (by rw [vB_len, vB_len, HK.out]; rfl)) ?_; intro w6 H6)
     | ((with_reducible refine Gs 25 20 ?_); refine OT 20 25 H6 0 g3 92 37 (vB z32) (.agg (cellsB z32)) (msgA ⟨1, 0, tt, am, 0, z32, z32⟩) rfl (by rw [msgA_size z32_len HN.out]; decide) (by kernel_rfl) (by exact vB_one _) (by exact spl37 (by rw [vB_len]; rfl) (by rw [vB_len, vB_len, HN.out]; rfl)) ?_; intro w7 H7)
     | ((with_reducible refine Gd 22 ?_); refine OD 21 90 H3 1 g1 0 (.int .u8 1) Try.underlying90 ?_)
     | ((with_reducible refine Gd 26 ?_); refine GD 25 23 H3 1 g1 2 (.int .u64 tt) Try.underlying23 ?_)
     | ((with_reducible refine Gd 31 ?_); refine GD 30 90 H3 1 g1 0 (.int .u8 1) Try.underlying90 ?_)
     | ((with_reducible refine Gd 35 ?_); refine GD 34 23 H3 1 g1 3 (.int .u64 am) Try.underlying23 ?_)
     | ((with_reducible refine Gs 90 39 ?_); refine OT1 39 90 H3 0 g3 92 0 (.int .u8 0) (msgA ⟨0, fr, tt, am, no, ky, nx⟩) rfl (by simp [msgA, vB]; try omega) ?_; intro w8 H8)
     | ((with_reducible refine Gs 23 40 ?_); refine OT1 40 23 H8 0 g3 92 2 (.int .u64 0) (msgA ⟨0, fr, 0, am, no, ky, nx⟩) rfl (by simp [msgA, vB]; try omega) ?_; intro w9 H9)
     | ((with_reducible refine Gs 23 41 ?_); refine OT1 41 23 H9 0 g3 92 3 (.int .u64 0) (msgA ⟨0, fr, 0, 0, no, ky, nx⟩) rfl (by simp [msgA, vB]; try omega) ?_; intro w10 H10)
     | ((with_reducible refine Gd 42 ?_); refine OV 3 H10 0 g3 92 rfl Try.underlying92 (sizeM_of (msgA_size HK.out HN.out)) ?_)
     | ((with_reducible refine Gd 43 ?_); refine OU 92 [] (msgA zeroM) rfl (builtM0) ?_)
     | ((with_reducible refine gate_dst (N := 44) rfl ?_); refine eq_M rfl _ (.tmp 42) (.tmp 43) rfl ⟨0, fr, 0, 0, no, ky, nx⟩ zeroM rfl rfl HK.out HN.out rfl rfl ?_)
     )
    go_ret
    exact ⟨rfl, H3.out.below⟩
  ·have e4 : decide (32 ≤ tt) = true := decide_eq_true (by omega)
   obtain rfl : r = false := by rw [hr, decide_eq_false h4]; simp
   clear hr
   go_enter Try.func136, Try.ntmps136
   go_wp2_with (first
    | fail
    | ((with_reducible refine Gd 1 ?_); refine OB H0 92 ((msgA ⟨1, fr, tt, am, no, ky, nx⟩)) ?_; intro g1 w1 H1 B1)
    | ((with_reducible refine Gd 4 ?_); refine OV 1 H1 0 g1 92 rfl Try.underlying92 (sizeM_of HSZ.out) ?_)
    | ((with_reducible refine Gd 3 ?_); refine OA H1 92 (msgA zeroM) 69 ?_; intro g3 w2 H2 B2)
    | ((with_reducible refine Gs 92 3 ?_); refine OS 3 4 H2 0 g3 92 (msgA ⟨1, fr, tt, am, no, ky, nx⟩) 69 HAZ HAR ?_; intro w3 H3)
    | ((with_reducible refine Gd 6 ?_); refine OD 5 90 H3 1 g1 0 (.int .u8 1) Try.underlying90 ?_)
    | ((with_reducible refine Gd 13 ?_); refine OD 12 23 H3 1 g1 1 (.int .u64 fr) Try.underlying23 ?_)
    | ((with_reducible refine Gd 15 ?_); refine OU 25 [] (cellsB z32) rfl (builtH0) ?_)
    | ((with_reducible refine Gd 16 ?_); refine OU 25 [] (cellsB z32) rfl (builtH0) ?_)
    | ((with_reducible refine Gs 23 17 ?_); refine OT1 17 23 H3 0 g3 92 1 (.int .u64 0) (msgA ⟨1, 0, tt, am, no, ky, nx⟩) rfl (by simp [msgA, vB]; try omega) ?_; intro w4 H4)
    | ((with_reducible refine Gs 23 18 ?_); refine OT1 18 23 H4 0 g3 92 4 (.int .u64 0) (msgA ⟨1, 0, tt, am, 0, ky, nx⟩) rfl (by simp [msgA, vB]; try omega) ?_; intro w5 H5)
    | ((with_reducible refine Gs 25 19 ?_); refine OT 19 25 H5 0 g3 92 5 (vB z32) (.agg (cellsB z32)) (msgA ⟨1, 0, tt, am, 0, z32, nx⟩) rfl (by rw [msgA_size HK.out HN.out]; decide) (by kernel_rfl) (by exact vB_one _) (by exact spl5 (by rw [vB_len, vB_len, HK.out]; rfl)) ?_; intro w6 H6)
    | ((with_reducible refine Gs 25 20 ?_); refine OT 20 25 H6 0 g3 92 37 (vB z32) (.agg (cellsB z32)) (msgA ⟨1, 0, tt, am, 0, z32, z32⟩) rfl (by rw [msgA_size z32_len HN.out]; decide) (by kernel_rfl) (by exact vB_one _) (by exact spl37 (by rw [vB_len]; rfl) (by rw [vB_len, vB_len, HN.out]; rfl)) ?_; intro w7 H7)
    | ((with_reducible refine Gd 22 ?_); refine OD 21 90 H3 1 g1 0 (.int .u8 1) Try.underlying90 ?_)
    | ((with_reducible refine Gd 26 ?_); refine GD 25 23 H3 1 g1 2 (.int .u64 tt) Try.underlying23 ?_)
    | ((with_reducible refine Gd 31 ?_); refine GD 30 90 H3 1 g1 0 (.int .u8 1) Try.underlying90 ?_)
    | ((with_reducible refine Gd 35 ?_); refine GD 34 23 H3 1 g1 3 (.int .u64 am) Try.underlying23 ?_)
    | ((with_reducible refine Gs 90 39 ?_); refine OT1 39 90 H3 0 g3 92 0 (.int .u8 0) (msgA ⟨0, fr, tt, am, no, ky, nx⟩) rfl (by simp [msgA, vB]; try omega) ?_; intro w8 H8)
    | ((with_reducible refine Gs 23 40 ?_); refine OT1 40 23 H8 0 g3 92 2 (.int .u64 0) (msgA ⟨0, fr, 0, am, no, ky, nx⟩) rfl (by simp [msgA, vB]; try omega) ?_; intro w9 H9)
    | ((with_reducible refine Gs 23 41 ?_); refine OT1 41 23 H9 0 g3 92 3 (.int .u64 0) (msgA ⟨0, fr, 0, 0, no, ky, nx⟩) rfl (by simp [msgA, vB]; try omega) ?_; intro w10 H10)
    | ((with_reducible refine Gd 42 ?_); refine OV 3 H10 0 g3 92 rfl Try.underlying92 (sizeM_of (msgA_size HK.out HN.out)) ?_)
    | ((with_reducible refine Gd 43 ?_); refine OU 92 [] (msgA zeroM) rfl (builtM0) ?_)
    | ((with_reducible refine gate_dst (N := 44) rfl ?_); refine eq_M rfl _ (.tmp 42) (.tmp 43) rfl ⟨0, fr, 0, 0, no, ky, nx⟩ zeroM rfl rfl HK.out HN.out rfl rfl ?_)
    )
   go_ret
   exact ⟨rfl, H3.out.below⟩
 ·simp only [mayM] at hr
  rw [if_neg h1, if_neg h2, if_neg h3] at hr
  subst hr
  have e1 : (kd == 1) = false := beq_eq_false_iff_ne.2 h1
  have e2 : (kd == 2) = false := beq_eq_false_iff_ne.2 h2
  have e3 : (kd == 3) = false := beq_eq_false_iff_ne.2 h3
  clear h1 h2 h3
  go_enter Try.func136, Try.ntmps136
  go_wp2_with (first
   | fail
   | ((with_reducible refine Gd 1 ?_); refine OB H0 92 ((msgA ⟨kd, fr, tt, am, no, ky, nx⟩)) ?_; intro g1 w1 H1 B1)
   | ((with_reducible refine Gd 4 ?_); refine OV 1 H1 0 g1 92 rfl Try.underlying92 (sizeM_of HSZ.out) ?_)
   | ((with_reducible refine Gd 3 ?_); refine OA H1 92 (msgA zeroM) 69 ?_; intro g3 w2 H2 B2)
   | ((with_reducible refine Gs 92 3 ?_); refine OS 3 4 H2 0 g3 92 (msgA ⟨kd, fr, tt, am, no, ky, nx⟩) 69 HAZ HAR ?_; intro w3 H3)
   | ((with_reducible refine Gd 6 ?_); refine OD 5 90 H3 1 g1 0 (.int .u8 kd) Try.underlying90 ?_)
   | ((with_reducible refine Gd 13 ?_); refine OD 12 23 H3 1 g1 1 (.int .u64 fr) Try.underlying23 ?_)
   | ((with_reducible refine Gd 15 ?_); refine OU 25 [] (cellsB z32) rfl (builtH0) ?_)
   | ((with_reducible refine Gd 16 ?_); refine OU 25 [] (cellsB z32) rfl (builtH0) ?_)
   | ((with_reducible refine Gs 23 17 ?_); refine OT1 17 23 H3 0 g3 92 1 (.int .u64 0) (msgA ⟨kd, 0, tt, am, no, ky, nx⟩) rfl (by simp [msgA, vB]; try omega) ?_; intro w4 H4)
   | ((with_reducible refine Gs 23 18 ?_); refine OT1 18 23 H4 0 g3 92 4 (.int .u64 0) (msgA ⟨kd, 0, tt, am, 0, ky, nx⟩) rfl (by simp [msgA, vB]; try omega) ?_; intro w5 H5)
   | ((with_reducible refine Gs 25 19 ?_); refine OT 19 25 H5 0 g3 92 5 (vB z32) (.agg (cellsB z32)) (msgA ⟨kd, 0, tt, am, 0, z32, nx⟩) rfl (by rw [msgA_size HK.out HN.out]; decide) (by kernel_rfl) (by exact vB_one _) (by exact spl5 (by rw [vB_len, vB_len, HK.out]; rfl)) ?_; intro w6 H6)
   | ((with_reducible refine Gs 25 20 ?_); refine OT 20 25 H6 0 g3 92 37 (vB z32) (.agg (cellsB z32)) (msgA ⟨kd, 0, tt, am, 0, z32, z32⟩) rfl (by rw [msgA_size z32_len HN.out]; decide) (by kernel_rfl) (by exact vB_one _) (by exact spl37 (by rw [vB_len]; rfl) (by rw [vB_len, vB_len, HN.out]; rfl)) ?_; intro w7 H7)
   | ((with_reducible refine Gd 22 ?_); refine OD 21 90 H7 1 g1 0 (.int .u8 kd) Try.underlying90 ?_)
   | ((with_reducible refine Gd 26 ?_); refine GD 25 23 H7 1 g1 2 (.int .u64 tt) Try.underlying23 ?_)
   | ((with_reducible refine Gd 31 ?_); refine GD 30 90 H7 1 g1 0 (.int .u8 kd) Try.underlying90 ?_)
   | ((with_reducible refine Gd 35 ?_); refine GD 34 23 H7 1 g1 3 (.int .u64 am) Try.underlying23 ?_)
   | ((with_reducible refine Gs 90 39 ?_); refine OT1 39 90 H7 0 g3 92 0 (.int .u8 0) (msgA ⟨0, 0, tt, am, 0, z32, z32⟩) rfl (by simp [msgA, vB]; try omega) ?_; intro w8 H8)
   | ((with_reducible refine Gs 23 40 ?_); refine OT1 40 23 H8 0 g3 92 2 (.int .u64 0) (msgA ⟨0, 0, 0, am, 0, z32, z32⟩) rfl (by simp [msgA, vB]; try omega) ?_; intro w9 H9)
   | ((with_reducible refine Gs 23 41 ?_); refine OT1 41 23 H9 0 g3 92 3 (.int .u64 0) (msgA ⟨0, 0, 0, 0, 0, z32, z32⟩) rfl (by simp [msgA, vB]; try omega) ?_; intro w10 H10)
   | ((with_reducible refine Gd 42 ?_); refine OV 3 H10 0 g3 92 rfl Try.underlying92 (sizeM_of (msgA_size rfl rfl)) ?_)
   | ((with_reducible refine Gd 43 ?_); refine OU 92 [] (msgA zeroM) rfl (builtM0) ?_)
   | ((with_reducible refine gate_dst (N := 44) rfl ?_); refine eq_M rfl _ (.tmp 42) (.tmp 43) rfl ⟨0, 0, 0, 0, 0, z32, z32⟩ zeroM rfl rfl rfl rfl rfl rfl ?_)
   )
  go_ret
  exact ⟨rfl, H3.out.below⟩
def wordU (b : List Int) (i j : Nat) : Nat := K.num (((b.take i).drop (8 * j)).take 8)
def wordsU (n : Nat) (b : List Int) (i : Nat) : List Nat := (List.range n).map fun j => wordU b i j
theorem wordsU_len (n : Nat) (b : List Int) (i : Nat) : (wordsU n b i).length = n := by simp [wordsU]
theorem wordsU_at (n : Nat) (b : List Int) (i j : Nat) (h : j < (wordsU n b i).length) : (wordsU n b i)[j] = wordU b i j := by simp [wordsU]
theorem wordU_snoc (b : List Int) (i : Nat) (h : i < b.length) : wordU b (i + 1) (i / 8) = wordU b i (i / 8) * 256 + b[i].toNat := by
 unfold wordU
 rw [List.take_succ_eq_append_getElem h, List.drop_append_of_le_length (by rw [List.length_take]; omega)]
 have hl : ((b.take i).drop (8 * (i / 8))).length ≤ 7 := by simp [List.length_take]; omega
 generalize (b.take i).drop (8 * (i / 8)) = t at *
 rw [List.take_of_length_le (l := t ++ _) (by simp; omega), List.take_of_length_le (l := t) (by omega), K.num_snoc]
theorem wordU_other (b : List Int) (i j : Nat) (h : i < b.length) (hj : j ≠ i / 8) : wordU b (i + 1) j = wordU b i j := by
 unfold wordU
 rw [List.take_succ_eq_append_getElem h]
 by_cases hlt : 8 * j ≤ i
 ·rw [List.drop_append_of_le_length (by rw [List.length_take]; omega), List.take_append_of_le_length (by simp [List.length_take]; omega)]
 ·rw [List.drop_of_length_le (by simp [List.length_take]; omega), List.drop_of_length_le (by simp [List.length_take]; omega)]
theorem wordsU_step (n : Nat) (b : List Int) (i : Nat) (h : i < b.length) (hi : i / 8 < n) : (wordsU n b i).set (i / 8) (wordU b i (i / 8) * 256 + b[i].toNat) = wordsU n b (i + 1) := by
 refine List.ext_getElem (by simp [wordsU]) fun j h1 h2 => ?_
 rw [wordsU_at, List.getElem_set]
 split
 ·rename_i he
  rw [← he, wordU_snoc b i h]
 ·rename_i he
  rw [wordsU_at, wordU_other b i j h (fun e => he e.symm)]
theorem wordsU_zero (n : Nat) (b : List Int) : wordsU n b 0 = List.replicate n 0 := by
 refine List.ext_getElem (by simp [wordsU]) fun j h1 h2 => ?_
 rw [wordsU_at, List.getElem_replicate]
 simp [wordU, K.num]
theorem wordU_lt (b : List Int) (i : Nat) (hb : ∀ x ∈ b, 0 ≤ x ∧ x ≤ 255) (hi : i < b.length) : wordU b i (i / 8) < 72057594037927936 := by
 have h1 : K.Byt (((b.take i).drop (8 * (i / 8))).take 8) := fun x hx => hb x (List.mem_of_mem_take (List.mem_of_mem_drop (List.mem_of_mem_take hx)))
 have h2 := K.num_lt _ h1
 have h3 : (((b.take i).drop (8 * (i / 8))).take 8).length ≤ 7 := by simp [List.length_take]; omega
 have h4 := K.pow256_le h3
 rw [K.pow256_7] at h4
 exact Nat.lt_of_lt_of_le h2 h4
def cellsN (l : List Nat) : Array Value := (l.map fun n : Nat => Value.int .u64 (n : Int)).toArray
theorem cellsN_size (l : List Nat) : (cellsN l).size = l.length := by simp [cellsN]
theorem cellsN_at (l : List Nat) (i : Nat) (h : i < l.length) : (cellsN l)[i]? = some (.int .u64 ((l[i] : Nat) : Int)) := by simp [cellsN, h]
theorem cellsN_set (l : List Nat) (i : Nat) (x : Nat) : (cellsN l).setIfInBounds i (.int .u64 (x : Int)) = cellsN (l.set i x) := by
 simp [cellsN, List.map_set]
theorem cellsN_arr {l : List Nat} {n : Nat} (h : l.length = n) : Arr n (cellsN l) := ⟨by rw [cellsN_size, h], all_oneCell_toArray (by
 intro v hv
 obtain ⟨x, _, rfl⟩ := List.mem_map.1 hv
 rfl)⟩
def wordsAll (n : Nat) (b : List Int) : List Nat := (List.range n).map fun j => K.num ((b.drop (8 * j)).take 8)
theorem wordsU_all (n : Nat) (b : List Int) (h : b.length = 8 * n) : wordsU n b (8 * n) = wordsAll n b := by
 refine List.ext_getElem (by simp [wordsU, wordsAll]) fun j h1 h2 => ?_
 rw [wordsU_at]
 simp only [wordsAll, List.getElem_map, List.getElem_range, wordU]
 rw [List.take_of_length_le (l := b) (by omega)]
theorem wordsAll_lt (n : Nat) (b : List Int) (hb : ∀ x ∈ b, 0 ≤ x ∧ x ≤ 255) : ∀ x ∈ wordsAll n b, x ≤ 18446744073709551615 := by
 intro x hx
 obtain ⟨j, _, rfl⟩ := List.mem_map.1 hx
 exact K.num_small _ (fun y hy => hb y (List.mem_of_mem_drop (List.mem_of_mem_take hy))) (by simp; omega)
theorem be8I_num (l : List Int) (hb : ∀ x ∈ l, 0 ≤ x ∧ x ≤ 255) (hl : l.length = 8) : be8I (K.num l) = l := by
 match l, hl with
 | [a, b, c, d, e, f, g, h], _ =>
  have ha := hb a (by simp); have hb' := hb b (by simp); have hc := hb c (by simp); have hd := hb d (by simp)
  have he := hb e (by simp); have hf := hb f (by simp); have hg := hb g (by simp); have hh := hb h (by simp)
  clear hb
  obtain ⟨a, rfl⟩ := Int.eq_ofNat_of_zero_le ha.1
  obtain ⟨b, rfl⟩ := Int.eq_ofNat_of_zero_le hb'.1
  obtain ⟨c, rfl⟩ := Int.eq_ofNat_of_zero_le hc.1
  obtain ⟨d, rfl⟩ := Int.eq_ofNat_of_zero_le hd.1
  obtain ⟨e, rfl⟩ := Int.eq_ofNat_of_zero_le he.1
  obtain ⟨f, rfl⟩ := Int.eq_ofNat_of_zero_le hf.1
  obtain ⟨g, rfl⟩ := Int.eq_ofNat_of_zero_le hg.1
  obtain ⟨h, rfl⟩ := Int.eq_ofNat_of_zero_le hh.1
  simp only [be8I, toI, be8, K.num, List.foldl_cons, List.foldl_nil, Int.toNat_natCast, List.map_cons, List.map_nil, Nat.zero_mul, Nat.zero_add]
  have h1 : (((((((a * 256 + b) * 256 + c) * 256 + d) * 256 + e) * 256 + f) * 256 + g) * 256 + h) = a * 72057594037927936 + b * 281474976710656 + c * 1099511627776 + d * 4294967296 + e * 16777216 + f * 65536 + g * 256 + h := by omega
  rw [h1]
  simp only [List.cons.injEq, and_true]
  refine ⟨?_, ?_, ?_, ?_, ?_, ?_, ?_, ?_⟩ <;> (congr 1; omega)
def bytesOf (ws : List Nat) : List Int := (ws.map be8I).flatten
theorem bytesOf_four (b : List Int) (hb : ∀ x ∈ b, 0 ≤ x ∧ x ≤ 255) (hl : b.length = 32) : bytesOf (wordsAll 4 b) = b := by
 have h (j : Nat) (hj : j < 4) : be8I (K.num ((b.drop (8 * j)).take 8)) = (b.drop (8 * j)).take 8 := be8I_num _ (fun y hy => hb y (List.mem_of_mem_drop (List.mem_of_mem_take hy))) (by simp; omega)
 have e : wordsAll 4 b = [K.num ((b.drop (8 * 0)).take 8), K.num ((b.drop (8 * 1)).take 8), K.num ((b.drop (8 * 2)).take 8), K.num ((b.drop (8 * 3)).take 8)] := rfl
 rw [e]
 simp only [bytesOf, List.map_cons, List.map_nil, List.flatten_cons, List.flatten_nil, h 0 (by omega), h 1 (by omega), h 2 (by omega), h 3 (by omega)]
 have e1 : b.drop (8 * 3) = (b.drop (8 * 3)).take 8 ++ [] := by rw [List.append_nil, List.take_of_length_le (by simp; omega)]
 have e2 : b.drop (8 * 2) = (b.drop (8 * 2)).take 8 ++ b.drop (8 * 3) := by
  rw [show 8 * 3 = 8 * 2 + 8 by omega, ← List.drop_drop, List.take_append_drop]
 have e3 : b.drop (8 * 1) = (b.drop (8 * 1)).take 8 ++ b.drop (8 * 2) := by
  rw [show 8 * 2 = 8 * 1 + 8 by omega, ← List.drop_drop, List.take_append_drop]
 have e4 : b = (b.drop (8 * 0)).take 8 ++ b.drop (8 * 1) := by
  rw [show 8 * 1 = 8 by omega, show 8 * 0 = 0 by omega, List.drop_zero, List.take_append_drop]
 rw [← e1, ← e2, ← e3, ← e4]
theorem cellB {W : World} {A : Option Addr} {n : Nat} {l : List Int} (h : Kd.C kB W A n l) (i : Nat) (hi : i < n) (hl : i < l.length) : ∃ ad, A = some ad ∧ W.cell? (ad.add i) = some (.int .u8 l[i]) := by
 obtain ⟨ad, cs, hA, _, hK, hc⟩ := Kd.C_get h (0 : Int) (i : Int) (by omega) (by omega)
 refine ⟨ad, hA, ?_⟩
 have h1 := hc 0 (.int .u8 l[i]) (by
  have hK : cs = [.int .u8 (l.getD (i : Int).toNat 0)] := hK
  rw [hK, Int.toNat_natCast, List.getD_eq_getElem?_getD, List.getElem?_eq_getElem hl]; rfl)
 rw [Int.toNat_natCast, Nat.add_zero, show kB.sz = 1 from rfl, Nat.mul_one] at h1
 exact h1
theorem num_or (x y : Nat) (hx : x < 72057594037927936) (hy : y < 256) : bits .or .u64 ((x : Int) * 256) (y : Int) = ((x * 256 + y : Nat) : Int) := by
 have h := K.num_step x y hx hy
 rwa [IntKind.wrap_u64, IntKind.wrap_u64, Int.emod_eq_of_lt (by omega) (by omega), Int.emod_eq_of_lt (by omega) (by omega)] at h
def z13 : List Nat := List.replicate 13 0
def wordsM (b : List Int) : List Nat × Int := if b.length < 104 then (z13, 7) else if 104 < b.length then (z13, 8) else (wordsAll 13 b, 0)
theorem mwords_any (b : List Int) (A : Option Addr) (c : Nat) (w : World) (hb : ∀ x ∈ b, 0 ≤ x ∧ x ≤ 255) (hC : Kd.C kB w A b.length b) (hc : b.length ≤ c) :
 Calls Try.prog 157 #[.slice A b.length c] w fun e w' => e = .returned (.tuple #[.agg (cellsN (wordsM b).1), .int .i64 (wordsM b).2]) ∧ Below w.heap.size w w' := by
 have H0 := Aside0.mk (Own.start w)
 have HC := Aside0.mk hC
 have R13 : Aside0 (Arr 13 (cellsN z13)) := ⟨cellsN_arr rfl⟩
 have HBB := Aside0.mk hb
 clear hC hb
 obtain ⟨n, hn⟩ : ∃ n, n = b.length := ⟨_, rfl⟩
 have HN := Aside0.mk hn
 rw [← hn] at HC hc ⊢
 clear hn
 obtain ⟨r, hr⟩ : ∃ r, r = wordsM b := ⟨_, rfl⟩
 have HR := Aside0.mk hr
 rw [← hr]
 clear hr
 unfold wordsM at HR
 rw [← HN.out] at HR
 by_cases h1 : n < 104
 ·have hd1 : decide ((n : Int) < 104) = true := decide_eq_true (by omega)
  rw [if_pos h1] at HR
  obtain rfl := HR.out
  clear HR
  go_enter Try.func157, Try.ntmps157
  go_wp2_with (first
   | fail
   | ((with_reducible refine Gd 2 ?_); refine OA H0 194 (cellsN z13) 13 ?_; intro g2 w1 H1 B1)
   | ((with_reducible refine Gd 4 ?_); refine OA H1 194 (cellsN z13) 13 ?_; intro g4 w2 H2 B2)
   | ((with_reducible refine Gd 10 ?_); refine OL 4 H2 0 g4 194 Try.underlying194 13 R13 ?_)
   | ((with_reducible refine Gs 194 2 ?_); refine OS 2 10 H2 1 g2 194 (cellsN z13) 13 R13 R13 ?_; intro w3 H3)
   )
  refine bodyPost_ret (own_resultV_t rfl _ H3.out 1 g2 _ rfl rfl _ Try.underlying194 rfl (by kernel_rfl) _ rfl) rfl ?_
  exact ⟨rfl, H3.out.below⟩
 have hd1 : decide ((n : Int) < 104) = false := decide_eq_false (by omega)
 rw [if_neg h1] at HR
 by_cases h2 : 104 < n
 ·have hd2 : decide (104 < (n : Int)) = true := decide_eq_true (by omega)
  rw [if_pos h2] at HR
  obtain rfl := HR.out
  clear HR
  go_enter Try.func157, Try.ntmps157
  go_wp2_with (first
   | fail
   | ((with_reducible refine Gd 2 ?_); refine OA H0 194 (cellsN z13) 13 ?_; intro g2 w1 H1 B1)
   | ((with_reducible refine Gd 4 ?_); refine OA H1 194 (cellsN z13) 13 ?_; intro g4 w2 H2 B2)
   | ((with_reducible refine Gd 15 ?_); refine OL 4 H2 0 g4 194 Try.underlying194 13 R13 ?_)
   | ((with_reducible refine Gs 194 2 ?_); refine OS 2 15 H2 1 g2 194 (cellsN z13) 13 R13 R13 ?_; intro w3 H3)
   )
  refine bodyPost_ret (own_resultV_t rfl _ H3.out 1 g2 _ rfl rfl _ Try.underlying194 rfl (by kernel_rfl) _ rfl) rfl ?_
  exact ⟨rfl, H3.out.below⟩
 have hd2 : decide (104 < (n : Int)) = false := decide_eq_false (by omega)
 rw [if_neg h2] at HR
 obtain rfl : n = 104 := by omega
 obtain rfl := HR.out
 clear HR h1 h2
 go_enter Try.func157, Try.ntmps157
 go_wp2_with (first
  | fail
  | ((with_reducible refine Gd 2 ?_); refine OA H0 194 (cellsN z13) 13 ?_; intro g2 w1 H1 B1)
  | ((with_reducible refine Gd 4 ?_); refine OA H1 194 (cellsN z13) 13 ?_; intro g4 w2 H2 B2)
  )
 replace H2 : Aside0 (Own w.heap.size w w2 [.blk g4 (cellsN (wordsU 13 b 0)) 194, .blk g2 (cellsN z13) 194]) := ⟨by rw [wordsU_zero]; exact H2.out⟩
 clear H0 H1 B1 B2 hd1 hd2
 go_loopw [16] (fun vi wr => ∃ (i : Nat), i ≤ 104 ∧ vi = .int .i64 (i : Int) ∧ Aside0 (Own w.heap.size w wr [.blk g4 (cellsN (wordsU 13 b i)) 194, .blk g2 (cellsN z13) 194])) (fun vi _ => 104 - (intOf vi).toNat)
 case atStart => exact ⟨0, Nat.zero_le _, rfl, H2⟩
 case round =>
  clear H2
  obtain ⟨i, hi, rfl, HI⟩ := hrel
  by_cases hlt : i < 104
  ·have hdl : decide ((i : Int) < 104) = true := decide_eq_true (by omega)
   have hib : i < b.length := by rw [← HN.out]; exact hlt
   obtain ⟨ad, rfl, hcb⟩ := cellB (Kd.C_below HC.out HI.out.below) i hlt hib
   have hbb := HBB.out _ (List.getElem_mem hib)
   have hq : i / 8 < 13 := by omega
   have hxl := wordU_lt b i HBB.out hib
   have HST := Aside0.mk (wordsU_step 13 b i hib hq)
   have hx : wr.cell? ⟨g4, i / 8, none⟩ = some (.int .u64 ((wordU b i (i / 8) : Nat) : Int)) := HI.out.cell 0 rfl (i / 8) (by rw [cellsN_at _ _ (by rw [wordsU_len]; exact hq), wordsU_at])
   have hxf := HI.out.fz 0 rfl (i / 8)
   obtain ⟨y, hy⟩ := Int.eq_ofNat_of_zero_le hbb.1
   rw [hy, Int.toNat_natCast] at HST
   rw [hy] at hcb hbb
   have hor := num_or (wordU b i (i / 8)) y hxl (by omega)
   generalize wordU b i (i / 8) = x at *
   clear hy
   go_wp2_with fail
   go_region
   go_wp2_with fail
   go_roundw
   case rel => exact ⟨i + 1, hlt, by go_num, ⟨((HI.out.put 0 rfl (i / 8) _ ((cellsN_set _ _ _).trans (congrArg cellsN HST.out))).drew)⟩⟩
   case measure => simp [intOf]; omega
  ·have hdl : decide ((i : Int) < 104) = false := decide_eq_false (by omega)
   obtain rfl : i = 104 := by omega
   have HE : Aside0 (Own w.heap.size w wr [.blk g4 (cellsN (wordsAll 13 b)) 194, .blk g2 (cellsN z13) 194]) := ⟨by have h := HI.out; rwa [show (104 : Nat) = 8 * 13 from rfl, wordsU_all 13 b (by rw [← HN.out])] at h⟩
   have RA : Aside0 (Arr 13 (cellsN (wordsAll 13 b))) := ⟨cellsN_arr (by simp [wordsAll])⟩
   clear HI
   go_wp2_with (first
    | fail
    | ((with_reducible refine Gd 34 ?_); refine OL 4 HE 0 g4 194 Try.underlying194 13 RA ?_)
    | ((with_reducible refine Gs 194 2 ?_); refine OS 2 34 HE 1 g2 194 (cellsN (wordsAll 13 b)) 13 R13 RA ?_; intro w3 H3)
    )
   refine bodyPost_ret (own_resultV_t rfl _ H3.out 1 g2 _ rfl rfl _ Try.underlying194 rfl (by rw [(cellsN_arr (l := wordsAll 13 b) (n := 13) (by simp [wordsAll])).1]; kernel_rfl) _ rfl) rfl ?_
   exact ⟨rfl, H3.out.below⟩
theorem rwords_any (b : List Int) (A : Option Addr) (c : Nat) (w : World) (hb : ∀ x ∈ b, 0 ≤ x ∧ x ≤ 255) (hC : Kd.C kB w A b.length b) (hc : b.length ≤ c) :
 Calls Try.prog 131 #[.slice A b.length c] w fun e w' => e = .returned (.tuple #[.agg (cellsN (wordsM b).1), .int .i64 (wordsM b).2]) ∧ Below w.heap.size w w' := by
 have H0 := Aside0.mk (Own.start w)
 have HC := Aside0.mk hC
 have R13 : Aside0 (Arr 13 (cellsN z13)) := ⟨cellsN_arr rfl⟩
 have HBB := Aside0.mk hb
 clear hC hb
 obtain ⟨n, hn⟩ : ∃ n, n = b.length := ⟨_, rfl⟩
 have HN := Aside0.mk hn
 rw [← hn] at HC hc ⊢
 clear hn
 obtain ⟨r, hr⟩ : ∃ r, r = wordsM b := ⟨_, rfl⟩
 have HR := Aside0.mk hr
 rw [← hr]
 clear hr
 unfold wordsM at HR
 rw [← HN.out] at HR
 by_cases h1 : n < 104
 ·have hd1 : decide ((n : Int) < 104) = true := decide_eq_true (by omega)
  rw [if_pos h1] at HR
  obtain rfl := HR.out
  clear HR
  go_enter Try.func131, Try.ntmps131
  go_wp2_with (first
   | fail
   | ((with_reducible refine Gd 2 ?_); refine OA H0 194 (cellsN z13) 13 ?_; intro g2 w1 H1 B1)
   | ((with_reducible refine Gd 4 ?_); refine OA H1 194 (cellsN z13) 13 ?_; intro g4 w2 H2 B2)
   | ((with_reducible refine Gd 9 ?_); refine OL 4 H2 0 g4 194 Try.underlying194 13 R13 ?_)
   | ((with_reducible refine Gs 194 2 ?_); refine OS 2 9 H2 1 g2 194 (cellsN z13) 13 R13 R13 ?_; intro w3 H3)
   )
  refine bodyPost_ret (own_resultV_t rfl _ H3.out 1 g2 _ rfl rfl _ Try.underlying194 rfl (by kernel_rfl) _ rfl) rfl ?_
  exact ⟨rfl, H3.out.below⟩
 have hd1 : decide ((n : Int) < 104) = false := decide_eq_false (by omega)
 rw [if_neg h1] at HR
 by_cases h2 : 104 < n
 ·have hd2 : decide (104 < (n : Int)) = true := decide_eq_true (by omega)
  rw [if_pos h2] at HR
  obtain rfl := HR.out
  clear HR
  go_enter Try.func131, Try.ntmps131
  go_wp2_with (first
   | fail
   | ((with_reducible refine Gd 2 ?_); refine OA H0 194 (cellsN z13) 13 ?_; intro g2 w1 H1 B1)
   | ((with_reducible refine Gd 4 ?_); refine OA H1 194 (cellsN z13) 13 ?_; intro g4 w2 H2 B2)
   | ((with_reducible refine Gd 13 ?_); refine OL 4 H2 0 g4 194 Try.underlying194 13 R13 ?_)
   | ((with_reducible refine Gs 194 2 ?_); refine OS 2 13 H2 1 g2 194 (cellsN z13) 13 R13 R13 ?_; intro w3 H3)
   )
  refine bodyPost_ret (own_resultV_t rfl _ H3.out 1 g2 _ rfl rfl _ Try.underlying194 rfl (by kernel_rfl) _ rfl) rfl ?_
  exact ⟨rfl, H3.out.below⟩
 have hd2 : decide (104 < (n : Int)) = false := decide_eq_false (by omega)
 rw [if_neg h2] at HR
 obtain rfl : n = 104 := by omega
 obtain rfl := HR.out
 clear HR h1 h2
 go_enter Try.func131, Try.ntmps131
 go_wp2_with (first
  | fail
  | ((with_reducible refine Gd 2 ?_); refine OA H0 194 (cellsN z13) 13 ?_; intro g2 w1 H1 B1)
  | ((with_reducible refine Gd 4 ?_); refine OA H1 194 (cellsN z13) 13 ?_; intro g4 w2 H2 B2)
  )
 replace H2 : Aside0 (Own w.heap.size w w2 [.blk g4 (cellsN (wordsU 13 b 0)) 194, .blk g2 (cellsN z13) 194]) := ⟨by rw [wordsU_zero]; exact H2.out⟩
 clear H0 H1 B1 B2 hd1 hd2
 go_loopw [5] (fun vi wr => ∃ (i : Nat), i ≤ 104 ∧ vi = .int .i64 (i : Int) ∧ Aside0 (Own w.heap.size w wr [.blk g4 (cellsN (wordsU 13 b i)) 194, .blk g2 (cellsN z13) 194])) (fun vi _ => 104 - (intOf vi).toNat)
 case atStart => exact ⟨0, Nat.zero_le _, rfl, H2⟩
 case round =>
  clear H2
  obtain ⟨i, hi, rfl, HI⟩ := hrel
  by_cases hlt : i < 104
  ·have hdl : decide ((i : Int) < 104) = true := decide_eq_true (by omega)
   have hib : i < b.length := by rw [← HN.out]; exact hlt
   obtain ⟨ad, rfl, hcb⟩ := cellB (Kd.C_below HC.out HI.out.below) i hlt hib
   have hbb := HBB.out _ (List.getElem_mem hib)
   have hq : i / 8 < 13 := by omega
   have hxl := wordU_lt b i HBB.out hib
   have HST := Aside0.mk (wordsU_step 13 b i hib hq)
   have hx : wr.cell? ⟨g4, i / 8, none⟩ = some (.int .u64 ((wordU b i (i / 8) : Nat) : Int)) := HI.out.cell 0 rfl (i / 8) (by rw [cellsN_at _ _ (by rw [wordsU_len]; exact hq), wordsU_at])
   have hxf := HI.out.fz 0 rfl (i / 8)
   obtain ⟨y, hy⟩ := Int.eq_ofNat_of_zero_le hbb.1
   rw [hy, Int.toNat_natCast] at HST
   rw [hy] at hcb hbb
   have hor := num_or (wordU b i (i / 8)) y hxl (by omega)
   generalize wordU b i (i / 8) = x at *
   clear hy
   go_wp2_with fail
   go_region
   go_wp2_with fail
   go_roundw
   case rel => exact ⟨i + 1, hlt, by go_num, ⟨((HI.out.put 0 rfl (i / 8) _ ((cellsN_set _ _ _).trans (congrArg cellsN HST.out))).drew)⟩⟩
   case measure => simp [intOf]; omega
  ·have hdl : decide ((i : Int) < 104) = false := decide_eq_false (by omega)
   obtain rfl : i = 104 := by omega
   have HE : Aside0 (Own w.heap.size w wr [.blk g4 (cellsN (wordsAll 13 b)) 194, .blk g2 (cellsN z13) 194]) := ⟨by have h := HI.out; rwa [show (104 : Nat) = 8 * 13 from rfl, wordsU_all 13 b (by rw [← HN.out])] at h⟩
   have RA : Aside0 (Arr 13 (cellsN (wordsAll 13 b))) := ⟨cellsN_arr (by simp [wordsAll])⟩
   clear HI
   go_wp2_with (first
    | fail
    | ((with_reducible refine Gd 32 ?_); refine OL 4 HE 0 g4 194 Try.underlying194 13 RA ?_)
    | ((with_reducible refine Gs 194 2 ?_); refine OS 2 32 HE 1 g2 194 (cellsN (wordsAll 13 b)) 13 R13 RA ?_; intro w3 H3)
    )
   refine bodyPost_ret (own_resultV_t rfl _ H3.out 1 g2 _ rfl rfl _ Try.underlying194 rfl (by rw [(cellsN_arr (l := wordsAll 13 b) (n := 13) (by simp [wordsAll])).1]; kernel_rfl) _ rfl) rfl ?_
   exact ⟨rfl, H3.out.below⟩
theorem bytesOf_len (ws : List Nat) : (bytesOf ws).length = 8 * ws.length := by
 induction ws with
 | nil => rfl
 | cons x ws ih => simp only [bytesOf, List.map_cons, List.flatten_cons, List.length_append, List.length_cons] at ih ⊢; rw [ih]; show 8 + _ = _; omega
theorem bytesOf_at : ∀ (ws : List Nat) (i : Nat) (h : i / 8 < ws.length), (bytesOf ws)[i]? = some ((ws[i / 8] / 2 ^ (56 - 8 * (i % 8)) % 256 : Nat) : Int)
 | [], i, h => by simp at h
 | x :: ws, i, h => by
  have e : bytesOf (x :: ws) = be8I x ++ bytesOf ws := rfl
  rw [e]
  have hl : (be8I x).length = 8 := rfl
  by_cases hi : i < 8
  ·rw [List.getElem?_append_left (by omega)]
   have h0 : i / 8 = 0 := by omega
   simp only [h0, List.getElem_cons_zero]
   rw [Nat.mod_eq_of_lt hi]
   exact be8_at x i hi
  ·rw [List.getElem?_append_right (by omega), hl, bytesOf_at ws (i - 8) (by simp only [List.length_cons] at h; omega)]
   have h0 : i / 8 = (i - 8) / 8 + 1 := by omega
   simp only [h0, List.getElem_cons_succ]
   rw [show (i - 8) % 8 = i % 8 by omega]
def fromU (ws : List Nat) (i : Nat) : List Int := (bytesOf ws).take i ++ List.replicate (32 - i) 0
theorem fromU_len {ws : List Nat} (hw : ws.length = 4) {i : Nat} (hi : i ≤ 32) : (fromU ws i).length = 32 := by
 have := bytesOf_len ws
 simp [fromU, List.length_take]; omega
theorem fromU_step {ws : List Nat} (hw : ws.length = 4) {i : Nat} (hi : i < 32) : (cellsB (fromU ws i)).setIfInBounds i (.int .u8 ((ws[i / 8]'(by omega) / 2 ^ (56 - 8 * (i % 8)) % 256 : Nat) : Int)) = cellsB (fromU ws (i + 1)) := by
 have hl := bytesOf_len ws
 have ha := bytesOf_at ws i (by omega)
 have hlt : i < (bytesOf ws).length := by omega
 have hg : (bytesOf ws)[i] = ((ws[i / 8]'(by omega) / 2 ^ (56 - 8 * (i % 8)) % 256 : Nat) : Int) := by
  rw [List.getElem?_eq_getElem hlt] at ha
  exact Option.some.inj ha
 have e : fromU ws (i + 1) = (fromU ws i).set i (bytesOf ws)[i] := by
  unfold fromU
  rw [List.take_succ_eq_append_getElem hlt, show 32 - i = (32 - (i + 1)) + 1 by omega, List.replicate_succ, List.set_append_right _ _ (by rw [List.length_take]; omega)]
  rw [show i - ((bytesOf ws).take i).length = 0 by rw [List.length_take]; omega, List.set_cons_zero, List.append_assoc, List.singleton_append]
 rw [e, hg]
 simp [cellsB, List.map_set]
theorem fromU_all {ws : List Nat} (hw : ws.length = 4) : fromU ws 32 = bytesOf ws := by
 have := bytesOf_len ws
 unfold fromU
 rw [List.take_of_length_le (by omega)]
 simp
theorem sfrom_any (ws : List Nat) (hw : ws.length = 4) (hu : ∀ x ∈ ws, x ≤ 18446744073709551615) (w : World) :
 Calls Try.prog 158 #[.agg (cellsN ws)] w fun e w' => e = .returned (.agg (cellsB (bytesOf ws))) ∧ Below w.heap.size w w' := by
 have H0 := Aside0.mk (Own.start w)
 have HW := Aside0.mk hw
 have HU := Aside0.mk hu
 have R32 : Aside0 (Arr 32 (Array.replicate 32 (.int .u8 0))) := ⟨Arr_rep _ _ rfl⟩
 clear hu hw
 go_enter Try.func158, Try.ntmps158
 go_wp2_with (first
  | fail
  | ((with_reducible refine Gd 1 ?_); refine OB H0 198 ((cellsN ws)) ?_; intro g1 w1 H1 B1)
  | ((with_reducible refine Gd 2 ?_); refine OA H1 25 (Array.replicate 32 (.int .u8 0)) 32 ?_; intro g2 w2 H2 B2)
  | ((with_reducible refine Gd 3 ?_); refine OA H2 25 (Array.replicate 32 (.int .u8 0)) 32 ?_; intro g3 w3 H3 B3)
  )
 have H4 : Aside0 (Own w.heap.size w w3 [.blk g3 (cellsB (fromU ws 0)) 25, .blk g2 (Array.replicate 32 (.int .u8 0)) 25, .blk g1 (cellsN ws) 198]) := ⟨by
  have h : cellsB (fromU ws 0) = Array.replicate 32 (.int .u8 0) := by unfold fromU cellsB; rw [List.take_zero, List.nil_append, List.map_replicate, List.toArray_replicate]
  rw [h]; exact H3.out⟩
 clear H0 H1 H2 H3 B1 B2 B3
 go_loopw [5] (fun vi wr => ∃ (i : Nat), i ≤ 32 ∧ vi = .int .i64 (i : Int) ∧ Aside0 (Own w.heap.size w wr [.blk g3 (cellsB (fromU ws i)) 25, .blk g2 (Array.replicate 32 (.int .u8 0)) 25, .blk g1 (cellsN ws) 198])) (fun vi _ => 32 - (intOf vi).toNat)
 case atStart => exact ⟨0, Nat.zero_le _, rfl, H4⟩
 case round =>
  clear H4
  obtain ⟨i, hi, rfl, HI⟩ := hrel
  by_cases hlt : i < 32
  ·have hdl : decide ((i : Int) < 32) = true := decide_eq_true (by omega)
   have hq : i / 8 < ws.length := by rw [HW.out]; omega
   have hq4 : i / 8 < 4 := by omega
   have HST := Aside0.mk (fromU_step HW.out hlt)
   have hxu := HU.out _ (List.getElem_mem hq)
   have hx : wr.cell? ⟨g1, i / 8, none⟩ = some (.int .u64 ((ws[i / 8] : Nat) : Int)) := HI.out.cell 2 rfl (i / 8) (cellsN_at _ _ hq)
   have hf := HI.out.fz 0 rfl i
   obtain ⟨hth, _⟩ := HI.out.there_blk 0 rfl i 1 (by rw [(Arr_B (fromU_len HW.out hi)).1]; omega) 0 (by omega)
   rw [Nat.add_zero] at hth
   obtain ⟨vo, hvo⟩ := Option.isSome_iff_exists.1 hth
   clear hth
   generalize ws[i / 8] = x at *
   replace HST : Aside0 ((cellsB (fromU ws i)).setIfInBounds i (.int .u8 ((x : Int) / 2 ^ (56 - 8 * (i % 8)) % 256)) = cellsB (fromU ws (i + 1))) := ⟨by
    have h := HST.out
    simpa only [Int.natCast_emod, Int.natCast_ediv, Int.natCast_pow, Int.cast_ofNat_Int] using h⟩
   go_wp2_with fail
   skip
   go_roundw
   case rel => exact ⟨i + 1, hlt, by go_num, ⟨HI.out.put 0 rfl i _ HST.out⟩⟩
   case measure => simp [intOf]; omega
  ·have hdl : decide ((i : Int) < 32) = false := decide_eq_false (by omega)
   obtain rfl : i = 32 := by omega
   have HE : Aside0 (Own w.heap.size w wr [.blk g3 (cellsB (bytesOf ws)) 25, .blk g2 (Array.replicate 32 (.int .u8 0)) 25, .blk g1 (cellsN ws) 198]) := ⟨by have h := HI.out; rwa [fromU_all HW.out] at h⟩
   have RA : Aside0 (Arr 32 (cellsB (bytesOf ws))) := ⟨Arr_B (by rw [bytesOf_len, HW.out])⟩
   clear HI
   go_wp2_with (first
    | fail
    | ((with_reducible refine Gd 21 ?_); refine OL 3 HE 0 g3 25 Try.underlying25 32 RA ?_)
    | ((with_reducible refine Gs 25 2 ?_); refine OS 2 21 HE 1 g2 25 (cellsB (bytesOf ws)) 32 R32 RA ?_; intro w4 H4)
    )
   refine bodyPost_ret (own_resultV rfl _ H4.out 1 g2 _ rfl rfl _ Try.underlying25 rfl (by rw [RA.out.1]; exact sizeH)) rfl ?_
   exact ⟨rfl, H4.out.below⟩
theorem rfrom_any (ws : List Nat) (hw : ws.length = 4) (hu : ∀ x ∈ ws, x ≤ 18446744073709551615) (w : World) :
 Calls Try.prog 132 #[.agg (cellsN ws)] w fun e w' => e = .returned (.agg (cellsB (bytesOf ws))) ∧ Below w.heap.size w w' := by
 have H0 := Aside0.mk (Own.start w)
 have HW := Aside0.mk hw
 have HU := Aside0.mk hu
 have R32 : Aside0 (Arr 32 (Array.replicate 32 (.int .u8 0))) := ⟨Arr_rep _ _ rfl⟩
 clear hu hw
 go_enter Try.func132, Try.ntmps132
 go_wp2_with (first
  | fail
  | ((with_reducible refine Gd 1 ?_); refine OB H0 198 ((cellsN ws)) ?_; intro g1 w1 H1 B1)
  | ((with_reducible refine Gd 2 ?_); refine OA H1 25 (Array.replicate 32 (.int .u8 0)) 32 ?_; intro g2 w2 H2 B2)
  | ((with_reducible refine Gd 3 ?_); refine OA H2 25 (Array.replicate 32 (.int .u8 0)) 32 ?_; intro g3 w3 H3 B3)
  )
 have H4 : Aside0 (Own w.heap.size w w3 [.blk g3 (cellsB (fromU ws 0)) 25, .blk g2 (Array.replicate 32 (.int .u8 0)) 25, .blk g1 (cellsN ws) 198]) := ⟨by
  have h : cellsB (fromU ws 0) = Array.replicate 32 (.int .u8 0) := by unfold fromU cellsB; rw [List.take_zero, List.nil_append, List.map_replicate, List.toArray_replicate]
  rw [h]; exact H3.out⟩
 clear H0 H1 H2 H3 B1 B2 B3
 go_loopw [4] (fun vi wr => ∃ (i : Nat), i ≤ 32 ∧ vi = .int .i64 (i : Int) ∧ Aside0 (Own w.heap.size w wr [.blk g3 (cellsB (fromU ws i)) 25, .blk g2 (Array.replicate 32 (.int .u8 0)) 25, .blk g1 (cellsN ws) 198])) (fun vi _ => 32 - (intOf vi).toNat)
 case atStart => exact ⟨0, Nat.zero_le _, rfl, H4⟩
 case round =>
  clear H4
  obtain ⟨i, hi, rfl, HI⟩ := hrel
  by_cases hlt : i < 32
  ·have hdl : decide ((i : Int) < 32) = true := decide_eq_true (by omega)
   have hq : i / 8 < ws.length := by rw [HW.out]; omega
   have hq4 : i / 8 < 4 := by omega
   have HST := Aside0.mk (fromU_step HW.out hlt)
   have hxu := HU.out _ (List.getElem_mem hq)
   have hx : wr.cell? ⟨g1, i / 8, none⟩ = some (.int .u64 ((ws[i / 8] : Nat) : Int)) := HI.out.cell 2 rfl (i / 8) (cellsN_at _ _ hq)
   have hf := HI.out.fz 0 rfl i
   obtain ⟨hth, _⟩ := HI.out.there_blk 0 rfl i 1 (by rw [(Arr_B (fromU_len HW.out hi)).1]; omega) 0 (by omega)
   rw [Nat.add_zero] at hth
   obtain ⟨vo, hvo⟩ := Option.isSome_iff_exists.1 hth
   clear hth
   generalize ws[i / 8] = x at *
   replace HST : Aside0 ((cellsB (fromU ws i)).setIfInBounds i (.int .u8 ((x : Int) / 2 ^ (56 - 8 * (i % 8)) % 256)) = cellsB (fromU ws (i + 1))) := ⟨by
    have h := HST.out
    simpa only [Int.natCast_emod, Int.natCast_ediv, Int.natCast_pow, Int.cast_ofNat_Int] using h⟩
   go_wp2_with fail
   skip
   go_roundw
   case rel => exact ⟨i + 1, hlt, by go_num, ⟨HI.out.put 0 rfl i _ HST.out⟩⟩
   case measure => simp [intOf]; omega
  ·have hdl : decide ((i : Int) < 32) = false := decide_eq_false (by omega)
   obtain rfl : i = 32 := by omega
   have HE : Aside0 (Own w.heap.size w wr [.blk g3 (cellsB (bytesOf ws)) 25, .blk g2 (Array.replicate 32 (.int .u8 0)) 25, .blk g1 (cellsN ws) 198]) := ⟨by have h := HI.out; rwa [fromU_all HW.out] at h⟩
   have RA : Aside0 (Arr 32 (cellsB (bytesOf ws))) := ⟨Arr_B (by rw [bytesOf_len, HW.out])⟩
   clear HI
   go_wp2_with (first
    | fail
    | ((with_reducible refine Gd 22 ?_); refine OL 3 HE 0 g3 25 Try.underlying25 32 RA ?_)
    | ((with_reducible refine Gs 25 2 ?_); refine OS 2 22 HE 1 g2 25 (cellsB (bytesOf ws)) 32 R32 RA ?_; intro w4 H4)
    )
   refine bodyPost_ret (own_resultV rfl _ H4.out 1 g2 _ rfl rfl _ Try.underlying25 rfl (by rw [RA.out.1]; exact sizeH)) rfl ?_
   exact ⟨rfl, H4.out.below⟩
def placesM : Array (Nat × Nat) := #[(0, 1), (1, 1), (2, 1), (3, 1), (4, 1), (5, 32), (37, 32)]
theorem built_placesM (parts : List (Nat × Value)) : Try.prog.built 92 parts = Instr.fill (placesM[·]?) (msgA zeroM) parts := by kernel_rfl
theorem builtM (kd fr tt am no : Int) (ky nx : List Int) (h1 : ky.length = 32) (h2 : nx.length = 32) :
 Try.prog.built 92 [(0, .int .u8 kd), (1, .int .u64 fr), (2, .int .u64 tt), (3, .int .u64 am), (4, .int .u64 no), (5, .agg (cellsB ky)), (6, .agg (cellsB nx))] = some (msgA ⟨kd, fr, tt, am, no, ky, nx⟩) := by
 rw [built_placesM]
 have hs : ∀ m : MsgI, m.ky.length = 32 → m.nx.length = 32 → (msgA m).size = 69 := fun m a b => msgA_size a b
 rw [fill_step (o := 0) (n := 1) rfl rfl (by rw [hs zeroM rfl rfl]; decide)]
 rw [show (splice (msgA zeroM).toList 0 (Value.int .u8 kd).cells.toList).toArray = msgA ⟨kd, 0, 0, 0, 0, z32, z32⟩ from rfl]
 rw [fill_step (o := 1) (n := 1) rfl rfl (by rw [hs _ rfl rfl]; decide)]
 rw [show (splice (msgA ⟨kd, 0, 0, 0, 0, z32, z32⟩).toList 1 (Value.int .u64 fr).cells.toList).toArray = msgA ⟨kd, fr, 0, 0, 0, z32, z32⟩ from rfl]
 rw [fill_step (o := 2) (n := 1) rfl rfl (by rw [hs _ rfl rfl]; decide)]
 rw [show (splice (msgA ⟨kd, fr, 0, 0, 0, z32, z32⟩).toList 2 (Value.int .u64 tt).cells.toList).toArray = msgA ⟨kd, fr, tt, 0, 0, z32, z32⟩ from rfl]
 rw [fill_step (o := 3) (n := 1) rfl rfl (by rw [hs _ rfl rfl]; decide)]
 rw [show (splice (msgA ⟨kd, fr, tt, 0, 0, z32, z32⟩).toList 3 (Value.int .u64 am).cells.toList).toArray = msgA ⟨kd, fr, tt, am, 0, z32, z32⟩ from rfl]
 rw [fill_step (o := 4) (n := 1) rfl rfl (by rw [hs _ rfl rfl]; decide)]
 rw [show (splice (msgA ⟨kd, fr, tt, am, 0, z32, z32⟩).toList 4 (Value.int .u64 no).cells.toList).toArray = msgA ⟨kd, fr, tt, am, no, z32, z32⟩ from rfl]
 rw [fill_step (v := .agg (cellsB ky)) (o := 5) (n := 32) rfl (Arr_B h1).1 (by rw [hs _ rfl rfl]; decide)]
 rw [show (splice (msgA ⟨kd, fr, tt, am, no, z32, z32⟩).toList 5 (Value.agg (cellsB ky)).cells.toList).toArray = msgA ⟨kd, fr, tt, am, no, ky, z32⟩ from spl5 (by rw [vB_len]; exact (vB_len ky).symm ▸ h1.symm)]
 rw [fill_step (v := .agg (cellsB nx)) (o := 37) (n := 32) rfl (Arr_B h2).1 (by rw [hs _ h1 rfl]; decide)]
 rw [show (splice (msgA ⟨kd, fr, tt, am, no, ky, z32⟩).toList 37 (Value.agg (cellsB nx)).cells.toList).toArray = msgA ⟨kd, fr, tt, am, no, ky, nx⟩ from spl37 (by rw [vB_len]; exact h1) (by rw [vB_len]; exact (vB_len nx).symm ▸ h2.symm)]
 rfl
theorem yields_build {P : Program} {ops : Array Oper} {S : World → Prop} {o : Oper} {a : Act} (hw : Region.wanted o (yielded ops a.tmps) = true) (t : TypeId) (parts : List (Nat × Operand)) (ho : o.op = .build t parts.toArray) (ps : List (Nat × Value)) (hps : parts.map (fun x => (x.1, a.eval x.2)) = ps) (cells : Array Value) (hf : P.built t ps = some cells) :
 YieldsIf P ops S o (.agg cells) a := by
 refine Or.inl ⟨hw, fun w _ => ?_⟩
 rw [← hps] at hf
 unfold execOp
 simp only [ho, Sem.run_bind]
 rw [run_build w t _ cells (by simpa using hf)]
 rfl
def fieldsOfM (b : List Int) : MsgI := ⟨((wordsAll 13 b).getD 0 0 : Nat), ((wordsAll 13 b).getD 1 0 : Nat), ((wordsAll 13 b).getD 2 0 : Nat), ((wordsAll 13 b).getD 3 0 : Nat), ((wordsAll 13 b).getD 4 0 : Nat), (b.drop 40).take 32, (b.drop 72).take 32⟩
def readM (b : List Int) : MsgI × Int :=
 if b.length < 104 then (zeroM, 7) else if 104 < b.length then (zeroM, 8) else if 3 < (fieldsOfM b).kd then (zeroM, 8) else if mayM (fieldsOfM b) then (fieldsOfM b, 0) else (zeroM, 8)
theorem thirteen {l : List Nat} (h : l.length = 13) : ∃ a0 a1 a2 a3 a4 a5 a6 a7 a8 a9 a10 a11 a12, l = [a0, a1, a2, a3, a4, a5, a6, a7, a8, a9, a10, a11, a12] := by
 match l, h with
 | [a0, a1, a2, a3, a4, a5, a6, a7, a8, a9, a10, a11, a12], _ => exact ⟨a0, a1, a2, a3, a4, a5, a6, a7, a8, a9, a10, a11, a12, rfl⟩
theorem wordsAll_shift (n m k : Nat) (b : List Int) : wordsAll n ((b.drop (8 * k)).take (8 * m)) = ((wordsAll (k + m) b).drop k).take n ∨ m < n := by
 by_cases h : n ≤ m
 ·left
  refine List.ext_getElem (by simp [wordsAll]; omega) fun j h1 h2 => ?_
  have hj : j < n := by simpa [wordsAll] using h1
  simp only [wordsAll, List.getElem_map, List.getElem_range, List.getElem_take, List.getElem_drop]
  congr 1
  rw [List.drop_take, List.drop_drop, List.take_take, Nat.min_eq_left (by omega), show 8 * k + 8 * j = 8 * (k + j) by omega]
 ·right; omega
theorem bytes_key {b : List Int} (hb : ∀ x ∈ b, 0 ≤ x ∧ x ≤ 255) (hl : b.length = 104) : bytesOf (((wordsAll 13 b).drop 5).take 4) = (b.drop 40).take 32 ∧ bytesOf (((wordsAll 13 b).drop 9).take 4) = (b.drop 72).take 32 := by
 have h1 := (wordsAll_shift 4 8 5 b).resolve_right (by omega)
 have h2 := (wordsAll_shift 4 4 9 b).resolve_right (by omega)
 have h3 := (wordsAll_shift 4 4 5 b).resolve_right (by omega)
 have hp : ((wordsAll 9 b).drop 5).take 4 = ((wordsAll 13 b).drop 5).take 4 := by
  refine List.ext_getElem (by simp [wordsAll]) fun j h1 h2 => ?_
  simp [wordsAll]
 rw [hp] at h3
 constructor
 ·rw [← h3]
  exact bytesOf_four _ (fun x hx => hb x (List.mem_of_mem_drop (List.mem_of_mem_take hx))) (by simp [List.length_take]; omega)
 ·rw [← h2]
  exact bytesOf_four _ (fun x hx => hb x (List.mem_of_mem_drop (List.mem_of_mem_take hx))) (by simp [List.length_take]; omega)
end Go.Proofs.Ytocphkfkdadhaaa.H
