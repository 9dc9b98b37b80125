import Derived.Test.YtdjoekckhmggbaaZMF
import Derived.RangeFuncCalls
import Derived.Deep.RegionHeld3
namespace Go.Proofs.Ytdjoekckhmggbaa.H
open Go.RowKit Go.Shelf Go.Proofs.YtdjoekckhmggbaaW.PrintWords Go.Proofs.YtdjoekckhmggbaaW.PrintMore Go.Proofs.Ytdjoekckhmggbaa.PRF
set_option linter.unusedVariables false
set_option linter.unusedSimpArgs false
def loop2 (ch : Int) (l : List S40) : Nat → Nat → List Int → Option (List Int)
  | 0, _, acc => some acc
  | k + 1, s, acc => match cntF ch l s with
    | none => none
    | some f => loop2 ch l k (s + 1) (acc ++ f.f3)
def IsEnd (ch : Int) (l : List S40) (e : Int) (en : Bool) : Prop :=
  (en = false → ∀ s f, cntF ch l s = some f → f.f2 = false) ∧
  (en = true → (∃ f, cntF ch l e = some f ∧ f.f2 = true) ∧ ∀ s f, cntF ch l s = some f → f.f2 = true → e ≤ s)
theorem joinF_none {ch : Int} {l : List S40} (h : ∀ s f, cntF ch l s = some f → f.f2 = false) : ∀ k s acc, joinF ch l k s acc = none
  | 0, s, acc => rfl
  | k + 1, s, acc => by
    rw [joinF]
    cases hc : cntF ch l s with
    | none => rfl
    | some f =>
      simp only
      rw [if_neg (by rw [h s f hc]; simp)]
      exact joinF_none h k (s + 1) _
theorem joinF_loop2 {ch : Int} {l : List S40} {e : Nat} (he : ∃ f, cntF ch l e = some f ∧ f.f2 = true) (hm : ∀ s f, cntF ch l s = some f → f.f2 = true → (e : Int) ≤ s) : ∀ (k s : Nat) (acc : List Int), s + k = e → ∀ m, k + 1 ≤ m → joinF ch l m s acc = loop2 ch l (k + 1) s acc
  | 0, s, acc, hs, m, hmk => by
    obtain ⟨m, rfl⟩ : ∃ m', m = m' + 1 := ⟨m - 1, by omega⟩
    obtain rfl : s = e := by omega
    obtain ⟨f, h1, h2⟩ := he
    rw [joinF, loop2, h1]
    simp only
    rw [if_pos h2, loop2]
  | k + 1, s, acc, hs, m, hmk => by
    obtain ⟨m, rfl⟩ : ∃ m', m = m' + 1 := ⟨m - 1, by omega⟩
    rw [joinF, loop2]
    cases hc : cntF ch l s with
    | none => rfl
    | some f =>
      simp only
      have hf : ¬ f.f2 = true := fun h => by have := hm s f hc h; omega
      rw [if_neg hf]
      exact joinF_loop2 he hm k (s + 1) _ (by omega) m (by omega)
theorem joinP_end {ch : Int} {l : List S40} {e : Int} {en : Bool} (h : IsEnd ch l e en) : joinP ch l = if en = true then loop2 ch l (e.toNat + 1) 0 [] else none := by
  cases en with
  | false => rw [if_neg (by simp)]; exact joinF_none (h.1 rfl) _ _ _
  | true =>
    rw [if_pos rfl]
    obtain ⟨⟨f, h1, h2⟩, h3⟩ := h.2 rfl
    have hmay := (cnt_may h1).2
    have hb : 0 ≤ e ∧ e < 1024 := by
      have h4 := hmay.1
      simp only [mayF, Bool.and_eq_true, decide_eq_true_eq] at h4
      rw [hmay.2.2] at h4
      exact ⟨h4.1.1, h4.1.2⟩
    obtain ⟨n, rfl⟩ := Int.eq_ofNat_of_zero_le hb.1
    rw [Int.toNat_natCast]
    exact joinF_loop2 ⟨f, h1, h2⟩ h3 n 0 [] (by omega) 1024 (by omega)
end Go.Proofs.Ytdjoekckhmggbaa.H
namespace Go.Proofs.Ytdjoekckhmggbaa.H
open Go.RowKit Go.Shelf Go.Proofs.YtdjoekckhmggbaaW.PrintWords Go.Proofs.YtdjoekckhmggbaaW.PrintMore Go.Proofs.Ytdjoekckhmggbaa.PRF
set_option linter.unusedVariables false
set_option linter.unusedSimpArgs false
def frameAt (ys : List FV) (s : Int) : Option FV := ys.find? (fun p => p.x.f1 == s)
def stepS (st : DataW Value × Int × Bool) (p : FV) : DataW Value × Int × Bool :=
  if Maps.has st.1 (.int .i64 p.x.f1) = true then st
  else (st.1.put (.int .i64 p.x.f1) (.held p.val), if (p.x.f2 && (!st.2.2 || decide (p.x.f1 < st.2.1))) = true then (p.x.f1, true) else st.2)
def foldS (ys : List FV) : DataW Value × Int × Bool := ys.foldl stepS (.map [], 0, false)
theorem foldS_snoc (ys : List FV) (p : FV) : foldS (ys ++ [p]) = stepS (foldS ys) p := by simp [foldS]
theorem frameAt_snoc (ys : List FV) (p : FV) (s : Int) : frameAt (ys ++ [p]) s = match frameAt ys s with | some q => some q | none => if p.x.f1 = s then some p else none := by
  unfold frameAt
  rw [List.find?_append]
  cases ys.find? (fun p => p.x.f1 == s) with
  | some q => rfl
  | none =>
    by_cases h : p.x.f1 = s
    · simp [h]
    · simp [h]
structure FoldOk (ys : List FV) (st : DataW Value × Int × Bool) : Prop where
  isMap : Maps.IsMap st.1
  has : ∀ s, Maps.has st.1 (.int .i64 s) = (frameAt ys s).isSome
  at_ : ∀ s z, st.1.atKey (.int .i64 s) z = match frameAt ys s with | some p => .held p.val | none => z
  no : st.2.2 = false → ∀ s p, frameAt ys s = some p → p.x.f2 = false
  yes : st.2.2 = true → (∃ p, frameAt ys st.2.1 = some p ∧ p.x.f2 = true) ∧ ∀ s p, frameAt ys s = some p → p.x.f2 = true → st.2.1 ≤ s
theorem foldS_ok (ys : List FV) : FoldOk ys (foldS ys) := by
  refine snoc_ind (P := fun ys => FoldOk ys (foldS ys)) ?_ ?_ ys
  · exact ⟨⟨[], rfl⟩, fun s => rfl, fun s z => rfl, fun _ s p h => by simp [frameAt] at h, fun h => by simp [foldS] at h⟩
  · intro ys p ih
    rw [foldS_snoc]
    generalize foldS ys = st at ih ⊢
    obtain ⟨D, e, en⟩ := st
    obtain ⟨i1, i2, i3, i4, i5⟩ := ih
    simp only at i1 i2 i3 i4 i5
    unfold stepS
    simp only
    by_cases hh : Maps.has D (.int .i64 p.x.f1) = true
    · rw [if_pos hh]
      rw [i2 p.x.f1] at hh
      have hsame : ∀ s, frameAt (ys ++ [p]) s = frameAt ys s := by
        intro s
        rw [frameAt_snoc]
        cases hf : frameAt ys s with
        | some q => rfl
        | none =>
          by_cases hs : p.x.f1 = s
          · rw [hs, hf] at hh; cases hh
          · simp [hs]
      exact ⟨i1, fun s => by rw [hsame]; exact i2 s, fun s z => by rw [hsame]; exact i3 s z, fun h s q hq => i4 h s q (by rw [← hsame]; exact hq), fun h => ⟨by rw [hsame]; exact (i5 h).1, fun s q hq => (i5 h).2 s q (by rw [← hsame]; exact hq)⟩⟩
    · rw [if_neg hh]
      have hk : WideAt.IsKeyLit (Lit.int .i64 p.x.f1) := trivial
      have hnone : frameAt ys p.x.f1 = none := by
        have := i2 p.x.f1
        cases hf : frameAt ys p.x.f1 with
        | none => rfl
        | some q => rw [hf] at this; exact absurd this (by simpa using hh)
      have hne : ∀ s, s ≠ p.x.f1 → (Lit.int .i64 s) ≠ (Lit.int .i64 p.x.f1) := fun s h he => h (by cases he; rfl)
      have hnew : ∀ s, frameAt (ys ++ [p]) s = if s = p.x.f1 then some p else frameAt ys s := by
        intro s
        rw [frameAt_snoc]
        by_cases hs : s = p.x.f1
        · subst hs; rw [hnone]
        · rw [if_neg hs]
          cases frameAt ys s with
          | some q => rfl
          | none => simp [Ne.symm hs]
      refine ⟨?_, fun s => ?_, fun s z => ?_, ?_, ?_⟩
      · obtain ⟨es, rfl⟩ := i1
        exact ⟨_, rfl⟩
      · rw [hnew]
        by_cases hs : s = p.x.f1
        · subst hs; rw [Maps.has_put_same i1 hk]; simp
        · rw [Maps.has_put_other (hne s hs), if_neg hs]; exact i2 s
      · rw [hnew]
        by_cases hs : s = p.x.f1
        · subst hs; rw [Maps.atKey_put_same i1 hk]; simp
        · rw [Maps.atKey_put_other (hne s hs), if_neg hs]; exact i3 s z
      · intro h
        split at h
        · cases h
        · rename_i hc
          simp only at h
          intro s q hq
          rw [hnew] at hq
          split at hq
          · cases hq
            cases hl : p.x.f2 with
            | false => rfl
            | true => rw [hl, h] at hc; simp at hc
          · exact i4 h s q hq
      · intro h
        split
        · rename_i hc
          simp only [Bool.and_eq_true, Bool.or_eq_true, Bool.not_eq_true', decide_eq_true_eq] at hc
          refine ⟨⟨p, by rw [hnew, if_pos rfl], hc.1⟩, fun s q hq hl => ?_⟩
          rw [hnew] at hq
          split at hq
          · rename_i hs; subst hs; exact Int.le_refl _
          · cases hen : en with
            | false => rw [i4 hen s q hq] at hl; cases hl
            | true =>
              have h1 := (i5 hen).2 s q hq hl
              rcases hc.2 with h2 | h2
              · rw [hen] at h2; cases h2
              · simp only; omega
        · rename_i hc
          rw [if_neg hc] at h
          simp only at h
          obtain ⟨⟨q, h1, h2⟩, h3⟩ := i5 h
          refine ⟨⟨q, ?_, h2⟩, fun s r hr hl => ?_⟩
          · rw [hnew]
            simp only
            rw [if_neg (fun hs => by rw [hs, hnone] at h1; cases h1)]
            exact h1
          · rw [hnew] at hr
            split at hr
            · rename_i hs
              cases hr
              subst hs
              simp only
              rw [hl, h] at hc
              simp at hc
              exact hc
            · exact h3 s r hr hl
end Go.Proofs.Ytdjoekckhmggbaa.H
namespace Go.Proofs.Ytdjoekckhmggbaa.H
open Go.RowKit Go.Shelf Go.Proofs.YtdjoekckhmggbaaW.PrintWords Go.Proofs.YtdjoekckhmggbaaW.PrintMore Go.Proofs.Ytdjoekckhmggbaa.PRF
set_option linter.unusedVariables false
set_option linter.unusedSimpArgs false
theorem cnt_frameAt (ch s : Int) (V : List FV) : cntF ch (V.map (·.x)) s = (frameAt (V.filter (fun p => keepF ch p.x)) s).map (·.x) := by
  unfold cntF frameAt
  induction V with
  | nil => rfl
  | cons p V ih =>
    have hi : isF ch s p.x = (keepF ch p.x && (p.x.f1 == s)) := by
      unfold isF keepF
      cases mayF p.x <;> cases (p.x.f0 == ch) <;> simp
    rw [List.map_cons, List.find?_cons, hi]
    by_cases hk : keepF ch p.x = true
    · rw [List.filter_cons_of_pos (by simpa using hk), List.find?_cons, hk, Bool.true_and]
      cases hs : (p.x.f1 == s) with
      | true => rfl
      | false => exact ih
    · rw [List.filter_cons_of_neg (by simpa using hk)]
      simp only [Bool.not_eq_true] at hk
      rw [hk, Bool.false_and]
      exact ih
theorem fold_end (ch : Int) (V : List FV) {st : DataW Value × Int × Bool} (h : FoldOk (V.filter (fun p => keepF ch p.x)) st) : IsEnd ch (V.map (·.x)) st.2.1 st.2.2 := by
  refine ⟨fun he s f hf => ?_, fun he => ?_⟩
  · rw [cnt_frameAt, Option.map_eq_some_iff] at hf
    obtain ⟨p, hp, rfl⟩ := hf
    exact h.no he s p hp
  · obtain ⟨⟨p, h1, h2⟩, h3⟩ := h.yes he
    refine ⟨⟨p.x, by rw [cnt_frameAt, h1]; rfl, h2⟩, fun s f hf hl => ?_⟩
    rw [cnt_frameAt, Option.map_eq_some_iff] at hf
    obtain ⟨q, hq, rfl⟩ := hf
    exact h3 s q hq hl
end Go.Proofs.Ytdjoekckhmggbaa.H
namespace Go.Proofs.Ytdjoekckhmggbaa.H
open Go.RowKit Go.Shelf Go.Proofs.YtdjoekckhmggbaaW.PrintWords Go.Proofs.YtdjoekckhmggbaaW.PrintLast Go.Proofs.YtdjoekckhmggbaaW.PrintMore Go.Proofs.Ytdjoekckhmggbaa.PRF
attribute [local go_sem] Oper.semAt_some
set_option linter.unusedVariables false
set_option linter.unusedSimpArgs false
structure KJ (b : Nat) (A B : World) : Prop where
  size : A.heap.size ≤ B.heap.size
  same : ∀ k, k < b + 7 → k < A.heap.size → ¬ (b + 1 ≤ k ∧ k ≤ b + 4) → B.heap[k]? = A.heap[k]?
theorem KJ.trans {b : Nat} {A B C : World} (h : KJ b A B) (k : KJ b B C) : KJ b A C := ⟨Nat.le_trans h.size k.size, fun i h1 h2 h3 => (k.same i h1 (Nat.lt_of_lt_of_le h2 h.size) h3).trans (h.same i h1 h2 h3)⟩
theorem KJ.of_below {b : Nat} {A B : World} (h : Below A.heap.size A B) : KJ b A B := ⟨h.size, fun k _ hk _ => h.block k hk⟩
theorem KJ.put {b : Nat} (W : World) (l : Nat) (o : Obj) (hl : b + 7 ≤ l) : KJ b W (W.putObj l o) := by
  have hg := grownBy_putObj' W l o
  exact ⟨hg.size, fun k h1 h2 _ => hg.block k h2 (fun e => by cases e; omega)⟩
def RJ (v : Value) : Option (DataW Value × List MemPlace) := some (.held v, [])
structure IJ (b : Nat) (w : World) (pre : List FV) (W : World) : Prop where
  box6 : Boxed W (b + 2) 76 (.map (some (b + 1)))
  box7 : Boxed W (b + 3) 3 (.int .i64 (foldS pre).2.1)
  box8 : Boxed W (b + 4) 4 (.bool (foldS pre).2.2)
  map : W.ownsMap Try.prog 3 RJ (b + 1) pre.length (foldS pre).1
  below : Below b w W
theorem IJ.own {b B : Nat} {w : World} (hb : b = w.heap.size) (hB : b + 7 ≤ B) : OwnFrom B (IJ b w) := fun s A C row hs hg hr => by
  have hne : ∀ k, k < b + 7 → some k ≠ row := fun k hk e => by have := (hr k e.symm).1; omega
  exact ⟨hs.box6.kept hg (hne _ (by omega)), hs.box7.kept hg (hne _ (by omega)), hs.box8.kept hg (hne _ (by omega)), hs.map.kept hg (fun e => hne (b + 1) (by omega) e), hs.below.grown hg (by have := hs.below.size; omega) (fun k e => by have := hne k; have := (hr k e).1; omega)⟩
end Go.Proofs.Ytdjoekckhmggbaa.H
namespace Go.Proofs.Ytdjoekckhmggbaa.H
open Go.RowKit Go.Shelf Go.Proofs.YtdjoekckhmggbaaW.PrintWords Go.Proofs.YtdjoekckhmggbaaW.PrintLast Go.Proofs.YtdjoekckhmggbaaW.PrintMore Go.Proofs.Ytdjoekckhmggbaa.PRF
attribute [local go_sem] Oper.semAt_some
set_option linter.unusedVariables false
set_option linter.unusedSimpArgs false
theorem KJ.old {w Wr W' : World} (hb : Below w.heap.size w Wr) (hk : KJ w.heap.size Wr W') : ∀ k, k < w.heap.size → W'.heap[k]? = w.heap[k]? := fun k hk1 =>
  (hk.same k (by omega) (Nat.lt_of_lt_of_le hk1 hb.size) (by omega)).trans (hb.block k hk1)
theorem cell_old {w W' : World} (h : ∀ k, k < w.heap.size → W'.heap[k]? = w.heap[k]?) {a : Addr} {v : Value} (hc : w.cell? a = some v) : W'.cell? a = some v :=
  (World.cell?_of_block (h _ (World.block_lt_of_cell? w _ hc))).trans hc
theorem frames_of {w : World} {A : Option Addr} {l : List S40} (hC : Kd.C k40 w A l.length l) (hwf : ∀ x ∈ l, (Lit.int .i64 x.f1).wf = true) : ∃ V : List FV, V.map (·.x) = l ∧ ∀ i (h : i < V.length), RowAt w A i V[i] ∧ Good w V[i] := by
  have each : ∀ i, i < l.length → ∃ p : FV, (∃ h : i < l.length, p.x = l[i]) ∧ RowAt w A i p ∧ Good w p := by
    intro i hi
    obtain ⟨ad, A3, c3, he, k0, k1, k2, k3, q1, q2⟩ := at_T40 hC (i : Int) (by omega) (by omega)
    rw [rd40 l i hi, Int.toNat_natCast] at k0 k1 k2 k3
    rw [rd40 l i hi] at q1 q2
    exact ⟨⟨l[i], A3, c3⟩, ⟨hi, rfl⟩, ⟨ad, he, k0, k1, k2, k3⟩, hwf _ (List.getElem_mem hi), q1, q2⟩
  obtain ⟨V, hl, hV⟩ := choose_list _ l.length each
  refine ⟨V, ?_, fun i h => (hV i V[i] (List.getElem?_eq_getElem h)).2⟩
  apply List.ext_getElem
  · simpa using hl
  · intro i h1 h2
    obtain ⟨⟨h3, h4⟩, _⟩ := hV i V[i] (List.getElem?_eq_getElem (by omega))
    simpa using h4
theorem kept_stops (n : Nat) (hn : 1 ≤ n) (w Wr : World) (hb : Below w.heap.size w Wr) (hsz : w.heap.size + 7 ≤ Wr.heap.size) (ch : Int) (V : List (GF Wr)) (A : Option Addr) (cap : Nat) (hN : V.length ≤ 9223372036854775807)
    (hrow : ∀ i (h : i < V.length), RowAt w A i V[i].1 ∧ Kd.C (Kd.int .u8) w V[i].1.A V[i].1.x.f3.length V[i].1.x.f3)
    (h0 : Boxed Wr w.heap.size 27 (.int .u64 ch)) (h5 : Boxed Wr (w.heap.size + 5) 22 (.slice A V.length cap)) (h6 : Boxed Wr (w.heap.size + 6) 75 (.func (.func 45) #[] #[.pointer (some ⟨w.heap.size, 0, none⟩)])) :
    SeqStopsK Fence.wide n Try.prog 61 #[.pointer (some ⟨w.heap.size + 5, 0, none⟩), .pointer (some ⟨w.heap.size + 6, 0, none⟩)] (fun x : GF Wr => #[x.1.val]) (KJ w.heap.size)
      (fun ys => ys = V.filter (fun p => keepF ch p.1.x)) (fun _ => True) V.length Wr := fun l J Jx W hW hJ hJx hY hJ0 => by
  have hbox : ∀ {k : Nat} {t : TypeId} {v : Value}, Boxed Wr k t v → k < w.heap.size + 7 → ¬ (w.heap.size + 1 ≤ k ∧ k ≤ w.heap.size + 4) → ∀ W', KJ w.heap.size Wr W' → W'.cell? ⟨k, 0, none⟩ = some v := fun {k t v} hbx h1 h2 W' hk =>
    Boxed.cell (t := t) ((hk.same k h1 hbx.lt h2).trans hbx)
  refine kept_in n hn Wr (KJ w.heap.size) (fun h k => h.trans k) (fun h => KJ.of_below h) ch V A cap l (w.heap.size + 5) (w.heap.size + 6) w.heap.size J Jx W (KJ.of_below hW) hJ hN (fun W' hk i hi => ?_)
    (hbox h5 (by omega) (by omega)) (hbox h6 (by omega) (by omega)) (hbox h0 (by omega) (by omega)) hY hJ0
  have ho := KJ.old hb hk
  obtain ⟨⟨ad, e, r0, r1, r2, r3⟩, hc⟩ := hrow i hi
  exact ⟨⟨ad, e, cell_old ho r0, cell_old ho r1, cell_old ho r2, cell_old ho r3⟩, F_all hc W' (fun k _ hk => ho k hk)⟩
end Go.Proofs.Ytdjoekckhmggbaa.H
namespace Go.Proofs.Ytdjoekckhmggbaa.H
open Go.RowKit Go.Shelf Go.Proofs.YtdjoekckhmggbaaW.PrintWords Go.Proofs.YtdjoekckhmggbaaW.PrintLast Go.Proofs.YtdjoekckhmggbaaW.PrintMore Go.Proofs.Ytdjoekckhmggbaa.PRF
attribute [local go_sem] Oper.semAt_some
set_option linter.unusedVariables false
set_option linter.unusedSimpArgs false
def noFrame : Value := .agg #[.int .u64 0, .int .i64 0, .bool false, .slice none 0 0]
theorem zero40 (w : World) : (zeroValue 40).run Try.prog w = .ok noFrame w := by kernel_rfl
def heldAt (r : Option FV) : Value := match r with | some p => p.val | none => noFrame
theorem keyS {s : Int} (h : (Lit.int .i64 s).wf = true) : keyOf Try.prog 3 (.int .i64 s) = some (.int .i64 s) := Maps.keyOf_int_mk Try.underlying3 h
section
variable {F : Fence} {nF : Nat} (w : World) {ops : Array Oper} {rest : List Oper} {o : Oper} {a : Act} {Q : Exit → Act → World → Prop}
theorem lookupIn_J (hg : o.guard = none) (m x : Operand) (hop : o.op = Op.lookup 76 m x true) (b n : Nat) (st : DataW Value × Int × Bool) (ys : List FV) (hok : Aside0 (FoldOk ys st))
    (hm : a.eval m = .map (some b)) (hown : Aside0 (w.ownsMap Try.prog 3 RJ b n st.1)) (s : Int) (hx : a.eval x = .int .i64 s) (hwf : (Lit.int .i64 s).wf = true) (r : Option FV) (hr : frameAt ys s = r)
    (hK : wpListIn F nF Try.prog ops Q rest (a.put o.dst (.tuple #[heldAt r, .bool r.isSome])) w) :
    wpListIn F nF Try.prog ops Q (o :: rest) a w :=
  wpListIn_lookup_own_ok w hg m x 76 hop 3 40 (Maps.int_keyed Try.underlying3) Try.underlying76 RJ (zero40 w) (.held noFrame) [] rfl b n st.1 hm hown.out _ _ hx (keyS hwf) fun v ps hv => by
    obtain rfl : v = heldAt r := by
      have h1 := hok.out.at_ s (.held noFrame)
      simp only [RJ, Option.some.injEq, Prod.mk.injEq] at hv
      rw [h1, hr] at hv
      have h2 := hv.1
      cases r <;> (injection h2 with h3)
    rw [hok.out.has s, hr]
    exact hK
theorem lookup_J (hg : o.guard = none) (m x : Operand) (hop : o.op = Op.lookup 76 m x true) (b n : Nat) (st : DataW Value × Int × Bool) (ys : List FV) (hok : Aside0 (FoldOk ys st))
    (hm : a.eval m = .map (some b)) (hown : Aside0 (w.ownsMap Try.prog 3 RJ b n st.1)) (s : Int) (hx : a.eval x = .int .i64 s) (hwf : (Lit.int .i64 s).wf = true) (r : Option FV) (hr : frameAt ys s = r)
    (hK : wpList Try.prog ops Q rest (a.put o.dst (.tuple #[heldAt r, .bool r.isSome])) w) :
    wpList Try.prog ops Q (o :: rest) a w :=
  wpList_lookup_own_ok w hg m x 76 hop 3 40 (Maps.int_keyed Try.underlying3) Try.underlying76 RJ (zero40 w) (.held noFrame) [] rfl b n st.1 hm hown.out _ _ hx (keyS hwf) fun v ps hv => by
    obtain rfl : v = heldAt r := by
      have h1 := hok.out.at_ s (.held noFrame)
      simp only [RJ, Option.some.injEq, Prod.mk.injEq] at hv
      rw [h1, hr] at hv
      have h2 := hv.1
      cases r <;> (injection h2 with h3)
    rw [hok.out.has s, hr]
    exact hK
end
end Go.Proofs.Ytdjoekckhmggbaa.H
namespace Go.Proofs.Ytdjoekckhmggbaa.H
open Go.RowKit Go.Shelf Go.Proofs.YtdjoekckhmggbaaW.PrintWords Go.Proofs.YtdjoekckhmggbaaW.PrintLast Go.Proofs.YtdjoekckhmggbaaW.PrintMore Go.Proofs.Ytdjoekckhmggbaa.PRF
attribute [local go_sem] Oper.semAt_some
set_option linter.unusedVariables false
set_option linter.unusedSimpArgs false
structure IJs (b : Nat) (w : World) (n : Nat) (st : DataW Value × Int × Bool) (W : World) : Prop where
  box6 : Boxed W (b + 1 + 1) 76 (.map (some (b + 1)))
  box7 : Boxed W (b + 1 + 1 + 1) 3 (.int .i64 st.2.1)
  box8 : Boxed W (b + 1 + 1 + 1 + 1) 4 (.bool st.2.2)
  map : W.ownsMap Try.prog 3 RJ (b + 1) n st.1
  below : Below b w W
  size : b + 7 ≤ W.heap.size
def IJp (b : Nat) (w : World) {W0 : World} (pre : List (GF W0)) (W : World) : Prop := IJs b w pre.length (foldS (pre.map (·.1))) W
theorem IJp.own {b B : Nat} {w W0 : World} (hb : b = w.heap.size) (hB : b + 7 ≤ B) : OwnFrom B (fun (pre : List (GF W0)) W => IJp b w pre W) := fun s A C row hs hg hr => by
  have hne : ∀ k, k < b + 7 → some k ≠ row := fun k hk e => by have := (hr k e.symm).1; omega
  obtain ⟨h1, h2, h3, h4, h5, h6⟩ := hs
  exact ⟨h1.kept hg (hne _ (by omega)), h2.kept hg (hne _ (by omega)), h3.kept hg (hne _ (by omega)), h4.kept hg (fun e => hne (b + 1) (by omega) e), h5.grown hg (by have := h5.size; omega) (fun k e => by have := hne k; have := (hr k e).1; omega), Nat.le_trans h6 hg.size⟩
theorem IJp.snoc {b : Nat} {w W0 W : World} {pre : List (GF W0)} {x : GF W0} (h : IJs b w (pre.length + 1) (stepS (foldS (pre.map (·.1))) x.1) W) : IJp b w (pre ++ [x]) W := by
  unfold IJp
  rw [List.map_append, List.length_append]
  show IJs b w (pre.length + 1) (foldS (pre.map (·.1) ++ [x.1])) W
  rw [foldS_snoc]
  exact h
theorem KJ.grown {b : Nat} {A B : World} {j : Nat} (h : A.grownBy B (some j)) (h1 : b + 1 ≤ j) (h2 : j ≤ b + 4) : KJ b A B := ⟨h.size, fun k _ hk hn => h.block k hk (fun e => by injection e with e; omega)⟩
theorem KJ.setCell {b : Nat} (W : World) (j o : Nat) (v : Value) (h1 : b + 1 ≤ j) (h2 : j ≤ b + 4) : KJ b W (W.setCell ⟨j, o, none⟩ v) := ⟨by simp, fun k _ hk hn => Below.heap_setCell W ⟨j, o, none⟩ v k (fun e => by have e' : k = j := e; omega)⟩
theorem stepS_old {ys : List FV} {D : DataW Value} {en : Int} {ended : Bool} (hok : FoldOk ys (D, en, ended)) {p q : FV} (h : frameAt ys p.x.f1 = some q) : stepS (D, en, ended) p = (D, en, ended) := by
  unfold stepS
  rw [if_pos (by rw [hok.has]; rw [h]; rfl)]
theorem stepS_new {ys : List FV} {D : DataW Value} {en : Int} {ended : Bool} (hok : FoldOk ys (D, en, ended)) {p : FV} (h : frameAt ys p.x.f1 = none) :
    stepS (D, en, ended) p = (D.put (.int .i64 p.x.f1) (.held p.val), if (p.x.f2 && (!ended || decide (p.x.f1 < en))) = true then (p.x.f1, true) else (en, ended)) := by
  unfold stepS
  rw [if_neg (by rw [hok.has]; rw [h]; simp)]
theorem frameAt_mem {ys : List FV} {s : Int} {q : FV} (h : frameAt ys s = some q) : q ∈ ys := List.mem_of_find?_eq_some h
theorem loop2_next {ch : Int} {l : List S40} {n i : Nat} {acc : List Int} (h : i < n) : loop2 ch l (n - i) i acc = match cntF ch l i with | none => none | some f => loop2 ch l (n - (i + 1)) (i + 1) (acc ++ f.f3) := by
  rw [show n - i = (n - (i + 1)) + 1 by omega, loop2] <;> rfl
theorem wfS {i : Nat} (h : i < 1024) : (Lit.int .i64 (i : Int)).wf = true := by
  simp [Lit.wf, IntKind.min, IntKind.max, IntKind.bits, IntKind.signed]
  all_goals omega
theorem R_struck {wr : World} {base D : Nat} {v : Value} {xs : List Int} (h : Kd.R (Kd.int .u8) 5 wr base (fun _ => True) v xs) (hD : D < base) {b : Nat} (hb : b ≤ base) : Kd.R (Kd.int .u8) 5 (wr.putObj D (.deferred none)) b (fun _ => True) v xs := by
  refine Kd.R_lower (Kd.R_mono (Kd.R_step (Kd.R_bound h) (fun k hk hlt => ?_)) (fun _ _ => trivial)) hb
  exact (grownBy_putObj' wr D (.deferred none)).block k hlt (fun e => by cases e; have := hk.2.1; omega)
def slotsJ (ch : Int) (l : List S40) (A : Option Addr) (c : Nat) (w : World) {W0 : World} (Bx : Nat) (x : GF W0) : Act :=
  { tmps := #[.int .u64 ch, .slice A l.length c, .pointer (some ⟨w.heap.size, 0, none⟩), undef, .slice none 0 0, .bool false, .pointer (some ⟨w.heap.size + 1 + 1, 0, none⟩), .pointer (some ⟨w.heap.size + 1 + 1 + 1, 0, none⟩), .pointer (some ⟨w.heap.size + 1 + 1 + 1 + 1, 0, none⟩), .pointer (some ⟨Bx, 0, none⟩), undef, undef, undef, undef, undef, undef, .map (some (w.heap.size + 1)), .slice A l.length c, .func (.func 45) #[] #[.pointer (some ⟨w.heap.size, 0, none⟩)], .func (.func 61) #[] #[.pointer (some ⟨w.heap.size + 1 + 1 + 1 + 1 + 1, 0, none⟩), .pointer (some ⟨w.heap.size + 1 + 1 + 1 + 1 + 1 + 1, 0, none⟩)], .agg #[.int .u64 x.1.x.f0, .int .i64 x.1.x.f1, .bool x.1.x.f2, .slice x.1.A x.1.x.f3.length x.1.c], undef, undef, undef, undef, undef, undef, undef, undef, undef, undef, undef, undef, undef, undef, undef, undef, undef, undef, undef, undef, undef, undef, undef, undef, undef, undef, undef, undef, undef, undef, undef, undef, undef, undef, undef, undef, undef, undef, undef, undef, undef, undef, undef, undef, undef, undef, undef], defers := [] }
def AxJ (ch : Int) (l : List S40) (A : Option Addr) (c : Nat) (w : World) {W0 : World} (x : GF W0) (a' : Act) (W : World) : Prop :=
  ∃ Bx, w.heap.size + 6 < Bx ∧ W.heap[Bx]? = some (.cells #[.int .u64 x.1.x.f0, .int .i64 x.1.x.f1, .bool x.1.x.f2, .slice x.1.A x.1.x.f3.length x.1.c] 40 (0, 0)) ∧ a' = slotsJ ch l A c w Bx x
theorem AxJ.own {ch : Int} {l : List S40} {A : Option Addr} {c : Nat} {w W0 : World} {B : Nat} (x : GF W0) (a' : Act) : OwnFrom B (fun (_ : Unit) W => AxJ ch l A c w x a' W) := fun s X Y row hs hg hr => by
  obtain ⟨Bx, h1, h2, h3⟩ := hs
  refine ⟨Bx, h1, (hg.block Bx (Array.getElem?_eq_some_iff.1 h2).1 (fun e => ?_)).trans h2, h3⟩
  obtain ⟨_, o, ho, hc⟩ := hr Bx e.symm
  rw [h2] at ho
  cases ho
  cases hc
set_option maxRecDepth 100000 in
set_option maxHeartbeats 4000000 in
theorem join_any (ch : Int) (l : List S40) (A : Option Addr) (c : Nat) (w : World) (hC : Kd.C k40 w A l.length l) (hc : l.length ≤ c) (hwf : ∀ x ∈ l, (Lit.int .i64 x.f1).wf = true) :
    Calls Try.prog 14 #[.int .u64 ch, .slice A l.length c] w (JoinPost (joinP ch l) w) := by
  have HC := Aside0.mk hC
  have hm := hC.2.1
  have HFR := Aside0.mk (frames_of hC hwf)
  have hmm := @run_makeMap Try.prog
  have hmf : ∀ (fn : Fn) (first cap : Array Value) (w : World), (Instr.makeFunc fn first cap).run Try.prog w = .ok (.func fn first cap) w := fun _ _ _ _ => rfl
  clear hC
  refine (callsIn_wide (n := 4)).1 ?_
  refine callsIn_of_wp_marks Try.func14 rfl trivial ?_ rfl
  simp only [Try.ntmps14, List.size_toArray, List.length_cons, List.length_nil, Nat.reduceAdd, Nat.reduceSub, Array.replicate_succ, Array.replicate_zero, List.push_toArray, List.append_toArray, List.nil_append, List.cons_append]
  gi_wp2_with (refine ⟨trivial, ?_⟩; gi_at_call 44; refine (callsIn_wide.2 (kept_call _ _ _ ⟨_, _, _, rfl⟩ ⟨_, _, _, rfl⟩)).mono ?_; rintro e w' ⟨rfl, rfl⟩)
  have b0 := ((((((Boxed.new w 27 (.int .u64 ch)).alloc (.map #[] 0)).alloc (.cells #[.map (some (w.heap.size + 1))] 76)).alloc (.cells #[.int .i64 0] 3)).alloc (.cells #[.bool false] 4)).alloc (.cells #[.slice A l.length c] 22)).alloc (.cells #[.func (.func 45) #[] #[.pointer (some ⟨w.heap.size, 0, none⟩)]] 75)
  have b2 := ((((Boxed.new ((w.alloc (.cells #[.int .u64 ch] 27)).alloc (.map #[] 0)) 76 (.map (some (w.heap.size + 1)))).alloc (.cells #[.int .i64 0] 3)).alloc (.cells #[.bool false] 4)).alloc (.cells #[.slice A l.length c] 22)).alloc (.cells #[.func (.func 45) #[] #[.pointer (some ⟨w.heap.size, 0, none⟩)]] 75)
  have b3 := (((Boxed.new (((w.alloc (.cells #[.int .u64 ch] 27)).alloc (.map #[] 0)).alloc (.cells #[.map (some (w.heap.size + 1))] 76)) 3 (.int .i64 0)).alloc (.cells #[.bool false] 4)).alloc (.cells #[.slice A l.length c] 22)).alloc (.cells #[.func (.func 45) #[] #[.pointer (some ⟨w.heap.size, 0, none⟩)]] 75)
  have b4 := ((Boxed.new ((((w.alloc (.cells #[.int .u64 ch] 27)).alloc (.map #[] 0)).alloc (.cells #[.map (some (w.heap.size + 1))] 76)).alloc (.cells #[.int .i64 0] 3)) 4 (.bool false)).alloc (.cells #[.slice A l.length c] 22)).alloc (.cells #[.func (.func 45) #[] #[.pointer (some ⟨w.heap.size, 0, none⟩)]] 75)
  have b5 := (Boxed.new (((((w.alloc (.cells #[.int .u64 ch] 27)).alloc (.map #[] 0)).alloc (.cells #[.map (some (w.heap.size + 1))] 76)).alloc (.cells #[.int .i64 0] 3)).alloc (.cells #[.bool false] 4)) 22 (.slice A l.length c)).alloc (.cells #[.func (.func 45) #[] #[.pointer (some ⟨w.heap.size, 0, none⟩)]] 75)
  have b6 := Boxed.new ((((((w.alloc (.cells #[.int .u64 ch] 27)).alloc (.map #[] 0)).alloc (.cells #[.map (some (w.heap.size + 1))] 76)).alloc (.cells #[.int .i64 0] 3)).alloc (.cells #[.bool false] 4)).alloc (.cells #[.slice A l.length c] 22)) 75 (.func (.func 45) #[] #[.pointer (some ⟨w.heap.size, 0, none⟩)])
  have bM := (((((World.ownsMap_made (w.alloc (.cells #[.int .u64 ch] 27)) Try.prog 3 RJ).alloc (.cells #[.map (some (w.heap.size + 1))] 76)).alloc (.cells #[.int .i64 0] 3)).alloc (.cells #[.bool false] 4)).alloc (.cells #[.slice A l.length c] 22)).alloc (.cells #[.func (.func 45) #[] #[.pointer (some ⟨w.heap.size, 0, none⟩)]] 75)
  simp only [World.size_alloc] at b2 b3 b4 b5 b6 bM
  have hB0 : Below w.heap.size w ((((((((w.alloc (.cells #[.int .u64 ch] 27)).alloc (.map #[] 0)).alloc (.cells #[.map (some (w.heap.size + 1))] 76)).alloc (.cells #[.int .i64 0] 3)).alloc (.cells #[.bool false] 4)).alloc (.cells #[.slice A l.length c] 22)).alloc (.cells #[.func (.func 45) #[] #[.pointer (some ⟨w.heap.size, 0, none⟩)]] 75))) :=
    below_alloc (below_alloc (below_alloc (below_alloc (below_alloc (below_alloc (below_alloc (Below.refl _ w) _) _) _) _) _) _) _
  have hsz : ((((((((w.alloc (.cells #[.int .u64 ch] 27)).alloc (.map #[] 0)).alloc (.cells #[.map (some (w.heap.size + 1))] 76)).alloc (.cells #[.int .i64 0] 3)).alloc (.cells #[.bool false] 4)).alloc (.cells #[.slice A l.length c] 22)).alloc (.cells #[.func (.func 45) #[] #[.pointer (some ⟨w.heap.size, 0, none⟩)]] 75))).heap.size = w.heap.size + 7 := by simp
  obtain ⟨W0, hW0⟩ : ∃ W0, ((((((((w.alloc (.cells #[.int .u64 ch] 27)).alloc (.map #[] 0)).alloc (.cells #[.map (some (w.heap.size + 1))] 76)).alloc (.cells #[.int .i64 0] 3)).alloc (.cells #[.bool false] 4)).alloc (.cells #[.slice A l.length c] 22)).alloc (.cells #[.func (.func 45) #[] #[.pointer (some ⟨w.heap.size, 0, none⟩)]] 75))) = W0 := ⟨_, rfl⟩
  rw [hW0] at b0 b2 b3 b4 b5 b6 bM hB0 hsz ⊢
  clear hW0
  obtain ⟨V0, hV0, hrow⟩ := HFR.out
  obtain ⟨V, hVV⟩ : ∃ V : List (GF W0), V.map (·.1) = V0 := by
    refine ⟨V0.pmap (fun p h => ⟨p, h⟩) (fun p hp => ?_), ?_⟩
    · obtain ⟨i, hi, rfl⟩ := List.mem_iff_getElem.1 hp
      obtain ⟨_, g1, g2, g3⟩ := hrow i hi
      exact ⟨g1, g2, Kd.C_below g3 hB0⟩
    · rw [List.map_pmap]; simp
  subst hVV
  have hVl : V.length = l.length := by rw [← hV0]; simp
  have HIJ0 : IJp w.heap.size w ([] : List (GF W0)) W0 := ⟨b2, b3, b4, bM, hB0, by omega⟩
  refine wpIn_rangeFunc_ownH (F := Fence.wide) rfl (by decide) (gf := 61) (lb := #[.pointer (some ⟨w.heap.size + 1 + 1 + 1 + 1 + 1, 0, none⟩), .pointer (some ⟨w.heap.size + 1 + 1 + 1 + 1 + 1 + 1, 0, none⟩)]) rfl trivial (enters_of Try.func61 (by kernel_rfl) rfl)
    (kept_stops 3 (by decide) w W0 hB0 (by omega) ch V A c (by omega) (fun i hi => ?hrows) b0 (by rw [hVl]; exact b5) b6) (fun h k => h.trans k) (fun W l o o' hl _ _ _ => KJ.put W l o' (by omega)) (Below.refl _ _) (fun _ => rfl)
    (fun pre W => IJp w.heap.size w pre W) (fun _ _ _ => False) (IJp.own rfl (by omega)) (fun _ _ _ _ _ hs _ _ => hs) HIJ0
    (fun x a' W => AxJ ch l A c w x a' W) (fun x a' => AxJ.own x a') ?assign ?body ?done ?stop
  case hrows =>
    have h1 := hrow i (by simpa using hi)
    simp only [List.getElem_map] at h1
    exact ⟨h1.1, h1.2.2.2⟩
  case stop =>
    rintro D c pre W _ _ h _
    exact h.elim
  case assign =>
    rintro l1 pre ⟨⟨⟨a0, a1, a2, a3⟩, Ax, cx⟩, hg⟩ W K hI hK
    dsimp only [FV.val]
    gi_wp2
    exact hK _ _ ((KeepsOthers.alloc _ _).from _) (KJ.of_below (below_alloc (Below.refl _ W) _)) ((IJp.own (B := W0.heap.size) rfl (by omega)).alloc _ hI) ⟨W.heap.size, by have := hI.size; omega, World.alloc_heap_new W _, rfl⟩
  case body =>
    rintro l1 pre ⟨⟨⟨a0, a1, a2, a3⟩, Ax, cx⟩, hg⟩ a' W hl ⟨r, hr⟩ hI ⟨Bx, hBx, hX, rfl⟩ hlt
    have hok := Aside0.mk (foldS_ok (pre.map (·.1)))
    have hwf1 : (Lit.int .i64 a1).wf = true := hg.1
    have hfin := fun W' => IJp.snoc (b := w.heap.size) (w := w) (W := W') (pre := pre) (x := ⟨⟨⟨a0, a1, a2, a3⟩, Ax, cx⟩, hg⟩)
    have hI' : IJs w.heap.size w pre.length (foldS (pre.map (·.1))) W := hI
    have hstep : stepS (foldS (pre.map (·.1))) ⟨⟨a0, a1, a2, a3⟩, Ax, cx⟩ = stepS (foldS (pre.map (·.1))) ⟨⟨a0, a1, a2, a3⟩, Ax, cx⟩ := rfl
    dsimp only at hX hfin
    have hpl : pre.length < maxLen := by unfold maxLen; omega
    generalize foldS (pre.map (·.1)) = st at *
    obtain ⟨D, en, ended⟩ := st
    obtain ⟨x6, x7, x8, xM, xB, xS⟩ := hI'
    dsimp only at x6 x7 x8 xM
    clear hI hstep
    have HM := Aside0.mk xM
    have HF := Aside0.mk hfin
    have hcx := cf4 ⟨hX⟩
    have c6 := x6.cell
    have c7 := x7.cell
    have c8 := x8.cell
    have f7 := x7.frozen
    have f8 := x8.frozen
    clear hfin xM
    dsimp only [slotsJ]
    cases hfr : frameAt (pre.map (·.1)) a1 with
    | some q =>
      obtain ⟨⟨q0, q1, q2, q3⟩, Aq, cq⟩ := q
      have HFR2 := Aside0.mk hfr
      clear hfr
      gi_wp2_with (first
        | (gi_at_lookup; refine lookupIn_J _ rfl _ _ rfl (w.heap.size + 1) pre.length _ _ hok rfl HM a1 rfl hwf1 _ HFR2.out ?_; simp only [heldAt, FV.val, Option.isSome_some]))
      exact ⟨(KeepsOthers.alloc _ _).from _, KJ.of_below (below_alloc (Below.refl _ W) _), HF.out _ (by rw [stepS_old hok.out HFR2.out]; exact ⟨x6.alloc _, x7.alloc _, x8.alloc _, (HM.out.alloc _).mono (Nat.le_succ _), below_alloc xB _, by simp; omega⟩)⟩
    | none =>
      have HFR2 := Aside0.mk hfr
      have HST := Aside0.mk (stepS_new (p := ⟨⟨a0, a1, a2, a3⟩, Ax, cx⟩) hok.out hfr)
      clear hfr
      have HSS : Aside0 (w.heap.size + 1 ≠ w.heap.size + 1 + 1 + 1 ∧ w.heap.size + 1 ≠ w.heap.size + 1 + 1 + 1 + 1) := ⟨by omega, by omega⟩
      have hclose : ∀ (w1 : World) (e' : Int) (en' : Bool) (W' : World), W'.heap.size = w1.heap.size → (if (a2 && (!ended || decide (a1 < en))) = true then (a1, true) else (en, ended)) = (e', en') →
          (W.alloc (.cells #[.int .u64 0, .int .i64 0, .bool false, .slice none 0 0] 40)).grownBy w1 (some (w.heap.size + 1)) → w1.ownsMap Try.prog 3 RJ (w.heap.size + 1) (pre.length + 1) (D.put (.int .i64 a1) (.held (.agg #[.int .u64 a0, .int .i64 a1, .bool a2, .slice Ax a3.length cx]))) →
          KeepsFrom (w.heap.size + 7) w1 W' → KJ w.heap.size w1 W' → Boxed W' (w.heap.size + 1 + 1 + 1) 3 (.int .i64 e') → Boxed W' (w.heap.size + 1 + 1 + 1 + 1) 4 (.bool en') → Boxed W' (w.heap.size + 1 + 1) 76 (.map (some (w.heap.size + 1))) → Below w.heap.size w W' →
          W'.heap[w.heap.size + 1]? = w1.heap[w.heap.size + 1]? →
          KeepsFrom (w.heap.size + 7) W W' ∧ KJ w.heap.size W W' ∧ IJp w.heap.size w (pre ++ [⟨⟨⟨a0, a1, a2, a3⟩, Ax, cx⟩, hg⟩]) W' := by
        intro w1 e' en' W' hs hif hgr hmp hkf hkj hb7 hb8 hb6 hbl hmb
        have hgs := hgr.size
        simp only [World.size_alloc] at hgs
        refine ⟨((KeepsOthers.alloc _ _).from _).trans ((KeepsFrom.of_grownBy hgr (fun j e => by injection e with e; omega)).trans hkf), (KJ.of_below (below_alloc (Below.refl _ W) _)).trans ((KJ.grown hgr (by omega) (by omega)).trans hkj), HF.out _ ?_⟩
        rw [HST.out]
        dsimp only
        rw [hif]
        obtain ⟨es, clock, q1, q2, q3, q4⟩ := hmp
        exact ⟨hb6, hb7, hb8, ⟨es, clock, hmb.trans q1, q2, q3, q4⟩, hbl, by omega⟩
      have HCL := Aside0.mk hclose
      clear hclose
      have hbW := Aside0.mk (below_alloc xB (.cells #[.int .u64 0, .int .i64 0, .bool false, .slice none 0 0] 40))
      have z6 := (x6.alloc (.cells #[.int .u64 0, .int .i64 0, .bool false, .slice none 0 0] 40)).cell
      have hcx0 := cf4 ⟨(Below.heap_alloc W (.cells #[.int .u64 0, .int .i64 0, .bool false, .slice none 0 0] 40) Bx (Array.getElem?_eq_some_iff.1 hX).1).trans hX⟩
      cases a2 <;> cases ended <;> by_cases hlt2 : a1 < en
      all_goals first
        | have hd : decide (a1 < en) = true := decide_eq_true hlt2
        | have hd : decide (a1 < en) = false := decide_eq_false hlt2
      all_goals
        clear hlt2
        gi_wp2_with (first
          | (gi_at_lookup; refine lookupIn_J _ rfl _ _ rfl (w.heap.size + 1) pre.length _ _ hok rfl HM a1 rfl hwf1 _ HFR2.out ?_; simp only [heldAt, noFrame, Option.isSome_none])
          | (gi_at_mapUpdate; refine wpListIn_mapUpdate_own _ rfl _ _ _ 76 rfl 3 40 (Maps.int_keyed Try.underlying3) Try.underlying76 RJ (w.heap.size + 1) pre.length D rfl (HM.out.alloc _) hpl _ _ _ rfl rfl (keyS hwf1) _ [] rfl ?_; intro w1 hown1 hgrow1; have HO1 := Aside0.mk hown1; have HG1 := Aside0.mk hgrow1; have y6 := Aside0.mk ((x6.alloc _).kept hgrow1 (fun e => by injection e with e; omega)); have y7 := Aside0.mk ((x7.alloc _).kept hgrow1 (fun e => by injection e with e; omega)); have y8 := Aside0.mk ((x8.alloc _).kept hgrow1 (fun e => by injection e with e; omega)); have d7 := y7.out.cell; have d8 := y8.out.cell; have g7 := y7.out.frozen; have g8 := y8.out.frozen; have hcx1 := cf4 ⟨(hgrow1.block Bx (by have := (Array.getElem?_eq_some_iff.1 hX).1; simp; omega) (fun e => by injection e with e; omega)).trans ((Below.heap_alloc W _ Bx (Array.getElem?_eq_some_iff.1 hX).1).trans hX)⟩; clear hown1 hgrow1))
      all_goals
        have hB1 := hbW.out.grown HG1.out (by simp; omega) (fun k e => by injection e with e; omega)
        first
          | exact HCL.out w1 en _ w1 rfl (by simp [hd]) HG1.out HO1.out (KeepsFrom.refl _ _) (KJ.of_below (Below.refl _ _)) y7.out y8.out y6.out hB1 rfl
          | exact HCL.out w1 a1 true _ (by simp) (by simp [hd]) HG1.out HO1.out (((KeepsOthers.setCell _ _ _).from _).trans ((KeepsOthers.setCell _ _ _).from _)) ((KJ.setCell _ _ _ _ (by omega) (by omega)).trans (KJ.setCell _ _ _ _ (by omega) (by omega)))
              ((y7.out.set (.int .i64 a1)).other (by omega) _) ((y8.out.other (by omega) _).set (.bool true)) ((y6.out.other (by omega) _).other (by omega) _) (below_set (below_set hB1 (by omega)) (by omega))
              ((Below.heap_setCell _ ⟨w.heap.size + 1 + 1 + 1 + 1, 0, none⟩ _ _ HSS.out.2).trans (Below.heap_setCell _ ⟨w.heap.size + 1 + 1 + 1, 0, none⟩ _ _ HSS.out.1))
  case done =>
    rintro D xs W hD rfl hI hK
    rename_i K1 hK1
    refine hK1 _ _ (wpIn_wide.2 ?_)
    clear hK1 K1
    have hI' : IJs w.heap.size w (V.filter (fun p => keepF ch p.1.x)).length (foldS ((V.filter (fun p => keepF ch p.1.x)).map (·.1))) W := hI
    have hfm : (V.filter (fun p => keepF ch p.1.x)).map (·.1) = (V.map (·.1)).filter (fun p => keepF ch p.x) := by rw [List.filter_map]; rfl
    rw [hfm] at hI'
    have HOK := Aside0.mk (foldS_ok ((V.map (·.1)).filter (fun p => keepF ch p.x)))
    have hend := fold_end ch (V.map (·.1)) HOK.out
    rw [hV0] at hend
    have HCF : Aside0 (∀ s, cntF ch l s = (frameAt ((V.map (·.1)).filter (fun p => keepF ch p.x)) s).map (·.x)) := ⟨fun s => by rw [← hV0]; exact cnt_frameAt ch s _⟩
    have HMEM : Aside0 (∀ s q, frameAt ((V.map (·.1)).filter (fun p => keepF ch p.x)) s = some q → Good w q) := ⟨fun s q h => by
      have h1 := (List.mem_filter.1 (frameAt_mem h)).1
      obtain ⟨i, hi, rfl⟩ := List.mem_iff_getElem.1 h1
      exact (hrow i hi).2⟩
    generalize foldS ((V.map (·.1)).filter (fun p => keepF ch p.x)) = st at *
    generalize (V.map (·.1)).filter (fun p => keepF ch p.x) = ys at *
    generalize (V.filter (fun p => keepF ch p.1.x)).length = nm at *
    obtain ⟨DD, en, ended⟩ := st
    obtain ⟨x6, x7, x8, xM, xB, xS⟩ := hI'
    dsimp only at x6 x7 x8 xM hend
    have HM := Aside0.mk xM
    have HJ := Aside0.mk (joinP_end hend)
    have HD : Aside0 (D < W.heap.size) := ⟨(Array.getElem?_eq_some_iff.1 hK).1⟩
    have HK := Aside0.mk hK
    have HXB := Aside0.mk xB
    have HX6 := Aside0.mk x6
    have c7 := x7.cell
    have c8 := x8.cell
    clear hI xM hfm hrow hVl hV0 HIJ0 bM b6 b5 b4 b3 b2 b0 hB0 HFR hmm hmf hwf x6 x7 x8 xB hK
    cases ended with
    | false =>
      have HJn : Aside0 (joinP ch l = none) := ⟨HJ.out⟩
      clear hend
      go_wp2
      refine ⟨by simp, .inl ⟨_, _, rfl, run_takeDeferred HK.out, ?_⟩⟩
      refine ⟨_, results_tmp2 rfl _ _ _, HXB.out.trans (belowK_b (w := w) (Nat.le_refl _) W D _ _ (by omega) HK.out rfl rfl), ?_⟩
      rw [HJn.out]
      rfl
    | true =>
      obtain ⟨⟨f0, hf0, hl0⟩, _⟩ := hend.2 rfl
      have hmy := (cnt_may hf0).2
      have hbd : 0 ≤ en ∧ en < 1024 := by
        have h4 := hmy.1
        simp only [mayF, Bool.and_eq_true, decide_eq_true_eq] at h4
        rw [hmy.2.2] at h4
        exact ⟨h4.1.1, h4.1.2⟩
      clear hmy hf0 hl0 hend
      obtain ⟨n, rfl⟩ := Int.eq_ofNat_of_zero_le hbd.1
      have hn : n < 1024 := by omega
      obtain ⟨res, hres⟩ : ∃ r, r = joinP ch l := ⟨_, rfl⟩
      have HRES := Aside0.mk hres
      have HJt : Aside0 (res = loop2 ch l (n + 1) 0 []) := ⟨by rw [hres]; exact HJ.out⟩
      rw [← hres]
      clear hbd hres HJ
      go_wp2
      go_loopw [12, 51] (fun v12 v51 wr => ∃ (i : Nat) (acc : List Int), i ≤ n + 1 ∧ v51 = .int .i64 (i : Int) ∧ Aside0 (res = loop2 ch l (n + 1 - i) i acc) ∧ Aside0 (acc.length ≤ i * 4096) ∧ Aside0 (Kd.R (Kd.int .u8) 5 wr W.heap.size (fun _ => True) v12 acc) ∧ Aside0 (Below W.heap.size W wr)) (fun _ v51 _ => n + 1 - (intOf v51).toNat)
      case atStart => exact ⟨0, [], by omega, rfl, HJt, ⟨by simp⟩, ⟨Kd.R_nil _ _ _ _ _⟩, ⟨Below.refl _ _⟩⟩
      case round =>
        obtain ⟨i, acc, hi, rfl, HJ, HL, HR, HBr⟩ := hrel
        have HXr := Aside0.mk (HXB.out.trans (HBr.out.mono HXB.out.size))
        have HMr := Aside0.mk (HM.out.kept (grownBy_below HBr.out) (by simp))
        have HKr := Aside0.mk ((HBr.out.block D HD.out).trans HK.out)
        have c6r := pw_cell_below HBr.out HX6.out.cell
        have HDr : Aside0 (D < wr.heap.size) := ⟨Nat.lt_of_lt_of_le HD.out HBr.out.size⟩
        by_cases hlt : i < n + 1
        · have hd1 : decide ((i : Int) < (n : Int) + 1) = true := decide_eq_true (by omega)
          have hd2 : decide (i < n + 1) = true := decide_eq_true hlt
          have hj := HJ.out
          rw [loop2_next hlt, HCF.out] at hj
          have hwfi := wfS (i := i) (by omega)
          have hLi := HL.out
          cases hfr : frameAt ys i with
          | none =>
            rw [hfr] at hj
            have HN : Aside0 (res = none) := ⟨hj⟩
            have HFR2 := Aside0.mk hfr
            clear hj hfr hLi
            go_wp2_with (first
              | (at_lookup; refine lookup_J _ rfl _ _ rfl (w.heap.size + 1) nm _ _ HOK rfl HMr i rfl hwfi _ HFR2.out ?_; simp only [heldAt, noFrame, Option.isSome_none]))
            refine ⟨by simp, .inl ⟨_, _, rfl, run_takeDeferred ((Below.heap_alloc wr _ D HDr.out).trans HKr.out), ?_⟩⟩
            refine ⟨_, results_tmp2 rfl _ _ _, ?_⟩
            obtain rfl := HN.out
            exact ⟨(below_alloc HXr.out _).trans (belowK_b (w := w) (Nat.le_refl _) _ D _ _ (by omega) ((Below.heap_alloc wr _ D HDr.out).trans HKr.out) rfl rfl), rfl⟩
          | some q =>
            rw [hfr] at hj
            have HN := Aside0.mk hj
            have HFR2 := Aside0.mk hfr
            have hgq := HMEM.out i q hfr
            have hq2 : q.x.f3.length ≤ 4096 := may_len (cnt_may (by rw [HCF.out, hfr]; rfl : cntF ch l i = some q.x)).2.1
            have HCq := Aside0.mk (Kd.C_below hgq.2.2 HXr.out)
            obtain ⟨⟨q0, q1, q2, q3⟩, Aq, cq⟩ := q
            dsimp only at HN HCq hq2
            have HLq : Aside0 (acc.length + q3.length ≤ 140737488355328 ∧ (acc ++ q3).length ≤ (i + 1) * 4096) := ⟨by omega, by rw [List.length_append]; omega⟩
            clear hj hfr hgq hLi hq2
            go_wp2_with (first
              | (at_lookup; refine lookup_J _ rfl _ _ rfl (w.heap.size + 1) nm _ _ HOK rfl HMr i rfl hwfi _ HFR2.out ?_; simp only [heldAt, FV.val, Option.isSome_some])
              | ((with_reducible refine gate_builtin (b := .append) (xs := #[.tmp 62, .tmp 64]) rfl ?_); refine app_bytes (w0 := W) rfl (.tmp 62) (.tmp 64) rfl u12 acc q3 Aq cq (fun _ => True) rfl rfl ⟨below_alloc HBr.out _⟩ (Kd.R_alloc HR.out _) (Kd.C_alloc HCq.out _) (fun _ _ => trivial) HLq.out.1 ?_; intro v5 w5 HO5 HB5 hg5 hat5))
            go_roundw
            case rel => exact ⟨i + 1, acc ++ q3, by omega, by go_num, HN, ⟨HLq.out.2⟩, HO5, HB5⟩
            case measure => simp [intOf]; omega
        · have hd1 : decide ((i : Int) < (n : Int) + 1) = false := decide_eq_false (by omega)
          have hd2 : decide (i < n + 1) = false := decide_eq_false hlt
          obtain rfl : i = n + 1 := by omega
          have HJe : Aside0 (res = some acc) := ⟨by have := HJ.out; rw [Nat.sub_self] at this; exact this⟩
          go_wp2
          refine ⟨by simp, .inl ⟨_, _, rfl, run_takeDeferred HKr.out, ?_⟩⟩
          refine ⟨_, results_tmp2 rfl _ _ _, ?_⟩
          obtain rfl := HJe.out
          exact ⟨HXr.out.trans (belowK_b (w := w) (Nat.le_refl _) _ D _ _ (by omega) HKr.out rfl rfl), _, rfl, R_struck HR.out HD.out HXB.out.size⟩
end Go.Proofs.Ytdjoekckhmggbaa.H
namespace Go.Proofs.Ytdjoekckhmggbaa.H
open Go.RowKit Go.Proofs.YtdjoekckhmggbaaW.PrintWords Go.Proofs.YtdjoekckhmggbaaW.PrintLast Go.Proofs.YtdjoekckhmggbaaW.PrintMore Go.Proofs.Ytdjoekckhmggbaa.PRF
attribute [local go_sem] max2_int min2_int max_two min_two max_three min_three max_four min_four
set_option linter.unusedVariables false
set_option linter.unusedSimpArgs false
theorem addr0 (g k : Nat) : (⟨g, 0, none⟩ : Addr).add k = ⟨g, k, none⟩ := by
  unfold Addr.add
  split
  · rename_i h0; rw [h0]
  · simp
theorem rows40 {w : World} {base : Nat} {ok : Nat → Prop} {v : Value} {l : List S40} (h : Kd.R k40 40 w base ok v l) (hne : 0 < l.length) : ∃ g cap, v = .slice (some ⟨g, 0, none⟩) l.length cap ∧ l.length ≤ cap ∧ Kd.C k40 w (some ⟨g, 0, none⟩) l.length l ∧
    ∀ i (h : i < l.length), ∃ A3 c3, w.cell? ⟨g, i * 4, none⟩ = some (.int .u64 l[i].f0) ∧ w.cell? ⟨g, i * 4 + 1, none⟩ = some (.int .i64 l[i].f1) ∧ w.cell? ⟨g, i * 4 + 2, none⟩ = some (.bool l[i].f2) ∧ w.cell? ⟨g, i * 4 + 3, none⟩ = some (.slice A3 l[i].f3.length c3) ∧ l[i].f3.length ≤ c3 ∧ Kd.C (Kd.int .u8) w A3 l[i].f3.length l[i].f3 := by
  obtain ⟨A, c, hv, hc, hC⟩ := Kd.R_reads h
  obtain ⟨_, inner, hown, _⟩ := h
  rcases hown.2 with ⟨rfl, hn⟩ | ⟨g, cap, cur, rfl, _⟩
  · exfalso
    injection hv with _ h2 _
    omega
  · injection hv with h1 h2 h3
    subst h1
    refine ⟨g, cap, by rw [h2], by omega, hC, fun i hi => ?_⟩
    obtain ⟨ad, A3, c3, he, k0, k1, k2, k3, q1, q2⟩ := at_T40 hC (i : Int) (by omega) (by omega)
    injection he with he
    subst he
    rw [rd40 l i hi, Int.toNat_natCast, addr0] at k0 k1 k2 k3
    rw [rd40 l i hi] at q1 q2
    exact ⟨A3, c3, k0, k1, k2, k3, q1, q2⟩
theorem frames3_C {w : World} {g : Nat} {t : TypeId} {fr : Nat × Nat} (x y z : S40) {a b c d a' b' c' d' a'' b'' c'' d'' : Value} (hx : k40.K w x [a, b, c, d]) (hy : k40.K w y [a', b', c', d']) (hz : k40.K w z [a'', b'', c'', d''])
    (h : w.heap[g]? = some (.cells #[a, b, c, d, a', b', c', d', a'', b'', c'', d''] t fr)) : Kd.C k40 w (some ⟨g, 0, none⟩) 3 [x, y, z] := by
  refine ⟨rfl, by omega, fun _ => ⟨_, rfl, fun j p hj => ?_⟩⟩
  have hc := fun k => cell_of_row w g k _ t fr h
  match j, hj with
  | 0, hj =>
    simp only [List.getElem?_cons_zero, Option.some.injEq] at hj
    subst hj
    refine ⟨_, rfl, hx, fun i u hu => ?_⟩
    match i, hu with
    | 0, hu => rw [← hu]; exact hc 0
    | 1, hu => rw [← hu]; exact hc 1
    | 2, hu => rw [← hu]; exact hc 2
    | 3, hu => rw [← hu]; exact hc 3
  | 1, hj =>
    simp only [List.getElem?_cons_succ, List.getElem?_cons_zero, Option.some.injEq] at hj
    subst hj
    refine ⟨_, rfl, hy, fun i u hu => ?_⟩
    match i, hu with
    | 0, hu => rw [← hu]; exact hc 4
    | 1, hu => rw [← hu]; exact hc 5
    | 2, hu => rw [← hu]; exact hc 6
    | 3, hu => rw [← hu]; exact hc 7
  | 2, hj =>
    simp only [List.getElem?_cons_succ, List.getElem?_cons_zero, Option.some.injEq] at hj
    subst hj
    refine ⟨_, rfl, hz, fun i u hu => ?_⟩
    match i, hu with
    | 0, hu => rw [← hu]; exact hc 8
    | 1, hu => rw [← hu]; exact hc 9
    | 2, hu => rw [← hu]; exact hc 10
    | 3, hu => rw [← hu]; exact hc 11
theorem frames1_C {w : World} {g : Nat} {t : TypeId} {fr : Nat × Nat} (x : S40) {a b c d : Value} (hx : k40.K w x [a, b, c, d])
    (h : w.heap[g]? = some (.cells #[a, b, c, d] t fr)) : Kd.C k40 w (some ⟨g, 0, none⟩) 1 [x] := by
  refine ⟨rfl, by omega, fun _ => ⟨_, rfl, fun j p hj => ?_⟩⟩
  have hc := fun k => cell_of_row w g k _ t fr h
  match j, hj with
  | 0, hj =>
    simp only [List.getElem?_cons_zero, Option.some.injEq] at hj
    subst hj
    refine ⟨_, rfl, hx, fun i u hu => ?_⟩
    match i, hu with
    | 0, hu => rw [← hu]; exact hc 0
    | 1, hu => rw [← hu]; exact hc 1
    | 2, hu => rw [← hu]; exact hc 2
    | 3, hu => rw [← hu]; exact hc 3
theorem anch_split : splitP 7 [1, 2, 3] 2 = some [⟨7, 0, false, [1, 2]⟩, ⟨7, 1, true, [3]⟩] := by rfl
theorem anch_join3 : joinP 7 [⟨7, 1, true, [3]⟩, ⟨8, 0, false, []⟩, ⟨7, 0, false, [1, 2]⟩] = some [1, 2, 3] := by rfl
theorem anch_join1 : joinP 7 [⟨7, 1, true, [3]⟩] = none := by rfl
set_option maxHeartbeats 2000000 in
set_option maxRecDepth 100000 in
theorem anchored3 (w : World) : Calls Try.prog 20 #[] w fun e w' => e = .returned (.bool true) ∧ Below w.heap.size w w' := by
  have HB := Aside0.mk (Below.refl w.heap.size w)
  go_enter Try.func20, Try.ntmps20
  go_wp2_with fail
  have HV1 := Aside0.mk (bytes_C (g := w.heap.size) (t := 5) (fr := (0, 0)) (w := w.alloc (Obj.cells #[Value.int IntKind.u8 1, Value.int IntKind.u8 2, Value.int IntKind.u8 3] 5)) [1, 2, 3] (by simp) (blk_new _ _ _ rfl))
  have HB1 := Aside0.mk (below_alloc HB.out (Obj.cells #[Value.int IntKind.u8 1, Value.int IntKind.u8 2, Value.int IntKind.u8 3] 5))
  generalize (w.alloc (Obj.cells #[Value.int IntKind.u8 1, Value.int IntKind.u8 2, Value.int IntKind.u8 3] 5)) = w1 at *
  refine (split_good 7 2 [1, 2, 3] _ 3 w1 (by omega) (by omega) HV1.out (by simp) (by simp)).mono ?_
  rw [show ((2 : Nat) : Int) = 2 from rfl, anch_split]
  rintro e w2 ⟨hE2, v, rfl, hR⟩
  obtain ⟨g2, cap2, rfl, hcap, hC2, hrows⟩ := rows40 hR (by simp)
  obtain ⟨A0, c0, k00, k01, k02, k03, l0, C0⟩ := hrows 0 (by simp)
  obtain ⟨A1, c1, k10, k11, k12, k13, l1, C1⟩ := hrows 1 (by simp)
  simp only [List.length_cons, List.length_nil, List.getElem_cons_zero, List.getElem_cons_succ, Nat.zero_mul, Nat.one_mul, Nat.zero_add, Nat.reduceAdd] at k00 k01 k02 k03 k10 k11 k12 k13 l0 l1 C0 C1 hcap
  have HB2 := Aside0.mk (below_step HB1.out hE2)
  have HC0 := Aside0.mk C0
  have HC1 := Aside0.mk C1
  clear hrows hR hC2 C0 C1 hE2
  go_wp2_with fail
  have HK2 := Aside0.mk (show ∀ W', Below w2.heap.size w2 W' → Below w2.heap.size w2 W' ∧ W'.cell? ⟨g2, 0, none⟩ = some (.int .u64 7) ∧ W'.cell? ⟨g2, 1, none⟩ = some (.int .i64 0) ∧ W'.cell? ⟨g2, 2, none⟩ = some (.bool false) ∧ W'.cell? ⟨g2, 3, none⟩ = some (.slice A0 2 c0) ∧ W'.cell? ⟨g2, 4, none⟩ = some (.int .u64 7) ∧ W'.cell? ⟨g2, 5, none⟩ = some (.int .i64 1) ∧ W'.cell? ⟨g2, 6, none⟩ = some (.bool true) ∧ W'.cell? ⟨g2, 7, none⟩ = some (.slice A1 1 c1) from fun W' h => ⟨h, pw_cell_below h k00, pw_cell_below h k01, pw_cell_below h k02, pw_cell_below h k03, pw_cell_below h k10, pw_cell_below h k11, pw_cell_below h k12, pw_cell_below h k13⟩)
  have hS0 := below_drew (Below.refl w2.heap.size w2)
  have HJ3 := Aside0.mk (show Kd.C k40 ((w2.alloc (Obj.cells #[.int .u64 7, .int .i64 1, .bool true, .slice A1 1 c1, .int .u64 8, .int .i64 0, .bool false, .slice none 0 0, .int .u64 7, .int .i64 0, .bool false, .slice A0 2 c0] 40)).drew) (some ⟨w2.heap.size, 0, none⟩) 3 [⟨7, 1, true, [3]⟩, ⟨8, 0, false, []⟩, ⟨7, 0, false, [1, 2]⟩] from
    Kd.C_below (frames3_C _ _ _ (k40_mk _ ⟨7, 1, true, [3]⟩ l1 (Kd.C_alloc HC1.out _)) (k40_mk _ ⟨8, 0, false, []⟩ (Nat.le_refl _) (Kd.C_nil _ _)) (k40_mk _ ⟨7, 0, false, [1, 2]⟩ l0 (Kd.C_alloc HC0.out _)) (blk_new _ _ _ rfl)) (below_drew (Below.refl _ _)))
  have HKW := Aside0.mk (fun (W' : World) (h : Below ((w2.alloc (Obj.cells #[.int .u64 7, .int .i64 1, .bool true, .slice A1 1 c1, .int .u64 8, .int .i64 0, .bool false, .slice none 0 0, .int .u64 7, .int .i64 0, .bool false, .slice A0 2 c0] 40)).drew).heap.size ((w2.alloc (Obj.cells #[.int .u64 7, .int .i64 1, .bool true, .slice A1 1 c1, .int .u64 8, .int .i64 0, .bool false, .slice none 0 0, .int .u64 7, .int .i64 0, .bool false, .slice A0 2 c0] 40)).drew) W') => show Below w2.heap.size w2 W' from (below_drew (below_alloc (Below.refl _ _) _)).trans (h.mono (by simp)))
  go_region_held3 (fun W' => Below w2.heap.size w2 W' ∧ W'.cell? ⟨g2, 0, none⟩ = some (.int .u64 7) ∧ W'.cell? ⟨g2, 1, none⟩ = some (.int .i64 0) ∧ W'.cell? ⟨g2, 2, none⟩ = some (.bool false) ∧ W'.cell? ⟨g2, 3, none⟩ = some (.slice A0 2 c0) ∧ W'.cell? ⟨g2, 4, none⟩ = some (.int .u64 7) ∧ W'.cell? ⟨g2, 5, none⟩ = some (.int .i64 1) ∧ W'.cell? ⟨g2, 6, none⟩ = some (.bool true) ∧ W'.cell? ⟨g2, 7, none⟩ = some (.slice A1 1 c1))
    (first | exact HK2.out _ (by assumption) | exact HK2.out _ (below_drew (below_alloc (Below.refl _ _) _)))
    ((go_at_call 14; refine (join_any 7 [⟨7, 1, true, [3]⟩, ⟨8, 0, false, []⟩, ⟨7, 0, false, [1, 2]⟩] _ 3 _ HJ3.out (by simp) (by decide)).mono ?_; rw [anch_join3]; rintro e w3 ⟨hE3, v3, rfl, hR3⟩; have HW3 := HKW.out _ hE3))
  have hk3 := HK2.out w3 HW3
  have HW3a := Aside0.mk HW3
  have hk3' := hk3.2
  obtain ⟨A3, n3, c3, rfl, hn3⟩ := R_shape hR3
  have HR3 := Aside0.mk (Kd.R_reads' hR3)
  have HN3 := Aside0.mk hn3
  have HC1a := Aside0.mk (Kd.C_below HC1.out HW3)
  clear hk3 hn3 hR3 k00 k01 k02 k03 k10 k11 k12 k13 HW3 hS0 HKW HJ3 HK2
  go_wp2_with fail
  have HF1 := Aside0.mk (frames1_C (w := w3.alloc (Obj.cells #[.int .u64 7, .int .i64 1, .bool true, .slice A1 1 c1] 40)) (g := w3.heap.size) (t := 40) (fr := (0, 0)) ⟨7, 1, true, [3]⟩ (k40_mk _ ⟨7, 1, true, [3]⟩ l1 (Kd.C_alloc HC1a.out _)) (blk_new _ _ _ rfl))
  have HE4 := Aside0.mk (below_alloc (Below.refl _ w3) (Obj.cells #[.int .u64 7, .int .i64 1, .bool true, .slice A1 1 c1] 40))
  generalize (w3.alloc (Obj.cells #[.int .u64 7, .int .i64 1, .bool true, .slice A1 1 c1] 40)) = w4 at *
  refine (join_any 7 [⟨7, 1, true, [3]⟩] _ 1 w4 HF1.out (by simp) (by decide)).mono ?_
  rw [anch_join1]
  rintro e w5 ⟨hE5, rfl⟩
  have HE5 := Aside0.mk (HE4.out.trans (hE5.mono HE4.out.size))
  have HB5 := Aside0.mk (HB2.out.trans ((HW3a.out.trans (HE5.out.mono HW3a.out.size)).mono HB2.out.size))
  clear hE5
  obtain rfl : n3 = 3 := HN3.out
  go_wp2_with fail
  have HC6 := Aside0.mk (bytes_C (g := w5.heap.size) (t := 5) (fr := (0, 0)) (w := w5.alloc (Obj.cells #[Value.int IntKind.u8 1, Value.int IntKind.u8 2, Value.int IntKind.u8 3] 5)) [1, 2, 3] (by simp) (blk_new _ _ _ rfl))
  refine (proctorref01_Same.calls A3 c3 [1, 2, 3] _ 3 [1, 2, 3] true _ (Kd.C_alloc (Kd.C_below HR3.out.2.2 HE5.out) _) HR3.out.2.1 HC6.out (by simp) (by unfold proctorref01_Same.f; simp)).mono ?_
  rintro e w6 ⟨rfl, hd⟩
  have HB6 := Aside0.mk (below_step (below_alloc HB5.out _) hd.below)
  clear hd
  go_wp2
  go_ret
  exact ⟨rfl, HB6.out⟩
end Go.Proofs.Ytdjoekckhmggbaa.H
namespace Go.Proofs.Ytdjoekckhmggbaa.H
open Go.RowKit Go.Proofs.YtdjoekckhmggbaaW.PrintWords Go.Proofs.YtdjoekckhmggbaaW.PrintLast Go.Proofs.YtdjoekckhmggbaaW.PrintMore Go.Proofs.Ytdjoekckhmggbaa.PRF
attribute [local go_sem] max2_int min2_int max_two min_two max_three min_three max_four min_four
set_option linter.unusedVariables false
set_option linter.unusedSimpArgs false
theorem one03_self (x : S40) : proctorref03_One.f x.f0 x.f1 x.f2 x.f3 x.f0 x.f1 x.f2 x.f3 = some true := by
  simp [proctorref03_One.f, proctorref01_Same.f]
theorem same01_self (l : List Int) : proctorref01_Same.f l l = some true := by unfold proctorref01_Same.f; simp
end Go.Proofs.Ytdjoekckhmggbaa.H
namespace Go.Proofs.Ytdjoekckhmggbaa.H
open Go.RowKit Go.Proofs.YtdjoekckhmggbaaW.PrintWords Go.Proofs.YtdjoekckhmggbaaW.PrintLast Go.Proofs.YtdjoekckhmggbaaW.PrintMore Go.Proofs.Ytdjoekckhmggbaa.PRF
open Go.ChangeShapes Go.WideShapes Go.ChangeAt
set_option linter.unusedVariables false
set_option linter.unusedSimpArgs false
theorem cells_of_40 : Try.prog.cellsOf 40 = 4 := by kernel_rfl
def FrOk (y : S40) : Prop := (Lit.int .u64 y.f0).wf = true ∧ (Lit.int .i64 y.f1).wf = true ∧ Byt y.f3
set_option maxRecDepth 100000 in
theorem open_frame {H : Type} {enc : TypeId × Value → H} {W : World} {fuel : Nat} {cs : List Value} {x : DataW H × List MemPlace}
    (h : DataW.trod enc Try.prog W 0 (fun _ => true) true fuel 40 cs = some x) : ∃ y : S40, k40.K W y cs ∧ FrOk y := by
  obtain ⟨xs, n, hfu, _, hl, hlen, hf⟩ := DataW.trod_struct Try.underlying40 h
  rw [cells_of_40] at hl
  match xs, hlen with
  | [y0, y1, y2, y3], _ =>
    match cs, hl with
    | [c0, c1, c2, c3], _ =>
      have h0 : DataW.trod enc Try.prog W 0 (fun _ => true) true n 27 [c0] = some y0 := hf 0 _ rfl
      have h1 : DataW.trod enc Try.prog W 0 (fun _ => true) true n 3 [c1] = some y1 := hf 1 _ rfl
      have h2 : DataW.trod enc Try.prog W 0 (fun _ => true) true n 4 [c2] = some y2 := hf 2 _ rfl
      have h3 : DataW.trod enc Try.prog W 0 (fun _ => true) true n 24 [c3] = some y3 := hf 3 _ rfl
      obtain ⟨a0, e0, _, w0⟩ := DataW.trod_int Try.underlying27 h0
      obtain ⟨a1, e1, _, w1⟩ := DataW.trod_int Try.underlying3 h1
      obtain ⟨b, hb, _⟩ := DataW.trod_bool Try.underlying4 h2
      obtain ⟨A3, l3, d3, hc3, hl3, hC3, hB3⟩ := open_bytes h3
      simp only [List.cons.injEq, and_true] at e0 e1 hb hc3
      subst e0 e1 hb hc3
      exact ⟨⟨a0, a1, b, l3⟩, k40_mk W ⟨a0, a1, b, l3⟩ hl3 hC3, w0, w1, hB3⟩
set_option maxRecDepth 100000 in
theorem open_arg40 {H : Type} {enc : TypeId × Value → H} {W : World} {r : Reach} {b0 : Nat} {v : Value} {d : DataW H} {p : List MemPlace}
    (hv : Value.okWide Try.prog W r b0 40 v) (h : DataW.Trod enc Try.prog W 0 (fun _ => true) true 40 v d p) :
    ∃ (x : S40) (A : Option Addr) (c : Nat), v = .agg #[.int .u64 x.f0, .int .i64 x.f1, .bool x.f2, .slice A x.f3.length c] ∧ FrOk x ∧ Kd.C (Kd.int .u8) W A x.f3.length x.f3 ∧ x.f3.length ≤ c := by
  obtain ⟨cs, rfl, hsz⟩ := okWide_struct Try.underlying40 hv
  obtain ⟨fuel, hf⟩ := h
  obtain ⟨y, hK, hB⟩ := open_frame hf
  obtain ⟨A, c, hc, h1, h2⟩ := k40_open hK
  have hc' : cs.toList = [.int .u64 y.f0, .int .i64 y.f1, .bool y.f2, .slice A y.f3.length c] := hc
  refine ⟨y, A, c, ?_, hB, h2, h1⟩
  congr 1
  apply Array.toList_inj.1
  exact hc'
end Go.Proofs.Ytdjoekckhmggbaa.H
