import Derived.Test.YtdjoekckhmggbaaZMD
import Derived.ArgAppend
import Derived.SizedLaws
namespace Go.Proofs.Ytdjoekckhmggbaa.H
open Go.RowKit Go.Proofs.YtdjoekckhmggbaaW.PrintWords Go.Proofs.YtdjoekckhmggbaaW.PrintLast Go.Proofs.YtdjoekckhmggbaaW.PrintMore Go.Proofs.Ytdjoekckhmggbaa.PRF
attribute [local go_sem] max2_int min2_int max_two min_two max_three min_three max_four min_four
set_option linter.unusedVariables false
set_option linter.unusedSimpArgs false
def Q8 (w : World) (g c : Nat) : Prop := ∃ cs : Array Value, w.heap[g]? = some (.cells cs 5 (0, 0)) ∧ cs.size = c
theorem Q8.set {w : World} {g c i : Nat} {z : Value} (h : Q8 w g c) : Q8 (w.setCell ⟨g, i, none⟩ z) g c := by
  obtain ⟨cs, h1, h2⟩ := h
  exact ⟨cs.setIfInBounds i z, blk_put h1 i _ rfl, by simp [h2]⟩
theorem Q8.cell {w : World} {g c i : Nat} (h : Q8 w g c) (hi : i < c) : (∃ z, w.cell? ⟨g, i, none⟩ = some z) ∧ w.frozen? ⟨g, i, none⟩ = false := by
  obtain ⟨cs, h1, h2⟩ := h
  exact ⟨⟨cs[i], by rw [blk_cell h1 i, Array.getElem?_eq_getElem (by omega)]⟩, blk_frozen h1 i⟩
theorem Q8.lt {w : World} {g c : Nat} (h : Q8 w g c) : g < w.heap.size := by
  obtain ⟨cs, h1, _⟩ := h
  exact blk_lt h1
theorem Q8.keep {w w' : World} {g c : Nat} (h : Q8 w g c) (hb : w'.heap[g]? = w.heap[g]?) : Q8 w' g c := by
  obtain ⟨cs, h1, h2⟩ := h
  exact ⟨cs, hb.trans h1, h2⟩
theorem Q8.set' {w : World} {g c h i : Nat} {z : Value} (hu : Q8 w g c) : Q8 (w.setCell ⟨h, i, none⟩ z) g c := by
  by_cases he : h = g
  · subst he; exact hu.set
  · exact hu.keep (Below.heap_setCell w _ _ g (fun e => he e.symm))
end Go.Proofs.Ytdjoekckhmggbaa.H
namespace Go.Proofs.Ytdjoekckhmggbaa.H
open Go.RowKit Go.Proofs.YtdjoekckhmggbaaW.PrintWords Go.Proofs.YtdjoekckhmggbaaW.PrintLast Go.Proofs.YtdjoekckhmggbaaW.PrintMore Go.Proofs.Ytdjoekckhmggbaa.PRF
attribute [local go_sem] max2_int min2_int max_two min_two max_three min_three max_four min_four
set_option linter.unusedVariables false
set_option linter.unusedSimpArgs false
def BOk (w : World) (lo hi : Nat) (v : Value) : Prop := v = .slice none 0 0 ∨ ∃ g n c, v = .slice (some ⟨g, 0, none⟩) n c ∧ lo ≤ g ∧ g < hi ∧ Q8 w g c ∧ n ≤ c ∧ n ≤ 1000000
def Row3 (cs : Array Value) (i : Nat) (b : Bool) (u1 u2 : Value) : Prop := cs[i * 3]? = some (.bool b) ∧ cs[i * 3 + 1]? = some u1 ∧ cs[i * 3 + 2]? = some u2
def Sh : Nat → World → Nat → Nat → Value → Value → Prop
  | 0, w, lo, hi, v1, v2 => BOk w lo hi v1 ∧ v2 = .slice none 0 0
  | h + 1, w, lo, hi, v1, v2 => BOk w lo hi v1 ∧ (v2 = .slice none 0 0 ∨ ∃ g n c cs, v2 = .slice (some ⟨g, 0, none⟩) n c ∧ lo ≤ g ∧ g < hi ∧ w.heap[g]? = some (.cells cs 47 (0, 0)) ∧ cs.size = c * 3 ∧ n ≤ c ∧ n ≤ 1000000 ∧
      ∀ i, i < n → ∃ b u1 u2, Row3 cs i b u1 u2 ∧ Sh h w lo hi u1 u2)
structure Soft (lo hi : Nat) (w w' : World) : Prop where
  size : w.heap.size ≤ w'.heap.size
  far : ∀ k, k < w.heap.size → ¬ (lo ≤ k ∧ k < hi) → w'.heap[k]? = w.heap[k]?
  bytes : ∀ g c, lo ≤ g → g < hi → Q8 w g c → Q8 w' g c
  rows : ∀ g cs, lo ≤ g → g < hi → w.heap[g]? = some (.cells cs 47 (0, 0)) → ∃ cs', w'.heap[g]? = some (.cells cs' 47 (0, 0)) ∧ cs'.size = cs.size ∧
    ∀ i b u1 u2, Row3 cs i b u1 u2 → Row3 cs' i b u1 u2 ∨ Row3 cs' i false (.slice none 0 0) (.slice none 0 0)
theorem Soft.refl (lo hi : Nat) (w : World) : Soft lo hi w w := ⟨Nat.le_refl _, fun _ _ _ => rfl, fun _ _ _ _ h => h, fun g cs _ _ h => ⟨cs, h, rfl, fun _ _ _ _ h => .inl h⟩⟩
theorem Soft.trans {lo hi : Nat} {w w' w'' : World} (h1 : Soft lo hi w w') (h2 : Soft lo hi w' w'') : Soft lo hi w w'' := by
  refine ⟨Nat.le_trans h1.size h2.size, fun k hk hn => (h2.far k (Nat.lt_of_lt_of_le hk h1.size) hn).trans (h1.far k hk hn), fun g c a b h => h2.bytes g c a b (h1.bytes g c a b h), fun g cs a b h => ?_⟩
  obtain ⟨cs', q1, q2, q3⟩ := h1.rows g cs a b h
  obtain ⟨cs'', r1, r2, r3⟩ := h2.rows g cs' a b q1
  refine ⟨cs'', r1, r2.trans q2, fun i b u1 u2 hr => ?_⟩
  rcases q3 i b u1 u2 hr with h | h
  · exact r3 i _ _ _ h
  · rcases r3 i _ _ _ h with h | h
    · exact .inr h
    · exact .inr h
theorem Soft.below {lo hi : Nat} {w w' : World} (hb : Below w.heap.size w w') (hh : hi ≤ w.heap.size) : Soft lo hi w w' :=
  ⟨hb.size, fun k hk _ => hb.block k hk, fun g c _ h2 h => h.keep (hb.block g (by omega)), fun g cs _ h2 h => ⟨cs, (hb.block g (by omega)).trans h, rfl, fun _ _ _ _ h => .inl h⟩⟩
theorem Soft.keep {lo hi g c : Nat} {w w' : World} (hk : KeepBut w w' g none) (hg : lo ≤ g) (hg2 : g < hi) (hq : Q8 w g c) (hq' : Q8 w' g c) (hh : hi ≤ w.heap.size) : Soft lo hi w w' := by
  refine ⟨hk.1, fun k h1 h2 => hk.2 k h1 (fun e => h2 (by omega)) (by simp), fun g' c' a b h => ?_, fun g' cs a b h => ?_⟩
  · by_cases he : g' = g
    · subst he
      obtain ⟨cs, q1, q2⟩ := h
      obtain ⟨cs', r1, r2⟩ := hq
      rw [q1] at r1
      simp at r1
      subst r1
      obtain rfl : c' = c := q2.symm.trans r2
      exact hq'
    · exact h.keep (hk.2 g' (by omega) he (by simp))
  · have he : g' ≠ g := by
      rintro rfl
      obtain ⟨cs', r1, r2⟩ := hq
      rw [h] at r1
      simp at r1
    exact ⟨cs, (hk.2 g' (by omega) he (by simp)).trans h, rfl, fun _ _ _ _ h => .inl h⟩
theorem Sh.zero {lo hi : Nat} {w : World} : ∀ h, Sh h w lo hi (.slice none 0 0) (.slice none 0 0)
  | 0 => ⟨.inl rfl, rfl⟩
  | h + 1 => ⟨.inl rfl, .inl rfl⟩
theorem Soft.put {lo hi g i : Nat} {w : World} {cs : Array Value} (hg : lo ≤ g) (hg2 : g < hi) (hw : w.heap[g]? = some (.cells cs 47 (0, 0))) :
    Soft lo hi w (((w.setCell ⟨g, i * 3, none⟩ (.bool false)).setCell ⟨g, i * 3 + 1, none⟩ (.slice none 0 0)).setCell ⟨g, i * 3 + 2, none⟩ (.slice none 0 0)) := by
  have hk : KeepBut w (((w.setCell ⟨g, i * 3, none⟩ (.bool false)).setCell ⟨g, i * 3 + 1, none⟩ (.slice none 0 0)).setCell ⟨g, i * 3 + 2, none⟩ (.slice none 0 0)) g none := (((KeepBut.refl w g none).set_ _ _).set_ _ _).set_ _ _
  refine ⟨hk.1, fun k h1 h2 => hk.2 k h1 (fun e => h2 (by omega)) (by simp), fun g' c' a b h => h.set'.set'.set', fun g' cs' a b h => ?_⟩
  by_cases he : g' = g
  · subst he
    rw [hw] at h
    simp at h
    subst h
    refine ⟨_, blk_put (blk_put (blk_put hw _ _ rfl) _ _ rfl) _ _ rfl, by simp, fun j b u1 u2 hr => ?_⟩
    obtain ⟨r1, r2, r3⟩ := hr
    by_cases hj : j = i
    · subst hj
      right
      have l1 := (Array.getElem?_eq_some_iff.1 r1).1
      have l2 := (Array.getElem?_eq_some_iff.1 r2).1
      have l3 := (Array.getElem?_eq_some_iff.1 r3).1
      refine ⟨?_, ?_, ?_⟩
      · simp only [Array.getElem?_setIfInBounds, Array.size_setIfInBounds]
        rw [if_neg (by omega), if_neg (by omega), if_pos trivial, if_pos l1]
      · simp only [Array.getElem?_setIfInBounds, Array.size_setIfInBounds]
        rw [if_neg (by omega), if_pos trivial, if_pos l2]
      · simp only [Array.getElem?_setIfInBounds, Array.size_setIfInBounds]
        rw [if_pos trivial, if_pos l3]
    · left
      refine ⟨?_, ?_, ?_⟩ <;> simp only [Array.getElem?_setIfInBounds, Array.size_setIfInBounds]
      · rw [if_neg (by omega), if_neg (by omega), if_neg (by omega)]; exact r1
      · rw [if_neg (by omega), if_neg (by omega), if_neg (by omega)]; exact r2
      · rw [if_neg (by omega), if_neg (by omega), if_neg (by omega)]; exact r3
  · exact ⟨cs', (hk.2 g' (blk_lt h) he (by simp)).trans h, rfl, fun _ _ _ _ h => .inl h⟩
end Go.Proofs.Ytdjoekckhmggbaa.H
namespace Go.Proofs.Ytdjoekckhmggbaa.H
open Go.RowKit Go.Proofs.YtdjoekckhmggbaaW.PrintWords Go.Proofs.YtdjoekckhmggbaaW.PrintLast Go.Proofs.YtdjoekckhmggbaaW.PrintMore Go.Proofs.Ytdjoekckhmggbaa.PRF
attribute [local go_sem] max2_int min2_int max_two min_two max_three min_three max_four min_four
set_option linter.unusedVariables false
set_option linter.unusedSimpArgs false
end Go.Proofs.Ytdjoekckhmggbaa.H
namespace Go.Proofs.Ytdjoekckhmggbaa.H
open Go.RowKit Go.Proofs.YtdjoekckhmggbaaW.PrintWords Go.Proofs.YtdjoekckhmggbaaW.PrintLast Go.Proofs.YtdjoekckhmggbaaW.PrintMore Go.Proofs.Ytdjoekckhmggbaa.PRF
attribute [local go_sem] max2_int min2_int max_two min_two max_three min_three max_four min_four
set_option linter.unusedVariables false
set_option linter.unusedSimpArgs false
end Go.Proofs.Ytdjoekckhmggbaa.H
namespace Go.Proofs.Ytdjoekckhmggbaa.H
open Go.RowKit Go.Proofs.YtdjoekckhmggbaaW.PrintWords Go.Proofs.YtdjoekckhmggbaaW.PrintLast Go.Proofs.YtdjoekckhmggbaaW.PrintMore Go.Proofs.Ytdjoekckhmggbaa.PRF
attribute [local go_sem] max2_int min2_int max_two min_two max_three min_three max_four min_four
set_option linter.unusedVariables false
set_option linter.unusedSimpArgs false
end Go.Proofs.Ytdjoekckhmggbaa.H
namespace Go.Proofs.Ytdjoekckhmggbaa.H
open Go.RowKit Go.Proofs.YtdjoekckhmggbaaW.PrintWords Go.Proofs.YtdjoekckhmggbaaW.PrintLast Go.Proofs.YtdjoekckhmggbaaW.PrintMore Go.Proofs.Ytdjoekckhmggbaa.PRF
open Go.ChangeShapes Go.WideShapes Go.ChangeAt
set_option linter.unusedVariables false
set_option linter.unusedSimpArgs false
end Go.Proofs.Ytdjoekckhmggbaa.H
