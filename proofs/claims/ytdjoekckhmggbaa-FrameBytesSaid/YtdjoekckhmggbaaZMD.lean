import Derived.Test.YtdjoekckhmggbaaZMC
import Derived.Lib.SmallJoins
import Derived.ChangeSlices
import Derived.ChangeArms
import Derived.Deep.RegionHeld3
namespace Go.Proofs.Ytdjoekckhmggbaa.H
open Go.RowKit Go.Proofs.YtdjoekckhmggbaaW.PrintWords Go.Proofs.YtdjoekckhmggbaaW.PrintLast Go.Proofs.YtdjoekckhmggbaaW.PrintMore Go.Proofs.Ytdjoekckhmggbaa.PRF
open Go.ChangeShapes Go.WideShapes Go.ChangeAt
set_option linter.unusedVariables false
set_option linter.unusedSimpArgs false
theorem choose_list {α : Type} (Q : Nat → α → Prop) : ∀ n : Nat, (∀ i, i < n → ∃ y, Q i y) → ∃ xs : List α, xs.length = n ∧ ∀ i p, xs[i]? = some p → Q i p
  | 0, _ => ⟨[], rfl, fun i p h => by simp at h⟩
  | n + 1, h => by
    obtain ⟨xs, hl, hx⟩ := choose_list Q n (fun i hi => h i (by omega))
    obtain ⟨y, hy⟩ := h n (by omega)
    refine ⟨xs ++ [y], by rw [List.length_append, hl]; rfl, fun i p hp => ?_⟩
    by_cases hi : i < xs.length
    · rw [List.getElem?_append_left hi] at hp
      exact hx i p hp
    · rw [List.getElem?_append_right (by omega)] at hp
      by_cases h0 : i - xs.length = 0
      · rw [h0] at hp
        simp at hp
        subst hp
        rw [show i = n by omega]
        exact hy
      · rw [List.getElem?_eq_none (by simp; omega)] at hp
        cases hp
theorem open_bytes {H : Type} {enc : TypeId × Value → H} {W : World} {fuel : Nat} {cs : List Value} {x : DataW H × List MemPlace}
    (h : DataW.trod enc Try.prog W 0 (fun _ => true) true fuel 24 cs = some x) :
    ∃ A l c, cs = [.slice A l.length c] ∧ l.length ≤ c ∧ Kd.C (Kd.int .u8) W A l.length l ∧ Byt l := by
  rcases open_ints Try.underlying24 Try.underlying5 (by kernel_rfl) h with ⟨rfl, _⟩ | ⟨a, l, c, zs, rfl, _, hl, hm, hz, _, hcell, hwz⟩
  · exact ⟨none, [], 0, rfl, Nat.le_refl _, Kd.C_nil _ _, Byt.nil⟩
  · obtain ⟨l', hC, rfl, hc, hB⟩ := row_C (W := W) (a := some a) (len := l) (cap := c) (z := zs) (Or.inr ⟨a, rfl, hl, hm, by simpa using hz, hcell, hwz⟩)
    exact ⟨some a, l', c, rfl, hc, hC, hB⟩
end Go.Proofs.Ytdjoekckhmggbaa.H
namespace Go.Proofs.Ytdjoekckhmggbaa.H
open Go.RowKit Go.Proofs.YtdjoekckhmggbaaW.PrintWords Go.Proofs.YtdjoekckhmggbaaW.PrintLast Go.Proofs.YtdjoekckhmggbaaW.PrintMore Go.Proofs.Ytdjoekckhmggbaa.PRF
attribute [local go_sem] max2_int min2_int max_two min_two max_three min_three max_four min_four
set_option linter.unusedVariables false
set_option linter.unusedSimpArgs false
end Go.Proofs.Ytdjoekckhmggbaa.H
namespace Go.Proofs.Ytdjoekckhmggbaa.H
open Go.RowKit Go.Proofs.YtdjoekckhmggbaaW.PrintWords Go.Proofs.YtdjoekckhmggbaaW.PrintLast Go.Proofs.YtdjoekckhmggbaaW.PrintMore Go.Proofs.Ytdjoekckhmggbaa.PRF
attribute [local go_sem] max2_int min2_int max_two min_two max_three min_three max_four min_four
set_option linter.unusedVariables false
set_option linter.unusedSimpArgs false
end Go.Proofs.Ytdjoekckhmggbaa.H
namespace Go.Proofs.Ytdjoekckhmggbaa.H
open Go.RowKit Go.Proofs.YtdjoekckhmggbaaW.PrintWords Go.Proofs.YtdjoekckhmggbaaW.PrintLast Go.Proofs.YtdjoekckhmggbaaW.PrintMore Go.Proofs.Ytdjoekckhmggbaa.PRF
attribute [local go_sem] max2_int min2_int max_two min_two max_three min_three max_four min_four
set_option linter.unusedVariables false
set_option linter.unusedSimpArgs false
end Go.Proofs.Ytdjoekckhmggbaa.H
namespace Go.Proofs.Ytdjoekckhmggbaa.H
open Go.RowKit Go.Proofs.YtdjoekckhmggbaaW.PrintWords Go.Proofs.YtdjoekckhmggbaaW.PrintLast Go.Proofs.YtdjoekckhmggbaaW.PrintMore Go.Proofs.Ytdjoekckhmggbaa.PRF
attribute [local go_sem] max2_int min2_int max_two min_two max_three min_three max_four min_four
set_option linter.unusedVariables false
set_option linter.unusedSimpArgs false
end Go.Proofs.Ytdjoekckhmggbaa.H
