import Derived.Test.YtdjoekckhmggbaaZF24
namespace Go.Proofs.Ytdjoekckhmggbaa.H
open Go.RowKit Go.Proofs.YtdjoekckhmggbaaW.PrintWords Go.Proofs.YtdjoekckhmggbaaW.PrintLast Go.Proofs.YtdjoekckhmggbaaW.PrintMore Go.Proofs.Ytdjoekckhmggbaa.PRF
attribute [local go_sem] max2_int min2_int max_two min_two max_three min_three max_four min_four
set_option linter.unusedVariables false
set_option linter.unusedSimpArgs false
def TI (w : World) (g1 : Nat) (cs : Array Value) (W' : World) : Prop := Below w.heap.size w W' ∧ W'.heap[g1]? = some (.cells cs 40 (0, 0))
theorem TI.step {w : World} {g1 : Nat} {cs : Array Value} {W' W'' : World} (h : TI w g1 cs W') (hb : Below W'.heap.size W' W'') : TI w g1 cs W'' := ⟨below_step h.1 hb, blk_below h.2 hb⟩
theorem TI.set {w : World} {g1 g2 : Nat} {cs : Array Value} {W' : World} (h : TI w g1 cs W') (hg : w.heap.size ≤ g2) (hne : g1 ≠ g2) (k : Nat) (v : Value) : TI w g1 cs (W'.setCell ⟨g2, k, none⟩ v) := ⟨below_set h.1 hg, blk_far h.2 hne v⟩
end Go.Proofs.Ytdjoekckhmggbaa.H
