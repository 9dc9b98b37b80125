import Derived.Test.YtdjoekckhmggbaaH13
import Derived.ChangeAt
import Derived.ProofKit
namespace Go.Proofs.Ytdjoekckhmggbaa.H
open Go.RowKit Go.Proofs.YtdjoekckhmggbaaW.PrintWords Go.Proofs.YtdjoekckhmggbaaW.PrintLast Go.Proofs.YtdjoekckhmggbaaW.PrintMore Go.Proofs.Ytdjoekckhmggbaa.PRF
set_option linter.unusedVariables false
/-- the bytes that came in, as the walks ask for them -/
theorem row_C {W : World} {a : Option Addr} {len cap : Nat} {z : List Int}
    (h : (a = none ∧ len = 0 ∧ cap = 0 ∧ z = []) ∨ ∃ x, a = some x ∧ len ≤ cap ∧ cap ≤ maxLen ∧ z.length = cap ∧ (∀ i, i < z.length → W.cell? (x.add i) = some (.int .u8 (z.getD i 0))) ∧ ∀ n ∈ z, (Lit.int .u8 n).wf = true) :
    ∃ l : List Int, Kd.C (Kd.int .u8) W a l.length l ∧ l.length = len ∧ len ≤ cap ∧ Byt l := by
  rcases h with ⟨rfl, rfl, rfl, rfl⟩ | ⟨x, rfl, h1, h2, h3, h4, h5⟩
  · exact ⟨[], Kd.C_nil _ _, rfl, Nat.le_refl _, Byt.nil⟩
  · have hl : (z.take len).length = len := by rw [List.length_take]; omega
    refine ⟨z.take len, Kd.C_of_reads (d := 0) ⟨rfl, ?_, fun _ => ⟨x, rfl, fun j hj => ?_⟩⟩, hl, h1, fun n hn => ?_⟩
    · have : maxLen ≤ 9223372036854775807 := by decide
      omega
    · rw [hl] at hj
      rw [h4 j (by omega)]
      simp [List.getD_eq_getElem?_getD, hj]
    · have := h5 n (List.mem_of_mem_take hn)
      simp [Lit.wf, IntKind.min, IntKind.max, IntKind.signed, IntKind.bits] at this
      omega
end Go.Proofs.Ytdjoekckhmggbaa.H
