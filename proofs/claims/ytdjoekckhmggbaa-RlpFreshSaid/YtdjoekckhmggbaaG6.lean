import Derived.Test.YtdjoekckhmggbaaG5
import Derived.SizedLaws
namespace Go.Proofs.Ytdjoekckhmggbaa.H
open Go.RowKit Go.Proofs.YtdjoekckhmggbaaW.PrintWords Go.Proofs.YtdjoekckhmggbaaW.PrintLast Go.Proofs.YtdjoekckhmggbaaW.PrintMore Go.Proofs.Ytdjoekckhmggbaa.PRF
open Go.ChangeShapes Go.WideShapes Go.ChangeAt
set_option linter.unusedVariables false
set_option linter.unusedSimpArgs false

theorem bytes_of_5 : Try.prog.bytesOf 5 = 1 := by kernel_rfl
/-- bytes that came in, and how many they may be -/
theorem open_bytes_sized {H : Type} {enc : TypeId × Value → H} {W : World} {fuel : Nat} {cs : List Value} {d : DataW H} {p : List MemPlace}
    (h : DataW.trod enc Try.prog W 0 (fun _ => true) true fuel 24 cs = some (d, p)) {ts : List TypeId} {ds : List (DataW H)} {j : Nat} (hsz : (DataW.weightsEach Try.prog ts ds).all (· ≤ reachBytes) = true) (ht : ts[j]? = some 24) (hd : ds[j]? = some d) :
    ∃ A l c, cs = [.slice A l.length c] ∧ l.length ≤ c ∧ Kd.C (Kd.int .u8) W A l.length l ∧ Byt l ∧ l.length ≤ 140737488351232 := by
  rcases open_ints Try.underlying24 Try.underlying5 (by kernel_rfl) h with ⟨rfl, _⟩ | ⟨a, l, c, zs, rfl, _, hl, hm, hz, hx, hcell, hwz⟩
  · exact ⟨none, [], 0, rfl, Nat.le_refl _, Kd.C_nil _ _, Byt.nil, by simp⟩
  · obtain ⟨l', hC, rfl, hc, hB⟩ := row_C (W := W) (a := some a) (len := l) (cap := c) (z := zs) (Or.inr ⟨a, rfl, hl, hm, by simpa using hz, hcell, hwz⟩)
    refine ⟨some a, l', c, rfl, hc, hC, hB, ?_⟩
    simp only [Prod.mk.injEq] at hx
    obtain ⟨rfl, _⟩ := hx
    have h2 := sized_slice hsz ht hd Try.underlying24
    rw [bytes_of_5, Nat.mul_one] at h2
    have h3 : reachBytes = 140737488351232 := rfl
    have h4 : (lits IntKind.u8 (zs.take l'.length) : List (DataW H)).length = l'.length := by
      simp only [lits, List.length_map, List.length_take]
      simp at hz
      omega
    omega
end Go.Proofs.Ytdjoekckhmggbaa.H
