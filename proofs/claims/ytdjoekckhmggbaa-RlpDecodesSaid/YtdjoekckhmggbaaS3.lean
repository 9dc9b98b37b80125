import Derived.Test.YtdjoekckhmggbaaS2
namespace Go.Proofs.Ytdjoekckhmggbaa.H
open Go.RowKit Go.Proofs.YtdjoekckhmggbaaW.PrintWords Go.Proofs.YtdjoekckhmggbaaW.PrintMore Go.Proofs.Ytdjoekckhmggbaa.PRF
set_option linter.unusedVariables false

def strP (l : List Int) : List Int := if l.length = 1 ∧ l.headD 0 < 128 then l else aheadP 128 l.length ++ l
mutual
/-- an item's form -/
def formP : S47 → List Int
  | ⟨f0, f1, f2⟩ => if f0 = true then aheadP 192 (formsP f2).length ++ formsP f2 else strP f1
def formsP : List S47 → List Int
  | [] => []
  | x :: l => formP x ++ formsP l
end
theorem formsP_append : ∀ (l m : List S47), formsP (l ++ m) = formsP l ++ formsP m
  | [], m => by simp [formsP]
  | x :: l, m => by simp [formsP, formsP_append l m]
theorem formP_str (x : S47) (h : x.f0 = false) : formP x = strP x.f1 := by cases x; simp only at h; subst h; simp [formP]
theorem formP_list (x : S47) (h : x.f0 = true) : formP x = aheadP 192 (formsP x.f2).length ++ formsP x.f2 := by cases x; simp only at h; subst h; simp [formP]
theorem rd47 (l : List S47) (i : Nat) (h : i < l.length) : rd_T47 l (i : Int) = l[i] := by
  simp [rd_T47, List.getD_eq_getElem?_getD, List.getElem?_eq_getElem h]
theorem formsP_take (l : List S47) (i : Nat) (h : i < l.length) : formsP (l.take (i + 1)) = formsP (l.take i) ++ formP l[i] := by
  rw [List.take_succ_eq_append_getElem h, formsP_append]; simp [formsP]
theorem formsP_take_le (l : List S47) (i : Nat) : (formsP (l.take i)).length ≤ (formsP l).length := by
  have := formsP_append (l.take i) (l.drop i)
  rw [List.take_append_drop] at this
  rw [this, List.length_append]; omega
theorem size_f2 (x y : S47) (h : y ∈ x.f2) : SizeOf.sizeOf y < SizeOf.sizeOf x := by
  cases x
  have := List.sizeOf_lt_of_mem h
  simp at this ⊢
  omega
end Go.Proofs.Ytdjoekckhmggbaa.H
