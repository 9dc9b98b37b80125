import Derived.Test.YtdjoekckhmggbaaS7
namespace Go.Proofs.Ytdjoekckhmggbaa.H
open Go.RowKit Go.Proofs.YtdjoekckhmggbaaW.PrintWords Go.Proofs.YtdjoekckhmggbaaW.PrintMore Go.Proofs.Ytdjoekckhmggbaa.PRF
set_option linter.unusedVariables false
set_option linter.unusedSimpArgs false

theorem strOfNums_inj : ∀ (a b : List Int), Byt a → Byt b → (a.map fun n => UInt8.ofNat n.toNat) = (b.map fun n => UInt8.ofNat n.toNat) → a = b
  | [], [], _, _, _ => rfl
  | [], _ :: _, _, _, h => by simp at h
  | _ :: _, [], _, _, h => by simp at h
  | x :: a, y :: b, ha, hb, h => by
    simp only [List.map_cons, List.cons.injEq] at h
    have h1 := ha.head
    have h2 := hb.head
    have h3 : (UInt8.ofNat x.toNat).toNat = (UInt8.ofNat y.toNat).toNat := by rw [h.1]
    simp only [UInt8.toNat_ofNat'] at h3
    rw [strOfNums_inj a b ha.tail hb.tail h.2]
    congr 1
    omega
/-- the document's byte comparison -/
theorem same01_f (a b : List Int) (ha : Byt a) (hb : Byt b) : proctorref01_Same.f a b = some (decide (a = b)) := by
  unfold proctorref01_Same.f
  congr 1
  by_cases h : a = b
  · subst h; simp
  · rw [decide_eq_false h]
    rw [beq_eq_false_iff_ne]
    intro he
    refine h (strOfNums_inj a b ha hb ?_)
    have h2 : (strOfNums a).data.toList = (strOfNums b).data.toList := by
      have h3 := he
      rw [ByteArray.toList_eq, ByteArray.toList_eq] at h3
      exact h3
    rwa [strOfNums_data, strOfNums_data] at h2
theorem aheadP_byt (f : Int) (n : Nat) (h0 : 0 ≤ f) (h1 : f ≤ 192) (hn : n ≤ 18446744073709551615) : Byt (aheadP f n) := by
  unfold aheadP
  have := bigP_len n
  split
  · exact Byt.cons (by omega) Byt.nil
  · exact Byt.cons (by omega) (bigP_byt n)
theorem strP_byt (l : List Int) (hb : Byt l) (hl : l.length ≤ 18446744073709551615) : Byt (strP l) := by
  unfold strP
  split
  · exact hb
  · exact (aheadP_byt _ _ (by omega) (by omega) hl).append hb
theorem formsP_byt (xs : List S47) (h : ∀ x ∈ xs, Byt (formP x)) : Byt (formsP xs) := by
  induction xs with
  | nil => simp only [formsP]; exact Byt.nil
  | cons x xs ih =>
    simp only [formsP]
    exact (h x (by simp)).append (ih (fun y hy => h y (List.mem_cons_of_mem _ hy)))
theorem formP_byt : ∀ (s : Nat) (x : S47), SizeOf.sizeOf x ≤ s → BytI x → (formP x).length ≤ 18446744073709551615 → Byt (formP x) := by
  intro s
  induction s with
  | zero => intro x hx; exfalso; cases x; simp at hx
  | succ s ih =>
    intro x hx hB hl
    obtain ⟨_, h1, h2⟩ := hB
    cases h0 : x.f0 with
    | false =>
      rw [formP_str x h0] at hl ⊢
      exact strP_byt _ h1 (by have := strP_ge x.f1; omega)
    | true =>
      rw [formP_list x h0] at hl ⊢
      rw [List.length_append] at hl
      refine (aheadP_byt _ _ (by omega) (by omega) (by omega)).append (formsP_byt _ fun y hy => ih y (by have := size_f2 x y hy; omega) (h2 y hy) ?_)
      have := forms_mem_le x.f2 y hy
      omega
/-- the document's Same -/
def sameP (x y : S47) : Bool := vP 16 65536 x && vP 16 65536 y && decide (formP x = formP y)
theorem rsame_self (x : S47) (hv : vP 16 65536 x = true) : Ev (fun k => proctorref02_Same.f k x.f0 x.f1 x.f2 x.f0 x.f1 x.f2) true := by
  obtain ⟨K, hK⟩ := renc_spec x
  refine ⟨K, fun k hk => ?_⟩
  have h1 : proctorref02_Encode.f k x.f0 x.f1 x.f2 = some (encP x) := hK k hk
  show proctorref02_Same.f k x.f0 x.f1 x.f2 x.f0 x.f1 x.f2 = some true
  rw [proctorref02_Same.f, h1]
  simp [encP, hv, proctorref01_Same.f]
theorem rsame_spec (x y : S47) (hx : BytI x) (hy : BytI y) : Ev (fun k => proctorref02_Same.f k x.f0 x.f1 x.f2 y.f0 y.f1 y.f2) (sameP x y) := by
  obtain ⟨K, hK⟩ := renc_spec x
  obtain ⟨K2, hK2⟩ := renc_spec y
  refine ⟨max K K2, fun k hk => ?_⟩
  have h1 : proctorref02_Encode.f k x.f0 x.f1 x.f2 = some (encP x) := hK k (by omega)
  have h2 : proctorref02_Encode.f k y.f0 y.f1 y.f2 = some (encP y) := hK2 k (by omega)
  show proctorref02_Same.f k x.f0 x.f1 x.f2 y.f0 y.f1 y.f2 = _
  rw [proctorref02_Same.f, h1, h2]
  simp only [Option.bind_some, encP, sameP]
  by_cases hvx : vP 16 65536 x = true
  · by_cases hvy : vP 16 65536 y = true
    · have h3 := formP_byt _ x (Nat.le_refl _) hx (by simp only [vP, Bool.and_eq_true, decide_eq_true_eq] at hvx; omega)
      have h4 := formP_byt _ y (Nat.le_refl _) hy (by simp only [vP, Bool.and_eq_true, decide_eq_true_eq] at hvy; omega)
      simp [hvx, hvy, same01_f _ _ h3 h4]
    · simp [hvx, hvy]
  · simp [hvx]
end Go.Proofs.Ytdjoekckhmggbaa.H
