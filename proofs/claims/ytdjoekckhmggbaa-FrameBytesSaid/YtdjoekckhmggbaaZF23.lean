import Derived.Test.YtdjoekckhmggbaaZMG
namespace Go.Proofs.Ytdjoekckhmggbaa.H
open Go.RowKit Go.Proofs.YtdjoekckhmggbaaW.PrintWords Go.Proofs.YtdjoekckhmggbaaW.PrintMore Go.Proofs.Ytdjoekckhmggbaa.PRF
set_option linter.unusedVariables false
set_option linter.unusedSimpArgs false
def lastN (b : Bool) : Nat := if b = true then 1 else 0
def itemF4 (f : S40) : S47 := ⟨true, [], [numI f.f0.toNat, numI f.f1.toNat, numI (lastN f.f2), ⟨false, f.f3, []⟩]⟩
theorem numI_len (n : Nat) : (formP (numI n)).length ≤ 17 := by
  rw [formP_str _ rfl]
  have h1 := bigP_len n
  have := aheadP_len 128 (bigP n).length
  show (strP (bigP n)).length ≤ 17
  unfold strP
  split
  · omega
  · rw [List.length_append]; omega
theorem strP_len (l : List Int) : (strP l).length ≤ l.length + 9 := by
  unfold strP
  have := aheadP_len 128 l.length
  split
  · omega
  · rw [List.length_append]; omega
theorem item_wf (f : S40) : wfP 16 (itemF4 f) = true := by
  rw [wfP_list _ _ rfl]
  simp [itemF4, wfP_str, numI]
theorem item_vP (f : S40) (h : f.f3.length ≤ 4096) : vP 16 65536 (itemF4 f) = true := by
  unfold vP
  rw [item_wf, Bool.true_and]
  refine decide_eq_true ?_
  have h1 := numI_len f.f0.toNat
  have h2 := numI_len f.f1.toNat
  have h3 := numI_len (lastN f.f2)
  have h4 : (formP ⟨false, f.f3, []⟩).length ≤ 4096 + 9 := by
    rw [formP_str _ rfl]
    have := strP_len f.f3
    show (strP f.f3).length ≤ _
    omega
  have h5 : (formsP [numI f.f0.toNat, numI f.f1.toNat, numI (lastN f.f2), ⟨false, f.f3, []⟩]).length ≤ 5000 := by
    simp only [formsP, List.length_append, List.length_nil]
    omega
  rw [formP_list _ rfl]
  rw [List.length_append]
  have := aheadP_len 192 (formsP [numI f.f0.toNat, numI f.f1.toNat, numI (lastN f.f2), ⟨false, f.f3, []⟩]).length
  show (aheadP 192 (formsP [numI f.f0.toNat, numI f.f1.toNat, numI (lastN f.f2), ⟨false, f.f3, []⟩]).length).length + (formsP [numI f.f0.toNat, numI f.f1.toNat, numI (lastN f.f2), ⟨false, f.f3, []⟩]).length ≤ 65536
  omega
def readI (x : S47) : S40 × Int :=
  match x.f2 with
  | [y0, y1, y2, y3] => if x.f0 = true ∧ y3.f0 = false ∧ (rnumP y0).2 = 0 ∧ (rnumP y1).2 = 0 ∧ (rnumP y2).2 = 0 ∧ (rnumP y1).1 < 1024 ∧ (rnumP y2).1 ≤ 1 ∧ y3.f1.length ≤ 4096 then (⟨(rnumP y0).1, (rnumP y1).1, decide ((rnumP y2).1 = 1), y3.f1⟩, 0) else (z40, 8)
  | _ => (z40, 8)
def readP (b : List Int) : S40 × Int := match decodeP b with | .error e => (z40, e) | .ok x => readI x
def writeP (f : S40) : List Int × Int := if mayF f = true then (formP (itemF4 f), 0) else ([], 2)
theorem item_byt (f : S40) (h : Byt f.f3) : BytI (itemF4 f) := by
  refine .mk _ Byt.nil fun y hy => ?_
  simp only [itemF4, List.mem_cons, List.not_mem_nil, or_false] at hy
  rcases hy with rfl | rfl | rfl | rfl
  · exact .mk _ (bigP_byt _) (by simp [numI])
  · exact .mk _ (bigP_byt _) (by simp [numI])
  · exact .mk _ (bigP_byt _) (by simp [numI])
  · exact .mk _ h (by simp)
theorem may_of {f : S40} (h : mayF f = true) : 0 ≤ f.f1 ∧ f.f1 < 1024 ∧ f.f3.length ≤ 4096 := by
  simp only [mayF, Bool.and_eq_true, decide_eq_true_eq] at h
  exact ⟨h.1.1, h.1.2, h.2⟩
theorem u64_of {a : Int} (h : (Lit.int .u64 a).wf = true) : 0 ≤ a ∧ a ≤ 18446744073709551615 := by
  simp [Lit.wf, IntKind.min, IntKind.max, IntKind.bits, IntKind.signed] at h
  exact ⟨h.1, by omega⟩
theorem rnum_back {y : S47} {d : Nat} (hb : Byt y.f1) (hw : wfP d y = true) (h : (rnumP y).2 = 0) : 0 ≤ (rnumP y).1 ∧ (rnumP y).1 ≤ 18446744073709551615 ∧ numI (rnumP y).1.toNat = y := by
  unfold rnumP at h ⊢
  split at h
  · cases h
  · rename_i h1
    rw [if_neg h1]
    simp only [not_or] at h1
    obtain ⟨h2, h3, h4, h5⟩ := h1
    have hl := num_lt y.f1 hb
    have h8 : (256 : Nat) ^ y.f1.length ≤ 256 ^ 8 := Nat.pow_le_pow_right (by omega) (by omega)
    rw [pow256_8] at h8
    refine ⟨by omega, by show ((num y.f1 : Nat) : Int) ≤ _; omega, ?_⟩
    rw [Int.toNat_natCast]
    have hf2 : y.f2 = [] := List.eq_nil_of_length_eq_zero (by omega)
    have hf0 : y.f0 = false := by simpa using h2
    have hbg := bigP_of_num y.f1 hb (by omega) (fun hne h0 => h5 ⟨by cases hy : y.f1 with | nil => exact absurd hy hne | cons => simp, by
      cases hy : y.f1 with
      | nil => exact absurd hy hne
      | cons c l => rw [hy] at h0; simpa [rd] using h0⟩)
    obtain ⟨a, b, c⟩ := y
    simp only at hf2 hf0 hbg
    subst hf2 hf0
    simp only [numI]
    rw [hbg]
theorem last_of {v : Int} (h0 : 0 ≤ v) (h1 : v ≤ 1) : lastN (decide (v = 1)) = v.toNat := by
  by_cases h : v = 1
  · subst h; simp [lastN]
  · simp [lastN, h]; omega
theorem readI_ok {x : S47} {p : S40} (hB : BytI x) (hw : wfP 16 x = true) (h : readI x = (p, 0)) : mayF p = true ∧ FrOk p ∧ itemF4 p = x := by
  unfold readI at h
  split at h
  · rename_i y0 y1 y2 y3 hx
    split at h
    · rename_i hc
      obtain ⟨c0, c1, c2, c3, c4, c5, c6, c7⟩ := hc
      cases h
      obtain ⟨x0, x1, x2⟩ := x
      simp only at hx c0
      subst hx c0
      cases hB with
      | mk _ _ hb =>
        rw [wfP_list _ _ rfl] at hw
        simp only [List.all_cons, List.all_nil, Bool.and_eq_true, Bool.and_true, List.isEmpty_iff] at hw
        obtain ⟨rfl, w0, w1, w2, w3⟩ := hw
        have byt : ∀ y, BytI y → Byt y.f1 := fun y hy => by cases hy with | mk _ h _ => exact h
        have b0 := byt y0 (hb y0 (by simp))
        have b1 := byt y1 (hb y1 (by simp))
        have b2 := byt y2 (hb y2 (by simp))
        have b3 := byt y3 (hb y3 (by simp))
        obtain ⟨p0, q0, r0⟩ := rnum_back b0 w0 c2
        obtain ⟨p1, q1, r1⟩ := rnum_back b1 w1 c3
        obtain ⟨p2, q2, r2⟩ := rnum_back b2 w2 c4
        refine ⟨?_, ⟨?_, ?_, b3⟩, ?_⟩
        · simp [mayF, p1, c5, c7]
        · simp [Lit.wf, IntKind.min, IntKind.max, IntKind.bits, IntKind.signed]; omega
        · simp [Lit.wf, IntKind.min, IntKind.max, IntKind.bits, IntKind.signed]; omega
        · simp only [itemF4]
          rw [r0, r1, last_of p2 c6, r2]
          rw [wfP_str _ _ c1, List.isEmpty_iff] at w3
          obtain ⟨z0, z1, z2⟩ := y3
          simp only at c1 w3
          subst c1 w3
          rfl
    · cases h
  · cases h
theorem byt_str {l : List Int} (h : Byt (strP l)) : Byt l := fun c hc => h c (by
  unfold strP
  split
  · exact hc
  · exact List.mem_append_right _ hc)
theorem mem_forms : ∀ {xs : List S47} {y : S47} {c : Int}, y ∈ xs → c ∈ formP y → c ∈ formsP xs
  | x :: xs, y, c, hy, hc => by
    simp only [formsP, List.mem_append]
    rcases List.mem_cons.1 hy with rfl | hy
    · exact .inl hc
    · exact .inr (mem_forms hy hc)
theorem byt_form : ∀ (d : Nat) (x : S47), wfP d x = true → Byt (formP x) → BytI x
  | d, x, hw, hb => by
    cases hx : x.f0 with
    | false =>
      rw [formP_str _ hx] at hb
      rw [wfP_str _ _ hx, List.isEmpty_iff] at hw
      exact .mk _ (byt_str hb) (by rw [hw]; simp)
    | true =>
      cases d with
      | zero => rw [wfP_zero _ hx] at hw; cases hw
      | succ d =>
        rw [formP_list _ hx] at hb
        rw [wfP_list _ _ hx, Bool.and_eq_true, List.isEmpty_iff, List.all_eq_true] at hw
        exact .mk _ (by rw [hw.1]; exact Byt.nil) (fun y hy => byt_form d y (hw.2 y hy) (fun c hc => hb c (List.mem_append_right _ (mem_forms hy hc))))
theorem decode_byt {b : List Int} {x : S47} (hb : Byt b) (h : decodeP b = .ok x) : BytI x := by
  obtain ⟨h1, h2⟩ := decode_form b x hb h
  unfold vP at h2
  simp only [Bool.and_eq_true] at h2
  exact byt_form 16 x h2.1 (by rw [h1]; exact hb)
end Go.Proofs.Ytdjoekckhmggbaa.H
