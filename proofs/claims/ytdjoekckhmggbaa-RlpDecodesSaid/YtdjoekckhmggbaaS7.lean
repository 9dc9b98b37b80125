import Derived.Test.YtdjoekckhmggbaaS6
namespace Go.Proofs.Ytdjoekckhmggbaa.H
open Go.RowKit Go.Proofs.YtdjoekckhmggbaaW.PrintWords Go.Proofs.YtdjoekckhmggbaaW.PrintMore Go.Proofs.Ytdjoekckhmggbaa.PRF
set_option linter.unusedVariables false
set_option linter.unusedSimpArgs false

/-- what was cut behind a head is that head's -/
theorem body_form (base : Int) (f : Nat) (rest x y : List Int) (hb : Byt rest) (hf : f ≤ 63) (h : bodyP f rest = .ok (x, y)) : (base + f) :: rest = aheadP base x.length ++ x ++ y := by
  unfold bodyP at h
  by_cases h1 : f ≤ 55
  · rw [if_pos h1] at h
    obtain ⟨h2, rfl, rfl⟩ := cutP_ok h
    have hl : (rest.take f).length = f := by rw [List.length_take]; omega
    rw [hl]
    unfold aheadP
    rw [if_pos h1]
    simp
  · rw [if_neg h1] at h
    split at h
    · rename_i h2
      split at h
      · cases h
      · rename_i h3
        rw [not_or] at h3
        obtain ⟨h4, rfl, rfl⟩ := cutP_ok h
        obtain ⟨h31, h32⟩ := h3
        have hk : (rest.take (f - 55)).length = f - 55 := by rw [List.length_take]; omega
        have hbig := bigP_of_num (rest.take (f - 55)) (hb.take _) (by omega) (fun _ => h31)
        generalize hn : num (rest.take (f - 55)) = n at *
        have hl : ((rest.drop (f - 55)).take n).length = n := by rw [List.length_take]; omega
        rw [hl]
        unfold aheadP
        rw [if_neg (by omega), hbig, hk]
        have e : base + 55 + ((f - 55 : Nat) : Int) = base + f := by omega
        rw [e, List.cons_append, List.cons_append, List.append_assoc, List.take_append_drop, List.take_append_drop]
    · cases h

theorem items_form (f : List Int → Except Int (S47 × List Int)) (P : S47 → Prop) (hf : ∀ l x r, Byt l → f l = .ok (x, r) → l = formP x ++ r ∧ P x) :
    ∀ (k : Nat) (l : List Int), Byt l → ∀ xs, itemsP f k l = .ok xs → l = formsP xs ∧ ∀ x ∈ xs, P x
  | k, [], _, xs, h => by
    cases k <;> (cases h; exact ⟨by simp [formsP], by simp⟩)
  | 0, _ :: _, _, xs, h => by cases h
  | k + 1, c :: l, hb, xs, h => by
    rw [itemsP] at h
    obtain ⟨⟨x, r⟩, h1, h⟩ := bind_ok h
    obtain ⟨ys, h2, h⟩ := bind_ok h
    cases h
    obtain ⟨h3, h4⟩ := hf _ _ _ hb h1
    have hbr : Byt r := fun z hz => hb z (by rw [h3]; exact List.mem_append_right _ hz)
    obtain ⟨h5, h6⟩ := items_form f P hf k r hbr ys h2
    refine ⟨?_, ?_⟩
    · rw [h3, formsP, ← h5]
    · intro z hz
      rcases List.mem_cons.mp hz with rfl | hz
      · exact h4
      · exact h6 z hz

theorem itemF_form (lv : Nat) (sub : Option (List Int → Except Int (S47 × List Int))) (hsub : (sub = none ∧ lv = 0) ∨ ∃ f d, sub = some f ∧ lv = d + 1 ∧ ∀ l x r, Byt l → f l = .ok (x, r) → l = formP x ++ r ∧ wfP d x = true)
    (l r : List Int) (x : S47) (hb : Byt l) (h : itemF sub l = .ok (x, r)) : l = formP x ++ r ∧ wfP lv x = true := by
  cases l with
  | nil => cases h
  | cons c rest =>
    have hbr : Byt rest := fun z hz => hb z (List.mem_cons_of_mem _ hz)
    have hc := hb c (by simp)
    simp only [itemF] at h
    split at h
    · rename_i h1
      cases h
      rw [formP_str _ rfl, wfP_str _ _ rfl]
      simp [strP, h1]
    · rename_i h1
      split at h
      · rename_i h2
        obtain ⟨⟨a, b⟩, h3, h⟩ := bind_ok h
        simp only at h
        split at h
        · cases h
        · rename_i h4
          cases h
          have h5 := body_form 128 (c - 128).toNat rest a r hbr (by omega) h3
          rw [formP_str _ rfl, wfP_str _ _ rfl]
          simp only [strP, if_neg h4, List.isEmpty_nil, and_true]
          rw [← h5]
          congr 1
          omega
      · rename_i h2
        rcases hsub with ⟨rfl, _⟩ | ⟨f, d, rfl, rfl, hf⟩
        · cases h
        · simp only at h
          obtain ⟨⟨a, b⟩, h3, h⟩ := bind_ok h
          obtain ⟨xs, h4, h⟩ := bind_ok h
          cases h
          have h5 := body_form 192 (c - 192).toNat rest a b hbr (by omega) h3
          obtain ⟨h6, h7⟩ := items_form f (fun z => wfP d z = true) hf _ a (bodyP_byt' hbr h3) xs h4
          rw [formP_list _ rfl, wfP_list _ _ rfl]
          simp only [List.isEmpty_nil, Bool.true_and, List.all_eq_true]
          refine ⟨?_, h7⟩
          rw [← h6, ← h5]
          congr 1
          omega
theorem itemP_form : ∀ (lv : Nat) (l r : List Int) (x : S47), Byt l → itemP lv l = .ok (x, r) → l = formP x ++ r ∧ wfP lv x = true
  | 0, l, r, x, hb, h => itemF_form 0 none (Or.inl ⟨rfl, rfl⟩) l r x hb h
  | lv + 1, l, r, x, hb, h => itemF_form (lv + 1) (some (itemP lv)) (Or.inr ⟨_, lv, rfl, rfl, fun l x r hb h => itemP_form lv l r x hb h⟩) l r x hb h
/-- what is read is that item's form, and it may be -/
theorem decode_form (l : List Int) (x : S47) (hb : Byt l) (h : decodeP l = .ok x) : formP x = l ∧ vP 16 65536 x = true := by
  unfold decodeP at h
  split at h
  · cases h
  · rename_i h1
    obtain ⟨⟨y, r⟩, h2, h⟩ := bind_ok h
    simp only at h
    split at h
    · rename_i h3
      cases h
      obtain ⟨h4, h5⟩ := itemP_form 16 l r x hb h2
      subst h3
      rw [List.append_nil] at h4
      rw [← h4]
      refine ⟨rfl, ?_⟩
      unfold vP
      rw [h5, ← h4, Bool.true_and]
      exact decide_eq_true (by omega)
    · cases h

/-- its bytes are bytes -/
inductive BytI : S47 → Prop
  | mk (x : S47) (h1 : Byt x.f1) (h2 : ∀ y ∈ x.f2, BytI y) : BytI x

theorem ahead_body (base : Int) (h0 : 0 ≤ base) (x r : List Int) (hl : x.length ≤ 65536) : ∃ (f : Nat) (rest : List Int), f ≤ 63 ∧ aheadP base x.length ++ x ++ r = (base + f) :: rest ∧ bodyP f rest = .ok (x, r) ∧ (f = 1 → x.length = 1) ∧ rest.length < (aheadP base x.length ++ x ++ r).length := by
  by_cases h1 : x.length ≤ 55
  · refine ⟨x.length, x ++ r, by omega, ?_, ?_, fun h => h, ?_⟩
    · unfold aheadP; rw [if_pos h1]; simp
    · unfold bodyP cutP; rw [if_pos h1, if_pos (by simp)]; simp
    · unfold aheadP; rw [if_pos h1]; simp
  · have h2 := bigP_head x.length (by omega) (by omega)
    have h3 := bigP_num x.length (by omega)
    have h4 := bigP_len x.length
    have h5 : 0 < (bigP x.length).length := List.length_pos_iff.mpr h2.1
    refine ⟨55 + (bigP x.length).length, bigP x.length ++ x ++ r, by omega, ?_, ?_, fun h => by omega, ?_⟩
    · unfold aheadP; rw [if_neg h1]
      rw [List.cons_append, List.cons_append]
      congr 1
      omega
    · unfold bodyP
      rw [if_neg (by omega), show 55 + (bigP x.length).length - 55 = (bigP x.length).length by omega]
      rw [if_pos (by simp)]
      have e : (bigP x.length ++ x ++ r).take (bigP x.length).length = bigP x.length := by simp
      have e2 : (bigP x.length ++ x ++ r).drop (bigP x.length).length = x ++ r := by simp
      rw [e, e2, h3, if_neg (by rw [not_or]; exact ⟨h2.2, by omega⟩)]
      unfold cutP
      rw [if_pos (by simp)]
      simp
    · unfold aheadP; rw [if_neg h1]; simp

theorem form_items (f : List Int → Except Int (S47 × List Int)) (xs : List S47) (hf : ∀ x ∈ xs, ∀ r, f (formP x ++ r) = .ok (x, r)) :
    ∀ k, (formsP xs).length ≤ k → itemsP f k (formsP xs) = .ok xs := by
  induction xs with
  | nil => intro k _; cases k <;> simp [formsP, itemsP]
  | cons x xs ih =>
    intro k hk
    have hp := formP_pos x
    simp only [formsP] at hk ⊢
    rw [List.length_append] at hk
    obtain ⟨k, rfl⟩ : ∃ k', k = k' + 1 := ⟨k - 1, by omega⟩
    obtain ⟨c, l, hcl⟩ : ∃ c l, formP x = c :: l := by
      cases hfx : formP x with
      | nil => rw [hfx] at hp; simp at hp
      | cons c l => exact ⟨c, l, rfl⟩
    have h1 := hf x (by simp) (formsP xs)
    rw [hcl, List.cons_append] at h1 ⊢
    rw [itemsP, h1]
    simp only [Except.bind]
    rw [ih (fun y hy => hf y (List.mem_cons_of_mem _ hy)) k (by omega)]

theorem forms_mem_le : ∀ (xs : List S47) (x : S47), x ∈ xs → (formP x).length ≤ (formsP xs).length
  | y :: xs, x, h => by
    simp only [formsP, List.length_append]
    rcases List.mem_cons.mp h with rfl | h
    · omega
    · have := forms_mem_le xs x h; omega

theorem form_item : ∀ (lv : Nat) (x : S47), BytI x → wfP lv x = true → (formP x).length ≤ 65536 → ∀ r, itemP lv (formP x ++ r) = .ok (x, r)
  | lv, x, hB, hw, hl, r => by
    have hP : ∀ c rest, itemP lv (c :: rest) = if c < 128 then .ok (⟨false, [c], []⟩, rest)
      else if c < 192 then (bodyP (c - 128).toNat rest).bind fun q => if q.1.length = 1 ∧ q.1.headD 0 < 128 then .error 8 else .ok (⟨false, q.1, []⟩, q.2)
      else match lv with
        | 0 => .error 8
        | lv + 1 => (bodyP (c - 192).toNat rest).bind fun q => (itemsP (itemP lv) q.1.length q.1).bind fun xs => .ok (⟨true, [], xs⟩, q.2) := by
      intro c rest; cases lv <;> rfl
    cases hx : x.f0 with
    | false =>
      rw [wfP_str _ _ hx] at hw
      rw [formP_str _ hx] at hl ⊢
      obtain ⟨_, hB1, _⟩ := hB
      obtain ⟨f0, f1, f2⟩ := x
      simp only at *
      subst hx
      obtain rfl : f2 = [] := by simpa using hw
      unfold strP at hl ⊢
      by_cases h1 : f1.length = 1 ∧ f1.headD 0 < 128
      · rw [if_pos h1]
        obtain ⟨i0, rfl⟩ : ∃ i0, f1 = [i0] := by
          match f1, h1.1 with
          | [i0], _ => exact ⟨i0, rfl⟩
        have h2 : i0 < 128 := h1.2
        rw [List.singleton_append, hP, if_pos h2]
      · rw [if_neg h1] at hl ⊢
        rw [List.length_append] at hl
        obtain ⟨f, rest, hf, he, hbd, _, _⟩ := ahead_body 128 (by omega) f1 r (by omega)
        rw [he, hP, if_neg (by omega), if_pos (by omega), show ((128 : Int) + f - 128).toNat = f by omega, hbd]
        simp only [Except.bind]
        rw [if_neg h1]
    | true =>
      cases lv with
      | zero => rw [wfP_zero x hx] at hw; cases hw
      | succ lv =>
        rw [wfP_list _ _ hx] at hw
        rw [formP_list _ hx] at hl ⊢
        obtain ⟨_, _, hB2⟩ := hB
        obtain ⟨f0, f1, f2⟩ := x
        simp only at *
        subst hx
        simp only [Bool.and_eq_true, List.all_eq_true] at hw
        obtain ⟨hw1, hw2⟩ := hw
        obtain rfl : f1 = [] := by simpa using hw1
        rw [List.length_append] at hl
        obtain ⟨f, rest, hf, he, hbd, _, _⟩ := ahead_body 192 (by omega) (formsP f2) r (by omega)
        have hi := form_items (itemP lv) f2 (fun y hy r => form_item lv y (hB2 y hy) (hw2 y hy) (by have := forms_mem_le f2 y hy; omega) r) (formsP f2).length (Nat.le_refl _)
        rw [he, hP, if_neg (by omega), if_neg (by omega), show ((192 : Int) + f - 192).toNat = f by omega, hbd]
        simp only [Except.bind]
        rw [hi]
/-- an item's form is read as that item -/
theorem form_decode (x : S47) (hB : BytI x) (hv : vP 16 65536 x = true) : decodeP (formP x) = .ok x := by
  simp only [vP, Bool.and_eq_true, decide_eq_true_eq] at hv
  unfold decodeP
  rw [if_neg (by omega)]
  have := form_item 16 x hB hv.1 hv.2 []
  rw [List.append_nil] at this
  rw [this]
  simp [Except.bind]
theorem form_inj (x y : S47) (hx : BytI x) (hy : BytI y) (hvx : vP 16 65536 x = true) (hvy : vP 16 65536 y = true) (h : formP x = formP y) : x = y := by
  have h1 := form_decode x hx hvx
  have h2 := form_decode y hy hvy
  rw [h, h2] at h1
  cases h1; rfl
end Go.Proofs.Ytdjoekckhmggbaa.H
