import Derived.Test.YtdjoekckhmggbaaS4
import Derived.Test.YtdjoekckhmggbaaRf8
namespace Go.Proofs.Ytdjoekckhmggbaa.H
open Go.RowKit Go.Proofs.YtdjoekckhmggbaaW.PrintWords Go.Proofs.YtdjoekckhmggbaaW.PrintMore Go.Proofs.Ytdjoekckhmggbaa.PRF
set_option linter.unusedVariables false
set_option linter.unusedSimpArgs false

theorem head_ev (f : Int) (n : Nat) (h0 : 0 ≤ f) (h1 : f ≤ 192) (hn : n ≤ 140737488355327) : ∀ k, 9 ≤ k → proctorref02_head.f k f n = some (aheadP f n) := by
  intro k hk
  have := head_f f n h0 h1 hn
  induction k with
  | zero => omega
  | succ k ih =>
    by_cases he : 9 = k + 1
    · rw [← he]; exact this
    · exact proctorref02_head.mono f n k _ (ih (by omega))
theorem copy_f (l : List Int) (h : l.length < 140737488355328) : proctorref01_Copy.f l = some l := by
  unfold proctorref01_Copy.f
  simp [h]

/-- what the document's form answers -/
def FormAns (d left : Nat) (x : S47) (bs : List Int) (b : Bool) : Prop := (b = true → wfP d x = true ∧ bs = formP x ∧ bs.length ≤ left + 9) ∧ (vP d left x = true → b = true)

theorem rform_str (d left : Nat) (hl : left ≤ 65536) (x : S47) (hx : x.f0 = false) :
    ∃ bs b, (∀ k, 20 ≤ k → proctorref02_form.f k x.f0 x.f1 x.f2 left d = some (bs, b)) ∧ FormAns d left x bs b := by
  obtain ⟨f0, f1, f2⟩ := x
  simp only at hx
  subst hx
  unfold FormAns vP
  rw [wfP_str _ _ rfl, formP_str _ rfl]
  simp only
  by_cases h2 : f2 = []
  · subst h2
    simp only [List.isEmpty_nil, Bool.true_and]
    by_cases hgt : f1.length > left
    · refine ⟨[], false, fun k hk => ?_, by simp, fun h => ?_⟩
      · obtain ⟨k, rfl⟩ : ∃ k', k = k' + 2 := ⟨k - 2, by omega⟩
        have hd2 : decide ((f1.length : Int) > (left : Int)) = true := decide_eq_true (by omega)
        rw [proctorref02_form.f, if_neg (by simp), if_neg (by simp), proctorref02_form.j0, hd2, if_pos rfl]
      · have := strP_ge f1; simp at h; omega
    · have hd2 : decide ((f1.length : Int) > (left : Int)) = false := decide_eq_false (by omega)
      have hsl : (strP f1).length ≤ left + 9 := by
        have := aheadP_len 128 f1.length
        unfold strP
        split
        · omega
        · rw [List.length_append]; omega
      refine ⟨strP f1, true, fun k hk => ?_, fun _ => ⟨trivial, rfl, hsl⟩, fun h => rfl⟩
      obtain ⟨k, rfl⟩ : ∃ k', k = k' + 3 := ⟨k - 3, by omega⟩
      rw [proctorref02_form.f, if_neg (by simp), if_neg (by simp), proctorref02_form.j0, hd2, if_neg (by simp)]
      have hj : ∀ b, (b = decide (f1.length = 1 ∧ f1.headD 0 < 128)) → proctorref02_form.j1 (k + 1) b false f1 [] = some (strP f1, true) := by
        intro b hb
        rw [proctorref02_form.j1, hb]
        by_cases h1 : f1.length = 1 ∧ f1.headD 0 < 128
        · rw [if_pos (by simpa using h1), copy_f _ (by omega)]
          unfold strP
          rw [if_pos h1]
          rfl
        · rw [if_neg (by simpa using h1), head_ev 128 f1.length (by omega) (by omega) (by omega) k (by omega)]
          have ha := aheadP_len 128 f1.length
          simp only [Option.bind_some]
          rw [if_pos (by omega)]
          unfold strP
          rw [if_neg h1]
      by_cases h11 : f1.length = 1
      · obtain ⟨i0, rfl⟩ : ∃ i0, f1 = [i0] := by
          match f1, h11 with
          | [i0], _ => exact ⟨i0, rfl⟩
        rw [if_pos (by simp), if_pos (by simp)]
        refine hj _ ?_
        simp [rd]
      · rw [if_neg (by omega)]
        refine hj _ ?_
        simp [h11]
  · refine ⟨[], false, fun k hk => ?_, by simp, fun h => by simp [h2] at h⟩
    obtain ⟨k, rfl⟩ : ∃ k', k = k' + 2 := ⟨k - 2, by omega⟩
    have hl2 : 0 < f2.length := by cases f2; exact absurd rfl h2; simp
    rw [proctorref02_form.f, if_neg (by simp), if_pos (by omega), proctorref02_form.j0, if_pos rfl]

theorem rform_loop (d left : Nat) (hd : d + 1 ≤ 16) (hl : left ≤ 65536) (l : List S47) (hll : l.length ≤ left)
    (ih : ∀ (x : S47) (left : Nat), left ≤ 65536 → ∃ bs b, Ev (fun k => proctorref02_form.f k x.f0 x.f1 x.f2 left d) (bs, b) ∧ FormAns d left x bs b) :
    ∀ (m i : Nat), i + m = l.length → (formsP (l.take i)).length ≤ left →
    ∃ bs b, Ev (fun k => proctorref02_form.l0 k left ((d + 1 : Nat) : Int) (formsP (l.take i)) i true [] l) (bs, b)
      ∧ (b = true → (l.drop i).all (wfP d) = true ∧ bs = aheadP 192 (formsP l).length ++ formsP l ∧ bs.length ≤ left + 9)
      ∧ (((l.drop i).all (wfP d) && decide ((formsP l).length ≤ left)) = true → b = true)
  | 0, i, hi, hn => by
    obtain rfl : i = l.length := by omega
    simp only [List.take_length] at hn ⊢
    simp only [List.drop_length, List.all_nil, Bool.true_and]
    have ha := aheadP_len 192 (formsP l).length
    refine ⟨aheadP 192 (formsP l).length ++ formsP l, true, ⟨16, fun k hk => ?_⟩, fun _ => ⟨trivial, rfl, by rw [List.length_append]; omega⟩, fun _ => rfl⟩
    obtain ⟨k, rfl⟩ : ∃ k', k = k' + 1 := ⟨k - 1, by omega⟩
    have he := head_ev 192 (formsP l).length (by omega) (by omega) (by omega) k (by omega)
    simp only
    rw [proctorref02_form.l0, if_neg (by omega), he]
    simp only [Option.bind_some]
    rw [if_pos (by omega)]
  | m + 1, i, hi, hn => by
    have hlt : i < l.length := by omega
    obtain ⟨cs, c, ⟨K1, h1⟩, h2, h3⟩ := ih l[i] (left - (formsP (l.take i)).length) (by omega)
    have hdrop : l.drop i = l[i] :: l.drop (i + 1) := by rw [List.drop_eq_getElem_cons hlt]
    have htk := formsP_take l i hlt
    have hle := formsP_take_le l (i + 1)
    have hstep : ∀ k, K1 ≤ k → proctorref02_form.l0 (k + 1) left ((d + 1 : Nat) : Int) (formsP (l.take i)) i true [] l = (if c = true then (if (wrap64 (((formsP (l.take i)).length : Int) + (cs.length : Int))) > (left : Int) then (some (([] : List Int), false)) else (if (formsP (l.take i)).length + cs.length < 140737488355328 then (proctorref02_form.l0 k left ((d + 1 : Nat) : Int) (formsP (l.take i) ++ cs) (wrap64 ((i : Int) + 1)) true [] l) else (none))) else (some (([] : List Int), false))) := by
      intro k hk
      have := h1 k hk
      simp only at this
      rw [proctorref02_form.l0, if_pos (by omega), if_pos (by omega), rd47 l i hlt, wrap64_in ((left : Int) - _) (by omega), wrap64_in (((d + 1 : Nat) : Int) - 1) (by omega)]
      rw [show (((d + 1 : Nat) : Int) - 1) = (d : Int) by omega, show ((left : Int) - ((formsP (l.take i)).length : Int)) = ((left - (formsP (l.take i)).length : Nat) : Int) by omega, this]
      rfl
    by_cases hv : vP d (left - (formsP (l.take i)).length) l[i] = true
    · have hc := h3 hv
      obtain ⟨hw, hcs, hcl⟩ := h2 hc
      have hv' := hv
      simp only [vP, Bool.and_eq_true, decide_eq_true_eq] at hv'
      obtain ⟨bs, b, ⟨K2, h4⟩, h5, h6⟩ := rform_loop d left hd hl l hll ih m (i + 1) (by omega) (by rw [htk, List.length_append]; omega)
      have hall : (l.drop i).all (wfP d) = (l.drop (i + 1)).all (wfP d) := by rw [hdrop, List.all_cons, hv'.1, Bool.true_and]
      rw [hall]
      refine ⟨bs, b, ⟨max K1 K2 + 1, fun k hk => ?_⟩, h5, h6⟩
      obtain ⟨k, rfl⟩ : ∃ k', k = k' + 1 := ⟨k - 1, by omega⟩
      have := h4 k (by omega)
      simp only at this ⊢
      rw [hstep k (by omega), hc, if_pos rfl, hcs, wrap64_in _ (by omega), wrap64_in _ (by omega), if_neg (by omega), if_pos (by omega)]
      rw [htk] at this
      rw [show ((i : Int) + 1) = ((i + 1 : Nat) : Int) by omega]
      exact this
    · have hb : ((l.drop i).all (wfP d) && decide ((formsP l).length ≤ left)) = false := by
        rw [hdrop, List.all_cons]
        simp only [vP, Bool.and_eq_true, decide_eq_true_eq, not_and] at hv
        by_cases hw : wfP d l[i] = true
        · have := hv hw
          rw [htk, List.length_append] at hle
          have : decide ((formsP l).length ≤ left) = false := decide_eq_false (by omega)
          rw [this]; simp
        · simp only [Bool.not_eq_true] at hw
          rw [hw]; simp
      rw [hb]
      refine ⟨[], false, ⟨K1 + 1, fun k hk => ?_⟩, by simp, by simp⟩
      obtain ⟨k, rfl⟩ : ∃ k', k = k' + 1 := ⟨k - 1, by omega⟩
      simp only
      rw [hstep k (by omega)]
      cases hc : c with
      | false => rfl
      | true =>
        obtain ⟨hw, hcs, hcl⟩ := h2 hc
        have hbig : ¬ (formP l[i]).length ≤ left - (formsP (l.take i)).length := fun h => hv (by simp [vP, hw, h])
        rw [if_pos rfl]
        rw [hcs] at hcl ⊢
        rw [wrap64_in _ (by omega), if_pos (by omega)]

theorem rform_list (d left : Nat) (hd : d + 1 ≤ 16) (hl : left ≤ 65536) (x : S47) (hx : x.f0 = true)
    (ih : ∀ (x : S47) (left : Nat), left ≤ 65536 → ∃ bs b, Ev (fun k => proctorref02_form.f k x.f0 x.f1 x.f2 left d) (bs, b) ∧ FormAns d left x bs b) :
    ∃ bs b, Ev (fun k => proctorref02_form.f k x.f0 x.f1 x.f2 left ((d + 1 : Nat) : Int)) (bs, b) ∧ FormAns (d + 1) left x bs b := by
  obtain ⟨f0, f1, f2⟩ := x
  simp only at hx
  subst hx
  unfold FormAns vP
  rw [wfP_list _ _ rfl, formP_list _ rfl]
  simp only
  by_cases h1 : f1 = []
  · subst h1
    by_cases h2 : f2.length ≤ left
    · obtain ⟨bs, b, ⟨K, hK⟩, h4, h5⟩ := rform_loop d left hd hl f2 h2 ih f2.length 0 (by omega) (by simp [formsP])
      simp only [List.drop_zero, List.take_zero] at hK h4 h5
      simp only [List.isEmpty_nil, Bool.true_and]
      refine ⟨bs, b, ⟨K + 2, fun k hk => ?_⟩, h4, fun h => h5 ?_⟩
      · obtain ⟨k, rfl⟩ : ∃ k', k = k' + 2 := ⟨k - 2, by omega⟩
        have := hK k (by omega)
        simp only [formsP] at this
        have hd2 : decide ((f2.length : Int) > (left : Int)) = false := decide_eq_false (by omega)
        simp only
        rw [proctorref02_form.f, if_pos rfl, if_neg (by simp), if_neg (by omega), proctorref02_form.j2, hd2, if_neg (by simp)]
        exact this
      · simp only [Bool.and_eq_true, decide_eq_true_eq, List.length_append] at h ⊢
        exact ⟨h.1, by omega⟩
    · have hg := formsP_ge f2
      have hb : decide ((aheadP 192 (formsP f2).length ++ formsP f2).length ≤ left) = false := decide_eq_false (by rw [List.length_append]; omega)
      rw [hb, Bool.and_false]
      refine ⟨[], false, ⟨2, fun k hk => ?_⟩, by simp, by simp⟩
      obtain ⟨k, rfl⟩ : ∃ k', k = k' + 2 := ⟨k - 2, by omega⟩
      have hd2 : decide ((f2.length : Int) > (left : Int)) = true := decide_eq_true (by omega)
      simp only
      rw [proctorref02_form.f, if_pos rfl, if_neg (by simp), if_neg (by omega), proctorref02_form.j2, hd2, if_pos rfl]
  · have hl1 : 0 < f1.length := by cases f1; exact absurd rfl h1; simp
    have hie : f1.isEmpty = false := by cases f1; exact absurd rfl h1; rfl
    simp only [hie, Bool.false_and]
    refine ⟨[], false, ⟨2, fun k hk => ?_⟩, by simp, by simp⟩
    obtain ⟨k, rfl⟩ : ∃ k', k = k' + 2 := ⟨k - 2, by omega⟩
    simp only
    rw [proctorref02_form.f, if_pos rfl, if_pos (by omega), proctorref02_form.j2, if_pos rfl]

theorem rform_spec : ∀ (d : Nat), d ≤ 16 → ∀ (x : S47) (left : Nat), left ≤ 65536 →
    ∃ bs b, Ev (fun k => proctorref02_form.f k x.f0 x.f1 x.f2 left d) (bs, b) ∧ FormAns d left x bs b
  | d, hd, x, left, hl => by
    cases hx : x.f0 with
    | false =>
      obtain ⟨bs, b, h1, h2⟩ := rform_str d left hl x hx
      rw [hx] at h1
      exact ⟨bs, b, ⟨20, h1⟩, h2⟩
    | true =>
      cases d with
      | zero =>
        have hv : vP 0 left x = false := by unfold vP; rw [wfP_zero x hx]; rfl
        unfold FormAns
        rw [hv]
        refine ⟨[], false, ⟨2, fun k hk => ?_⟩, by simp, by simp⟩
        obtain ⟨k, rfl⟩ : ∃ k', k = k' + 2 := ⟨k - 2, by omega⟩
        simp only
        rw [proctorref02_form.f, if_pos rfl]
        by_cases hp : (x.f1.length : Int) > 0
        · rw [if_pos hp, proctorref02_form.j2, if_pos rfl]
        · rw [if_neg hp, if_pos (by omega), proctorref02_form.j2, if_pos rfl]
      | succ d =>
        have := rform_list d left hd hl x hx (fun y left' h' => rform_spec d (by omega) y left' h')
        rw [hx] at this
        exact this

theorem rmay_spec (x : S47) : Ev (fun k => proctorref02_May.f k x.f0 x.f1 x.f2) (vP 16 65536 x) := by
  obtain ⟨bs, b, ⟨K, h1⟩, h2, h3⟩ := rform_spec 16 (by omega) x 65536 (by omega)
  refine ⟨K, fun k hk => ?_⟩
  have h4 : proctorref02_form.f k x.f0 x.f1 x.f2 65536 16 = some (bs, b) := h1 k hk
  show proctorref02_May.f k x.f0 x.f1 x.f2 = _
  rw [proctorref02_May.f, h4]
  simp only [Option.bind_some]
  cases hb : b with
  | false =>
    have : vP 16 65536 x = false := by
      cases hv : vP 16 65536 x with
      | false => rfl
      | true => have := h3 hv; rw [hb] at this; cases this
    rw [this]; rfl
  | true =>
    obtain ⟨hw, hbs, _⟩ := h2 hb
    rw [if_pos rfl, hbs]
    unfold vP
    rw [hw, Bool.true_and]
    congr 1
    apply decide_eq_decide.mpr; omega
/-- the document's Encode -/
def encP (x : S47) : List Int × Int := if vP 16 65536 x = true then (formP x, 0) else ([], 2)
theorem renc_spec (x : S47) : Ev (fun k => proctorref02_Encode.f k x.f0 x.f1 x.f2) (encP x) := by
  obtain ⟨bs, b, ⟨K, h1⟩, h2, h3⟩ := rform_spec 16 (by omega) x 65536 (by omega)
  obtain ⟨K2, h5⟩ := rmay_spec x
  refine ⟨max K K2, fun k hk => ?_⟩
  have h4 : proctorref02_form.f k x.f0 x.f1 x.f2 65536 16 = some (bs, b) := h1 k (by omega)
  have h6 : proctorref02_May.f k x.f0 x.f1 x.f2 = some (vP 16 65536 x) := h5 k (by omega)
  show proctorref02_Encode.f k x.f0 x.f1 x.f2 = _
  rw [proctorref02_Encode.f, h4, h6]
  simp only [Option.bind_some]
  unfold encP
  by_cases hv : vP 16 65536 x = true
  · rw [if_pos hv, if_pos hv, (h2 (h3 hv)).2.1]
  · rw [if_neg hv, if_neg hv]
end Go.Proofs.Ytdjoekckhmggbaa.H
