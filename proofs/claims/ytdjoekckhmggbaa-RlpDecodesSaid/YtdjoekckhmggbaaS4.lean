import Derived.Test.YtdjoekckhmggbaaS3
import Derived.Test.YtdjoekckhmggbaaRf9
namespace Go.Proofs.Ytdjoekckhmggbaa.H
open Go.RowKit Go.Proofs.YtdjoekckhmggbaaW.PrintWords Go.Proofs.YtdjoekckhmggbaaW.PrintMore Go.Proofs.Ytdjoekckhmggbaa.PRF
set_option linter.unusedVariables false
set_option linter.unusedSimpArgs false

/-- behind enough steps it is so -/
def Ev {α : Type} (g : Nat → Option α) (r : α) : Prop := ∃ K, ∀ k, K ≤ k → g k = some r
theorem Ev.of_mono {α : Type} {g : Nat → Option α} (hm : ∀ k, LeO (g k) (g (k + 1))) {K : Nat} {r : α} (h : g K = some r) : Ev g r := by
  refine ⟨K, fun k hk => ?_⟩
  induction k with
  | zero => obtain rfl : K = 0 := by omega
            exact h
  | succ k ih =>
    by_cases he : K = k + 1
    · subst he; exact h
    · exact hm k r (ih (by omega))
theorem ahead_ev (f : Int) (n : Nat) (h0 : 0 ≤ f) (h1 : f ≤ 192) (hn : n ≤ 140737488355327) : ∀ k, 15 ≤ k → rlp_ahead.f k f n = some (aheadP f n) := by
  intro k hk
  obtain ⟨K, hK⟩ := Ev.of_mono (fun k => rlp_ahead.mono f n k) (ahead_f f n h0 h1 hn)
  have := ahead_f f n h0 h1 hn
  induction k with
  | zero => omega
  | succ k ih =>
    by_cases he : 15 = k + 1
    · rw [← he]; exact this
    · exact rlp_ahead.mono f n k _ (ih (by omega))
theorem aheadP_len (f : Int) (n : Nat) : 1 ≤ (aheadP f n).length ∧ (aheadP f n).length ≤ 9 := by
  unfold aheadP
  have := bigP_len n
  split <;> simp <;> omega

def wfP : Nat → S47 → Bool
  | 0, x => !x.f0 && x.f2.isEmpty
  | d + 1, x => if x.f0 = true then x.f1.isEmpty && x.f2.all (wfP d) else x.f2.isEmpty
theorem wfP_str (d : Nat) (x : S47) (h : x.f0 = false) : wfP d x = x.f2.isEmpty := by cases d <;> simp [wfP, h]
theorem wfP_list (d : Nat) (x : S47) (h : x.f0 = true) : wfP (d + 1) x = (x.f1.isEmpty && x.f2.all (wfP d)) := by simp [wfP, h]
theorem wfP_zero (x : S47) (h : x.f0 = true) : wfP 0 x = false := by simp [wfP, h]

theorem strP_ge (l : List Int) : l.length ≤ (strP l).length := by unfold strP; split <;> simp
theorem strP_pos (l : List Int) : 1 ≤ (strP l).length := by
  unfold strP
  split
  · rename_i h; omega
  · have := (aheadP_len 128 l.length).1
    simp; omega
theorem formP_pos (x : S47) : 1 ≤ (formP x).length := by
  cases hx : x.f0 with
  | false => rw [formP_str x hx]; exact strP_pos _
  | true =>
    rw [formP_list x hx]
    have := (aheadP_len 192 (formsP x.f2).length).1
    simp; omega
theorem formsP_ge : ∀ (l : List S47), l.length ≤ (formsP l).length
  | [] => by simp
  | x :: l => by have := formsP_ge l; have := formP_pos x; simp [formsP]; omega

/-- it may be, so deep and in so many bytes -/
def vP (d left : Nat) (x : S47) : Bool := wfP d x && decide ((formP x).length ≤ left)

theorem size_str (d left : Nat) (hl : left ≤ 65536) (x : S47) (hx : x.f0 = false) :
    ∃ n : Nat, (∀ k, 20 ≤ k → rlp_size.f k x.f0 x.f1 x.f2 d left = some ((n : Int), vP d left x)) ∧ (vP d left x = true → n = (formP x).length) := by
  obtain ⟨f0, f1, f2⟩ := x
  simp only at hx
  subst hx
  unfold vP
  rw [wfP_str _ _ rfl, formP_str _ rfl]
  simp only
  by_cases h2 : f2 = []
  · subst h2
    simp only [List.isEmpty_nil, Bool.true_and]
    by_cases hgt : f1.length > left
    · refine ⟨0, fun k hk => ?_, fun h => ?_⟩
      · obtain ⟨k, rfl⟩ : ∃ k', k = k' + 2 := ⟨k - 2, by omega⟩
        have hd : decide ((strP f1).length ≤ left) = false := decide_eq_false (by have := strP_ge f1; omega)
        have hd2 : decide ((f1.length : Int) > (left : Int)) = true := decide_eq_true (by omega)
        simp [rlp_size.f, rlp_size.j0, hd]
        omega
      · have := strP_ge f1; simp at h; omega
    · by_cases h1 : f1.length = 1 ∧ f1.headD 0 < 128
      · obtain ⟨i0, rfl⟩ : ∃ i0, f1 = [i0] := by
          match f1, h1.1 with
          | [i0], _ => exact ⟨i0, rfl⟩
        have h1' : i0 < 128 := h1.2
        have hs : strP [i0] = [i0] := by simp [strP, h1']
        rw [hs]
        simp at hgt
        refine ⟨1, fun k hk => ?_, fun _ => rfl⟩
        obtain ⟨k, rfl⟩ : ∃ k', k = k' + 2 := ⟨k - 2, by omega⟩
        have : decide (1 > (left : Int)) = false := decide_eq_false (by omega)
        have h3 : decide (1 ≤ left) = true := decide_eq_true (by omega)
        simp [rlp_size.f, rlp_size.j0, rd, h1', h3]
        omega
      · have hs : strP f1 = aheadP 128 f1.length ++ f1 := by unfold strP; rw [if_neg h1]
        rw [hs, List.length_append]
        have ha := aheadP_len 128 f1.length
        refine ⟨(aheadP 128 f1.length).length + f1.length, fun k hk => ?_, fun _ => rfl⟩
        obtain ⟨k, rfl⟩ : ∃ k', k = k' + 2 := ⟨k - 2, by omega⟩
        have he := ahead_ev 128 f1.length (by omega) (by omega) (by omega) k (by omega)
        have hd2 : decide ((f1.length : Int) > (left : Int)) = false := decide_eq_false (by omega)
        have hw : wrap64 ((f1.length : Int) + ((aheadP 128 f1.length).length : Int)) = ((f1.length : Int) + ((aheadP 128 f1.length).length : Int)) := wrap64_in _ (by omega)
        have hres : some (wrap64 ((f1.length : Int) + ((aheadP 128 f1.length).length : Int)), decide (wrap64 ((f1.length : Int) + ((aheadP 128 f1.length).length : Int)) ≤ (left : Int))) = some (((((aheadP 128 f1.length).length + f1.length : Nat)) : Int), decide ((aheadP 128 f1.length).length + f1.length ≤ left)) := by
          rw [hw]
          congr 2
          · omega
          · apply decide_eq_decide.mpr; omega
        rw [rlp_size.f, if_neg (by simp), if_neg (by simp), rlp_size.j0, hd2, if_neg (by simp), he]
        simp only [Option.bind_some]
        rw [hres]
        by_cases h11 : f1.length = 1
        · have h12 : ¬ rd f1 0 < 128 := by
            obtain ⟨i0, rfl⟩ : ∃ i0, f1 = [i0] := by
              match f1, h11 with
              | [i0], _ => exact ⟨i0, rfl⟩
            simpa [rd] using h1
          rw [if_pos (by omega), if_pos (by omega), if_neg h12]
        · rw [if_neg (by omega)]
  · refine ⟨0, fun k hk => ?_, fun h => by simp [h2] at h⟩
    obtain ⟨k, rfl⟩ : ∃ k', k = k' + 2 := ⟨k - 2, by omega⟩
    have hl2 : 0 < f2.length := by cases f2; exact absurd rfl h2; simp
    have hie : f2.isEmpty = false := by cases f2; exact absurd rfl h2; rfl
    rw [rlp_size.f, if_neg (by simp), if_pos (by omega), rlp_size.j0, if_pos rfl, hie]
    rfl

theorem size_loop (d left : Nat) (hd : d + 1 ≤ 16) (hl : left ≤ 65536) (l : List S47) (hll : l.length ≤ left)
    (ih : ∀ (x : S47) (left : Nat), left ≤ 65536 → ∃ n : Nat, Ev (fun k => rlp_size.f k x.f0 x.f1 x.f2 d left) ((n : Int), vP d left x) ∧ (vP d left x = true → n = (formP x).length)) :
    ∀ (m i : Nat), i + m = l.length → (formsP (l.take i)).length ≤ left →
    ∃ n : Nat, Ev (fun k => rlp_size.l0 k ((d + 1 : Nat) : Int) left ((formsP (l.take i)).length : Int) l l.length i) ((n : Int), (l.drop i).all (wfP d) && decide ((aheadP 192 (formsP l).length ++ formsP l).length ≤ left))
      ∧ (((l.drop i).all (wfP d) && decide ((aheadP 192 (formsP l).length ++ formsP l).length ≤ left)) = true → n = (aheadP 192 (formsP l).length ++ formsP l).length)
  | 0, i, hi, hn => by
    obtain rfl : i = l.length := by omega
    simp only [List.take_length] at hn ⊢
    simp only [List.drop_length, List.all_nil, Bool.true_and]
    have ha := aheadP_len 192 (formsP l).length
    refine ⟨(aheadP 192 (formsP l).length ++ formsP l).length, ⟨16, fun k hk => ?_⟩, fun _ => rfl⟩
    obtain ⟨k, rfl⟩ : ∃ k', k = k' + 1 := ⟨k - 1, by omega⟩
    have he := ahead_ev 192 (formsP l).length (by omega) (by omega) (by omega) k (by omega)
    simp only
    rw [rlp_size.l0, if_neg (by omega), he]
    simp only [Option.bind_some, List.length_append]
    rw [wrap64_in _ (by omega)]
    congr 2
    · omega
    · apply decide_eq_decide.mpr; omega
  | m + 1, i, hi, hn => by
    have hlt : i < l.length := by omega
    obtain ⟨c, ⟨K1, h1⟩, h2⟩ := ih l[i] (left - (formsP (l.take i)).length) (by omega)
    have hdrop : l.drop i = l[i] :: l.drop (i + 1) := by rw [List.drop_eq_getElem_cons hlt]
    have htk := formsP_take l i hlt
    have hle := formsP_take_le l (i + 1)
    have hstep : ∀ k, K1 ≤ k → rlp_size.l0 (k + 1) ((d + 1 : Nat) : Int) left ((formsP (l.take i)).length : Int) l l.length i = (if vP d (left - (formsP (l.take i)).length) l[i] = true then (rlp_size.l0 k ((d + 1 : Nat) : Int) left (wrap64 (((formsP (l.take i)).length : Int) + c)) l l.length (wrap64 ((i : Int) + 1))) else (some (0, false))) := by
      intro k hk
      have := h1 k hk
      simp only at this
      rw [rlp_size.l0, if_pos (by omega), if_pos (by omega), if_pos (by omega), rd47 l i hlt, wrap64_in _ (by omega), wrap64_in _ (by omega)]
      rw [show (((d + 1 : Nat) : Int) - 1) = (d : Int) by omega, show ((left : Int) - ((formsP (l.take i)).length : Int)) = ((left - (formsP (l.take i)).length : Nat) : Int) by omega, this]
      rfl
    cases hv : vP d (left - (formsP (l.take i)).length) l[i] with
    | true =>
      have hc := h2 hv
      have hv' := hv
      simp only [vP, Bool.and_eq_true, decide_eq_true_eq] at hv'
      obtain ⟨n, ⟨K2, h3⟩, h4⟩ := size_loop d left hd hl l hll ih m (i + 1) (by omega) (by rw [htk, List.length_append]; omega)
      have hall : (l.drop i).all (wfP d) = (l.drop (i + 1)).all (wfP d) := by rw [hdrop, List.all_cons, hv'.1, Bool.true_and]
      rw [hall]
      refine ⟨n, ⟨max K1 K2 + 1, fun k hk => ?_⟩, h4⟩
      obtain ⟨k, rfl⟩ : ∃ k', k = k' + 1 := ⟨k - 1, by omega⟩
      have := h3 k (by omega)
      simp only at this ⊢
      rw [hstep k (by omega), hv, if_pos rfl, wrap64_in _ (by omega), wrap64_in _ (by omega), hc]
      rw [htk, List.length_append] at this
      rw [show (((formsP (l.take i)).length : Int) + ((formP l[i]).length : Int)) = (((formsP (l.take i)).length + (formP l[i]).length : Nat) : Int) by omega, show ((i : Int) + 1) = ((i + 1 : Nat) : Int) by omega]
      exact this
    | false =>
      have hb : ((l.drop i).all (wfP d) && decide ((aheadP 192 (formsP l).length ++ formsP l).length ≤ left)) = false := by
        rw [hdrop, List.all_cons]
        simp only [vP, Bool.and_eq_false_iff, decide_eq_false_iff_not] at hv
        rcases hv with hv | hv
        · rw [hv]; simp
        · rw [htk, List.length_append] at hle
          have : decide ((aheadP 192 (formsP l).length ++ formsP l).length ≤ left) = false := decide_eq_false (by rw [List.length_append]; omega)
          rw [this]; simp
      rw [hb]
      refine ⟨0, ⟨K1 + 1, fun k hk => ?_⟩, fun h => by cases h⟩
      obtain ⟨k, rfl⟩ : ∃ k', k = k' + 1 := ⟨k - 1, by omega⟩
      simp only
      rw [hstep k (by omega), hv, if_neg (by simp)]
      rfl

theorem size_list (d left : Nat) (hd : d + 1 ≤ 16) (hl : left ≤ 65536) (x : S47) (hx : x.f0 = true)
    (ih : ∀ (x : S47) (left : Nat), left ≤ 65536 → ∃ n : Nat, Ev (fun k => rlp_size.f k x.f0 x.f1 x.f2 d left) ((n : Int), vP d left x) ∧ (vP d left x = true → n = (formP x).length)) :
    ∃ n : Nat, Ev (fun k => rlp_size.f k x.f0 x.f1 x.f2 ((d + 1 : Nat) : Int) left) ((n : Int), vP (d + 1) left x) ∧ (vP (d + 1) left x = true → n = (formP x).length) := by
  obtain ⟨f0, f1, f2⟩ := x
  simp only at hx
  subst hx
  unfold vP
  rw [wfP_list _ _ rfl, formP_list _ rfl]
  simp only
  by_cases h1 : f1 = []
  · subst h1
    by_cases h2 : f2.length ≤ left
    · obtain ⟨n, ⟨K, hK⟩, h4⟩ := size_loop d left hd hl f2 h2 ih f2.length 0 (by omega) (by simp [formsP])
      simp only [List.drop_zero, List.take_zero] at hK h4
      simp only [List.isEmpty_nil, Bool.true_and]
      refine ⟨n, ⟨K + 2, fun k hk => ?_⟩, h4⟩
      obtain ⟨k, rfl⟩ : ∃ k', k = k' + 2 := ⟨k - 2, by omega⟩
      have := hK k (by omega)
      simp only [formsP, List.length_nil] at this
      have hd2 : decide ((f2.length : Int) > (left : Int)) = false := decide_eq_false (by omega)
      simp only
      rw [rlp_size.f, if_pos rfl, if_neg (by omega), if_neg (by simp), rlp_size.j1, hd2, if_neg (by simp)]
      exact this
    · have hg := formsP_ge f2
      have hb : decide ((aheadP 192 (formsP f2).length ++ formsP f2).length ≤ left) = false := decide_eq_false (by rw [List.length_append]; omega)
      rw [hb, Bool.and_false]
      refine ⟨0, ⟨2, fun k hk => ?_⟩, fun h => by cases h⟩
      obtain ⟨k, rfl⟩ : ∃ k', k = k' + 2 := ⟨k - 2, by omega⟩
      have hd2 : decide ((f2.length : Int) > (left : Int)) = true := decide_eq_true (by omega)
      simp only
      rw [rlp_size.f, if_pos rfl, if_neg (by omega), if_neg (by simp), rlp_size.j1, hd2, if_pos rfl]
      rfl
  · have hl1 : 0 < f1.length := by cases f1; exact absurd rfl h1; simp
    have hie : f1.isEmpty = false := by cases f1; exact absurd rfl h1; rfl
    simp only [hie, Bool.false_and]
    refine ⟨0, ⟨2, fun k hk => ?_⟩, fun h => by cases h⟩
    obtain ⟨k, rfl⟩ : ∃ k', k = k' + 2 := ⟨k - 2, by omega⟩
    simp only
    rw [rlp_size.f, if_pos rfl, if_neg (by omega), if_pos (by omega), rlp_size.j1, if_pos rfl]
    rfl

theorem size_spec : ∀ (d : Nat), d ≤ 16 → ∀ (x : S47) (left : Nat), left ≤ 65536 →
    ∃ n : Nat, Ev (fun k => rlp_size.f k x.f0 x.f1 x.f2 d left) ((n : Int), vP d left x) ∧ (vP d left x = true → n = (formP x).length)
  | d, hd, x, left, hl => by
    cases hx : x.f0 with
    | false =>
      obtain ⟨n, h1, h2⟩ := size_str d left hl x hx
      rw [hx] at h1
      exact ⟨n, ⟨20, h1⟩, h2⟩
    | true =>
      cases d with
      | zero =>
        have hv : vP 0 left x = false := by unfold vP; rw [wfP_zero x hx]; rfl
        rw [hv]
        refine ⟨0, ⟨2, fun k hk => ?_⟩, fun h => by cases h⟩
        obtain ⟨k, rfl⟩ : ∃ k', k = k' + 2 := ⟨k - 2, by omega⟩
        simp only
        rw [rlp_size.f, if_pos rfl, if_pos (by omega), rlp_size.j1, if_pos rfl]
        rfl
      | succ d =>
        have := size_list d left hd hl x hx (fun y left' h' => size_spec d (by omega) y left' h')
        rw [hx] at this
        exact this
theorem may_spec (x : S47) : Ev (fun k => rlp_May.f k x.f0 x.f1 x.f2) (vP 16 65536 x) := by
  obtain ⟨n, ⟨K, h1⟩, _⟩ := size_spec 16 (by omega) x 65536 (by omega)
  refine ⟨K, fun k hk => ?_⟩
  have := h1 k hk
  simp only at this
  show rlp_May.f k x.f0 x.f1 x.f2 = _
  rw [rlp_May.f]
  have h2 : rlp_size.f k x.f0 x.f1 x.f2 16 65536 = some ((n : Int), vP 16 65536 x) := this
  rw [h2]
  rfl
end Go.Proofs.Ytdjoekckhmggbaa.H
