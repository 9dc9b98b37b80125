import Derived.Test.YtocphkfkdadhaaaZPk10
import Derived.Test.YtocphkfkdadhaaaZPk7
import Derived.Test.YtocphkfkdadhaaaZPk6
import Derived.Test.YtocphkfkdadhaaaZPk4
import Derived.Test.YtocphkfkdadhaaaZPk2
import Derived.Test.YtocphkfkdadhaaaZPk3
import Derived.Test.YtocphkfkdadhaaaZPk5
import Derived.Test.YtocphkfkdadhaaaZPk8
import Derived.Test.YtocphkfkdadhaaaZPk9
namespace Go.Proofs.Ytocphkfkdadhaaa.K
open Go.RowKit Go.Proofs.YtocphkfkdadhaaaW.PrintWords Go.Proofs.YtocphkfkdadhaaaW.PrintMore Go.Proofs.Ytocphkfkdadhaaa.PRF
set_option linter.unusedVariables false
set_option linter.unusedSimpArgs false
def Ev {α : Type} (g : Nat → Option α) (r : α) : Prop := ∃ K, ∀ k, K ≤ k → g k = some r
theorem Ev.of_mono {α : Type} {g : Nat → Option α} (hm : ∀ k, LeO (g k) (g (k + 1))) {K : Nat} {r : α} (h : g K = some r) : Ev g r := by
 refine ⟨K, fun k hk => ?_⟩
 induction k with
 | zero => obtain rfl : K = 0 := by omega
           exact h
 | succ k ih =>
  by_cases he : K = k + 1
  ·subst he; exact h
  ·exact hm k r (ih (by omega))
theorem ahead_ev (f : Int) (n : Nat) (h0 : 0 ≤ f) (h1 : f ≤ 192) (hn : n ≤ 140737488355327) : ∀ k, 15 ≤ k → rlp_ahead.f k f n = some (aheadP f n) := by
 intro k hk
 obtain ⟨K, hK⟩ := Ev.of_mono (fun k => rlp_ahead.mono f n k) (ahead_f f n h0 h1 hn)
 have := ahead_f f n h0 h1 hn
 induction k with
 | zero => omega
 | succ k ih =>
  by_cases he : 15 = k + 1
  ·rw [← he]; exact this
  ·exact rlp_ahead.mono f n k _ (ih (by omega))
theorem aheadP_len (f : Int) (n : Nat) : 1 ≤ (aheadP f n).length ∧ (aheadP f n).length ≤ 9 := by
 unfold aheadP
 have := bigP_len n
 split <;> simp <;> omega
def wfP : Nat → S159 → Bool
 | 0, x => !x.f0 && x.f2.isEmpty
 | d + 1, x => if x.f0 = true then x.f1.isEmpty && x.f2.all (wfP d) else x.f2.isEmpty
theorem wfP_str (d : Nat) (x : S159) (h : x.f0 = false) : wfP d x = x.f2.isEmpty := by cases d <;> simp [wfP, h]
theorem wfP_list (d : Nat) (x : S159) (h : x.f0 = true) : wfP (d + 1) x = (x.f1.isEmpty && x.f2.all (wfP d)) := by simp [wfP, h]
theorem wfP_zero (x : S159) (h : x.f0 = true) : wfP 0 x = false := by simp [wfP, h]
theorem strP_ge (l : List Int) : l.length ≤ (strP l).length := by unfold strP; split <;> simp
theorem strP_pos (l : List Int) : 1 ≤ (strP l).length := by
 unfold strP
 split
 ·rename_i h; omega
 ·have := (aheadP_len 128 l.length).1
  simp; omega
theorem formP_pos (x : S159) : 1 ≤ (formP x).length := by
 cases hx : x.f0 with
 | false => rw [formP_str x hx]; exact strP_pos _
 | true =>
  rw [formP_list x hx]
  have := (aheadP_len 192 (formsP x.f2).length).1
  simp; omega
theorem formsP_ge : ∀ (l : List S159), l.length ≤ (formsP l).length
 | [] => by simp
 | x :: l => by have := formsP_ge l; have := formP_pos x; simp [formsP]; omega
def vP (d left : Nat) (x : S159) : Bool := wfP d x && decide ((formP x).length ≤ left)
theorem size_str (d left : Nat) (hl : left ≤ 65536) (x : S159) (hx : x.f0 = false) :
 ∃ n : Nat, (∀ k, 20 ≤ k → rlp_size.f k x.f0 x.f1 x.f2 d left = some ((n : Int), vP d left x)) ∧ (vP d left x = true → n = (formP x).length) := by
 obtain ⟨f0, f1, f2⟩ := x
 simp only at hx
 subst hx
 unfold vP
 rw [wfP_str _ _ rfl, formP_str _ rfl]
 simp only
 by_cases h2 : f2 = []
 ·subst h2
  simp only [List.isEmpty_nil, Bool.true_and]
  by_cases hgt : f1.length > left
  ·refine ⟨0, fun k hk => ?_, fun h => ?_⟩
   ·obtain ⟨k, rfl⟩ : ∃ k', k = k' + 2 := ⟨k - 2, by omega⟩
    have hd : decide ((strP f1).length ≤ left) = false := decide_eq_false (by have := strP_ge f1; omega)
    have hd2 : decide ((f1.length : Int) > (left : Int)) = true := decide_eq_true (by omega)
    simp [rlp_size.f, rlp_size.j0, hd]
    omega
   ·have := strP_ge f1; simp at h; omega
  ·by_cases h1 : f1.length = 1 ∧ f1.headD 0 < 128
   ·obtain ⟨i0, rfl⟩ : ∃ i0, f1 = [i0] := by
     match f1, h1.1 with
     | [i0], _ => exact ⟨i0, rfl⟩
    have h1' : i0 < 128 := h1.2
    have hs : strP [i0] = [i0] := by simp [strP, h1']
    rw [hs]
    simp at hgt
    refine ⟨1, fun k hk => ?_, fun _ => rfl⟩
    obtain ⟨k, rfl⟩ : ∃ k', k = k' + 2 := ⟨k - 2, by omega⟩
    have : decide (1 > (left : Int)) = false := decide_eq_false (by omega)
    have h3 : decide (1 ≤ left) = true := decide_eq_true (by omega)
    simp [rlp_size.f, rlp_size.j0, rd, h1', h3]
    omega
   ·have hs : strP f1 = aheadP 128 f1.length ++ f1 := by unfold strP; rw [if_neg h1]
    rw [hs, List.length_append]
    have ha := aheadP_len 128 f1.length
    refine ⟨(aheadP 128 f1.length).length + f1.length, fun k hk => ?_, fun _ => rfl⟩
    obtain ⟨k, rfl⟩ : ∃ k', k = k' + 2 := ⟨k - 2, by omega⟩
    have he := ahead_ev 128 f1.length (by omega) (by omega) (by omega) k (by omega)
    have hd2 : decide ((f1.length : Int) > (left : Int)) = false := decide_eq_false (by omega)
    have hw : wrap64 ((f1.length : Int) + ((aheadP 128 f1.length).length : Int)) = ((f1.length : Int) + ((aheadP 128 f1.length).length : Int)) := wrap64_in _ (by omega)
    have hres : some (wrap64 ((f1.length : Int) + ((aheadP 128 f1.length).length : Int)), decide (wrap64 ((f1.length : Int) + ((aheadP 128 f1.length).length : Int)) ≤ (left : Int))) = some (((((aheadP 128 f1.length).length + f1.length : Nat)) : Int), decide ((aheadP 128 f1.length).length + f1.length ≤ left)) := by
     rw [hw]
     congr 2
     ·omega
     ·apply decide_eq_decide.mpr; omega
    rw [rlp_size.f, if_neg (by simp), if_neg (by simp), rlp_size.j0, hd2, if_neg (by simp), he]
    simp only [Option.bind_some]
    rw [hres]
    by_cases h11 : f1.length = 1
    ·have h12 : ¬ rd f1 0 < 128 := by
      obtain ⟨i0, rfl⟩ : ∃ i0, f1 = [i0] := by
       match f1, h11 with
       | [i0], _ => exact ⟨i0, rfl⟩
      simpa [rd] using h1
     rw [if_pos (by omega), if_pos (by omega), if_neg h12]
    ·rw [if_neg (by omega)]
 ·refine ⟨0, fun k hk => ?_, fun h => by simp [h2] at h⟩
  obtain ⟨k, rfl⟩ : ∃ k', k = k' + 2 := ⟨k - 2, by omega⟩
  have hl2 : 0 < f2.length := by cases f2; exact absurd rfl h2; simp
  have hie : f2.isEmpty = false := by cases f2; exact absurd rfl h2; rfl
  rw [rlp_size.f, if_neg (by simp), if_pos (by omega), rlp_size.j0, if_pos rfl, hie]
  rfl
theorem size_loop (d left : Nat) (hd : d + 1 ≤ 16) (hl : left ≤ 65536) (l : List S159) (hll : l.length ≤ left)
 (ih : ∀ (x : S159) (left : Nat), left ≤ 65536 → ∃ n : Nat, Ev (fun k => rlp_size.f k x.f0 x.f1 x.f2 d left) ((n : Int), vP d left x) ∧ (vP d left x = true → n = (formP x).length)) :
 ∀ (m i : Nat), i + m = l.length → (formsP (l.take i)).length ≤ left →
 ∃ n : Nat, Ev (fun k => rlp_size.l0 k ((d + 1 : Nat) : Int) left ((formsP (l.take i)).length : Int) l l.length i) ((n : Int), (l.drop i).all (wfP d) && decide ((aheadP 192 (formsP l).length ++ formsP l).length ≤ left))
  ∧ (((l.drop i).all (wfP d) && decide ((aheadP 192 (formsP l).length ++ formsP l).length ≤ left)) = true → n = (aheadP 192 (formsP l).length ++ formsP l).length)
 | 0, i, hi, hn => by
  obtain rfl : i = l.length := by omega
  simp only [List.take_length] at hn ⊢
  simp only [List.drop_length, List.all_nil, Bool.true_and]
  have ha := aheadP_len 192 (formsP l).length
  refine ⟨(aheadP 192 (formsP l).length ++ formsP l).length, ⟨16, fun k hk => ?_⟩, fun _ => rfl⟩
  obtain ⟨k, rfl⟩ : ∃ k', k = k' + 1 := ⟨k - 1, by omega⟩
  have he := ahead_ev 192 (formsP l).length (by omega) (by omega) (by omega) k (by omega)
  simp only
  rw [rlp_size.l0, if_neg (by omega), he]
  simp only [Option.bind_some, List.length_append]
  rw [wrap64_in _ (by omega)]
  congr 2
  ·omega
  ·apply decide_eq_decide.mpr; omega
 | m + 1, i, hi, hn => by
  have hlt : i < l.length := by omega
  obtain ⟨c, ⟨K1, h1⟩, h2⟩ := ih l[i] (left - (formsP (l.take i)).length) (by omega)
  have hdrop : l.drop i = l[i] :: l.drop (i + 1) := by rw [List.drop_eq_getElem_cons hlt]
  have htk := formsP_take l i hlt
  have hle := formsP_take_le l (i + 1)
  have hstep : ∀ k, K1 ≤ k → rlp_size.l0 (k + 1) ((d + 1 : Nat) : Int) left ((formsP (l.take i)).length : Int) l l.length i = (if vP d (left - (formsP (l.take i)).length) l[i] = true then (rlp_size.l0 k ((d + 1 : Nat) : Int) left (wrap64 (((formsP (l.take i)).length : Int) + c)) l l.length (wrap64 ((i : Int) + 1))) else (some (0, false))) := by
   intro k hk
   have := h1 k hk
   simp only at this
   rw [rlp_size.l0, if_pos (by omega), if_pos (by omega), if_pos (by omega), rd159 l i hlt, wrap64_in _ (by omega), wrap64_in _ (by omega)]
   rw [show (((d + 1 : Nat) : Int) - 1) = (d : Int) by omega, show ((left : Int) - ((formsP (l.take i)).length : Int)) = ((left - (formsP (l.take i)).length : Nat) : Int) by omega, this]
   rfl
  cases hv : vP d (left - (formsP (l.take i)).length) l[i] with
  | true =>
   have hc := h2 hv
   have hv' := hv
   simp only [vP, Bool.and_eq_true, decide_eq_true_eq] at hv'
   obtain ⟨n, ⟨K2, h3⟩, h4⟩ := size_loop d left hd hl l hll ih m (i + 1) (by omega) (by rw [htk, List.length_append]; omega)
   have hall : (l.drop i).all (wfP d) = (l.drop (i + 1)).all (wfP d) := by rw [hdrop, List.all_cons, hv'.1, Bool.true_and]
   rw [hall]
   refine ⟨n, ⟨max K1 K2 + 1, fun k hk => ?_⟩, h4⟩
   obtain ⟨k, rfl⟩ : ∃ k', k = k' + 1 := ⟨k - 1, by omega⟩
   have := h3 k (by omega)
   simp only at this ⊢
   rw [hstep k (by omega), hv, if_pos rfl, wrap64_in _ (by omega), wrap64_in _ (by omega), hc]
   rw [htk, List.length_append] at this
   rw [show (((formsP (l.take i)).length : Int) + ((formP l[i]).length : Int)) = (((formsP (l.take i)).length + (formP l[i]).length : Nat) : Int) by omega, show ((i : Int) + 1) = ((i + 1 : Nat) : Int) by omega]
   exact this
  | false =>
   have hb : ((l.drop i).all (wfP d) && decide ((aheadP 192 (formsP l).length ++ formsP l).length ≤ left)) = false := by
    rw [hdrop, List.all_cons]
    simp only [vP, Bool.and_eq_false_iff, decide_eq_false_iff_not] at hv
    rcases hv with hv | hv
    ·rw [hv]; simp
    ·rw [htk, List.length_append] at hle
     have : decide ((aheadP 192 (formsP l).length ++ formsP l).length ≤ left) = false := decide_eq_false (by rw [List.length_append]; omega)
     rw [this]; simp
   rw [hb]
   refine ⟨0, ⟨K1 + 1, fun k hk => ?_⟩, fun h => by cases h⟩
   obtain ⟨k, rfl⟩ : ∃ k', k = k' + 1 := ⟨k - 1, by omega⟩
   simp only
   rw [hstep k (by omega), hv, if_neg (by simp)]
   rfl
theorem size_list (d left : Nat) (hd : d + 1 ≤ 16) (hl : left ≤ 65536) (x : S159) (hx : x.f0 = true)
 (ih : ∀ (x : S159) (left : Nat), left ≤ 65536 → ∃ n : Nat, Ev (fun k => rlp_size.f k x.f0 x.f1 x.f2 d left) ((n : Int), vP d left x) ∧ (vP d left x = true → n = (formP x).length)) :
 ∃ n : Nat, Ev (fun k => rlp_size.f k x.f0 x.f1 x.f2 ((d + 1 : Nat) : Int) left) ((n : Int), vP (d + 1) left x) ∧ (vP (d + 1) left x = true → n = (formP x).length) := by
 obtain ⟨f0, f1, f2⟩ := x
 simp only at hx
 subst hx
 unfold vP
 rw [wfP_list _ _ rfl, formP_list _ rfl]
 simp only
 by_cases h1 : f1 = []
 ·subst h1
  by_cases h2 : f2.length ≤ left
  ·obtain ⟨n, ⟨K, hK⟩, h4⟩ := size_loop d left hd hl f2 h2 ih f2.length 0 (by omega) (by simp [formsP])
   simp only [List.drop_zero, List.take_zero] at hK h4
   simp only [List.isEmpty_nil, Bool.true_and]
   refine ⟨n, ⟨K + 2, fun k hk => ?_⟩, h4⟩
   obtain ⟨k, rfl⟩ : ∃ k', k = k' + 2 := ⟨k - 2, by omega⟩
   have := hK k (by omega)
   simp only [formsP, List.length_nil] at this
   have hd2 : decide ((f2.length : Int) > (left : Int)) = false := decide_eq_false (by omega)
   simp only
   rw [rlp_size.f, if_pos rfl, if_neg (by omega), if_neg (by simp), rlp_size.j1, hd2, if_neg (by simp)]
   exact this
  ·have hg := formsP_ge f2
   have hb : decide ((aheadP 192 (formsP f2).length ++ formsP f2).length ≤ left) = false := decide_eq_false (by rw [List.length_append]; omega)
   rw [hb, Bool.and_false]
   refine ⟨0, ⟨2, fun k hk => ?_⟩, fun h => by cases h⟩
   obtain ⟨k, rfl⟩ : ∃ k', k = k' + 2 := ⟨k - 2, by omega⟩
   have hd2 : decide ((f2.length : Int) > (left : Int)) = true := decide_eq_true (by omega)
   simp only
   rw [rlp_size.f, if_pos rfl, if_neg (by omega), if_neg (by simp), rlp_size.j1, hd2, if_pos rfl]
   rfl
 ·have hl1 : 0 < f1.length := by cases f1; exact absurd rfl h1; simp
  have hie : f1.isEmpty = false := by cases f1; exact absurd rfl h1; rfl
  simp only [hie, Bool.false_and]
  refine ⟨0, ⟨2, fun k hk => ?_⟩, fun h => by cases h⟩
  obtain ⟨k, rfl⟩ : ∃ k', k = k' + 2 := ⟨k - 2, by omega⟩
  simp only
  rw [rlp_size.f, if_pos rfl, if_neg (by omega), if_pos (by omega), rlp_size.j1, if_pos rfl]
  rfl
theorem size_spec : ∀ (d : Nat), d ≤ 16 → ∀ (x : S159) (left : Nat), left ≤ 65536 →
 ∃ n : Nat, Ev (fun k => rlp_size.f k x.f0 x.f1 x.f2 d left) ((n : Int), vP d left x) ∧ (vP d left x = true → n = (formP x).length)
 | d, hd, x, left, hl => by
  cases hx : x.f0 with
  | false =>
   obtain ⟨n, h1, h2⟩ := size_str d left hl x hx
   rw [hx] at h1
   exact ⟨n, ⟨20, h1⟩, h2⟩
  | true =>
   cases d with
   | zero =>
    have hv : vP 0 left x = false := by unfold vP; rw [wfP_zero x hx]; rfl
    rw [hv]
    refine ⟨0, ⟨2, fun k hk => ?_⟩, fun h => by cases h⟩
    obtain ⟨k, rfl⟩ : ∃ k', k = k' + 2 := ⟨k - 2, by omega⟩
    simp only
    rw [rlp_size.f, if_pos rfl, if_pos (by omega), rlp_size.j1, if_pos rfl]
    rfl
   | succ d =>
    have := size_list d left hd hl x hx (fun y left' h' => size_spec d (by omega) y left' h')
    rw [hx] at this
    exact this
theorem may_spec (x : S159) : Ev (fun k => rlp_May.f k x.f0 x.f1 x.f2) (vP 16 65536 x) := by
 obtain ⟨n, ⟨K, h1⟩, _⟩ := size_spec 16 (by omega) x 65536 (by omega)
 refine ⟨K, fun k hk => ?_⟩
 have := h1 k hk
 simp only at this
 show rlp_May.f k x.f0 x.f1 x.f2 = _
 rw [rlp_May.f]
 have h2 : rlp_size.f k x.f0 x.f1 x.f2 16 65536 = some ((n : Int), vP 16 65536 x) := this
 rw [h2]
 rfl
end Go.Proofs.Ytocphkfkdadhaaa.K

namespace Go.Proofs.Ytocphkfkdadhaaa.K
open Go.RowKit Go.Proofs.YtocphkfkdadhaaaW.PrintWords Go.Proofs.YtocphkfkdadhaaaW.PrintMore Go.Proofs.Ytocphkfkdadhaaa.PRF
set_option linter.unusedVariables false
set_option linter.unusedSimpArgs false
theorem head_ev (f : Int) (n : Nat) (h0 : 0 ≤ f) (h1 : f ≤ 192) (hn : n ≤ 140737488355327) : ∀ k, 9 ≤ k → proctorref02_head.f k f n = some (aheadP f n) := by
 intro k hk
 have := head_f f n h0 h1 hn
 induction k with
 | zero => omega
 | succ k ih =>
  by_cases he : 9 = k + 1
  ·rw [← he]; exact this
  ·exact proctorref02_head.mono f n k _ (ih (by omega))
theorem copy_f (l : List Int) (h : l.length < 140737488355328) : proctorref01_Copy.f l = some l := by
 unfold proctorref01_Copy.f
 simp [h]
def FormAns (d left : Nat) (x : S159) (bs : List Int) (b : Bool) : Prop := (b = true → wfP d x = true ∧ bs = formP x ∧ bs.length ≤ left + 9) ∧ (vP d left x = true → b = true)
theorem rform_str (d left : Nat) (hl : left ≤ 65536) (x : S159) (hx : x.f0 = false) :
 ∃ bs b, (∀ k, 20 ≤ k → proctorref02_form.f k x.f0 x.f1 x.f2 left d = some (bs, b)) ∧ FormAns d left x bs b := by
 obtain ⟨f0, f1, f2⟩ := x
 simp only at hx
 subst hx
 unfold FormAns vP
 rw [wfP_str _ _ rfl, formP_str _ rfl]
 simp only
 by_cases h2 : f2 = []
 ·subst h2
  simp only [List.isEmpty_nil, Bool.true_and]
  by_cases hgt : f1.length > left
  ·refine ⟨[], false, fun k hk => ?_, by simp, fun h => ?_⟩
   ·obtain ⟨k, rfl⟩ : ∃ k', k = k' + 2 := ⟨k - 2, by omega⟩
    have hd2 : decide ((f1.length : Int) > (left : Int)) = true := decide_eq_true (by omega)
    rw [proctorref02_form.f, if_neg (by simp), if_neg (by simp), proctorref02_form.j0, hd2, if_pos rfl]
   ·have := strP_ge f1; simp at h; omega
  ·have hd2 : decide ((f1.length : Int) > (left : Int)) = false := decide_eq_false (by omega)
   have hsl : (strP f1).length ≤ left + 9 := by
    have := aheadP_len 128 f1.length
    unfold strP
    split
    ·omega
    ·rw [List.length_append]; omega
   refine ⟨strP f1, true, fun k hk => ?_, fun _ => ⟨trivial, rfl, hsl⟩, fun h => rfl⟩
   obtain ⟨k, rfl⟩ : ∃ k', k = k' + 3 := ⟨k - 3, by omega⟩
   rw [proctorref02_form.f, if_neg (by simp), if_neg (by simp), proctorref02_form.j0, hd2, if_neg (by simp)]
   have hj : ∀ b, (b = decide (f1.length = 1 ∧ f1.headD 0 < 128)) → proctorref02_form.j1 (k + 1) b false f1 [] = some (strP f1, true) := by
    intro b hb
    rw [proctorref02_form.j1, hb]
    by_cases h1 : f1.length = 1 ∧ f1.headD 0 < 128
    ·rw [if_pos (by simpa using h1), copy_f _ (by omega)]
     unfold strP
     rw [if_pos h1]
     rfl
    ·rw [if_neg (by simpa using h1), head_ev 128 f1.length (by omega) (by omega) (by omega) k (by omega)]
     have ha := aheadP_len 128 f1.length
     simp only [Option.bind_some]
     rw [if_pos (by omega)]
     unfold strP
     rw [if_neg h1]
   by_cases h11 : f1.length = 1
   ·obtain ⟨i0, rfl⟩ : ∃ i0, f1 = [i0] := by
     match f1, h11 with
     | [i0], _ => exact ⟨i0, rfl⟩
    rw [if_pos (by simp), if_pos (by simp)]
    refine hj _ ?_
    simp [rd]
   ·rw [if_neg (by omega)]
    refine hj _ ?_
    simp [h11]
 ·refine ⟨[], false, fun k hk => ?_, by simp, fun h => by simp [h2] at h⟩
  obtain ⟨k, rfl⟩ : ∃ k', k = k' + 2 := ⟨k - 2, by omega⟩
  have hl2 : 0 < f2.length := by cases f2; exact absurd rfl h2; simp
  rw [proctorref02_form.f, if_neg (by simp), if_pos (by omega), proctorref02_form.j0, if_pos rfl]
theorem rform_loop (d left : Nat) (hd : d + 1 ≤ 16) (hl : left ≤ 65536) (l : List S159) (hll : l.length ≤ left)
 (ih : ∀ (x : S159) (left : Nat), left ≤ 65536 → ∃ bs b, Ev (fun k => proctorref02_form.f k x.f0 x.f1 x.f2 left d) (bs, b) ∧ FormAns d left x bs b) :
 ∀ (m i : Nat), i + m = l.length → (formsP (l.take i)).length ≤ left →
 ∃ bs b, Ev (fun k => proctorref02_form.l0 k left ((d + 1 : Nat) : Int) (formsP (l.take i)) i true [] l) (bs, b)
  ∧ (b = true → (l.drop i).all (wfP d) = true ∧ bs = aheadP 192 (formsP l).length ++ formsP l ∧ bs.length ≤ left + 9)
  ∧ (((l.drop i).all (wfP d) && decide ((formsP l).length ≤ left)) = true → b = true)
 | 0, i, hi, hn => by
  obtain rfl : i = l.length := by omega
  simp only [List.take_length] at hn ⊢
  simp only [List.drop_length, List.all_nil, Bool.true_and]
  have ha := aheadP_len 192 (formsP l).length
  refine ⟨aheadP 192 (formsP l).length ++ formsP l, true, ⟨16, fun k hk => ?_⟩, fun _ => ⟨trivial, rfl, by rw [List.length_append]; omega⟩, fun _ => rfl⟩
  obtain ⟨k, rfl⟩ : ∃ k', k = k' + 1 := ⟨k - 1, by omega⟩
  have he := head_ev 192 (formsP l).length (by omega) (by omega) (by omega) k (by omega)
  simp only
  rw [proctorref02_form.l0, if_neg (by omega), he]
  simp only [Option.bind_some]
  rw [if_pos (by omega)]
 | m + 1, i, hi, hn => by
  have hlt : i < l.length := by omega
  obtain ⟨cs, c, ⟨K1, h1⟩, h2, h3⟩ := ih l[i] (left - (formsP (l.take i)).length) (by omega)
  have hdrop : l.drop i = l[i] :: l.drop (i + 1) := by rw [List.drop_eq_getElem_cons hlt]
  have htk := formsP_take l i hlt
  have hle := formsP_take_le l (i + 1)
  have hstep : ∀ k, K1 ≤ k → proctorref02_form.l0 (k + 1) left ((d + 1 : Nat) : Int) (formsP (l.take i)) i true [] l = (if c = true then (if (wrap64 (((formsP (l.take i)).length : Int) + (cs.length : Int))) > (left : Int) then (some (([] : List Int), false)) else (if (formsP (l.take i)).length + cs.length < 140737488355328 then (proctorref02_form.l0 k left ((d + 1 : Nat) : Int) (formsP (l.take i) ++ cs) (wrap64 ((i : Int) + 1)) true [] l) else (none))) else (some (([] : List Int), false))) := by
   intro k hk
   have := h1 k hk
   simp only at this
   rw [proctorref02_form.l0, if_pos (by omega), if_pos (by omega), rd159 l i hlt, wrap64_in ((left : Int) - _) (by omega), wrap64_in (((d + 1 : Nat) : Int) - 1) (by omega)]
   rw [show (((d + 1 : Nat) : Int) - 1) = (d : Int) by omega, show ((left : Int) - ((formsP (l.take i)).length : Int)) = ((left - (formsP (l.take i)).length : Nat) : Int) by omega, this]
   rfl
  by_cases hv : vP d (left - (formsP (l.take i)).length) l[i] = true
  ·have hc := h3 hv
   obtain ⟨hw, hcs, hcl⟩ := h2 hc
   have hv' := hv
   simp only [vP, Bool.and_eq_true, decide_eq_true_eq] at hv'
   obtain ⟨bs, b, ⟨K2, h4⟩, h5, h6⟩ := rform_loop d left hd hl l hll ih m (i + 1) (by omega) (by rw [htk, List.length_append]; omega)
   have hall : (l.drop i).all (wfP d) = (l.drop (i + 1)).all (wfP d) := by rw [hdrop, List.all_cons, hv'.1, Bool.true_and]
   rw [hall]
   refine ⟨bs, b, ⟨max K1 K2 + 1, fun k hk => ?_⟩, h5, h6⟩
   obtain ⟨k, rfl⟩ : ∃ k', k = k' + 1 := ⟨k - 1, by omega⟩
   have := h4 k (by omega)
   simp only at this ⊢
   rw [hstep k (by omega), hc, if_pos rfl, hcs, wrap64_in _ (by omega), wrap64_in _ (by omega), if_neg (by omega), if_pos (by omega)]
   rw [htk] at this
   rw [show ((i : Int) + 1) = ((i + 1 : Nat) : Int) by omega]
   exact this
  ·have hb : ((l.drop i).all (wfP d) && decide ((formsP l).length ≤ left)) = false := by
    rw [hdrop, List.all_cons]
    simp only [vP, Bool.and_eq_true, decide_eq_true_eq, not_and] at hv
    by_cases hw : wfP d l[i] = true
    ·have := hv hw
     rw [htk, List.length_append] at hle
     have : decide ((formsP l).length ≤ left) = false := decide_eq_false (by omega)
     rw [this]; simp
    ·simp only [Bool.not_eq_true] at hw
     rw [hw]; simp
   rw [hb]
   refine ⟨[], false, ⟨K1 + 1, fun k hk => ?_⟩, by simp, by simp⟩
   obtain ⟨k, rfl⟩ : ∃ k', k = k' + 1 := ⟨k - 1, by omega⟩
   simp only
   rw [hstep k (by omega)]
   cases hc : c with
   | false => rfl
   | true =>
    obtain ⟨hw, hcs, hcl⟩ := h2 hc
    have hbig : ¬ (formP l[i]).length ≤ left - (formsP (l.take i)).length := fun h => hv (by simp [vP, hw, h])
    rw [if_pos rfl]
    rw [hcs] at hcl ⊢
    rw [wrap64_in _ (by omega), if_pos (by omega)]
theorem rform_list (d left : Nat) (hd : d + 1 ≤ 16) (hl : left ≤ 65536) (x : S159) (hx : x.f0 = true)
 (ih : ∀ (x : S159) (left : Nat), left ≤ 65536 → ∃ bs b, Ev (fun k => proctorref02_form.f k x.f0 x.f1 x.f2 left d) (bs, b) ∧ FormAns d left x bs b) :
 ∃ bs b, Ev (fun k => proctorref02_form.f k x.f0 x.f1 x.f2 left ((d + 1 : Nat) : Int)) (bs, b) ∧ FormAns (d + 1) left x bs b := by
 obtain ⟨f0, f1, f2⟩ := x
 simp only at hx
 subst hx
 unfold FormAns vP
 rw [wfP_list _ _ rfl, formP_list _ rfl]
 simp only
 by_cases h1 : f1 = []
 ·subst h1
  by_cases h2 : f2.length ≤ left
  ·obtain ⟨bs, b, ⟨K, hK⟩, h4, h5⟩ := rform_loop d left hd hl f2 h2 ih f2.length 0 (by omega) (by simp [formsP])
   simp only [List.drop_zero, List.take_zero] at hK h4 h5
   simp only [List.isEmpty_nil, Bool.true_and]
   refine ⟨bs, b, ⟨K + 2, fun k hk => ?_⟩, h4, fun h => h5 ?_⟩
   ·obtain ⟨k, rfl⟩ : ∃ k', k = k' + 2 := ⟨k - 2, by omega⟩
    have := hK k (by omega)
    simp only [formsP] at this
    have hd2 : decide ((f2.length : Int) > (left : Int)) = false := decide_eq_false (by omega)
    simp only
    rw [proctorref02_form.f, if_pos rfl, if_neg (by simp), if_neg (by omega), proctorref02_form.j2, hd2, if_neg (by simp)]
    exact this
   ·simp only [Bool.and_eq_true, decide_eq_true_eq, List.length_append] at h ⊢
    exact ⟨h.1, by omega⟩
  ·have hg := formsP_ge f2
   have hb : decide ((aheadP 192 (formsP f2).length ++ formsP f2).length ≤ left) = false := decide_eq_false (by rw [List.length_append]; omega)
   rw [hb, Bool.and_false]
   refine ⟨[], false, ⟨2, fun k hk => ?_⟩, by simp, by simp⟩
   obtain ⟨k, rfl⟩ : ∃ k', k = k' + 2 := ⟨k - 2, by omega⟩
   have hd2 : decide ((f2.length : Int) > (left : Int)) = true := decide_eq_true (by omega)
   simp only
   rw [proctorref02_form.f, if_pos rfl, if_neg (by simp), if_neg (by omega), proctorref02_form.j2, hd2, if_pos rfl]
 ·have hl1 : 0 < f1.length := by cases f1; exact absurd rfl h1; simp
  have hie : f1.isEmpty = false := by cases f1; exact absurd rfl h1; rfl
  simp only [hie, Bool.false_and]
  refine ⟨[], false, ⟨2, fun k hk => ?_⟩, by simp, by simp⟩
  obtain ⟨k, rfl⟩ : ∃ k', k = k' + 2 := ⟨k - 2, by omega⟩
  simp only
  rw [proctorref02_form.f, if_pos rfl, if_pos (by omega), proctorref02_form.j2, if_pos rfl]
theorem rform_spec : ∀ (d : Nat), d ≤ 16 → ∀ (x : S159) (left : Nat), left ≤ 65536 →
 ∃ bs b, Ev (fun k => proctorref02_form.f k x.f0 x.f1 x.f2 left d) (bs, b) ∧ FormAns d left x bs b
 | d, hd, x, left, hl => by
  cases hx : x.f0 with
  | false =>
   obtain ⟨bs, b, h1, h2⟩ := rform_str d left hl x hx
   rw [hx] at h1
   exact ⟨bs, b, ⟨20, h1⟩, h2⟩
  | true =>
   cases d with
   | zero =>
    have hv : vP 0 left x = false := by unfold vP; rw [wfP_zero x hx]; rfl
    unfold FormAns
    rw [hv]
    refine ⟨[], false, ⟨2, fun k hk => ?_⟩, by simp, by simp⟩
    obtain ⟨k, rfl⟩ : ∃ k', k = k' + 2 := ⟨k - 2, by omega⟩
    simp only
    rw [proctorref02_form.f, if_pos rfl]
    by_cases hp : (x.f1.length : Int) > 0
    ·rw [if_pos hp, proctorref02_form.j2, if_pos rfl]
    ·rw [if_neg hp, if_pos (by omega), proctorref02_form.j2, if_pos rfl]
   | succ d =>
    have := rform_list d left hd hl x hx (fun y left' h' => rform_spec d (by omega) y left' h')
    rw [hx] at this
    exact this
theorem rmay_spec (x : S159) : Ev (fun k => proctorref02_May.f k x.f0 x.f1 x.f2) (vP 16 65536 x) := by
 obtain ⟨bs, b, ⟨K, h1⟩, h2, h3⟩ := rform_spec 16 (by omega) x 65536 (by omega)
 refine ⟨K, fun k hk => ?_⟩
 have h4 : proctorref02_form.f k x.f0 x.f1 x.f2 65536 16 = some (bs, b) := h1 k hk
 show proctorref02_May.f k x.f0 x.f1 x.f2 = _
 rw [proctorref02_May.f, h4]
 simp only [Option.bind_some]
 cases hb : b with
 | false =>
  have : vP 16 65536 x = false := by
   cases hv : vP 16 65536 x with
   | false => rfl
   | true => have := h3 hv; rw [hb] at this; cases this
  rw [this]; rfl
 | true =>
  obtain ⟨hw, hbs, _⟩ := h2 hb
  rw [if_pos rfl, hbs]
  unfold vP
  rw [hw, Bool.true_and]
  congr 1
  apply decide_eq_decide.mpr; omega
def encP (x : S159) : List Int × Int := if vP 16 65536 x = true then (formP x, 0) else ([], 2)
theorem renc_spec (x : S159) : Ev (fun k => proctorref02_Encode.f k x.f0 x.f1 x.f2) (encP x) := by
 obtain ⟨bs, b, ⟨K, h1⟩, h2, h3⟩ := rform_spec 16 (by omega) x 65536 (by omega)
 obtain ⟨K2, h5⟩ := rmay_spec x
 refine ⟨max K K2, fun k hk => ?_⟩
 have h4 : proctorref02_form.f k x.f0 x.f1 x.f2 65536 16 = some (bs, b) := h1 k (by omega)
 have h6 : proctorref02_May.f k x.f0 x.f1 x.f2 = some (vP 16 65536 x) := h5 k (by omega)
 show proctorref02_Encode.f k x.f0 x.f1 x.f2 = _
 rw [proctorref02_Encode.f, h4, h6]
 simp only [Option.bind_some]
 unfold encP
 by_cases hv : vP 16 65536 x = true
 ·rw [if_pos hv, if_pos hv, (h2 (h3 hv)).2.1]
 ·rw [if_neg hv, if_neg hv]
end Go.Proofs.Ytocphkfkdadhaaa.K

namespace Go.Proofs.Ytocphkfkdadhaaa.K
open Go.RowKit Go.Proofs.YtocphkfkdadhaaaW.PrintWords Go.Proofs.YtocphkfkdadhaaaW.PrintMore Go.Proofs.Ytocphkfkdadhaaa.PRF
set_option linter.unusedVariables false
set_option linter.unusedSimpArgs false
def lenR (f : Nat) (rest : List Int) : Int × Int × Int :=
 if f ≤ 55 then ((f : Int), 1, 0)
 else if rest.length < f - 55 then (0, 0, 7)
 else if (rest.take (f - 55)).headD 0 = 0 ∨ num (rest.take (f - 55)) ≤ 55 then (0, 0, 8)
 else if num (rest.take (f - 55)) > rest.length + 1 then (0, 0, 7)
 else ((num (rest.take (f - 55)) : Int), ((1 + (f - 55) : Nat) : Int), 0)
theorem length_l0 (c : Int) (rest : List Int) (hb : Byt rest) (hr : rest.length ≤ 65536) (kk : Nat) (hkl : kk ≤ rest.length) (hk8 : kk ≤ 8) : ∀ (d j : Nat), j + d = kk → ∀ k, d + 1 ≤ k →
 proctorref02_length.l0 k (c :: rest) (kk : Int) (num (rest.take j) : Int) ((j + 1 : Nat) : Int) =
  some (if num (rest.take kk) ≤ 55 then (0, 0, 8) else if num (rest.take kk) > rest.length + 1 then (0, 0, 7) else ((num (rest.take kk) : Int), ((1 + kk : Nat) : Int), 0))
 | 0, j, h, k, hk => by
  obtain ⟨k, rfl⟩ : ∃ k', k = k' + 1 := ⟨k - 1, by omega⟩
  obtain rfl : j = kk := by omega
  rw [proctorref02_length.l0, if_neg (by omega)]
  by_cases h1 : num (rest.take j) ≤ 55
  ·rw [if_pos (by omega), if_pos h1]
  ·rw [if_neg (by omega), if_neg h1, IntWalk.u64_in _ (by rw [List.length_cons]; omega)]
   by_cases h2 : num (rest.take j) > rest.length + 1
   ·rw [if_pos (by rw [List.length_cons]; omega), if_pos h2]
   ·rw [if_neg (by rw [List.length_cons]; omega), if_neg h2, wrap64_in _ (by omega), wrap64_in _ (by omega)]
    congr 2
 | d + 1, j, h, k, hk => by
  obtain ⟨k, rfl⟩ : ∃ k', k = k' + 1 := ⟨k - 1, by omega⟩
  rw [proctorref02_length.l0]
  rw [if_pos (by omega), if_pos (by omega), if_pos (by rw [List.length_cons]; omega), rd_nat (c :: rest) (j + 1) (by rw [List.length_cons]; omega), wrap64_in _ (by omega)]
  simp only [List.getElem_cons_succ]
  have h1 := hb rest[j] (List.getElem_mem (by omega))
  obtain ⟨c', hc⟩ := Int.eq_ofNat_of_zero_le h1.1
  have h2 := num_lt (rest.take j) (hb.take j)
  have h3 : (rest.take j).length ≤ 7 := by rw [List.length_take]; omega
  have h4 := pow256_le h3
  rw [pow256_7] at h4
  have h5 : num (rest.take (j + 1)) = num (rest.take j) * 256 + c' := by
   rw [take_snoc rest j (by omega), num_snoc, hc]; rfl
  rw [hc, num_step _ c' (by omega) (by omega), ← h5]
  exact length_l0 c rest hb hr kk hkl hk8 d (j + 1) (by omega) k (by omega)
theorem length_ev (c : Int) (rest : List Int) (hb : Byt rest) (hr : rest.length ≤ 65536) (base : Int) (h0 : base ≤ c) (h1 : c - base ≤ 63) :
 ∀ k, 20 ≤ k → proctorref02_length.f k (c :: rest) base = some (lenR (c - base).toNat rest) := by
 intro k hk
 obtain ⟨f, hf⟩ := Int.eq_ofNat_of_zero_le (show 0 ≤ c - base by omega)
 have hf' : (c - base) = (f : Int) := hf
 rw [hf', Int.toNat_natCast]
 rw [proctorref02_length.f]
 have hrd : rd (c :: rest) 0 = c := by simp [rd]
 rw [if_pos (by rw [List.length_cons]; omega), hrd, hf', show ((f : Int) % 256) = (f : Int) by omega]
 unfold lenR
 by_cases h2 : f ≤ 55
 ·rw [if_pos (by omega), if_pos h2]
 ·rw [if_neg (by omega), if_neg h2]
  by_cases h3 : rest.length < f - 55
  ·rw [if_pos (by rw [List.length_cons]; omega), if_pos h3]
  ·rw [if_neg (by rw [List.length_cons]; omega), if_neg h3, if_pos (by rw [List.length_cons]; omega)]
   have hrd1 : rd (c :: rest) 1 = (rest.take (f - 55)).headD 0 := by
    cases rest with
    | nil => simp at h3; omega
    | cons a l =>
     obtain ⟨q, hq⟩ : ∃ q, f - 55 = q + 1 := ⟨f - 56, by omega⟩
     rw [hq]
     simp [rd]
   rw [hrd1]
   by_cases h4 : (rest.take (f - 55)).headD 0 = 0
   ·rw [if_pos h4, if_pos (Or.inl h4)]
   ·rw [if_neg h4]
    have := length_l0 c rest hb hr (f - 55) (by omega) (by omega) (f - 55) 0 (by omega) k (by omega)
    simp only [List.take_zero] at this
    rw [show ((f : Int) - 55) = ((f - 55 : Nat) : Int) by omega]
    rw [show (num ([] : List Int) : Int) = 0 by simp [num], show ((0 + 1 : Nat) : Int) = 1 by omega] at this
    rw [this]
    by_cases h5 : num (rest.take (f - 55)) ≤ 55
    ·rw [if_pos h5, if_pos (Or.inr h5)]
    ·rw [if_neg h5, if_neg (show ¬ ((rest.take (f - 55)).headD 0 = 0 ∨ num (rest.take (f - 55)) ≤ 55) from not_or.mpr ⟨h4, h5⟩)]
theorem body_len (c : Int) (rest : List Int) (f : Nat) :
 (∀ e, bodyP f rest = .error e → ((lenR f rest).2.2 = e ∧ e ≠ 0) ∨ ((lenR f rest).2.2 = 0 ∧ e = 7 ∧ ∃ N A : Nat, (lenR f rest).1 = (N : Int) ∧ (lenR f rest).2.1 = (A : Int) ∧ 1 ≤ A ∧ A ≤ rest.length + 1 ∧ N + A > rest.length + 1 ∧ N ≤ rest.length + 64)) ∧
 (∀ x y, bodyP f rest = .ok (x, y) → (lenR f rest).2.2 = 0 ∧ ∃ N A : Nat, (lenR f rest).1 = (N : Int) ∧ (lenR f rest).2.1 = (A : Int) ∧ 1 ≤ A ∧ N + A ≤ rest.length + 1 ∧ x = ((c :: rest).take (A + N)).drop A ∧ y = (c :: rest).drop (A + N) ∧ N = x.length ∧ y.length + (A + N) = rest.length + 1) := by
 unfold bodyP lenR
 by_cases h1 : f ≤ 55
 ·simp only [if_pos h1, cutP]
  by_cases h2 : f ≤ rest.length
  ·simp only [if_pos h2]
   refine ⟨fun e h => (by cases h), fun x y h => ?_⟩
   cases h
   refine ⟨trivial, f, 1, rfl, rfl, by omega, by omega, ?_, ?_, ?_, ?_⟩
   ·rw [Nat.add_comm 1 f]; simp
   ·rw [Nat.add_comm 1 f]; simp
   ·rw [List.length_take]; omega
   ·rw [List.length_drop]; omega
  ·simp only [if_neg h2]
   refine ⟨fun e h => ?_, fun x y h => by cases h⟩
   cases h
   exact Or.inr ⟨trivial, rfl, f, 1, rfl, rfl, by omega, by omega, by omega, by omega⟩
 ·simp only [if_neg h1]
  by_cases h2 : f - 55 ≤ rest.length
  ·rw [if_pos h2, if_neg (show ¬ rest.length < f - 55 by omega)]
   by_cases h3 : (rest.take (f - 55)).headD 0 = 0 ∨ num (rest.take (f - 55)) ≤ 55
   ·rw [if_pos h3, if_pos h3]
    refine ⟨fun e h => ?_, fun x y h => by cases h⟩
    cases h
    exact Or.inl ⟨rfl, by decide⟩
   ·rw [if_neg h3, if_neg h3]
    generalize num (rest.take (f - 55)) = N at *
    by_cases h4 : N > rest.length + 1
    ·rw [if_pos h4]
     simp only [cutP]
     rw [if_neg (by rw [List.length_drop]; omega)]
     refine ⟨fun e h => ?_, fun x y h => by cases h⟩
     cases h
     exact Or.inl ⟨rfl, by decide⟩
    ·rw [if_neg h4]
     simp only [cutP]
     by_cases h5 : N ≤ (rest.drop (f - 55)).length
     ·rw [if_pos h5]
      rw [List.length_drop] at h5
      refine ⟨fun e h => (by cases h), fun x y h => ?_⟩
      cases h
      refine ⟨trivial, N, 1 + (f - 55), rfl, rfl, by omega, by omega, ?_, ?_, ?_, ?_⟩
      ·rw [show 1 + (f - 55) + N = ((f - 55) + N) + 1 by omega, show 1 + (f - 55) = (f - 55) + 1 by omega]
       simp only [List.take_succ_cons, List.drop_succ_cons]
       rw [List.drop_take, Nat.add_sub_cancel_left]
      ·rw [show 1 + (f - 55) + N = ((f - 55) + N) + 1 by omega]
       simp only [List.drop_succ_cons, List.drop_drop]
      ·rw [List.length_take, List.length_drop]; omega
      ·rw [List.length_drop, List.length_drop]; omega
     ·rw [if_neg h5]
      rw [List.length_drop] at h5
      refine ⟨fun e h => ?_, fun x y h => by cases h⟩
      cases h
      exact Or.inr ⟨trivial, rfl, N, 1 + (f - 55), rfl, rfl, by omega, by omega, by omega, by omega⟩
  ·rw [if_neg h2, if_pos (show rest.length < f - 55 by omega)]
   refine ⟨fun e h => ?_, fun x y h => by cases h⟩
   cases h
   exact Or.inl ⟨rfl, by decide⟩
def endR (e : Int) : Bool × List Int × List S159 × Int × Int := (false, [], [], 0, e)
theorem read_err (c : Int) (rest : List Int) (hb : Byt rest) (hr : rest.length ≤ 65536) (base : Int) (h0 : base ≤ c) (h1 : c - base ≤ 63) (lv : Int) (flag : Bool) (e : Int) (he : bodyP (c - base).toNat rest = .error e) :
 ∀ k, 30 ≤ k → proctorref02_read.j0 k (c :: rest) lv flag base = some (endR e) := by
 intro k hk
 obtain ⟨k, rfl⟩ : ∃ k', k = k' + 3 := ⟨k - 3, by omega⟩
 rw [proctorref02_read.j0, length_ev c rest hb hr base h0 h1 (k + 2) (by omega)]
 simp only [Option.bind_some]
 have hb1 := (body_len c rest (c - base).toNat).1 e he
 generalize lenR (c - base).toNat rest = q at *
 obtain ⟨n, at_, e0⟩ := q
 simp only at hb1 ⊢
 rcases hb1 with ⟨rfl, hne⟩ | ⟨rfl, rfl, N, A, rfl, rfl, hA, hA1, hNA, hN⟩
 ·rw [if_neg hne, proctorref02_read.j1, if_neg (by simp), proctorref02_read.j2, if_neg hne]
  rfl
 ·rw [if_pos rfl, wrap64_in _ (by rw [List.length_cons]; omega)]
  rw [show decide ((N : Int) > ((c :: rest).length : Int) - (A : Int)) = true from decide_eq_true (by rw [List.length_cons]; omega)]
  rw [proctorref02_read.j1, if_pos rfl, proctorref02_read.j2, if_neg (by decide)]
  rfl
theorem read_ok (c : Int) (rest : List Int) (hb : Byt rest) (hr : rest.length ≤ 65536) (base : Int) (h0 : base ≤ c) (h1 : c - base ≤ 63) (lv : Int) (flag : Bool) (x y : List Int) (he : bodyP (c - base).toNat rest = .ok (x, y)) :
 ∃ N A : Nat, N = x.length ∧ y.length + (A + N) = rest.length + 1 ∧ ∀ k, 30 ≤ k → proctorref02_read.j0 (k + 3) (c :: rest) lv flag base =
  if flag = true then proctorref02_read.l0 k lv N A x true [] else
  if x.length = 1 ∧ x.headD 0 < 128 then some (endR 8) else some (false, x, [], ((A + N : Nat) : Int), 0) := by
 have hb1 := (body_len c rest (c - base).toNat).2 x y he
 obtain ⟨h2, N, A, h3, h4, hA, hNA, hx, hy, hN, hyl⟩ := hb1
 refine ⟨N, A, hN, hyl, fun k hk => ?_⟩
 rw [proctorref02_read.j0, length_ev c rest hb hr base h0 h1 (k + 2) (by omega)]
 simp only [Option.bind_some]
 generalize lenR (c - base).toNat rest = q at *
 obtain ⟨n, at_, e0⟩ := q
 simp only at h2 h3 h4 ⊢
 subst h2 h3 h4
 have hxl : x.length ≤ 65536 := by omega
 rw [if_pos rfl, wrap64_in _ (by rw [List.length_cons]; omega)]
 rw [show decide ((N : Int) > ((c :: rest).length : Int) - (A : Int)) = false from decide_eq_false (by rw [List.length_cons]; omega)]
 rw [proctorref02_read.j1, if_neg (by simp), proctorref02_read.j2, if_pos rfl, if_pos (by omega), wrap64_in _ (by omega), if_pos (by omega), if_pos (by rw [List.length_cons]; omega)]
 rw [show (((A : Int) + (N : Int)).toNat) = A + N by omega, Int.toNat_natCast, ← hx]
 simp only [Option.bind_some]
 cases flag with
 | true => rw [if_pos rfl, if_pos rfl]
 | false =>
  rw [if_neg (show ¬ (false = true) by decide), if_neg (show ¬ (false = true) by decide)]
  have hc : ∀ b : Option (Bool × List Int × List S159 × Int × Int), ((proctorref01_Copy.f x).bind fun t => some (false, t, ([] : List S159), (A : Int) + (N : Int), (0 : Int))) = some (false, x, [], ((A + N : Nat) : Int), 0) := by
   intro _
   rw [copy_f x (by omega)]
   simp
  rw [hc none]
  by_cases h11 : x.length = 1
  ·obtain ⟨i0, rfl⟩ : ∃ i0, x = [i0] := by
    match x, h11 with
    | [i0], _ => exact ⟨i0, rfl⟩
   rw [if_pos (show (N : Int) = 1 by simp at hN; omega), if_pos (show (0 : Int) < ([i0].length : Int) by simp)]
   have hrd : rd [i0] 0 = i0 := by simp [rd]
   rw [hrd]
   simp only [List.length_singleton, List.headD_cons, true_and]
   rfl
  ·rw [if_neg (show ¬ (N : Int) = 1 by omega), if_neg (show ¬ (x.length = 1 ∧ x.headD 0 < 128) from fun h => h11 h.1)]
def resR (lv : Nat) (b : List Int) : Bool × List Int × List S159 × Int × Int :=
 match itemP lv b with
 | .ok q => (q.1.f0, q.1.f1, q.1.f2, (b.length : Int) - (q.2.length : Int), 0)
 | .error e => endR e
theorem itemP_suffix {lv : Nat} {l r : List Int} {x : S159} (h : itemP lv l = .ok (x, r)) : r = l.drop (l.length - r.length) := by
 have h1 := itemP_len h
 have : ∃ k, r = l.drop k := by cases lv <;> exact itemF_suffix h
 obtain ⟨k, rfl⟩ := this
 rw [List.length_drop] at h1 ⊢
 by_cases hk : k ≤ l.length
 ·rw [show l.length - (l.length - k) = k by omega]
 ·rw [List.drop_of_length_le (by omega), show l.length - (l.length - k) = l.length by omega, List.drop_length]
theorem cutP_err {b : List Int} {n : Nat} {e : Int} (h : cutP b n = .error e) : e ≠ 0 := by
 unfold cutP at h
 split at h
 ·cases h
 ·cases h; decide
theorem bodyP_err {f : Nat} {b : List Int} {e : Int} (h : bodyP f b = .error e) : e ≠ 0 := by
 unfold bodyP at h
 split at h
 ·exact cutP_err h
 ·split at h
  ·split at h
   ·cases h; decide
   ·exact cutP_err h
  ·cases h; decide
theorem bind_err {ε α β : Type} {x : Except ε α} {f : α → Except ε β} {e : ε} (h : x.bind f = .error e) : x = .error e ∨ ∃ a, x = .ok a ∧ f a = .error e := by
 cases x with
 | error e' => exact Or.inl (by cases h; rfl)
 | ok a => exact Or.inr ⟨a, rfl, h⟩
theorem itemsP_err (f : List Int → Except Int (S159 × List Int)) (hl : ∀ l x r, f l = .ok (x, r) → r.length < l.length) (hf : ∀ l e, f l = .error e → e ≠ 0) :
 ∀ (k : Nat) (l : List Int), l.length ≤ k → ∀ e, itemsP f k l = .error e → e ≠ 0
 | k, [], _, e, h => by cases k <;> cases h
 | 0, _ :: _, hk, e, h => by simp at hk
 | k + 1, c :: l, hk, e, h => by
  rw [itemsP] at h
  rcases bind_err h with h | ⟨⟨x, r⟩, h1, h⟩
  ·exact hf _ _ h
  ·have h2 := hl _ _ _ h1
   rw [List.length_cons] at h2 hk
   rcases bind_err h with h | ⟨xs, h1, h⟩
   ·exact itemsP_err f hl hf k r (by omega) e h
   ·cases h
theorem itemF_err {sub : Option (List Int → Except Int (S159 × List Int))} (hsl : ∀ f, sub = some f → ∀ l x r, f l = .ok (x, r) → r.length < l.length) (hsub : ∀ f, sub = some f → ∀ l e, f l = .error e → e ≠ 0) {b : List Int} {e : Int} (h : itemF sub b = .error e) : e ≠ 0 := by
 cases b with
 | nil => cases h; decide
 | cons c rest =>
  simp only [itemF] at h
  split at h
  ·cases h
  ·split at h
   ·rcases bind_err h with h | ⟨q, h1, h⟩
    ·exact bodyP_err h
    ·split at h
     ·cases h; decide
     ·cases h
   ·cases sub with
    | none => cases h; decide
    | some f =>
     simp only at h
     rcases bind_err h with h | ⟨q, h1, h⟩
     ·exact bodyP_err h
     ·rcases bind_err h with h | ⟨xs, h1, h⟩
      ·exact itemsP_err f (hsl f rfl) (hsub f rfl) _ _ (Nat.le_refl _) _ h
      ·cases h
theorem itemP_err : ∀ {lv : Nat} {b : List Int} {e : Int}, itemP lv b = .error e → e ≠ 0
 | 0, b, e, h => itemF_err (by simp) (by simp) h
 | lv + 1, b, e, h => itemF_err (sub := some (itemP lv)) (by rintro f hf; cases hf; intro l x r h; exact itemP_len h) (by rintro f hf; cases hf; intro l e h; exact itemP_err h) h
theorem read_loop (lv : Nat) (hlv : lv + 1 ≤ 16) (N A : Nat) (hNA : A + N ≤ 70000)
 (ih : ∀ b : List Int, Byt b → b.length ≤ 65537 → Ev (fun k => proctorref02_read.f k b lv) (resR lv b)) :
 ∀ (s : Nat) (x : List Int), x.length ≤ s → Byt x → ∀ acc : List S159, acc.length + x.length ≤ 70000 → x.length ≤ 65537 →
 Ev (fun k => proctorref02_read.l0 k ((lv + 1 : Nat) : Int) N A x true acc)
  (match itemsP (itemP lv) x.length x with
   | .ok xs => (true, [], acc ++ xs, ((A + N : Nat) : Int), 0)
   | .error e => endR e) := by
 intro s
 induction s with
 | zero =>
  intro x hx hb acc hl hl2
  obtain rfl : x = [] := List.length_eq_zero_iff.mp (by omega)
  refine ⟨1, fun k hk => ?_⟩
  obtain ⟨k, rfl⟩ : ∃ k', k = k' + 1 := ⟨k - 1, by omega⟩
  simp only
  rw [proctorref02_read.l0, if_neg (by simp), wrap64_in _ (by omega)]
  simp [itemsP]
 | succ s ihs =>
  intro x hx hb acc hl hl2
  by_cases h0 : x.length = 0
  ·exact ihs x (by omega) hb acc hl hl2
  ·obtain ⟨K1, h1⟩ := ih x hb hl2
   rw [items_step lv x (by omega)]
   have hstep : ∀ k, K1 ≤ k → proctorref02_read.f k x (wrap64 (((lv + 1 : Nat) : Int) - 1)) = some (resR lv x) := by
    intro k hk
    rw [wrap64_in _ (by omega), show (((lv + 1 : Nat) : Int) - 1) = (lv : Int) by omega]
    exact h1 k hk
   unfold resR at hstep
   cases hi : itemP lv x with
   | error e =>
    have hne := itemP_err hi
    rw [hi] at hstep
    simp only at hstep
    refine ⟨K1 + 1, fun k hk => ?_⟩
    obtain ⟨k, rfl⟩ : ∃ k', k = k' + 1 := ⟨k - 1, by omega⟩
    simp only
    rw [proctorref02_read.l0, if_pos (by omega), hstep k (by omega)]
    simp only [Option.bind_some, endR, Except.bind]
    rw [if_neg hne]
   | ok q =>
    obtain ⟨⟨y0, y1, y2⟩, r⟩ := q
    have hlen := itemP_len hi
    have hsuf := itemP_suffix hi
    have hbr := itemP_byt hb hi
    rw [hi] at hstep
    simp only at hstep
    obtain ⟨K2, h2⟩ := ihs r (by omega) hbr (acc ++ [⟨y0, y1, y2⟩]) (by rw [List.length_append, List.length_singleton]; omega) (by omega)
    refine ⟨max K1 K2 + 1, fun k hk => ?_⟩
    obtain ⟨k, rfl⟩ : ∃ k', k = k' + 1 := ⟨k - 1, by omega⟩
    have h3 := h2 k (by omega)
    simp only at h3 ⊢
    rw [proctorref02_read.l0, if_pos (by omega), hstep k (by omega)]
    simp only [Option.bind_some, Except.bind]
    rw [if_pos trivial, if_pos (by omega), if_pos (by omega), if_pos (by omega)]
    rw [show ((x.length : Int) - (r.length : Int)).toNat = x.length - r.length by omega, ← hsuf]
    refine Eq.trans h3 ?_
    cases hi2 : itemsP (itemP lv) r.length r with
    | error e => rfl
    | ok xs => simp
theorem bodyP_byt' {f : Nat} {b x y : List Int} (hb : Byt b) (h : bodyP f b = .ok (x, y)) : Byt x := by
 unfold bodyP at h
 split at h
 ·obtain ⟨h1, rfl, rfl⟩ := cutP_ok h
  exact hb.take _
 ·split at h
  ·split at h
   ·cases h
   ·obtain ⟨h1, rfl, rfl⟩ := cutP_ok h
    exact (hb.drop _).take _
  ·cases h
theorem read_spec : ∀ (lv : Nat), lv ≤ 16 → ∀ b : List Int, Byt b → b.length ≤ 65537 → Ev (fun k => proctorref02_read.f k b lv) (resR lv b)
 | lv, hlv, [], hb, hl => by
  refine ⟨1, fun k hk => ?_⟩
  obtain ⟨k, rfl⟩ : ∃ k', k = k' + 1 := ⟨k - 1, by omega⟩
  simp only
  rw [proctorref02_read.f, if_pos (by simp)]
  cases lv <;> rfl
 | lv, hlv, c :: rest, hb, hl => by
  have hr : rest.length ≤ 65536 := by rw [List.length_cons] at hl; omega
  have hbr : Byt rest := fun x hx => hb x (List.mem_cons_of_mem _ hx)
  have hc := hb c (by simp)
  have hrd : rd (c :: rest) 0 = c := by simp [rd]
  have hP : itemP lv (c :: rest) = if c < 128 then .ok (⟨false, [c], []⟩, rest)
   else if c < 192 then (bodyP (c - 128).toNat rest).bind fun q => if q.1.length = 1 ∧ q.1.headD 0 < 128 then .error 8 else .ok (⟨false, q.1, []⟩, q.2)
   else match lv with
    | 0 => .error 8
    | lv + 1 => (bodyP (c - 192).toNat rest).bind fun q => (itemsP (itemP lv) q.1.length q.1).bind fun xs => .ok (⟨true, [], xs⟩, q.2) := by
   cases lv <;> rfl
  unfold resR
  rw [hP]
  by_cases h1 : c < 128
  ·rw [if_pos h1]
   refine ⟨1, fun k hk => ?_⟩
   obtain ⟨k, rfl⟩ : ∃ k', k = k' + 1 := ⟨k - 1, by omega⟩
   simp only
   rw [proctorref02_read.f, if_neg (by rw [List.length_cons]; omega), if_pos (by rw [List.length_cons]; omega), hrd, if_pos h1]
   congr 5
   rw [List.length_cons]; omega
  ·rw [if_neg h1]
   by_cases h2 : c < 192
   ·rw [if_pos h2]
    have hf : ∀ k, proctorref02_read.f (k + 1) (c :: rest) lv = proctorref02_read.j0 k (c :: rest) lv false 128 := by
     intro k
     rw [proctorref02_read.f, if_neg (by rw [List.length_cons]; omega), if_pos (by rw [List.length_cons]; omega), hrd, if_neg h1, if_neg (by omega), show decide (c ≥ 192) = false from decide_eq_false (by omega)]
    cases hbd : bodyP (c - 128).toNat rest with
    | error e =>
     have := read_err c rest hbr hr 128 (by omega) (by omega) lv false e hbd
     refine ⟨40, fun k hk => ?_⟩
     obtain ⟨k, rfl⟩ : ∃ k', k = k' + 1 := ⟨k - 1, by omega⟩
     simp only
     rw [hf, this k (by omega)]
     rfl
    | ok q =>
     obtain ⟨x, y⟩ := q
     obtain ⟨N, A, hN, hyl, h3⟩ := read_ok c rest hbr hr 128 (by omega) (by omega) lv false x y hbd
     refine ⟨40, fun k hk => ?_⟩
     obtain ⟨k, rfl⟩ : ∃ k', k = k' + 4 := ⟨k - 4, by omega⟩
     simp only
     rw [hf, h3 k (by omega), if_neg (by decide)]
     simp only [Except.bind]
     by_cases h4 : x.length = 1 ∧ x.headD 0 < 128
     ·rw [if_pos h4, if_pos h4]
     ·rw [if_neg h4, if_neg h4]
      simp only [List.length_cons]
      congr 5
      omega
   ·rw [if_neg h2]
    cases lv with
    | zero =>
     refine ⟨1, fun k hk => ?_⟩
     obtain ⟨k, rfl⟩ : ∃ k', k = k' + 1 := ⟨k - 1, by omega⟩
     simp only
     rw [proctorref02_read.f, if_neg (by rw [List.length_cons]; omega), if_pos (by rw [List.length_cons]; omega), hrd, if_neg h1, if_pos (by omega), if_pos (by omega)]
     rfl
    | succ lv =>
     have hf : ∀ k, proctorref02_read.f (k + 1) (c :: rest) ((lv + 1 : Nat) : Int) = proctorref02_read.j0 k (c :: rest) ((lv + 1 : Nat) : Int) true 192 := by
      intro k
      rw [proctorref02_read.f, if_neg (by rw [List.length_cons]; omega), if_pos (by rw [List.length_cons]; omega), hrd, if_neg h1, if_pos (by omega), if_neg (by omega), show decide (c ≥ 192) = true from decide_eq_true (by omega)]
     simp only
     cases hbd : bodyP (c - 192).toNat rest with
     | error e =>
      have := read_err c rest hbr hr 192 (by omega) (by omega) ((lv + 1 : Nat) : Int) true e hbd
      refine ⟨40, fun k hk => ?_⟩
      obtain ⟨k, rfl⟩ : ∃ k', k = k' + 1 := ⟨k - 1, by omega⟩
      simp only
      rw [hf, this k (by omega)]
      rfl
     | ok q =>
      obtain ⟨x, y⟩ := q
      obtain ⟨N, A, hN, hyl, h3⟩ := read_ok c rest hbr hr 192 (by omega) (by omega) ((lv + 1 : Nat) : Int) true x y hbd
      have hbx := bodyP_byt' hbr hbd
      obtain ⟨K, hK⟩ := read_loop lv hlv N A (by omega) (fun b hb hl => read_spec lv (by omega) b hb hl) x.length x (Nat.le_refl _) hbx [] (by simp; omega) (by omega)
      refine ⟨K + 40, fun k hk => ?_⟩
      obtain ⟨k, rfl⟩ : ∃ k', k = k' + 4 := ⟨k - 4, by omega⟩
      have h5 := hK k (by omega)
      simp only at h5 ⊢
      rw [hf, h3 k (by omega), if_pos rfl, h5]
      simp only [Except.bind]
      cases itemsP (itemP lv) x.length x with
      | error e => rfl
      | ok xs =>
       simp only [List.length_cons, List.nil_append]
       congr 5
       omega
end Go.Proofs.Ytocphkfkdadhaaa.K

namespace Go.Proofs.Ytocphkfkdadhaaa.K
open Go.RowKit Go.Proofs.YtocphkfkdadhaaaW.PrintWords Go.Proofs.YtocphkfkdadhaaaW.PrintMore Go.Proofs.Ytocphkfkdadhaaa.PRF
set_option linter.unusedVariables false
set_option linter.unusedSimpArgs false
theorem body_form (base : Int) (f : Nat) (rest x y : List Int) (hb : Byt rest) (hf : f ≤ 63) (h : bodyP f rest = .ok (x, y)) : (base + f) :: rest = aheadP base x.length ++ x ++ y := by
 unfold bodyP at h
 by_cases h1 : f ≤ 55
 ·rw [if_pos h1] at h
  obtain ⟨h2, rfl, rfl⟩ := cutP_ok h
  have hl : (rest.take f).length = f := by rw [List.length_take]; omega
  rw [hl]
  unfold aheadP
  rw [if_pos h1]
  simp
 ·rw [if_neg h1] at h
  split at h
  ·rename_i h2
   split at h
   ·cases h
   ·rename_i h3
    rw [not_or] at h3
    obtain ⟨h4, rfl, rfl⟩ := cutP_ok h
    obtain ⟨h31, h32⟩ := h3
    have hk : (rest.take (f - 55)).length = f - 55 := by rw [List.length_take]; omega
    have hbig := bigP_of_num (rest.take (f - 55)) (hb.take _) (by omega) (fun _ => h31)
    generalize hn : num (rest.take (f - 55)) = n at *
    have hl : ((rest.drop (f - 55)).take n).length = n := by rw [List.length_take]; omega
    rw [hl]
    unfold aheadP
    rw [if_neg (by omega), hbig, hk]
    have e : base + 55 + ((f - 55 : Nat) : Int) = base + f := by omega
    rw [e, List.cons_append, List.cons_append, List.append_assoc, List.take_append_drop, List.take_append_drop]
  ·cases h
theorem items_form (f : List Int → Except Int (S159 × List Int)) (P : S159 → Prop) (hf : ∀ l x r, Byt l → f l = .ok (x, r) → l = formP x ++ r ∧ P x) :
 ∀ (k : Nat) (l : List Int), Byt l → ∀ xs, itemsP f k l = .ok xs → l = formsP xs ∧ ∀ x ∈ xs, P x
 | k, [], _, xs, h => by
  cases k <;> (cases h; exact ⟨by simp [formsP], by simp⟩)
 | 0, _ :: _, _, xs, h => by cases h
 | k + 1, c :: l, hb, xs, h => by
  rw [itemsP] at h
  obtain ⟨⟨x, r⟩, h1, h⟩ := bind_ok h
  obtain ⟨ys, h2, h⟩ := bind_ok h
  cases h
  obtain ⟨h3, h4⟩ := hf _ _ _ hb h1
  have hbr : Byt r := fun z hz => hb z (by rw [h3]; exact List.mem_append_right _ hz)
  obtain ⟨h5, h6⟩ := items_form f P hf k r hbr ys h2
  refine ⟨?_, ?_⟩
  ·rw [h3, formsP, ← h5]
  ·intro z hz
   rcases List.mem_cons.mp hz with rfl | hz
   ·exact h4
   ·exact h6 z hz
theorem itemF_form (lv : Nat) (sub : Option (List Int → Except Int (S159 × List Int))) (hsub : (sub = none ∧ lv = 0) ∨ ∃ f d, sub = some f ∧ lv = d + 1 ∧ ∀ l x r, Byt l → f l = .ok (x, r) → l = formP x ++ r ∧ wfP d x = true)
 (l r : List Int) (x : S159) (hb : Byt l) (h : itemF sub l = .ok (x, r)) : l = formP x ++ r ∧ wfP lv x = true := by
 cases l with
 | nil => cases h
 | cons c rest =>
  have hbr : Byt rest := fun z hz => hb z (List.mem_cons_of_mem _ hz)
  have hc := hb c (by simp)
  simp only [itemF] at h
  split at h
  ·rename_i h1
   cases h
   rw [formP_str _ rfl, wfP_str _ _ rfl]
   simp [strP, h1]
  ·rename_i h1
   split at h
   ·rename_i h2
    obtain ⟨⟨a, b⟩, h3, h⟩ := bind_ok h
    simp only at h
    split at h
    ·cases h
    ·rename_i h4
     cases h
     have h5 := body_form 128 (c - 128).toNat rest a r hbr (by omega) h3
     rw [formP_str _ rfl, wfP_str _ _ rfl]
     simp only [strP, if_neg h4, List.isEmpty_nil, and_true]
     rw [← h5]
     congr 1
     omega
   ·rename_i h2
    rcases hsub with ⟨rfl, _⟩ | ⟨f, d, rfl, rfl, hf⟩
    ·cases h
    ·simp only at h
     obtain ⟨⟨a, b⟩, h3, h⟩ := bind_ok h
     obtain ⟨xs, h4, h⟩ := bind_ok h
     cases h
     have h5 := body_form 192 (c - 192).toNat rest a b hbr (by omega) h3
     obtain ⟨h6, h7⟩ := items_form f (fun z => wfP d z = true) hf _ a (bodyP_byt' hbr h3) xs h4
     rw [formP_list _ rfl, wfP_list _ _ rfl]
     simp only [List.isEmpty_nil, Bool.true_and, List.all_eq_true]
     refine ⟨?_, h7⟩
     rw [← h6, ← h5]
     congr 1
     omega
theorem itemP_form : ∀ (lv : Nat) (l r : List Int) (x : S159), Byt l → itemP lv l = .ok (x, r) → l = formP x ++ r ∧ wfP lv x = true
 | 0, l, r, x, hb, h => itemF_form 0 none (Or.inl ⟨rfl, rfl⟩) l r x hb h
 | lv + 1, l, r, x, hb, h => itemF_form (lv + 1) (some (itemP lv)) (Or.inr ⟨_, lv, rfl, rfl, fun l x r hb h => itemP_form lv l r x hb h⟩) l r x hb h
theorem decode_form (l : List Int) (x : S159) (hb : Byt l) (h : decodeP l = .ok x) : formP x = l ∧ vP 16 65536 x = true := by
 unfold decodeP at h
 split at h
 ·cases h
 ·rename_i h1
  obtain ⟨⟨y, r⟩, h2, h⟩ := bind_ok h
  simp only at h
  split at h
  ·rename_i h3
   cases h
   obtain ⟨h4, h5⟩ := itemP_form 16 l r x hb h2
   subst h3
   rw [List.append_nil] at h4
   rw [← h4]
   refine ⟨rfl, ?_⟩
   unfold vP
   rw [h5, ← h4, Bool.true_and]
   exact decide_eq_true (by omega)
  ·cases h
inductive BytI : S159 → Prop
 | mk (x : S159) (h1 : Byt x.f1) (h2 : ∀ y ∈ x.f2, BytI y) : BytI x
theorem ahead_body (base : Int) (h0 : 0 ≤ base) (x r : List Int) (hl : x.length ≤ 65536) : ∃ (f : Nat) (rest : List Int), f ≤ 63 ∧ aheadP base x.length ++ x ++ r = (base + f) :: rest ∧ bodyP f rest = .ok (x, r) ∧ (f = 1 → x.length = 1) ∧ rest.length < (aheadP base x.length ++ x ++ r).length := by
 by_cases h1 : x.length ≤ 55
 ·refine ⟨x.length, x ++ r, by omega, ?_, ?_, fun h => h, ?_⟩
  ·unfold aheadP; rw [if_pos h1]; simp
  ·unfold bodyP cutP; rw [if_pos h1, if_pos (by simp)]; simp
  ·unfold aheadP; rw [if_pos h1]; simp
 ·have h2 := bigP_head x.length (by omega) (by omega)
  have h3 := bigP_num x.length (by omega)
  have h4 := bigP_len x.length
  have h5 : 0 < (bigP x.length).length := List.length_pos_iff.mpr h2.1
  refine ⟨55 + (bigP x.length).length, bigP x.length ++ x ++ r, by omega, ?_, ?_, fun h => by omega, ?_⟩
  ·unfold aheadP; rw [if_neg h1]
   rw [List.cons_append, List.cons_append]
   congr 1
   omega
  ·unfold bodyP
   rw [if_neg (by omega), show 55 + (bigP x.length).length - 55 = (bigP x.length).length by omega]
   rw [if_pos (by simp)]
   have e : (bigP x.length ++ x ++ r).take (bigP x.length).length = bigP x.length := by simp
   have e2 : (bigP x.length ++ x ++ r).drop (bigP x.length).length = x ++ r := by simp
   rw [e, e2, h3, if_neg (by rw [not_or]; exact ⟨h2.2, by omega⟩)]
   unfold cutP
   rw [if_pos (by simp)]
   simp
  ·unfold aheadP; rw [if_neg h1]; simp
theorem form_items (f : List Int → Except Int (S159 × List Int)) (xs : List S159) (hf : ∀ x ∈ xs, ∀ r, f (formP x ++ r) = .ok (x, r)) :
 ∀ k, (formsP xs).length ≤ k → itemsP f k (formsP xs) = .ok xs := by
 induction xs with
 | nil => intro k _; cases k <;> simp [formsP, itemsP]
 | cons x xs ih =>
  intro k hk
  have hp := formP_pos x
  simp only [formsP] at hk ⊢
  rw [List.length_append] at hk
  obtain ⟨k, rfl⟩ : ∃ k', k = k' + 1 := ⟨k - 1, by omega⟩
  obtain ⟨c, l, hcl⟩ : ∃ c l, formP x = c :: l := by
   cases hfx : formP x with
   | nil => rw [hfx] at hp; simp at hp
   | cons c l => exact ⟨c, l, rfl⟩
  have h1 := hf x (by simp) (formsP xs)
  rw [hcl, List.cons_append] at h1 ⊢
  rw [itemsP, h1]
  simp only [Except.bind]
  rw [ih (fun y hy => hf y (List.mem_cons_of_mem _ hy)) k (by omega)]
theorem forms_mem_le : ∀ (xs : List S159) (x : S159), x ∈ xs → (formP x).length ≤ (formsP xs).length
 | y :: xs, x, h => by
  simp only [formsP, List.length_append]
  rcases List.mem_cons.mp h with rfl | h
  ·omega
  ·have := forms_mem_le xs x h; omega
theorem form_item : ∀ (lv : Nat) (x : S159), BytI x → wfP lv x = true → (formP x).length ≤ 65536 → ∀ r, itemP lv (formP x ++ r) = .ok (x, r)
 | lv, x, hB, hw, hl, r => by
  have hP : ∀ c rest, itemP lv (c :: rest) = if c < 128 then .ok (⟨false, [c], []⟩, rest)
   else if c < 192 then (bodyP (c - 128).toNat rest).bind fun q => if q.1.length = 1 ∧ q.1.headD 0 < 128 then .error 8 else .ok (⟨false, q.1, []⟩, q.2)
   else match lv with
    | 0 => .error 8
    | lv + 1 => (bodyP (c - 192).toNat rest).bind fun q => (itemsP (itemP lv) q.1.length q.1).bind fun xs => .ok (⟨true, [], xs⟩, q.2) := by
   intro c rest; cases lv <;> rfl
  cases hx : x.f0 with
  | false =>
   rw [wfP_str _ _ hx] at hw
   rw [formP_str _ hx] at hl ⊢
   obtain ⟨_, hB1, _⟩ := hB
   obtain ⟨f0, f1, f2⟩ := x
   simp only at *
   subst hx
   obtain rfl : f2 = [] := by simpa using hw
   unfold strP at hl ⊢
   by_cases h1 : f1.length = 1 ∧ f1.headD 0 < 128
   ·rw [if_pos h1]
    obtain ⟨i0, rfl⟩ : ∃ i0, f1 = [i0] := by
     match f1, h1.1 with
     | [i0], _ => exact ⟨i0, rfl⟩
    have h2 : i0 < 128 := h1.2
    rw [List.singleton_append, hP, if_pos h2]
   ·rw [if_neg h1] at hl ⊢
    rw [List.length_append] at hl
    obtain ⟨f, rest, hf, he, hbd, _, _⟩ := ahead_body 128 (by omega) f1 r (by omega)
    rw [he, hP, if_neg (by omega), if_pos (by omega), show ((128 : Int) + f - 128).toNat = f by omega, hbd]
    simp only [Except.bind]
    rw [if_neg h1]
  | true =>
   cases lv with
   | zero => rw [wfP_zero x hx] at hw; cases hw
   | succ lv =>
    rw [wfP_list _ _ hx] at hw
    rw [formP_list _ hx] at hl ⊢
    obtain ⟨_, _, hB2⟩ := hB
    obtain ⟨f0, f1, f2⟩ := x
    simp only at *
    subst hx
    simp only [Bool.and_eq_true, List.all_eq_true] at hw
    obtain ⟨hw1, hw2⟩ := hw
    obtain rfl : f1 = [] := by simpa using hw1
    rw [List.length_append] at hl
    obtain ⟨f, rest, hf, he, hbd, _, _⟩ := ahead_body 192 (by omega) (formsP f2) r (by omega)
    have hi := form_items (itemP lv) f2 (fun y hy r => form_item lv y (hB2 y hy) (hw2 y hy) (by have := forms_mem_le f2 y hy; omega) r) (formsP f2).length (Nat.le_refl _)
    rw [he, hP, if_neg (by omega), if_neg (by omega), show ((192 : Int) + f - 192).toNat = f by omega, hbd]
    simp only [Except.bind]
    rw [hi]
theorem form_decode (x : S159) (hB : BytI x) (hv : vP 16 65536 x = true) : decodeP (formP x) = .ok x := by
 simp only [vP, Bool.and_eq_true, decide_eq_true_eq] at hv
 unfold decodeP
 rw [if_neg (by omega)]
 have := form_item 16 x hB hv.1 hv.2 []
 rw [List.append_nil] at this
 rw [this]
 simp [Except.bind]
theorem form_inj (x y : S159) (hx : BytI x) (hy : BytI y) (hvx : vP 16 65536 x = true) (hvy : vP 16 65536 y = true) (h : formP x = formP y) : x = y := by
 have h1 := form_decode x hx hvx
 have h2 := form_decode y hy hvy
 rw [h, h2] at h1
 cases h1; rfl
end Go.Proofs.Ytocphkfkdadhaaa.K

namespace Go.Proofs.Ytocphkfkdadhaaa.K
open Go.RowKit Go.Proofs.YtocphkfkdadhaaaW.PrintWords Go.Proofs.YtocphkfkdadhaaaW.PrintMore Go.Proofs.Ytocphkfkdadhaaa.PRF
set_option linter.unusedVariables false
set_option linter.unusedSimpArgs false
theorem strOfNums_inj : ∀ (a b : List Int), Byt a → Byt b → (a.map fun n => UInt8.ofNat n.toNat) = (b.map fun n => UInt8.ofNat n.toNat) → a = b
 | [], [], _, _, _ => rfl
 | [], _ :: _, _, _, h => by simp at h
 | _ :: _, [], _, _, h => by simp at h
 | x :: a, y :: b, ha, hb, h => by
  simp only [List.map_cons, List.cons.injEq] at h
  have h1 := ha.head
  have h2 := hb.head
  have h3 : (UInt8.ofNat x.toNat).toNat = (UInt8.ofNat y.toNat).toNat := by rw [h.1]
  simp only [UInt8.toNat_ofNat'] at h3
  rw [strOfNums_inj a b ha.tail hb.tail h.2]
  congr 1
  omega
theorem same01_f (a b : List Int) (ha : Byt a) (hb : Byt b) : proctorref01_Same.f a b = some (decide (a = b)) := by
 unfold proctorref01_Same.f
 congr 1
 by_cases h : a = b
 ·subst h; simp
 ·rw [decide_eq_false h]
  rw [beq_eq_false_iff_ne]
  intro he
  refine h (strOfNums_inj a b ha hb ?_)
  have h2 : (strOfNums a).data.toList = (strOfNums b).data.toList := by
   have h3 := he
   rw [ByteArray.toList_eq, ByteArray.toList_eq] at h3
   exact h3
  rwa [strOfNums_data, strOfNums_data] at h2
theorem aheadP_byt (f : Int) (n : Nat) (h0 : 0 ≤ f) (h1 : f ≤ 192) (hn : n ≤ 18446744073709551615) : Byt (aheadP f n) := by
 unfold aheadP
 have := bigP_len n
 split
 ·exact Byt.cons (by omega) Byt.nil
 ·exact Byt.cons (by omega) (bigP_byt n)
theorem strP_byt (l : List Int) (hb : Byt l) (hl : l.length ≤ 18446744073709551615) : Byt (strP l) := by
 unfold strP
 split
 ·exact hb
 ·exact (aheadP_byt _ _ (by omega) (by omega) hl).append hb
theorem formsP_byt (xs : List S159) (h : ∀ x ∈ xs, Byt (formP x)) : Byt (formsP xs) := by
 induction xs with
 | nil => simp only [formsP]; exact Byt.nil
 | cons x xs ih =>
  simp only [formsP]
  exact (h x (by simp)).append (ih (fun y hy => h y (List.mem_cons_of_mem _ hy)))
theorem formP_byt : ∀ (s : Nat) (x : S159), SizeOf.sizeOf x ≤ s → BytI x → (formP x).length ≤ 18446744073709551615 → Byt (formP x) := by
 intro s
 induction s with
 | zero => intro x hx; exfalso; cases x; simp at hx
 | succ s ih =>
  intro x hx hB hl
  obtain ⟨_, h1, h2⟩ := hB
  cases h0 : x.f0 with
  | false =>
   rw [formP_str x h0] at hl ⊢
   exact strP_byt _ h1 (by have := strP_ge x.f1; omega)
  | true =>
   rw [formP_list x h0] at hl ⊢
   rw [List.length_append] at hl
   refine (aheadP_byt _ _ (by omega) (by omega) (by omega)).append (formsP_byt _ fun y hy => ih y (by have := size_f2 x y hy; omega) (h2 y hy) ?_)
   have := forms_mem_le x.f2 y hy
   omega
end Go.Proofs.Ytocphkfkdadhaaa.K

namespace Go.Proofs.Ytocphkfkdadhaaa.K
open Go.RowKit Go.Proofs.YtocphkfkdadhaaaW.PrintWords Go.Proofs.YtocphkfkdadhaaaW.PrintMore Go.Proofs.Ytocphkfkdadhaaa.PRF
set_option linter.unusedVariables false
set_option linter.unusedSimpArgs false
def rnumP (x : S159) : Int × Int :=
 if x.f0 = true ∨ x.f2.length > 0 ∨ x.f1.length > 8 ∨ (x.f1.length > 0 ∧ rd x.f1 0 = 0) then (0, 8) else ((num x.f1 : Int), 0)
theorem readnum_f (x : S159) (hb : Byt x.f1) : ∃ k, rlp_ReadNum.f k x.f0 x.f1 x.f2 = some (rnumP x) := by
 unfold rnumP
 by_cases h : x.f0 = true ∨ x.f2.length > 0 ∨ x.f1.length > 8 ∨ (x.f1.length > 0 ∧ rd x.f1 0 = 0)
 ·refine ⟨0, ?_⟩
  rw [if_pos h, rlp_ReadNum.f]
  by_cases h1 : x.f0 = true
  ·rw [if_pos h1]
  ·rw [if_neg h1]
   by_cases h2 : x.f2.length > 0
   ·rw [if_pos (by omega)]
   ·rw [if_neg (by omega)]
    by_cases h3 : x.f1.length > 8
    ·rw [if_pos (by omega)]
    ·rw [if_neg (by omega)]
     have h4 : x.f1.length > 0 ∧ rd x.f1 0 = 0 := by
      rcases h with h | h | h | h
      ·exact absurd h h1
      ·exact absurd h h2
      ·exact absurd h h3
      ·exact h
     rw [if_pos (by omega), if_pos (by omega), if_pos h4.2]
 ·rw [not_or, not_or, not_or] at h
  obtain ⟨h1, h2, h3, h4⟩ := h
  obtain ⟨k, hk⟩ := number_f x.f1 hb (by omega)
  refine ⟨k, ?_⟩
  rw [if_neg (by rw [not_or, not_or, not_or]; exact ⟨h1, h2, h3, h4⟩), rlp_ReadNum.f, if_neg h1, if_neg (by omega), if_neg (by omega), hk]
  simp only [Option.bind_some]
  by_cases h5 : x.f1.length > 0
  ·rw [if_pos (by omega), if_pos (by omega), if_neg (fun h => h4 ⟨h5, h⟩)]
  ·rw [if_neg (by omega)]
theorem rreadnum_l0 (l : List Int) (hb : Byt l) (hl : l.length ≤ 8) (b : Bool) (m : List S159) : ∀ (d i : Nat), i + d = l.length → proctorref02_ReadNum.l0 (d + 1) (num (l.take i) : Nat) (i : Int) b l m = some ((num l : Int), 0)
 | 0, i, h => by
  simp only [proctorref02_ReadNum.l0]
  rw [if_neg (by omega), List.take_of_length_le (by omega)]
 | d + 1, i, h => by
  rw [proctorref02_ReadNum.l0]
  rw [if_pos (by omega), if_pos (by omega), rd_nat l i (by omega), wrap64_in _ (by omega)]
  have h1 := hb l[i] (List.getElem_mem (by omega))
  obtain ⟨c, hc⟩ := Int.eq_ofNat_of_zero_le h1.1
  have h2 := num_lt (l.take i) (hb.take i)
  have h3 : (l.take i).length ≤ 7 := by rw [List.length_take]; omega
  have h4 := pow256_le h3
  rw [pow256_7] at h4
  have h5 : num (l.take (i + 1)) = num (l.take i) * 256 + c := by
   rw [take_snoc l i (by omega), num_snoc, hc]; rfl
  rw [hc, num_step _ c (by omega) (by omega), ← h5]
  exact rreadnum_l0 l hb hl b m d (i + 1) (by omega)
theorem rreadnum_f (x : S159) (hb : Byt x.f1) : ∃ k, proctorref02_ReadNum.f k x.f0 x.f1 x.f2 = some (rnumP x) := by
 have hj : ∀ b k, (proctorref02_ReadNum.j0 (k + 1) true b x.f1 x.f2) = some (0, 8) := by
  intro b k; rw [proctorref02_ReadNum.j0, if_pos rfl]
 unfold rnumP
 by_cases h : x.f0 = true ∨ x.f2.length > 0 ∨ x.f1.length > 8 ∨ (x.f1.length > 0 ∧ rd x.f1 0 = 0)
 ·refine ⟨1, ?_⟩
  rw [if_pos h, proctorref02_ReadNum.f]
  by_cases h1 : x.f0 = true
  ·rw [if_pos h1, hj]
  ·rw [if_neg h1]
   by_cases h2 : x.f2.length > 0
   ·rw [if_pos (by omega), hj]
   ·rw [if_neg (by omega)]
    by_cases h3 : x.f1.length > 8
    ·rw [if_pos (by omega), hj]
    ·rw [if_neg (by omega)]
     have h4 : x.f1.length > 0 ∧ rd x.f1 0 = 0 := by
      rcases h with h | h | h | h
      ·exact absurd h h1
      ·exact absurd h h2
      ·exact absurd h h3
      ·exact h
     rw [if_pos (by omega), if_pos (by omega), h4.2]
     exact hj _ _
 ·rw [not_or, not_or, not_or] at h
  obtain ⟨h1, h2, h3, h4⟩ := h
  have h6 := rreadnum_l0 x.f1 hb (by omega) x.f0 x.f2 x.f1.length 0 (by omega)
  simp only [List.take_zero] at h6
  rw [show (num ([] : List Int) : Int) = 0 by simp [num]] at h6
  have h7 : ∀ b, b = false → proctorref02_ReadNum.j0 (x.f1.length + 2) b x.f0 x.f1 x.f2 = some ((num x.f1 : Int), 0) := by
   rintro b rfl
   rw [proctorref02_ReadNum.j0, if_neg (by simp)]
   exact h6
  refine ⟨x.f1.length + 2, ?_⟩
  rw [if_neg (by rw [not_or, not_or, not_or]; exact ⟨h1, h2, h3, h4⟩), proctorref02_ReadNum.f, if_neg h1, if_neg (by omega), if_neg (by omega)]
  by_cases h5 : x.f1.length > 0
  ·rw [if_pos (by omega), if_pos (by omega)]
   exact h7 _ (by rw [beq_eq_false_iff_ne]; exact fun h => h4 ⟨h5, h⟩)
  ·rw [if_neg (by omega)]
   exact h7 _ rfl
def numI (n : Nat) : S159 := ⟨false, bigP n, []⟩
theorem num_f (n : Nat) (h : n ≤ 18446744073709551615) : rlp_Num.f 15 n = some (false, bigP n, []) := by
 rw [rlp_Num.f, big64_f n h]; rfl
theorem rnum_f (n : Nat) (h : n ≤ 18446744073709551615) : proctorref02_Num.f 9 n = some (false, bigP n, []) := by
 rw [proctorref02_Num.f, high_f n h]; rfl
end Go.Proofs.Ytocphkfkdadhaaa.K

namespace Go.Proofs.Ytocphkfkdadhaaa.H
open Go.RowKit Go.Proofs.YtocphkfkdadhaaaW.PrintWords Go.Proofs.YtocphkfkdadhaaaW.PrintLast Go.Proofs.YtocphkfkdadhaaaW.PrintMore
set_option linter.unusedVariables false
set_option linter.unusedSimpArgs false
abbrev SI := PRF.S159
abbrev kI := PRF.k159
set_option maxHeartbeats 4000000 in
set_option maxRecDepth 100000 in
theorem next_any (b : Bool) (v1 v2 : Value) (h1 : v1.oneCell' = true) (h2 : v2.oneCell' = true) (gi oi : Nat) (g n c : Nat) {B : Nat} {w0 w : World} {L : List Item} (H : Own B w0 w (.blk g #[.slice (some ⟨gi, oi, none⟩) n c] 157 :: L))
 (hcl : ∀ (j : Nat) (u : Value), [Value.bool b, v1, v2][j]? = some u → w.cell? ⟨gi, oi + j, none⟩ = some u) (hn : 1 ≤ n) (hc : n ≤ c) :
 Calls Try.prog 107 #[.pointer (some ⟨g, 0, none⟩)] w fun e w' => e = .returned (.agg #[.bool b, v1, v2]) ∧
  Own B w0 w' (.blk g #[.slice (if c = 1 then some ⟨gi, oi, none⟩ else some ⟨gi, oi + 3, none⟩) (n - 1) (c - 1)] 157 :: L) := by
 have H0 := Aside0.mk H
 have HCL : Aside0 (∀ W, Below w.heap.size w W → ∀ (j : Nat) (u : Value), [Value.bool b, v1, v2][j]? = some u → W.cell? ((⟨gi, oi, none⟩ : Addr).add j) = some u) := ⟨fun W hb j u hj => by
  have h := pw_cell_below hb (hcl j u hj)
  rwa [Addr.add_mid]⟩
 have hib : (0 : Int) ≤ (1 : Int) ∧ (1 : Int) ≤ (n : Int) ∧ (n : Int) ≤ (c : Int) := by omega
 have HAI : Aside0 (Arr 3 #[.bool false, .slice none 0 0, .slice none 0 0]) := ⟨rfl, by simp [Value.oneCell']⟩
 have HAY : Aside0 (Arr 3 #[.bool b, v1, v2]) := ⟨rfl, by simp [h1, h2]; rfl⟩
 clear hcl H h1 h2
 by_cases h1 : c = 1
 ·subst h1
  rw [if_pos rfl]
  obtain rfl : n = 1 := by omega
  go_enter Try.func107, Try.ntmps107
  go_wp2_with (first
   | fail
   | ((with_reducible refine gate_dst (N := 1) rfl ?_); refine own_alloc H0.out rfl (N := 1) rfl (t := 159) rfl (#[.bool false, .slice none 0 0, .slice none 0 0]) 3 (by kernel_rfl) ?_; intro g1 w1 H1 B1; replace H1 := Aside0.mk H1; replace B1 := Aside0.mk B1)
   | ((with_reducible refine gate_dst (N := 3) rfl ?_); ( refine own_ld1 H1.out 1 g _ _ rfl rfl 157 (.tmp 0) rfl 0 (.slice (some ⟨gi, oi, none⟩) 1 1) _ rfl rfl Try.underlying157 rfl ?_))
   | ((with_reducible refine gate_dst (N := 5) rfl ?_); ( refine ld_at rfl 159 (.tmp 4) rfl (⟨gi, oi, none⟩) ([.bool b, v1, v2]) _ rfl (HCL.out _ B1.out) Try.underlying159 rfl (by kernel_rfl) ?_))
   | ((with_reducible refine gate_dst (N := 2) rfl ?_); refine own_alloc H1.out rfl (N := 2) rfl (t := 159) rfl (#[.bool false, .slice none 0 0, .slice none 0 0]) 3 (by kernel_rfl) ?_; intro g2 w2 H2 B2; replace H2 := Aside0.mk H2; replace B2 := Aside0.mk B2)
   | ((with_reducible refine own_store H2.out 0 g2 _ 159 rfl rfl (.tmp 2) (.tmp 5) rfl (#[.bool b, v1, v2]) ?_ ?_ 3 HAI.out HAY.out (by kernel_rfl) ?_); (case _ => rfl); (case _ => rfl); intro w3 H3; replace H3 := Aside0.mk H3)
   | ((with_reducible refine gate_dst (N := 6) rfl ?_); ( refine own_ld1 H3.out 2 g _ _ rfl rfl 157 (.tmp 0) rfl 0 (.slice (some ⟨gi, oi, none⟩) 1 1) _ rfl rfl Try.underlying157 rfl ?_))
   | ((with_reducible refine gate_store (t := 157) (p := 0) rfl ?_); ( refine own_st H3.out 2 g _ (#[.slice (some ⟨gi, oi, none⟩) 0 0]) 157 (by rfl) rfl 157 (.tmp 0) _ rfl 0 [.slice (some ⟨gi, oi, none⟩) 0 0] (.slice (some ⟨gi, oi, none⟩) 0 0) (by rfl) (by rfl) (by rfl) (by simp) (by kernel_rfl) (by simp [Value.oneCell']) (by rfl) ?_; intro w4 H4; replace H4 := Aside0.mk H4))
   | ((with_reducible refine gate_dst (N := 8) rfl ?_); ( refine own_loadV H4.out 0 g2 _ 159 rfl rfl (.tmp 2) rfl _ rfl Try.underlying159 rfl (by kernel_rfl) ?_))
   | ((with_reducible refine own_store H4.out 1 g1 _ 159 rfl rfl (.tmp 1) (.tmp 8) rfl (#[.bool b, v1, v2]) ?_ ?_ 3 HAI.out HAY.out (by kernel_rfl) ?_); (case _ => rfl); (case _ => rfl); intro w5 H5; replace H5 := Aside0.mk H5)
   )
  refine bodyPost_ret (own_resultV rfl _ H5.out 1 g1 _ rfl rfl _ Try.underlying159 rfl (by kernel_rfl)) rfl ?_
  exact ⟨rfl, (H5.out.erase 0).erase 0⟩
 ·rw [if_neg h1]
  go_enter Try.func107, Try.ntmps107
  go_wp2_with (first
   | fail
   | ((with_reducible refine gate_dst (N := 1) rfl ?_); refine own_alloc H0.out rfl (N := 1) rfl (t := 159) rfl (#[.bool false, .slice none 0 0, .slice none 0 0]) 3 (by kernel_rfl) ?_; intro g1 w1 H1 B1; replace H1 := Aside0.mk H1; replace B1 := Aside0.mk B1)
   | ((with_reducible refine gate_dst (N := 3) rfl ?_); ( refine own_ld1 H1.out 1 g _ _ rfl rfl 157 (.tmp 0) rfl 0 (.slice (some ⟨gi, oi, none⟩) n c) _ rfl rfl Try.underlying157 rfl ?_))
   | ((with_reducible refine gate_dst (N := 5) rfl ?_); ( refine ld_at rfl 159 (.tmp 4) rfl (⟨gi, oi, none⟩) ([.bool b, v1, v2]) _ rfl (HCL.out _ B1.out) Try.underlying159 rfl (by kernel_rfl) ?_))
   | ((with_reducible refine gate_dst (N := 2) rfl ?_); refine own_alloc H1.out rfl (N := 2) rfl (t := 159) rfl (#[.bool false, .slice none 0 0, .slice none 0 0]) 3 (by kernel_rfl) ?_; intro g2 w2 H2 B2; replace H2 := Aside0.mk H2; replace B2 := Aside0.mk B2)
   | ((with_reducible refine own_store H2.out 0 g2 _ 159 rfl rfl (.tmp 2) (.tmp 5) rfl (#[.bool b, v1, v2]) ?_ ?_ 3 HAI.out HAY.out (by kernel_rfl) ?_); (case _ => rfl); (case _ => rfl); intro w3 H3; replace H3 := Aside0.mk H3)
   | ((with_reducible refine gate_dst (N := 6) rfl ?_); ( refine own_ld1 H3.out 2 g _ _ rfl rfl 157 (.tmp 0) rfl 0 (.slice (some ⟨gi, oi, none⟩) n c) _ rfl rfl Try.underlying157 rfl ?_))
   | ((with_reducible refine gate_store (t := 157) (p := 0) rfl ?_); ( refine own_st H3.out 2 g _ (#[.slice (some ⟨gi, oi + 3, none⟩) (n - 1) (c - 1)]) 157 (by rfl) rfl 157 (.tmp 0) _ rfl 0 [.slice (some ⟨gi, oi + 3, none⟩) (n - 1) (c - 1)] (.slice (some ⟨gi, oi + 3, none⟩) (n - 1) (c - 1)) (by rfl) (by rfl) (by rfl) (by simp) (by kernel_rfl) (by simp [Value.oneCell']) (by rfl) ?_; intro w4 H4; replace H4 := Aside0.mk H4))
   | ((with_reducible refine gate_dst (N := 8) rfl ?_); ( refine own_loadV H4.out 0 g2 _ 159 rfl rfl (.tmp 2) rfl _ rfl Try.underlying159 rfl (by kernel_rfl) ?_))
   | ((with_reducible refine own_store H4.out 1 g1 _ 159 rfl rfl (.tmp 1) (.tmp 8) rfl (#[.bool b, v1, v2]) ?_ ?_ 3 HAI.out HAY.out (by kernel_rfl) ?_); (case _ => rfl); (case _ => rfl); intro w5 H5; replace H5 := Aside0.mk H5)
   )
  refine bodyPost_ret (own_resultV rfl _ H5.out 1 g1 _ rfl rfl _ Try.underlying159 rfl (by kernel_rfl)) rfl ?_
  exact ⟨rfl, (H5.out.erase 0).erase 0⟩
end Go.Proofs.Ytocphkfkdadhaaa.H

namespace Go.Proofs.Ytocphkfkdadhaaa.H
set_option linter.unusedVariables false
set_option linter.unusedSimpArgs false
section
variable {P : Program} {ops : Array Oper} {Q : Exit → Act → World → Prop} {md : Region.Mode} {U T : World → Prop} {K : List Nat}
def HoldS (U T : World → Prop) (K : List Nat) (listed : Array Bool) (w : World) : Prop := U w ∧ ((K.all fun k => !listed.getD k false) = true → T w)
theorem HoldS.past {listed : Array Bool} {w : World} (hU : U w) (h : (K.all fun k => !listed.getD k false) = false) : HoldS U T K listed w := ⟨hU, fun h' => (by rw [h] at h'; cases h')⟩
theorem HoldS.now {listed : Array Bool} {w : World} (hU : U w) (h : T w) : HoldS U T K listed w := ⟨hU, fun _ => h⟩
theorem HoldS.toggle {i : Nat} (hi : K.contains i = false) {listed : Array Bool} {w : World} (h : HoldS U T K (listed.setIfInBounds i true) w) : HoldS U T K listed w := by
 refine ⟨h.1, fun hk => h.2 ?_⟩
 rw [List.all_eq_true] at hk ⊢
 intro k hk1
 have := hk k hk1
 have hne : i ≠ k := fun he => by
  subst he
  rw [List.contains_eq_mem] at hi
  simp [hk1] at hi
 rw [getD_set_ne false hne]
 exact this
def wpAnyS (P : Program) (md : Region.Mode) (ops : Array Oper) (Q : Exit → Act → World → Prop) (U T : World → Prop) (K : List Nat) : Nat → Array Bool → Act → World → Prop
 | 0, listed, a, w => Region.ready md ops listed = [] ∧ Q .normal a w
 | fuel + 1, listed, a, w =>
  (Region.ready md ops listed = [] → Q .normal a w) ∧
  ∀ i ∈ Region.ready md ops listed, wpOp P ops Q i (fun a' w' => HoldS U T K (listed.setIfInBounds i true) w' ∧ wpAnyS P md ops Q U T K fuel (listed.setIfInBounds i true) a' w') a w
theorem wpAny_of_S : ∀ (fuel : Nat) (listed : Array Bool) (a : Act) (w : World), wpAnyS P md ops Q U T K fuel listed a w → wpAny P md ops Q fuel listed a w
 | 0, _, _, _, h => h
 | fuel + 1, _, _, _, h => ⟨h.1, fun i hi => wpOp_mono (fun a' w' h' => wpAny_of_S fuel _ a' w' h'.2) (h.2 i hi)⟩
theorem late_stays {i : Nat} {late : List Nat} (hlate : ∀ (j : Nat) (oj : Oper), late.contains j = true → ops[j]? = some oj → ∃ e ∈ oj.after, Region.binds md e = true ∧ (e.on = i ∨ late.contains e.on = true))
 {listed : Array Bool} (hi : listed.getD i false = false) (hl : ∀ j, late.contains j = true → listed.getD j false = false) {j : Nat} (hj : j ∈ Region.ready md ops listed) : late.contains j = false := by
 cases h : late.contains j with
 | false => rfl
 | true =>
  obtain ⟨_, oj, hoj, hall⟩ := mem_ready.1 hj
  obtain ⟨e, he, hb, hor⟩ := hlate j oj h hoj
  have h1 := hall e he hb
  rcases hor with hor | hor
  ·rw [hor, hi] at h1; cases h1
  ·rw [hl _ hor] at h1; cases h1
theorem wpAnyS_first {i : Nat} {oi : Oper} {v : Value} (V : World → Prop) {late : List Nat} (hi : ops[i]? = some oi) (hsel : ∀ (j : Nat) (o : Oper) cs b, ops[j]? = some o → o.op ≠ .select cs b)
 (hQ : ∀ c a w, Q (.panic c) (a.put oi.dst v) w → Q (.panic c) a w) (hKi : K.contains i = false)
 (hlate : ∀ (j : Nat) (oj : Oper), late.contains j = true → ops[j]? = some oj → ∃ e ∈ oj.after, Region.binds md e = true ∧ (e.on = i ∨ late.contains e.on = true))
 (hV : ∀ (listed : Array Bool) (w : World), (∀ j, late.contains j = true → listed.getD j false = false) → HoldS U T K listed w → V w) :
 ∀ (fuel : Nat) (listed : Array Bool) (a : Act) (w : World),
  (∀ j oj, ops[j]? = some oj → j ≠ i → listed.getD j true = false → (∀ e ∈ oj.after, Region.binds md e = true → e.on ≠ i) → oi.apart ops oj = true) →
  (∀ j, late.contains j = true → listed.getD j false = false) →
  i ∈ Region.ready md ops listed → YieldsIf P ops V oi v a → HoldS U T K listed w →
  wpAnyS P md ops Q U T K fuel (listed.setIfInBounds i true) (a.put oi.dst v) w → wpAnyS P md ops Q U T K (fuel + 1) listed a w := by
 intro fuel
 have hset : ∀ {listed : Array Bool} {w : World}, HoldS U T K listed w → HoldS U T K (listed.setIfInBounds i true) w := by
  intro listed w h
  refine ⟨h.1, fun hk => h.2 ?_⟩
  rw [List.all_eq_true] at hk ⊢
  intro k hk1
  have := hk k hk1
  have hne : i ≠ k := fun he => by
   subst he
   rw [List.contains_eq_mem] at hKi
   simp [hk1] at hKi
  rw [getD_set_ne false hne] at this
  exact this
 induction fuel with
 | zero =>
  intro listed a w _ hl hr hy hS H
  refine ⟨fun h => (by rw [h] at hr; cases hr), fun j hj => ?_⟩
  by_cases hji : j = i
  ·subst hji; exact hy.wpOp hi (hV listed w hl hS) ⟨hset hS, H⟩
  ·have := ready_mono hj hji
   rw [H.1] at this
   cases this
 | succ fuel ih =>
  intro listed a w hfree hl hr hy hS H
  refine ⟨fun h => (by rw [h] at hr; cases hr), fun j hj => ?_⟩
  by_cases hji : j = i
  ·subst hji; exact hy.wpOp hi (hV listed w hl hS) ⟨hset hS, H⟩
  ·have h1 := H.2 j (ready_mono hj hji)
   obtain ⟨hjun, oj, hoj, hall⟩ := mem_ready.1 hj
   have hi0 : listed.getD i false = false := by
    have h0 := (mem_ready.1 hr).1
    rcases Nat.lt_or_ge i listed.size with h' | h'
    ·simpa [h'] using h0
    ·simp [Array.getElem?_eq_none h']
   have hnot : ∀ e ∈ oj.after, Region.binds md e = true → e.on ≠ i := fun e he hb heq => by
    have h1 := hall e he hb
    rw [heq, hi0] at h1
    cases h1
   have hjl := late_stays hlate hi0 hl hj
   have h2 := wpOp_putIf hoj (hfree j oj hoj hji hjun hnot) (fun cs b => hsel i oi cs b hi) (fun cs b => hsel j oj cs b hoj) hQ hy h1
   have hfree' : ∀ k ok, ops[k]? = some ok → k ≠ i → (listed.setIfInBounds j true).getD k true = false →
    (∀ e ∈ ok.after, Region.binds md e = true → e.on ≠ i) → oi.apart ops ok = true := fun k ok hk hki hun hno => by
    refine hfree k ok hk hki ?_ hno
    by_cases hjk : j = k
    ·subst hjk; exact hjun
    ·rw [getD_set_ne true hjk] at hun; exact hun
   have hl' : ∀ k, late.contains k = true → (listed.setIfInBounds j true).getD k false = false := fun k hk => by
    have hne : j ≠ k := fun he => by rw [he, hk] at hjl; cases hjl
    rw [getD_set_ne false hne]; exact hl k hk
   refine wpOp_mono (fun a' w' h3 => ?_) h2
   have hS' : HoldS U T K (listed.setIfInBounds j true) w' := HoldS.toggle hKi (by rw [Array.setIfInBounds_comm _ _ hji]; exact h3.2.1)
   refine ⟨hS', ih (listed.setIfInBounds j true) a' w' hfree' hl' (ready_mono hr (Ne.symm hji)) h3.1 hS' ?_⟩
   rw [Array.setIfInBounds_comm _ _ hji]
   exact h3.2.2
def lateOk (md : Region.Mode) (ops : Array Oper) (K : List Nat) (listed : Array Bool) (i : Nat) (late : List Nat) : Bool :=
 K.all (fun k => late.contains k) && late.all (fun j => !listed.getD j false && match ops[j]? with
  | some oj => oj.after.any (fun e => Region.binds md e && (e.on == i || late.contains e.on))
  | none => true)
theorem wpAnyS_take {i : Nat} {oi : Oper} {v : Value} {fuel : Nat} {listed : Array Bool} {a : Act} {w : World} (hi : ops[i]? = some oi)
 (hs : Region.noSelect ops = true) (hf : Region.free md ops listed i = true) (hr : (Region.ready md ops listed).contains i = true) (hKi : K.contains i = false)
 (hQ : ∀ c a w, Q (.panic c) (a.put oi.dst v) w → Q (.panic c) a w) (hy : YieldsIf P ops U oi v a) (hS : HoldS U T K listed w)
 (h : wpAnyS P md ops Q U T K fuel (listed.setIfInBounds i true) (a.put oi.dst v) w) : wpAnyS P md ops Q U T K (fuel + 1) listed a w :=
 wpAnyS_first U (late := []) hi (Region.noSelect_spec hs) hQ hKi (fun j oj h => by simp at h) (fun _ _ _ h => h.1) fuel listed a w (Region.free_spec hi hf) (fun j h => by simp at h) (by simpa using hr) hy hS h
theorem wpAnyS_takeT {i : Nat} {oi : Oper} {v : Value} {fuel : Nat} {listed : Array Bool} {a : Act} {w : World} (late : List Nat) (hi : ops[i]? = some oi)
 (hs : Region.noSelect ops = true) (hf : Region.free md ops listed i = true) (hr : (Region.ready md ops listed).contains i = true) (hKi : K.contains i = false)
 (hok : lateOk md ops K listed i late = true)
 (hQ : ∀ c a w, Q (.panic c) (a.put oi.dst v) w → Q (.panic c) a w) (hy : YieldsIf P ops (fun w => U w ∧ T w) oi v a) (hS : HoldS U T K listed w)
 (h : wpAnyS P md ops Q U T K fuel (listed.setIfInBounds i true) (a.put oi.dst v) w) : wpAnyS P md ops Q U T K (fuel + 1) listed a w := by
 unfold lateOk at hok
 rw [Bool.and_eq_true, List.all_eq_true, List.all_eq_true] at hok
 refine wpAnyS_first (fun w => U w ∧ T w) (late := late) hi (Region.noSelect_spec hs) hQ hKi (fun j oj h hj => ?_) (fun listed w hl h => ⟨h.1, h.2 ?_⟩) fuel listed a w (Region.free_spec hi hf) (fun j h => ?_) (by simpa using hr) hy hS h
 ·have h1 := hok.2 j (by simpa using h)
  rw [Bool.and_eq_true, hj] at h1
  obtain ⟨e, he, hb⟩ := Array.any_eq_true'.1 h1.2
  rw [Bool.and_eq_true, Bool.or_eq_true, beq_iff_eq] at hb
  exact ⟨e, he, hb.1, hb.2⟩
 ·rw [List.all_eq_true]
  intro k hk
  rw [hl k (hok.1 k hk)]; rfl
 ·have h1 := hok.2 j (by simpa using h)
  rw [Bool.and_eq_true] at h1
  simpa using h1.1
theorem wpAnyS_done {listed : Array Bool} {a : Act} {w : World} (hr : Region.ready md ops listed = []) (h : Q .normal a w) : ∀ fuel, wpAnyS P md ops Q U T K fuel listed a w
 | 0 => ⟨hr, h⟩
 | _ + 1 => ⟨fun _ => h, by rw [hr]; simp⟩
def AllReadyS (P : Program) (md : Region.Mode) (ops : Array Oper) (Q : Exit → Act → World → Prop) (U T : World → Prop) (K : List Nat) (fuel : Nat) (listed : Array Bool) (a : Act) (w : World) (rs : List Nat) : Prop :=
 ∀ i ∈ rs, wpOp P ops Q i (fun a' w' => HoldS U T K (listed.setIfInBounds i true) w' ∧ wpAnyS P md ops Q U T K fuel (listed.setIfInBounds i true) a' w') a w
theorem AllReadyS.nil {fuel : Nat} {listed : Array Bool} {a : Act} {w : World} : AllReadyS P md ops Q U T K fuel listed a w [] := fun _ h => by cases h
theorem AllReadyS.cons {fuel : Nat} {listed : Array Bool} {a : Act} {w : World} {i : Nat} {o : Oper} {rs : List Nat} (ho : ops[i]? = some o)
 (h : ∀ K' : Act → World → Prop, Shut (∀ a w, HoldS U T K (listed.setIfInBounds i true) w → (HoldS U T K (listed.setIfInBounds i true) w → wpAnyS P md ops Q U T K fuel (listed.setIfInBounds i true) a w) → K' a w) → if Region.wanted o (yielded ops a.tmps) = true then Oper.wp P o a w K' Q else K' (a.put o.dst undef) w)
 (hs : AllReadyS P md ops Q U T K fuel listed a w rs) : AllReadyS P md ops Q U T K fuel listed a w (i :: rs) := fun j hj => by
 rcases List.mem_cons.1 hj with rfl | hj
 ·exact wpOp_step ho (fun K' hK => h K' (fun a w hS hW => hK a w ⟨hS, hW hS⟩))
 ·exact hs j hj
theorem wpAnyS_ready {rs : List Nat} {fuel : Nat} {listed : Array Bool} {a : Act} {w : World} (hr : Region.ready md ops listed = rs) (hne : rs ≠ [])
 (h : AllReadyS P md ops Q U T K fuel listed a w rs) : wpAnyS P md ops Q U T K (fuel + 1) listed a w := ⟨fun h0 => absurd (hr ▸ h0) hne, hr ▸ h⟩
theorem wp_region_S_drew {id : Nat} {a : Act} {w : World} (hm : P.follows .mixedOrders = true) (hU : U w.drew) (hT : T w.drew)
 (h : HoldS U T K (Array.replicate ops.size false) w.drew → wpAnyS P .any ops Q U T K ops.size (Array.replicate ops.size false) a w.drew) : (Code.region id ops true).wp P Q a w :=
 wp_region_any hm (wpAny_of_S _ _ _ _ (h (HoldS.now hU hT)))
end
end Go.Proofs.Ytocphkfkdadhaaa.H

