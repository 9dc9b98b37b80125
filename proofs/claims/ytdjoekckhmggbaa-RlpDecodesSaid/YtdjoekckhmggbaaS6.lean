import Derived.Test.YtdjoekckhmggbaaS5
import Derived.Test.YtdjoekckhmggbaaRf5
namespace Go.Proofs.Ytdjoekckhmggbaa.H
open Go.RowKit Go.Proofs.YtdjoekckhmggbaaW.PrintWords Go.Proofs.YtdjoekckhmggbaaW.PrintMore Go.Proofs.Ytdjoekckhmggbaa.PRF
set_option linter.unusedVariables false
set_option linter.unusedSimpArgs false

def lenR (f : Nat) (rest : List Int) : Int × Int × Int :=
  if f ≤ 55 then ((f : Int), 1, 0)
  else if rest.length < f - 55 then (0, 0, 7)
  else if (rest.take (f - 55)).headD 0 = 0 ∨ num (rest.take (f - 55)) ≤ 55 then (0, 0, 8)
  else if num (rest.take (f - 55)) > rest.length + 1 then (0, 0, 7)
  else ((num (rest.take (f - 55)) : Int), ((1 + (f - 55) : Nat) : Int), 0)

theorem length_l0 (c : Int) (rest : List Int) (hb : Byt rest) (hr : rest.length ≤ 65536) (kk : Nat) (hkl : kk ≤ rest.length) (hk8 : kk ≤ 8) : ∀ (d j : Nat), j + d = kk → ∀ k, d + 1 ≤ k →
    proctorref02_length.l0 k (c :: rest) (kk : Int) (num (rest.take j) : Int) ((j + 1 : Nat) : Int) =
      some (if num (rest.take kk) ≤ 55 then (0, 0, 8) else if num (rest.take kk) > rest.length + 1 then (0, 0, 7) else ((num (rest.take kk) : Int), ((1 + kk : Nat) : Int), 0))
  | 0, j, h, k, hk => by
    obtain ⟨k, rfl⟩ : ∃ k', k = k' + 1 := ⟨k - 1, by omega⟩
    obtain rfl : j = kk := by omega
    rw [proctorref02_length.l0, if_neg (by omega)]
    by_cases h1 : num (rest.take j) ≤ 55
    · rw [if_pos (by omega), if_pos h1]
    · rw [if_neg (by omega), if_neg h1, IntWalk.u64_in _ (by rw [List.length_cons]; omega)]
      by_cases h2 : num (rest.take j) > rest.length + 1
      · rw [if_pos (by rw [List.length_cons]; omega), if_pos h2]
      · rw [if_neg (by rw [List.length_cons]; omega), if_neg h2, wrap64_in _ (by omega), wrap64_in _ (by omega)]
        congr 2
  | d + 1, j, h, k, hk => by
    obtain ⟨k, rfl⟩ : ∃ k', k = k' + 1 := ⟨k - 1, by omega⟩
    rw [proctorref02_length.l0]
    rw [if_pos (by omega), if_pos (by omega), if_pos (by rw [List.length_cons]; omega), rd_nat (c :: rest) (j + 1) (by rw [List.length_cons]; omega), wrap64_in _ (by omega)]
    simp only [List.getElem_cons_succ]
    have h1 := hb rest[j] (List.getElem_mem (by omega))
    obtain ⟨c', hc⟩ := Int.eq_ofNat_of_zero_le h1.1
    have h2 := num_lt (rest.take j) (hb.take j)
    have h3 : (rest.take j).length ≤ 7 := by rw [List.length_take]; omega
    have h4 := pow256_le h3
    rw [pow256_7] at h4
    have h5 : num (rest.take (j + 1)) = num (rest.take j) * 256 + c' := by
      rw [take_snoc rest j (by omega), num_snoc, hc]; rfl
    rw [hc, num_step _ c' (by omega) (by omega), ← h5]
    exact length_l0 c rest hb hr kk hkl hk8 d (j + 1) (by omega) k (by omega)

theorem length_ev (c : Int) (rest : List Int) (hb : Byt rest) (hr : rest.length ≤ 65536) (base : Int) (h0 : base ≤ c) (h1 : c - base ≤ 63) :
    ∀ k, 20 ≤ k → proctorref02_length.f k (c :: rest) base = some (lenR (c - base).toNat rest) := by
  intro k hk
  obtain ⟨f, hf⟩ := Int.eq_ofNat_of_zero_le (show 0 ≤ c - base by omega)
  have hf' : (c - base) = (f : Int) := hf
  rw [hf', Int.toNat_natCast]
  rw [proctorref02_length.f]
  have hrd : rd (c :: rest) 0 = c := by simp [rd]
  rw [if_pos (by rw [List.length_cons]; omega), hrd, hf', show ((f : Int) % 256) = (f : Int) by omega]
  unfold lenR
  by_cases h2 : f ≤ 55
  · rw [if_pos (by omega), if_pos h2]
  · rw [if_neg (by omega), if_neg h2]
    by_cases h3 : rest.length < f - 55
    · rw [if_pos (by rw [List.length_cons]; omega), if_pos h3]
    · rw [if_neg (by rw [List.length_cons]; omega), if_neg h3, if_pos (by rw [List.length_cons]; omega)]
      have hrd1 : rd (c :: rest) 1 = (rest.take (f - 55)).headD 0 := by
        cases rest with
        | nil => simp at h3; omega
        | cons a l =>
          obtain ⟨q, hq⟩ : ∃ q, f - 55 = q + 1 := ⟨f - 56, by omega⟩
          rw [hq]
          simp [rd]
      rw [hrd1]
      by_cases h4 : (rest.take (f - 55)).headD 0 = 0
      · rw [if_pos h4, if_pos (Or.inl h4)]
      · rw [if_neg h4]
        have := length_l0 c rest hb hr (f - 55) (by omega) (by omega) (f - 55) 0 (by omega) k (by omega)
        simp only [List.take_zero] at this
        rw [show ((f : Int) - 55) = ((f - 55 : Nat) : Int) by omega]
        rw [show (num ([] : List Int) : Int) = 0 by simp [num], show ((0 + 1 : Nat) : Int) = 1 by omega] at this
        rw [this]
        by_cases h5 : num (rest.take (f - 55)) ≤ 55
        · rw [if_pos h5, if_pos (Or.inr h5)]
        · rw [if_neg h5, if_neg (show ¬ ((rest.take (f - 55)).headD 0 = 0 ∨ num (rest.take (f - 55)) ≤ 55) from not_or.mpr ⟨h4, h5⟩)]

theorem body_len (c : Int) (rest : List Int) (f : Nat) :
    (∀ e, bodyP f rest = .error e → ((lenR f rest).2.2 = e ∧ e ≠ 0) ∨ ((lenR f rest).2.2 = 0 ∧ e = 7 ∧ ∃ N A : Nat, (lenR f rest).1 = (N : Int) ∧ (lenR f rest).2.1 = (A : Int) ∧ 1 ≤ A ∧ A ≤ rest.length + 1 ∧ N + A > rest.length + 1 ∧ N ≤ rest.length + 64)) ∧
    (∀ x y, bodyP f rest = .ok (x, y) → (lenR f rest).2.2 = 0 ∧ ∃ N A : Nat, (lenR f rest).1 = (N : Int) ∧ (lenR f rest).2.1 = (A : Int) ∧ 1 ≤ A ∧ N + A ≤ rest.length + 1 ∧ x = ((c :: rest).take (A + N)).drop A ∧ y = (c :: rest).drop (A + N) ∧ N = x.length ∧ y.length + (A + N) = rest.length + 1) := by
  unfold bodyP lenR
  by_cases h1 : f ≤ 55
  · simp only [if_pos h1, cutP]
    by_cases h2 : f ≤ rest.length
    · simp only [if_pos h2]
      refine ⟨fun e h => (by cases h), fun x y h => ?_⟩
      cases h
      refine ⟨trivial, f, 1, rfl, rfl, by omega, by omega, ?_, ?_, ?_, ?_⟩
      · rw [Nat.add_comm 1 f]; simp
      · rw [Nat.add_comm 1 f]; simp
      · rw [List.length_take]; omega
      · rw [List.length_drop]; omega
    · simp only [if_neg h2]
      refine ⟨fun e h => ?_, fun x y h => by cases h⟩
      cases h
      exact Or.inr ⟨trivial, rfl, f, 1, rfl, rfl, by omega, by omega, by omega, by omega⟩
  · simp only [if_neg h1]
    by_cases h2 : f - 55 ≤ rest.length
    · rw [if_pos h2, if_neg (show ¬ rest.length < f - 55 by omega)]
      by_cases h3 : (rest.take (f - 55)).headD 0 = 0 ∨ num (rest.take (f - 55)) ≤ 55
      · rw [if_pos h3, if_pos h3]
        refine ⟨fun e h => ?_, fun x y h => by cases h⟩
        cases h
        exact Or.inl ⟨rfl, by decide⟩
      · rw [if_neg h3, if_neg h3]
        generalize num (rest.take (f - 55)) = N at *
        by_cases h4 : N > rest.length + 1
        · rw [if_pos h4]
          simp only [cutP]
          rw [if_neg (by rw [List.length_drop]; omega)]
          refine ⟨fun e h => ?_, fun x y h => by cases h⟩
          cases h
          exact Or.inl ⟨rfl, by decide⟩
        · rw [if_neg h4]
          simp only [cutP]
          by_cases h5 : N ≤ (rest.drop (f - 55)).length
          · rw [if_pos h5]
            rw [List.length_drop] at h5
            refine ⟨fun e h => (by cases h), fun x y h => ?_⟩
            cases h
            refine ⟨trivial, N, 1 + (f - 55), rfl, rfl, by omega, by omega, ?_, ?_, ?_, ?_⟩
            · rw [show 1 + (f - 55) + N = ((f - 55) + N) + 1 by omega, show 1 + (f - 55) = (f - 55) + 1 by omega]
              simp only [List.take_succ_cons, List.drop_succ_cons]
              rw [List.drop_take, Nat.add_sub_cancel_left]
            · rw [show 1 + (f - 55) + N = ((f - 55) + N) + 1 by omega]
              simp only [List.drop_succ_cons, List.drop_drop]
            · rw [List.length_take, List.length_drop]; omega
            · rw [List.length_drop, List.length_drop]; omega
          · rw [if_neg h5]
            rw [List.length_drop] at h5
            refine ⟨fun e h => ?_, fun x y h => by cases h⟩
            cases h
            exact Or.inr ⟨trivial, rfl, N, 1 + (f - 55), rfl, rfl, by omega, by omega, by omega, by omega⟩
    · rw [if_neg h2, if_pos (show rest.length < f - 55 by omega)]
      refine ⟨fun e h => ?_, fun x y h => by cases h⟩
      cases h
      exact Or.inl ⟨rfl, by decide⟩

def endR (e : Int) : Bool × List Int × List S47 × Int × Int := (false, [], [], 0, e)
theorem read_err (c : Int) (rest : List Int) (hb : Byt rest) (hr : rest.length ≤ 65536) (base : Int) (h0 : base ≤ c) (h1 : c - base ≤ 63) (lv : Int) (flag : Bool) (e : Int) (he : bodyP (c - base).toNat rest = .error e) :
    ∀ k, 30 ≤ k → proctorref02_read.j0 k (c :: rest) lv flag base = some (endR e) := by
  intro k hk
  obtain ⟨k, rfl⟩ : ∃ k', k = k' + 3 := ⟨k - 3, by omega⟩
  rw [proctorref02_read.j0, length_ev c rest hb hr base h0 h1 (k + 2) (by omega)]
  simp only [Option.bind_some]
  have hb1 := (body_len c rest (c - base).toNat).1 e he
  generalize lenR (c - base).toNat rest = q at *
  obtain ⟨n, at_, e0⟩ := q
  simp only at hb1 ⊢
  rcases hb1 with ⟨rfl, hne⟩ | ⟨rfl, rfl, N, A, rfl, rfl, hA, hA1, hNA, hN⟩
  · rw [if_neg hne, proctorref02_read.j1, if_neg (by simp), proctorref02_read.j2, if_neg hne]
    rfl
  · rw [if_pos rfl, wrap64_in _ (by rw [List.length_cons]; omega)]
    rw [show decide ((N : Int) > ((c :: rest).length : Int) - (A : Int)) = true from decide_eq_true (by rw [List.length_cons]; omega)]
    rw [proctorref02_read.j1, if_pos rfl, proctorref02_read.j2, if_neg (by decide)]
    rfl

theorem read_ok (c : Int) (rest : List Int) (hb : Byt rest) (hr : rest.length ≤ 65536) (base : Int) (h0 : base ≤ c) (h1 : c - base ≤ 63) (lv : Int) (flag : Bool) (x y : List Int) (he : bodyP (c - base).toNat rest = .ok (x, y)) :
    ∃ N A : Nat, N = x.length ∧ y.length + (A + N) = rest.length + 1 ∧ ∀ k, 30 ≤ k → proctorref02_read.j0 (k + 3) (c :: rest) lv flag base =
      if flag = true then proctorref02_read.l0 k lv N A x true [] else
      if x.length = 1 ∧ x.headD 0 < 128 then some (endR 8) else some (false, x, [], ((A + N : Nat) : Int), 0) := by
  have hb1 := (body_len c rest (c - base).toNat).2 x y he
  obtain ⟨h2, N, A, h3, h4, hA, hNA, hx, hy, hN, hyl⟩ := hb1
  refine ⟨N, A, hN, hyl, fun k hk => ?_⟩
  rw [proctorref02_read.j0, length_ev c rest hb hr base h0 h1 (k + 2) (by omega)]
  simp only [Option.bind_some]
  generalize lenR (c - base).toNat rest = q at *
  obtain ⟨n, at_, e0⟩ := q
  simp only at h2 h3 h4 ⊢
  subst h2 h3 h4
  have hxl : x.length ≤ 65536 := by omega
  rw [if_pos rfl, wrap64_in _ (by rw [List.length_cons]; omega)]
  rw [show decide ((N : Int) > ((c :: rest).length : Int) - (A : Int)) = false from decide_eq_false (by rw [List.length_cons]; omega)]
  rw [proctorref02_read.j1, if_neg (by simp), proctorref02_read.j2, if_pos rfl, if_pos (by omega), wrap64_in _ (by omega), if_pos (by omega), if_pos (by rw [List.length_cons]; omega)]
  rw [show (((A : Int) + (N : Int)).toNat) = A + N by omega, Int.toNat_natCast, ← hx]
  simp only [Option.bind_some]
  cases flag with
  | true => rw [if_pos rfl, if_pos rfl]
  | false =>
    rw [if_neg (show ¬ (false = true) by decide), if_neg (show ¬ (false = true) by decide)]
    have hc : ∀ b : Option (Bool × List Int × List S47 × Int × Int), ((proctorref01_Copy.f x).bind fun t => some (false, t, ([] : List S47), (A : Int) + (N : Int), (0 : Int))) = some (false, x, [], ((A + N : Nat) : Int), 0) := by
      intro _
      rw [copy_f x (by omega)]
      simp
    rw [hc none]
    by_cases h11 : x.length = 1
    · obtain ⟨i0, rfl⟩ : ∃ i0, x = [i0] := by
        match x, h11 with
        | [i0], _ => exact ⟨i0, rfl⟩
      rw [if_pos (show (N : Int) = 1 by simp at hN; omega), if_pos (show (0 : Int) < ([i0].length : Int) by simp)]
      have hrd : rd [i0] 0 = i0 := by simp [rd]
      rw [hrd]
      simp only [List.length_singleton, List.headD_cons, true_and]
      rfl
    · rw [if_neg (show ¬ (N : Int) = 1 by omega), if_neg (show ¬ (x.length = 1 ∧ x.headD 0 < 128) from fun h => h11 h.1)]

/-- what the document's read answers -/
def resR (lv : Nat) (b : List Int) : Bool × List Int × List S47 × Int × Int :=
  match itemP lv b with
  | .ok q => (q.1.f0, q.1.f1, q.1.f2, (b.length : Int) - (q.2.length : Int), 0)
  | .error e => endR e
theorem itemP_suffix {lv : Nat} {l r : List Int} {x : S47} (h : itemP lv l = .ok (x, r)) : r = l.drop (l.length - r.length) := by
  have h1 := itemP_len h
  have : ∃ k, r = l.drop k := by cases lv <;> exact itemF_suffix h
  obtain ⟨k, rfl⟩ := this
  rw [List.length_drop] at h1 ⊢
  by_cases hk : k ≤ l.length
  · rw [show l.length - (l.length - k) = k by omega]
  · rw [List.drop_of_length_le (by omega), show l.length - (l.length - k) = l.length by omega, List.drop_length]
theorem cutP_err {b : List Int} {n : Nat} {e : Int} (h : cutP b n = .error e) : e ≠ 0 := by
  unfold cutP at h
  split at h
  · cases h
  · cases h; decide
theorem bodyP_err {f : Nat} {b : List Int} {e : Int} (h : bodyP f b = .error e) : e ≠ 0 := by
  unfold bodyP at h
  split at h
  · exact cutP_err h
  · split at h
    · split at h
      · cases h; decide
      · exact cutP_err h
    · cases h; decide
theorem bind_err {ε α β : Type} {x : Except ε α} {f : α → Except ε β} {e : ε} (h : x.bind f = .error e) : x = .error e ∨ ∃ a, x = .ok a ∧ f a = .error e := by
  cases x with
  | error e' => exact Or.inl (by cases h; rfl)
  | ok a => exact Or.inr ⟨a, rfl, h⟩
theorem itemsP_err (f : List Int → Except Int (S47 × List Int)) (hl : ∀ l x r, f l = .ok (x, r) → r.length < l.length) (hf : ∀ l e, f l = .error e → e ≠ 0) :
    ∀ (k : Nat) (l : List Int), l.length ≤ k → ∀ e, itemsP f k l = .error e → e ≠ 0
  | k, [], _, e, h => by cases k <;> cases h
  | 0, _ :: _, hk, e, h => by simp at hk
  | k + 1, c :: l, hk, e, h => by
    rw [itemsP] at h
    rcases bind_err h with h | ⟨⟨x, r⟩, h1, h⟩
    · exact hf _ _ h
    · have h2 := hl _ _ _ h1
      rw [List.length_cons] at h2 hk
      rcases bind_err h with h | ⟨xs, h1, h⟩
      · exact itemsP_err f hl hf k r (by omega) e h
      · cases h
theorem itemF_err {sub : Option (List Int → Except Int (S47 × List Int))} (hsl : ∀ f, sub = some f → ∀ l x r, f l = .ok (x, r) → r.length < l.length) (hsub : ∀ f, sub = some f → ∀ l e, f l = .error e → e ≠ 0) {b : List Int} {e : Int} (h : itemF sub b = .error e) : e ≠ 0 := by
  cases b with
  | nil => cases h; decide
  | cons c rest =>
    simp only [itemF] at h
    split at h
    · cases h
    · split at h
      · rcases bind_err h with h | ⟨q, h1, h⟩
        · exact bodyP_err h
        · split at h
          · cases h; decide
          · cases h
      · cases sub with
        | none => cases h; decide
        | some f =>
          simp only at h
          rcases bind_err h with h | ⟨q, h1, h⟩
          · exact bodyP_err h
          · rcases bind_err h with h | ⟨xs, h1, h⟩
            · exact itemsP_err f (hsl f rfl) (hsub f rfl) _ _ (Nat.le_refl _) _ h
            · cases h
theorem itemP_err : ∀ {lv : Nat} {b : List Int} {e : Int}, itemP lv b = .error e → e ≠ 0
  | 0, b, e, h => itemF_err (by simp) (by simp) h
  | lv + 1, b, e, h => itemF_err (sub := some (itemP lv)) (by rintro f hf; cases hf; intro l x r h; exact itemP_len h) (by rintro f hf; cases hf; intro l e h; exact itemP_err h) h

theorem read_loop (lv : Nat) (hlv : lv + 1 ≤ 16) (N A : Nat) (hNA : A + N ≤ 70000)
    (ih : ∀ b : List Int, Byt b → b.length ≤ 65537 → Ev (fun k => proctorref02_read.f k b lv) (resR lv b)) :
    ∀ (s : Nat) (x : List Int), x.length ≤ s → Byt x → ∀ acc : List S47, acc.length + x.length ≤ 70000 → x.length ≤ 65537 →
    Ev (fun k => proctorref02_read.l0 k ((lv + 1 : Nat) : Int) N A x true acc)
      (match itemsP (itemP lv) x.length x with
       | .ok xs => (true, [], acc ++ xs, ((A + N : Nat) : Int), 0)
       | .error e => endR e) := by
  intro s
  induction s with
  | zero =>
    intro x hx hb acc hl hl2
    obtain rfl : x = [] := List.length_eq_zero_iff.mp (by omega)
    refine ⟨1, fun k hk => ?_⟩
    obtain ⟨k, rfl⟩ : ∃ k', k = k' + 1 := ⟨k - 1, by omega⟩
    simp only
    rw [proctorref02_read.l0, if_neg (by simp), wrap64_in _ (by omega)]
    simp [itemsP]
  | succ s ihs =>
    intro x hx hb acc hl hl2
    by_cases h0 : x.length = 0
    · exact ihs x (by omega) hb acc hl hl2
    · obtain ⟨K1, h1⟩ := ih x hb hl2
      rw [items_step lv x (by omega)]
      have hstep : ∀ k, K1 ≤ k → proctorref02_read.f k x (wrap64 (((lv + 1 : Nat) : Int) - 1)) = some (resR lv x) := by
        intro k hk
        rw [wrap64_in _ (by omega), show (((lv + 1 : Nat) : Int) - 1) = (lv : Int) by omega]
        exact h1 k hk
      unfold resR at hstep
      cases hi : itemP lv x with
      | error e =>
        have hne := itemP_err hi
        rw [hi] at hstep
        simp only at hstep
        refine ⟨K1 + 1, fun k hk => ?_⟩
        obtain ⟨k, rfl⟩ : ∃ k', k = k' + 1 := ⟨k - 1, by omega⟩
        simp only
        rw [proctorref02_read.l0, if_pos (by omega), hstep k (by omega)]
        simp only [Option.bind_some, endR, Except.bind]
        rw [if_neg hne]
      | ok q =>
        obtain ⟨⟨y0, y1, y2⟩, r⟩ := q
        have hlen := itemP_len hi
        have hsuf := itemP_suffix hi
        have hbr := itemP_byt hb hi
        rw [hi] at hstep
        simp only at hstep
        obtain ⟨K2, h2⟩ := ihs r (by omega) hbr (acc ++ [⟨y0, y1, y2⟩]) (by rw [List.length_append, List.length_singleton]; omega) (by omega)
        refine ⟨max K1 K2 + 1, fun k hk => ?_⟩
        obtain ⟨k, rfl⟩ : ∃ k', k = k' + 1 := ⟨k - 1, by omega⟩
        have h3 := h2 k (by omega)
        simp only at h3 ⊢
        rw [proctorref02_read.l0, if_pos (by omega), hstep k (by omega)]
        simp only [Option.bind_some, Except.bind]
        rw [if_pos trivial, if_pos (by omega), if_pos (by omega), if_pos (by omega)]
        rw [show ((x.length : Int) - (r.length : Int)).toNat = x.length - r.length by omega, ← hsuf]
        refine Eq.trans h3 ?_
        cases hi2 : itemsP (itemP lv) r.length r with
        | error e => rfl
        | ok xs => simp


theorem bodyP_byt' {f : Nat} {b x y : List Int} (hb : Byt b) (h : bodyP f b = .ok (x, y)) : Byt x := by
  unfold bodyP at h
  split at h
  · obtain ⟨h1, rfl, rfl⟩ := cutP_ok h
    exact hb.take _
  · split at h
    · split at h
      · cases h
      · obtain ⟨h1, rfl, rfl⟩ := cutP_ok h
        exact (hb.drop _).take _
    · cases h

theorem read_spec : ∀ (lv : Nat), lv ≤ 16 → ∀ b : List Int, Byt b → b.length ≤ 65537 → Ev (fun k => proctorref02_read.f k b lv) (resR lv b)
  | lv, hlv, [], hb, hl => by
    refine ⟨1, fun k hk => ?_⟩
    obtain ⟨k, rfl⟩ : ∃ k', k = k' + 1 := ⟨k - 1, by omega⟩
    simp only
    rw [proctorref02_read.f, if_pos (by simp)]
    cases lv <;> rfl
  | lv, hlv, c :: rest, hb, hl => by
    have hr : rest.length ≤ 65536 := by rw [List.length_cons] at hl; omega
    have hbr : Byt rest := fun x hx => hb x (List.mem_cons_of_mem _ hx)
    have hc := hb c (by simp)
    have hrd : rd (c :: rest) 0 = c := by simp [rd]
    have hP : itemP lv (c :: rest) = if c < 128 then .ok (⟨false, [c], []⟩, rest)
      else if c < 192 then (bodyP (c - 128).toNat rest).bind fun q => if q.1.length = 1 ∧ q.1.headD 0 < 128 then .error 8 else .ok (⟨false, q.1, []⟩, q.2)
      else match lv with
        | 0 => .error 8
        | lv + 1 => (bodyP (c - 192).toNat rest).bind fun q => (itemsP (itemP lv) q.1.length q.1).bind fun xs => .ok (⟨true, [], xs⟩, q.2) := by
      cases lv <;> rfl
    unfold resR
    rw [hP]
    by_cases h1 : c < 128
    · rw [if_pos h1]
      refine ⟨1, fun k hk => ?_⟩
      obtain ⟨k, rfl⟩ : ∃ k', k = k' + 1 := ⟨k - 1, by omega⟩
      simp only
      rw [proctorref02_read.f, if_neg (by rw [List.length_cons]; omega), if_pos (by rw [List.length_cons]; omega), hrd, if_pos h1]
      congr 5
      rw [List.length_cons]; omega
    · rw [if_neg h1]
      by_cases h2 : c < 192
      · rw [if_pos h2]
        have hf : ∀ k, proctorref02_read.f (k + 1) (c :: rest) lv = proctorref02_read.j0 k (c :: rest) lv false 128 := by
          intro k
          rw [proctorref02_read.f, if_neg (by rw [List.length_cons]; omega), if_pos (by rw [List.length_cons]; omega), hrd, if_neg h1, if_neg (by omega), show decide (c ≥ 192) = false from decide_eq_false (by omega)]
        cases hbd : bodyP (c - 128).toNat rest with
        | error e =>
          have := read_err c rest hbr hr 128 (by omega) (by omega) lv false e hbd
          refine ⟨40, fun k hk => ?_⟩
          obtain ⟨k, rfl⟩ : ∃ k', k = k' + 1 := ⟨k - 1, by omega⟩
          simp only
          rw [hf, this k (by omega)]
          rfl
        | ok q =>
          obtain ⟨x, y⟩ := q
          obtain ⟨N, A, hN, hyl, h3⟩ := read_ok c rest hbr hr 128 (by omega) (by omega) lv false x y hbd
          refine ⟨40, fun k hk => ?_⟩
          obtain ⟨k, rfl⟩ : ∃ k', k = k' + 4 := ⟨k - 4, by omega⟩
          simp only
          rw [hf, h3 k (by omega), if_neg (by decide)]
          simp only [Except.bind]
          by_cases h4 : x.length = 1 ∧ x.headD 0 < 128
          · rw [if_pos h4, if_pos h4]
          · rw [if_neg h4, if_neg h4]
            simp only [List.length_cons]
            congr 5
            omega
      · rw [if_neg h2]
        cases lv with
        | zero =>
          refine ⟨1, fun k hk => ?_⟩
          obtain ⟨k, rfl⟩ : ∃ k', k = k' + 1 := ⟨k - 1, by omega⟩
          simp only
          rw [proctorref02_read.f, if_neg (by rw [List.length_cons]; omega), if_pos (by rw [List.length_cons]; omega), hrd, if_neg h1, if_pos (by omega), if_pos (by omega)]
          rfl
        | succ lv =>
          have hf : ∀ k, proctorref02_read.f (k + 1) (c :: rest) ((lv + 1 : Nat) : Int) = proctorref02_read.j0 k (c :: rest) ((lv + 1 : Nat) : Int) true 192 := by
            intro k
            rw [proctorref02_read.f, if_neg (by rw [List.length_cons]; omega), if_pos (by rw [List.length_cons]; omega), hrd, if_neg h1, if_pos (by omega), if_neg (by omega), show decide (c ≥ 192) = true from decide_eq_true (by omega)]
          simp only
          cases hbd : bodyP (c - 192).toNat rest with
          | error e =>
            have := read_err c rest hbr hr 192 (by omega) (by omega) ((lv + 1 : Nat) : Int) true e hbd
            refine ⟨40, fun k hk => ?_⟩
            obtain ⟨k, rfl⟩ : ∃ k', k = k' + 1 := ⟨k - 1, by omega⟩
            simp only
            rw [hf, this k (by omega)]
            rfl
          | ok q =>
            obtain ⟨x, y⟩ := q
            obtain ⟨N, A, hN, hyl, h3⟩ := read_ok c rest hbr hr 192 (by omega) (by omega) ((lv + 1 : Nat) : Int) true x y hbd
            have hbx := bodyP_byt' hbr hbd
            obtain ⟨K, hK⟩ := read_loop lv hlv N A (by omega) (fun b hb hl => read_spec lv (by omega) b hb hl) x.length x (Nat.le_refl _) hbx [] (by simp; omega) (by omega)
            refine ⟨K + 40, fun k hk => ?_⟩
            obtain ⟨k, rfl⟩ : ∃ k', k = k' + 4 := ⟨k - 4, by omega⟩
            have h5 := hK k (by omega)
            simp only at h5 ⊢
            rw [hf, h3 k (by omega), if_pos rfl, h5]
            simp only [Except.bind]
            cases itemsP (itemP lv) x.length x with
            | error e => rfl
            | ok xs =>
              simp only [List.length_cons, List.nil_append]
              congr 5
              omega
end Go.Proofs.Ytdjoekckhmggbaa.H
