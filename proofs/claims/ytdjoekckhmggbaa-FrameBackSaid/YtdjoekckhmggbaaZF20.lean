import Derived.Test.YtdjoekckhmggbaaZMG
namespace Go.Proofs.Ytdjoekckhmggbaa.H
open Go.RowKit Go.Proofs.YtdjoekckhmggbaaW.PrintWords Go.Proofs.YtdjoekckhmggbaaW.PrintMore Go.Proofs.Ytdjoekckhmggbaa.PRF
set_option linter.unusedVariables false
set_option linter.unusedSimpArgs false
theorem cntS_mul {len size : Nat} (h : 1 ≤ size) : len ≤ cntS len size * size ∧ (cntS len size - 1) * size ≤ len ∧ 1 ≤ cntS len size := by
  unfold cntS
  have h1 := Nat.div_add_mod (len + size - 1) size
  have h2 := Nat.mod_lt (len + size - 1) (show 0 < size by omega)
  generalize (len + size - 1) / size = q at *
  rw [Nat.mul_comm] at h1
  by_cases hq : q = 0
  · subst hq
    simp
    omega
  · rw [show max 1 q = q by omega]
    have h3 : (q - 1) * size + size = q * size := by rw [← Nat.succ_mul]; congr 1; omega
    omega
theorem frameS_is {ch : Int} {data : List Int} {size n i : Nat} (hs : size ≤ 4096) (hi : i < 1024) (s : Int) : isF ch s (frameS ch data size n i) = decide (s = (i : Int)) := by
  have h1 : ((data.drop (i * size)).take size).length ≤ 4096 := by rw [List.length_take]; omega
  have : mayF (frameS ch data size n i) = true := by
    unfold mayF
    rw [decide_eq_true (show 0 ≤ (frameS ch data size n i).f1 by show (0 : Int) ≤ (i : Int); omega), decide_eq_true (show (frameS ch data size n i).f1 < 1024 by show (i : Int) < 1024; omega), decide_eq_true (show (frameS ch data size n i).f3.length ≤ 4096 from h1)]
    rfl
  unfold isF
  rw [this]
  rw [show (frameS ch data size n i).f0 = ch from rfl, show (frameS ch data size n i).f1 = (i : Int) from rfl, beq_self_eq_true, Bool.true_and, Bool.true_and]
  by_cases h : s = (i : Int)
  · simp [h]
  · rw [decide_eq_false h]; simp; omega
def Holds (ch : Int) (data : List Int) (size n : Nat) (l : List S40) : Prop :=
  (∀ x ∈ l, mayF x = true → x.f0 = ch → ∃ i, i < n ∧ x = frameS ch data size n i) ∧ ∀ i, i < n → frameS ch data size n i ∈ l
theorem Holds.cnt {ch : Int} {data : List Int} {size n : Nat} {l : List S40} (h : Holds ch data size n l) (hs : size ≤ 4096) (hn : n ≤ 1024) {s : Nat} (hsn : s < n) : cntF ch l s = some (frameS ch data size n s) := by
  unfold cntF
  cases hc : l.find? (isF ch s) with
  | none =>
    have := List.find?_eq_none.1 hc _ (h.2 s hsn)
    rw [frameS_is hs (by omega)] at this
    simp at this
  | some x =>
    have h1 := List.mem_of_find?_eq_some hc
    have h2 := List.find?_some hc
    have h3 := h2
    unfold isF at h3
    simp only [Bool.and_eq_true, beq_iff_eq] at h3
    obtain ⟨i, hi, rfl⟩ := h.1 x h1 h3.1.1 h3.1.2
    rw [frameS_is hs (by omega), decide_eq_true_eq] at h2
    rw [show s = i by omega]
theorem take_chunk (data : List Int) (s size : Nat) : data.take (s * size) ++ (data.drop (s * size)).take size = data.take ((s + 1) * size) := by
  rw [Nat.succ_mul, List.take_add]
theorem Holds.join {ch : Int} {data : List Int} {size : Nat} {l : List S40} (h : Holds ch data size (cntS data.length size) l) (hs1 : 1 ≤ size) (hs : size ≤ 4096) (hn : cntS data.length size ≤ 1024) : joinP ch l = some data := by
  obtain ⟨q1, q2, q3⟩ := cntS_mul (len := data.length) hs1
  generalize hN : cntS data.length size = n at *
  have loop : ∀ d s k, s + d + 1 = n → d + 1 ≤ k → joinF ch l k s (data.take (s * size)) = some data := by
    intro d
    induction d with
    | zero =>
      intro s k hd hk
      obtain ⟨k, rfl⟩ : ∃ m, k = m + 1 := ⟨k - 1, by omega⟩
      rw [joinF, h.cnt hs hn (s := s) (by omega)]
      show (if (frameS ch data size n s).f2 = true then _ else _) = _
      rw [if_pos (by simp [frameS]; omega)]
      show some (_ ++ (data.drop (s * size)).take size) = _
      rw [take_chunk, show s + 1 = n by omega, List.take_of_length_le q1]
    | succ d ih =>
      intro s k hd hk
      obtain ⟨k, rfl⟩ : ∃ m, k = m + 1 := ⟨k - 1, by omega⟩
      rw [joinF, h.cnt hs hn (s := s) (by omega)]
      show (if (frameS ch data size n s).f2 = true then _ else joinF ch l k (s + 1) (_ ++ (data.drop (s * size)).take size)) = _
      rw [if_neg (by simp [frameS]; omega), take_chunk]
      exact ih (s + 1) k (by omega) (by omega)
  have := loop (n - 1) 0 1024 (by omega) (by omega)
  rw [Nat.zero_mul, List.take_zero] at this
  exact this
theorem join_without {ch : Int} {data : List Int} {size n : Nat} {l : List S40} (h : ∀ x ∈ l, mayF x = true → x.f0 = ch → ∃ i, i < n ∧ x = frameS ch data size n i) {out : Nat} (hout : out < n) (hno : cntF ch l out = none) : joinP ch l = none := by
  have loop : ∀ d s acc k, s + d = out → joinF ch l k s acc = none := by
    intro d
    induction d with
    | zero =>
      intro s acc k hd
      cases k with
      | zero => rfl
      | succ k =>
        rw [joinF, show s = out by omega, hno]
    | succ d ih =>
      intro s acc k hd
      cases k with
      | zero => rfl
      | succ k =>
        rw [joinF]
        cases hc : cntF ch l s with
        | none => rfl
        | some x =>
          have hx := cnt_may hc
          obtain ⟨i, hi, rfl⟩ := h x hx.1 hx.2.1 hx.2.2.1
          have hsi : (i : Int) = (s : Int) := hx.2.2.2
          show (if (frameS ch data size n i).f2 = true then _ else _) = _
          rw [if_neg (by simp [frameS]; omega)]
          exact ih (s + 1) _ k (by omega)
  exact loop out 0 [] 1024 (by omega)
end Go.Proofs.Ytdjoekckhmggbaa.H
