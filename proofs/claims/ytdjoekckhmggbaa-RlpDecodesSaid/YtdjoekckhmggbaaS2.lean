import Derived.Test.YtdjoekckhmggbaaS1
import Derived.Test.YtdjoekckhmggbaaRf6
import Derived.Test.YtdjoekckhmggbaaRf8
import Derived.Test.YtdjoekckhmggbaaRf10
namespace Go.Proofs.Ytdjoekckhmggbaa.H
open Go.RowKit Go.Proofs.YtdjoekckhmggbaaW.PrintWords Go.Proofs.YtdjoekckhmggbaaW.PrintMore Go.Proofs.Ytdjoekckhmggbaa.PRF
set_option linter.unusedVariables false

/-- a number's bytes, the highest first, without a 0 ahead -/
def bigF : Nat → Nat → List Int
  | 0, _ => []
  | d + 1, n => if n = 0 then [] else bigF d (n / 256) ++ [((n % 256 : Nat) : Int)]
def bigP (n : Nat) : List Int := bigF 8 n
def aheadP (from_ : Int) (n : Nat) : List Int := if n ≤ 55 then [from_ + n] else (from_ + 55 + (bigP n).length) :: bigP n

theorem bigF_zero (d : Nat) : bigF d 0 = [] := by cases d <;> simp [bigF]
theorem bigF_more : ∀ (d n : Nat), n < 256 ^ d → bigF (d + 1) n = bigF d n
  | 0, n, h => by
    have : n = 0 := by simp at h; exact h
    subst this; simp [bigF]
  | d + 1, n, h => by
    rw [bigF]
    by_cases h0 : n = 0
    · rw [if_pos h0]; rw [h0, bigF_zero]
    · rw [if_neg h0, bigF_more d (n / 256) (by rw [Nat.pow_succ] at h; omega)]
      rw [bigF, if_neg h0]
theorem bigF_byt : ∀ (d n : Nat), Byt (bigF d n)
  | 0, _ => Byt.nil
  | d + 1, n => by
    rw [bigF]
    split
    · exact Byt.nil
    · exact (bigF_byt d _).append (Byt.cons (by omega) Byt.nil)
theorem bigF_len : ∀ (d n : Nat), (bigF d n).length ≤ d
  | 0, _ => Nat.le_refl _
  | d + 1, n => by
    rw [bigF]
    split
    · simp
    · have := bigF_len d (n / 256); simp; omega
theorem bigF_num : ∀ (d n : Nat), n < 256 ^ d → num (bigF d n) = n
  | 0, n, h => by simp at h; simp [bigF, num, h]
  | d + 1, n, h => by
    rw [bigF]
    split
    · rename_i h0; simp [num, h0]
    · rw [num_snoc, bigF_num d (n / 256) (by rw [Nat.pow_succ] at h; omega)]
      have : ((n % 256 : Nat) : Int).toNat = n % 256 := by omega
      rw [this]; omega
theorem bigF_head : ∀ (d n : Nat), n < 256 ^ d → bigF d n ≠ [] → (bigF d n).headD 0 ≠ 0
  | 0, n, h, h1 => absurd rfl h1
  | d + 1, n, h, h1 => by
    rw [bigF] at h1 ⊢
    split at h1
    · exact absurd rfl h1
    · rename_i h0
      rw [if_neg h0]
      by_cases hb : bigF d (n / 256) = []
      · rw [hb]
        have h3 := bigF_num d (n / 256) (by rw [Nat.pow_succ] at h; omega)
        rw [hb] at h3
        have : n / 256 = 0 := by rw [← h3]; rfl
        simp; omega
      · have := bigF_head d (n / 256) (by rw [Nat.pow_succ] at h; omega) hb
        cases hbb : bigF d (n / 256) with
        | nil => exact absurd hbb hb
        | cons a l => rw [hbb] at this; simpa using this
/-- bytes without a 0 ahead are their number's -/
theorem bigF_of_num (l : List Int) (hb : Byt l) (h0 : l ≠ [] → l.headD 0 ≠ 0) : ∀ d, l.length ≤ d → bigF d (num l) = l := by
  revert hb h0
  refine snoc_ind (P := fun l => Byt l → (l ≠ [] → l.headD 0 ≠ 0) → ∀ d, l.length ≤ d → bigF d (num l) = l) ?_ ?_ l
  · intro _ _ d _; exact bigF_zero d
  · intro l c ih hb h0 d hd
    rw [List.length_append, List.length_singleton] at hd
    obtain ⟨d, rfl⟩ : ∃ e, d = e + 1 := ⟨d - 1, by omega⟩
    have hc := hb c (by simp)
    have hbl : Byt l := fun x hx => hb x (List.mem_append_left _ hx)
    have h0l : l ≠ [] → l.headD 0 ≠ 0 := fun hn => by
      have := h0 (by simp)
      cases l with
      | nil => exact absurd rfl hn
      | cons a l => simpa using this
    have ih := ih hbl h0l d (by omega)
    rw [num_snoc, bigF]
    have hne : num l * 256 + c.toNat ≠ 0 := by
      intro hz
      have h1 : num l = 0 := by omega
      have h2 : c.toNat = 0 := by omega
      rw [h1, bigF_zero] at ih
      subst ih
      have := h0 (by simp)
      simp at this
      omega
    rw [if_neg hne]
    have e1 : (num l * 256 + c.toNat) / 256 = num l := by omega
    have e2 : (num l * 256 + c.toNat) % 256 = c.toNat := by omega
    rw [e1, e2, ih]
    congr 1
    have : ((c.toNat : Nat) : Int) = c := by omega
    rw [this]
theorem bigP_len (n : Nat) : (bigP n).length ≤ 8 := bigF_len 8 n
theorem bigP_byt (n : Nat) : Byt (bigP n) := bigF_byt 8 n
theorem bigP_num (n : Nat) (h : n ≤ 18446744073709551615) : num (bigP n) = n := bigF_num 8 n (by rw [pow256_8]; omega)
theorem bigP_head (n : Nat) (h : n ≤ 18446744073709551615) (h0 : n ≠ 0) : bigP n ≠ [] ∧ (bigP n).headD 0 ≠ 0 := by
  have h1 : bigP n ≠ [] := fun h2 => h0 (by rw [← bigP_num n h, h2]; rfl)
  exact ⟨h1, bigF_head 8 n (by rw [pow256_8]; omega) h1⟩
theorem bigP_of_num (l : List Int) (hb : Byt l) (hl : l.length ≤ 8) (h0 : l ≠ [] → l.headD 0 ≠ 0) : bigP (num l) = l := bigF_of_num l hb h0 8 hl

/-! ### what the program's own functions come to -/
theorem reverse_f : ∀ (l : List Int), l.length ≤ 8 → slices_Reverse_byte_byte.f 6 l = some l.reverse
  | [], _ => by simp [slices_Reverse_byte_byte.f, slices_Reverse_byte_byte.l0, wrap64]
  | [a], _ => by simp [slices_Reverse_byte_byte.f, slices_Reverse_byte_byte.l0, wrap64]
  | [a, b], _ => by simp [slices_Reverse_byte_byte.f, slices_Reverse_byte_byte.l0, wrap64, rd]
  | [a, b, c], _ => by simp [slices_Reverse_byte_byte.f, slices_Reverse_byte_byte.l0, wrap64, rd]
  | [a, b, c, d], _ => by simp [slices_Reverse_byte_byte.f, slices_Reverse_byte_byte.l0, wrap64, rd]
  | [a, b, c, d, e], _ => by simp [slices_Reverse_byte_byte.f, slices_Reverse_byte_byte.l0, wrap64, rd]
  | [a, b, c, d, e, f], _ => by simp [slices_Reverse_byte_byte.f, slices_Reverse_byte_byte.l0, wrap64, rd]
  | [a, b, c, d, e, f, g], _ => by simp [slices_Reverse_byte_byte.f, slices_Reverse_byte_byte.l0, wrap64, rd]
  | [a, b, c, d, e, f, g, h], _ => by simp [slices_Reverse_byte_byte.f, slices_Reverse_byte_byte.l0, wrap64, rd]
  | _ :: _ :: _ :: _ :: _ :: _ :: _ :: _ :: _ :: l, h => by simp at h

theorem big64_l0 : ∀ (d n : Nat) (acc : List Int), n < 256 ^ d → acc.length + d ≤ 8 → rlp_big_uint64.l0 (d + 7) n acc = some (bigF d n ++ acc.reverse)
  | 0, n, acc, h, hl => by
    have h0 : n = 0 := by simp at h; exact h
    subst h0
    show rlp_big_uint64.l0 (6 + 1) ((0 : Nat) : Int) acc = _
    rw [rlp_big_uint64.l0, if_neg (by omega), reverse_f acc (by omega)]
    simp [bigF]
  | d + 1, n, acc, h, hl => by
    show rlp_big_uint64.l0 ((d + 7) + 1) (n : Int) acc = _
    rw [rlp_big_uint64.l0, bigF]
    by_cases h0 : n = 0
    · subst h0
      rw [if_neg (by omega), if_pos rfl]
      have : slices_Reverse_byte_byte.f (d + 7) acc = some acc.reverse := at_rounds (slices_Reverse_byte_byte.mono acc) (show 6 ≤ d + 7 by omega) (reverse_f acc (by omega))
      rw [this]; simp
    · rw [if_pos (by omega), if_pos (by omega), if_neg h0]
      have e1 : ((n : Int) / 256) = ((n / 256 : Nat) : Int) := by omega
      have e2 : ((n : Int) % 256) = ((n % 256 : Nat) : Int) := by omega
      rw [e1, e2, big64_l0 d (n / 256) _ (by rw [Nat.pow_succ] at h; omega) (by simp; omega)]
      simp
theorem big64_f (n : Nat) (h : n ≤ 18446744073709551615) : rlp_big_uint64.f 15 n = some (bigP n) := by
  have := big64_l0 8 n [] (by rw [pow256_8]; omega) (by simp)
  simpa [rlp_big_uint64.f, bigP] using this
theorem bigI_l0 : ∀ (d n : Nat) (acc : List Int), n < 256 ^ d → acc.length + d ≤ 8 → rlp_big_int.l0 (d + 7) n acc = some (bigF d n ++ acc.reverse)
  | 0, n, acc, h, hl => by
    have h0 : n = 0 := by simp at h; exact h
    subst h0
    show rlp_big_int.l0 (6 + 1) ((0 : Nat) : Int) acc = _
    rw [rlp_big_int.l0, if_neg (by omega), reverse_f acc (by omega)]
    simp [bigF]
  | d + 1, n, acc, h, hl => by
    show rlp_big_int.l0 ((d + 7) + 1) (n : Int) acc = _
    rw [rlp_big_int.l0, bigF]
    by_cases h0 : n = 0
    · subst h0
      rw [if_neg (by omega), if_pos rfl]
      have : slices_Reverse_byte_byte.f (d + 7) acc = some acc.reverse := at_rounds (slices_Reverse_byte_byte.mono acc) (show 6 ≤ d + 7 by omega) (reverse_f acc (by omega))
      rw [this]; simp
    · rw [if_pos (by omega), if_pos (by omega), if_neg h0]
      have e1 : ((n : Int) / 256) = ((n / 256 : Nat) : Int) := by omega
      have e2 : ((n : Int) % 256) = ((n % 256 : Nat) : Int) := by omega
      rw [e1, e2, bigI_l0 d (n / 256) _ (by rw [Nat.pow_succ] at h; omega) (by simp; omega)]
      simp
theorem bigI_f (n : Nat) (h : n ≤ 18446744073709551615) : rlp_big_int.f 15 n = some (bigP n) := by
  have := bigI_l0 8 n [] (by rw [pow256_8]; omega) (by simp)
  simpa [rlp_big_int.f, bigP] using this
theorem ahead_f (from_ : Int) (n : Nat) (h0 : 0 ≤ from_) (h1 : from_ ≤ 192) (hn : n ≤ 140737488355327) : rlp_ahead.f 15 from_ n = some (aheadP from_ n) := by
  unfold rlp_ahead.f aheadP
  by_cases h : n ≤ 55
  · rw [if_pos (by omega), if_pos h]
    congr 2
    omega
  · rw [if_neg (by omega), if_neg h, bigI_f n (by omega)]
    have := bigP_len n
    simp only [Option.bind_some, List.length_singleton]
    rw [if_pos (by omega)]
    have e : ((from_ + 55) % 256 + ((bigP n).length : Int) % 256) % 256 = from_ + 55 + (bigP n).length := by omega
    rw [e]
    rfl

/-! ### the reference's -/
theorem shr_pow (n i : Nat) (hi : i ≤ 7) : shr .u64 (n : Int) ((8 * i : Nat) : Int) = ((n / 256 ^ i : Nat) : Int) := by
  unfold shr
  rw [Int.toNat_natCast, Nat.min_eq_left (by show 8 * i ≤ 64; omega)]
  have h : (2 : Nat) ^ (8 * i) = 256 ^ i := Nat.pow_mul 2 8 i
  rw [show (2 : Int) ^ (8 * i) = (((2 : Nat) ^ (8 * i) : Nat) : Int) by simp, h]
  rfl
theorem bigF_step (d m c : Nat) (hc : c < 256) (hm : m < 256 ^ d) : bigF (d + 1) (m * 256 + c) = if bigF d m = [] then (if c = 0 then [] else [(c : Int)]) else bigF d m ++ [(c : Int)] := by
  rw [bigF]
  have e1 : (m * 256 + c) / 256 = m := by omega
  have e2 : (m * 256 + c) % 256 = c := by omega
  rw [e1, e2]
  by_cases h0 : m = 0
  · subst h0
    rw [bigF_zero, if_pos rfl]
    by_cases hc0 : c = 0
    · simp [hc0]
    · rw [if_neg (by omega), if_neg hc0]; rfl
  · rw [if_neg (by omega), if_neg]
    intro hb
    have := bigF_num d m hm
    rw [hb] at this
    exact h0 this.symm
theorem high_l0 (n : Nat) (hn : n < 256 ^ 8) : ∀ (i : Nat), i ≤ 8 → proctorref02_high.l0 (i + 1) n (bigF (8 - i) (n / 256 ^ i)) ((i : Int) - 1) = some (bigP n)
  | 0, _ => by
    rw [proctorref02_high.l0, if_neg (by omega)]
    simp [bigP]
  | i + 1, hi => by
    rw [proctorref02_high.l0, if_pos (by omega)]
    have e0 : IntKind.u64.wrap (wrap64 (8 * (((i + 1 : Nat) : Int) - 1))) = ((8 * i : Nat) : Int) := by
      rw [wrap64_in _ (by omega), IntWalk.u64_in _ (by omega)]; omega
    rw [e0, if_pos (by omega), shr_pow n i (by omega)]
    have e3 : (((n / 256 ^ i : Nat) : Int) % 256) = ((n / 256 ^ i % 256 : Nat) : Int) := by omega
    have e4 : wrap64 (((i + 1 : Nat) : Int) - 1 - 1) = (i : Int) - 1 := by rw [wrap64_in _ (by omega)]; omega
    have e5 : n / 256 ^ (i + 1) = n / 256 ^ i / 256 := by rw [Nat.pow_succ, Nat.div_div_eq_div_mul]
    have hlt : n / 256 ^ (i + 1) < 256 ^ (8 - (i + 1)) := by
      rw [Nat.div_lt_iff_lt_mul (Nat.pow_pos (by omega)), ← Nat.pow_add]
      rwa [show 8 - (i + 1) + (i + 1) = 8 by omega]
    have hs := bigF_step (8 - (i + 1)) (n / 256 ^ (i + 1)) (n / 256 ^ i % 256) (by omega) hlt
    rw [show n / 256 ^ (i + 1) * 256 + n / 256 ^ i % 256 = n / 256 ^ i by omega, show 8 - (i + 1) + 1 = 8 - i by omega] at hs
    have ih := high_l0 n hn i (by omega)
    have hlen := bigF_len (8 - (i + 1)) (n / 256 ^ (i + 1))
    rw [e3, e4]
    by_cases hc : n / 256 ^ i % 256 = 0
    · rw [if_pos (by omega)]
      by_cases hb : bigF (8 - (i + 1)) (n / 256 ^ (i + 1)) = []
      · rw [hb] at hs ⊢
        rw [if_neg (by simp)]
        rw [if_pos rfl, if_pos hc] at hs
        rw [hs] at ih
        exact ih
      · have : 0 < (bigF (8 - (i + 1)) (n / 256 ^ (i + 1))).length := List.length_pos_iff.2 hb
        rw [if_neg hb] at hs
        rw [if_pos (by omega), if_pos (by omega), ← hs]
        exact ih
    · rw [if_neg (by omega), if_pos (by omega)]
      by_cases hb : bigF (8 - (i + 1)) (n / 256 ^ (i + 1)) = []
      · rw [if_pos hb, if_neg hc] at hs
        rw [hb, List.nil_append, ← hs]
        exact ih
      · rw [if_neg hb] at hs
        rw [← hs]
        exact ih
theorem high_f (n : Nat) (h : n ≤ 18446744073709551615) : proctorref02_high.f 9 n = some (bigP n) := by
  have hn : n < 256 ^ 8 := by rw [pow256_8]; omega
  have := high_l0 n hn 8 (Nat.le_refl _)
  rw [Nat.sub_self, show ((8 : Nat) : Int) - 1 = 7 from rfl] at this
  simpa [proctorref02_high.f, bigF] using this
theorem head_f (from_ : Int) (n : Nat) (h0 : 0 ≤ from_) (h1 : from_ ≤ 192) (hn : n ≤ 140737488355327) : proctorref02_head.f 9 from_ n = some (aheadP from_ n) := by
  unfold proctorref02_head.f aheadP
  by_cases h : n ≤ 55
  · rw [if_pos (by omega), if_pos h]
    congr 2
    omega
  · rw [if_neg (by omega), if_neg h, IntWalk.u64_in _ (by omega), high_f n (by omega)]
    have := bigP_len n
    simp only [Option.bind_some, List.length_singleton]
    rw [if_pos (by omega)]
    have e : ((from_ + 55) % 256 + ((bigP n).length : Int) % 256) % 256 = from_ + 55 + (bigP n).length := by omega
    rw [e]
    rfl
end Go.Proofs.Ytdjoekckhmggbaa.H
