import Derived.Test.YtdjoekckhmggbaaS0
import Derived.Test.YtdjoekckhmggbaaRf3
import Derived.Laws.Bits64b
import Derived.IntWalk
namespace Go.Proofs.Ytdjoekckhmggbaa.H
open Go.RowKit Go.Proofs.YtdjoekckhmggbaaW.PrintWords Go.Proofs.Ytdjoekckhmggbaa.PRF
set_option linter.unusedVariables false

theorem rd_nat (l : List Int) (i : Nat) (h : i < l.length) : rd l (i : Int) = l[i] := by
  simp [rd, List.getD_eq_getElem?_getD, List.getElem?_eq_getElem h]
theorem take_snoc (l : List Int) (i : Nat) (h : i < l.length) : l.take (i + 1) = l.take i ++ [l[i]] := by
  rw [List.take_succ_eq_append_getElem h]
theorem wrap64_in (n : Int) (h : -9223372036854775808 ≤ n ∧ n ≤ 9223372036854775807) : wrap64 n = n := by unfold wrap64; omega
theorem pow256_8 : (256 : Nat) ^ 8 = 18446744073709551616 := by decide
theorem pow256_7 : (256 : Nat) ^ 7 = 72057594037927936 := by decide
theorem pow256_le {a b : Nat} (h : a ≤ b) : 256 ^ a ≤ 256 ^ b := Nat.pow_le_pow_right (by omega) h
theorem num_small (l : List Int) (h : Byt l) (hl : l.length ≤ 8) : num l ≤ 18446744073709551615 := by
  have h1 := num_lt l h
  have h2 := pow256_le hl
  rw [pow256_8] at h2
  omega
theorem num_step (n c : Nat) (hn : n < 72057594037927936) (hc : c < 256) : Go.bits .or .u64 (IntKind.u64.wrap ((n : Int) * 256)) (IntKind.u64.wrap (c : Int)) = ((n * 256 + c : Nat) : Int) := by
  rw [IntWalk.u64_in _ (by omega), IntWalk.u64_in _ (by omega)]
  rw [show ((n : Int) * 256) = ((n * 256 : Nat) : Int) by omega, bits_or_u64_nat _ _ (by omega) (by omega)]
  congr 1
  have h2 := Nat.two_pow_add_eq_or_of_lt (i := 8) (b := c) (by omega) n
  rw [show (2 : Nat) ^ 8 = 256 from rfl, Nat.mul_comm] at h2
  exact h2.symm
theorem number_l0 (l : List Int) (hb : Byt l) (hl : l.length ≤ 8) : ∀ (d i : Nat), i + d = l.length → rlp_number.l0 (d + 1) (num (l.take i) : Nat) l (l.length : Int) (i : Int) = some (num l : Int)
  | 0, i, h => by
    simp only [rlp_number.l0]
    rw [if_neg (by omega), List.take_of_length_le (by omega)]
  | d + 1, i, h => by
    rw [rlp_number.l0]
    rw [if_pos (by omega), if_pos (by omega), if_pos (by omega), rd_nat l i (by omega), wrap64_in _ (by omega)]
    have h1 := hb l[i] (List.getElem_mem (by omega))
    obtain ⟨c, hc⟩ := Int.eq_ofNat_of_zero_le h1.1
    have h2 := num_lt (l.take i) (hb.take i)
    have h3 : (l.take i).length ≤ 7 := by rw [List.length_take]; omega
    have h4 := pow256_le h3
    rw [pow256_7] at h4
    have h5 : num (l.take (i + 1)) = num (l.take i) * 256 + c := by
      rw [take_snoc l i (by omega), num_snoc, hc]; rfl
    rw [hc, num_step _ c (by omega) (by omega), ← h5]
    exact number_l0 l hb hl d (i + 1) (by omega)
theorem number_f (l : List Int) (hb : Byt l) (hl : l.length ≤ 8) : ∃ k, rlp_number.f k l = some (num l : Int) :=
  ⟨l.length + 1, by have := number_l0 l hb hl l.length 0 (by omega); simpa [rlp_number.f, num] using this⟩
end Go.Proofs.Ytdjoekckhmggbaa.H
