import Derived.Test.YtdjoekckhmggbaaH0
namespace Go.Proofs.Ytdjoekckhmggbaa.H
open Go.RowKit Go.Proofs.YtdjoekckhmggbaaW.PrintWords Go.Proofs.YtdjoekckhmggbaaW.PrintLast Go.Proofs.YtdjoekckhmggbaaW.PrintMore Go.Proofs.Ytdjoekckhmggbaa.PRF
attribute [local go_sem] max2_int min2_int max_two min_two max_three min_three max_four min_four
set_option linter.unusedVariables false
set_option linter.unusedSimpArgs false

/-- how a form is given up: the value of the panic -/
def wrongP (k : Int) : List PanicEntry := [{ v := .iface 83 (.agg #[.int .i64 k]), recovered := false }]

theorem need_ok (k : Int) (w : World) : Calls Try.prog 51 #[.bool true, .int .i64 k] w fun e w' => e = .returned (.tuple #[]) ∧ w = w' := by
  go_enter Try.func51, Try.ntmps51
  go_wp2
  go_end0
  exact ⟨rfl, rfl⟩

theorem need_no (k : Int) (w : World) : Calls Try.prog 51 #[.bool false, .int .i64 k] w fun e w' => e = .panicked (wrongP k) ∧ w = w' := by
  go_enter Try.func51, Try.ntmps51
  go_wp2
  exact ⟨rfl, rfl, rfl⟩

set_option maxRecDepth 100000 in
theorem cut_no (A : Option Addr) (c m n : Nat) (w : World) (hm : m ≤ 9223372036854775807) (hn : m < n) (hn2 : n ≤ 18446744073709551615) :
    Calls Try.prog 71 #[.slice A m c, .int .u64 (n : Int)] w fun e w' => e = .panicked (wrongP 7) ∧ w = w' := by
  have hd : decide (n ≤ m) = false := decide_eq_false (by omega)
  go_enter Try.func71, Try.ntmps71
  go_wp2_with (go_at_call 51; refine (need_no 7 _).mono ?_; rintro e w' ⟨rfl, rfl⟩)
  exact ⟨rfl, rfl, rfl⟩

def CutPost (A : Option Addr) (l : List Int) (n : Nat) (w : World) (e : Ending) (w' : World) : Prop :=
  ∃ A1 A2, e = .returned (.tuple #[.slice A1 n n, .slice A2 (l.length - n) (l.length - n)]) ∧ Drawn0 w w' ∧ ∀ W, Kd.C (Kd.int .u8) W A l.length l → Kd.C (Kd.int .u8) W A1 n (l.take n) ∧ Kd.C (Kd.int .u8) W A2 (l.length - n) (l.drop n)
set_option maxRecDepth 100000 in
theorem cut_ok (A : Option Addr) (c n : Nat) (l : List Int) (w : World) (hm : l.length ≤ 9223372036854775807) (hc : l.length ≤ c) (hn : n ≤ l.length) :
    Calls Try.prog 71 #[.slice A l.length c, .int .u64 (n : Int)] w (CutPost A l n w) := by
  go_enter Try.func71, Try.ntmps71
  go_wp2_with (go_at_call 51; refine (need_ok 7 _).mono ?_; rintro e w' ⟨rfl, rfl⟩)
  go_quiet (fail)
  go_wp2
  · have h : l.length = n := by assumption
    go_ret2
    refine ⟨A, A, by simp [h], ⟨⟨_, rfl⟩⟩, fun W HR => ⟨?_, ?_⟩⟩
    · have := HR; rw [← h, List.take_length]; exact this
    · rw [← h, List.drop_length, Nat.sub_self]; exact ⟨rfl, by omega, fun h => absurd h (by omega)⟩
  · have h : ¬ l.length = n := by assumption
    go_ret2
    refine ⟨A, A.map (·.add n), rfl, ⟨⟨_, rfl⟩⟩, fun W HR => ⟨?_, ?_⟩⟩
    · have h1 := Kd.C_take HR hn; rw [List.length_take, Nat.min_eq_left hn] at h1; exact h1
    · have h1 := Kd.C_drop HR hn (Nat.le_refl _); rw [if_neg h, List.length_drop, show (Kd.int IntKind.u8).sz = 1 from rfl, Nat.mul_one] at h1; exact h1
end Go.Proofs.Ytdjoekckhmggbaa.H
