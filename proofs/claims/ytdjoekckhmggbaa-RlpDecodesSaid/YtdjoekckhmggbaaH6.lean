import Derived.Test.YtdjoekckhmggbaaH5
import Derived.Recover
import Derived.Defers
import Derived.Laws.Pointers
namespace Go.Proofs.Ytdjoekckhmggbaa.H
open Go.RowKit Go.Proofs.YtdjoekckhmggbaaW.PrintWords Go.Proofs.YtdjoekckhmggbaaW.PrintLast Go.Proofs.YtdjoekckhmggbaaW.PrintMore Go.Proofs.Ytdjoekckhmggbaa.PRF
attribute [local go_sem] max2_int min2_int max_two min_two max_three min_three max_four min_four
set_option linter.unusedVariables false
set_option linter.unusedSimpArgs false

theorem eqlNil (W : World) : (binOp .eql 20 .nilIface .nilIface).run Try.prog W = .ok (.bool true) W := run_eql_nil_nil (P := Try.prog) W 20 (by kernel_rfl)
theorem eqlHeld (u : TypeId) (x : Value) (W : World) : (binOp .eql 20 (.iface u x) .nilIface).run Try.prog W = .ok (.bool false) W := run_eql_held_nil (P := Try.prog) W 20 u x (by kernel_rfl)

set_option maxHeartbeats 1000000 in
set_option maxRecDepth 100000 in
theorem catch_idle (g2 g3 : Nat) (w : World) :
    CallsD Try.prog 49 #[.pointer (some ⟨g2, 0, none⟩), .pointer (some ⟨g3, 0, none⟩)] .returning w fun e u' w' => e = .returned (.tuple #[]) ∧ u' = .returning ∧ w = w' := by
  refine callsD_of_wpS Try.func49 rfl fun c₀ cs hu => ?_
  apply wpS_seq
  apply wpS_region
  simp [wpOpsS, go_sem, recoverD, hu, Try.ntmps49, Exit.thenS]
  apply wpS_seq
  apply wpS_seq
  apply wpS_region
  simp [wpOpsS, go_sem, Exit.thenS, eqlNil]
  refine wpS_cond (t := true) (by simp [Act.eval]) ?_
  simp only [if_true]
  refine wpS_of_wp (wp_ret ?_)
  cases c₀
  simp_all [bodyPostS, Exit.thenS, results, Try.results49]

/-- the named results, as the deferred literal leaves them -/
def CatchPost (w0 : World) (g2 g3 : Nat) (k : Int) (w' : World) : Prop :=
  w'.heap[g2]? = some (.cells #[.bool false, .slice none 0 0, .slice none 0 0] 47 (0, 0)) ∧ w'.heap[g3]? = some (.cells #[.int .i64 k] 29 (0, 0)) ∧ Below w0.heap.size w0 w'
set_option maxHeartbeats 1000000 in
set_option maxRecDepth 100000 in
theorem catch_wrong (w0 : World) (g2 g3 : Nat) (k z : Int) (a b c : Value) (w : World) (h2 : w.heap[g2]? = some (.cells #[a, b, c] 47 (0, 0))) (h3 : w.heap[g3]? = some (.cells #[.int .i64 z] 29 (0, 0))) (hne : g2 ≠ g3) (hB : Below w0.heap.size w0 w) (hg2 : w0.heap.size ≤ g2) (hg3 : w0.heap.size ≤ g3) :
    CallsD Try.prog 49 #[.pointer (some ⟨g2, 0, none⟩), .pointer (some ⟨g3, 0, none⟩)] (.panicking (wrongP k)) w fun e u' w' => e = .returned (.tuple #[]) ∧ u' = .panicking [{ v := .iface 83 (.agg #[.int .i64 k]), recovered := true }] ∧ CatchPost w0 g2 g3 k w' := by
  refine callsD_of_wpS Try.func49 rfl fun c₀ cs hu => ?_
  unfold wrongP at hu
  have hta : ∀ W, (Instr.typeAssert (.iface 83 (.agg #[.int .i64 k])) 20 83 true).run Try.prog W = .ok (.tuple #[.agg #[.int .i64 k], .bool true]) W := fun W => by simp [Instr.typeAssert, run_underlying Try.underlying83]
  simp only [Try.ntmps49, List.size_toArray, List.length_cons, List.length_nil, Nat.reduceAdd, Nat.reduceSub, Array.replicate_succ, Array.replicate_zero, List.push_toArray, List.append_toArray, List.nil_append, List.cons_append]
  apply wpS_seq
  apply wpS_region
  simp [wpOpsS, go_sem, recoverD, hu, Exit.thenS]
  apply wpS_seq
  apply wpS_seq
  apply wpS_region
  simp [wpOpsS, go_sem, Exit.thenS, eqlHeld]
  refine wpS_cond (t := false) (by simp [Act.eval]) ?_
  simp only [Bool.false_eq_true, if_false]
  refine wpS_of_wp (wp_skip ?_)
  simp only [Exit.thenS]
  refine wpS_of_wp ?_
  go_wp2_with fail
  have h2' := Aside0.mk (blk_alloc h2 (.cells #[.int .i64 k] 83))
  have h3' := Aside0.mk (blk_alloc h3 (.cells #[.int .i64 k] 83))
  have h4' := Aside0.mk (blk_new w (.cells #[.int .i64 k] 83))
  have hB' := Aside0.mk (below_alloc hB (.cells #[.int .i64 k] 83))
  have hl2 := blk_lt h2
  have hl3 := blk_lt h3
  obtain ⟨B, hBe⟩ : ∃ B, B = w.heap.size := ⟨_, rfl⟩
  rw [← hBe] at h4' hl2 hl3 ⊢
  obtain ⟨W, hW⟩ : ∃ W, W = w.alloc (.cells #[.int .i64 k] 83) := ⟨_, rfl⟩
  rw [← hW] at h2' h3' h4' hB' ⊢
  have hcf2 := cf3 h2'
  have hcf3 := cf1 h3'
  have hcf4 := cf1 h4'
  have n1 : ¬ g2 = g3 := hne
  have n2 : ¬ g3 = g2 := fun h => hne h.symm
  have n3 : ¬ g2 = B := by omega
  have n4 : ¬ B = g2 := by omega
  have n5 : ¬ g3 = B := by omega
  have n6 : ¬ B = g3 := by omega
  clear hW hBe
  go_region
  refine ⟨rfl, _, rfl, .tuple #[], results_none rfl _ _ _, rfl, rfl, ?_, ?_, ?_⟩
  · have h := put3 (x := .bool false) (y := .slice none 0 0) (z := .slice none 0 0) h2'.out
    exact blk_far h n1 _
  · have h := (keep3 (w := W) (g := g2) (x := .bool false) (y := .slice none 0 0) (z := .slice none 0 0)).2 g3 (blk_lt h3'.out) n2 (by simp)
    exact blk_put (h.trans h3'.out) 0 _ rfl
  · exact below_drew (below_set (below3 hB'.out hg2) hg3)
end Go.Proofs.Ytdjoekckhmggbaa.H
