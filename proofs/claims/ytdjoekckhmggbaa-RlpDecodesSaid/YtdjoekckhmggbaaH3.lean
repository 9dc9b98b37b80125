import Derived.Test.YtdjoekckhmggbaaH2
namespace Go.Proofs.Ytdjoekckhmggbaa.H
open Go.RowKit Go.Proofs.YtdjoekckhmggbaaW.PrintWords Go.Proofs.YtdjoekckhmggbaaW.PrintLast Go.Proofs.YtdjoekckhmggbaaW.PrintMore Go.Proofs.Ytdjoekckhmggbaa.PRF
attribute [local go_sem] max2_int min2_int max_two min_two max_three min_three max_four min_four
set_option linter.unusedVariables false
set_option linter.unusedSimpArgs false

/-- 'b[1:len(b):len(b)]' -/
theorem tail_cut {A : Option Addr} {n c : Nat} {l : List Int} (hl : l.length = n) (h1 : 1 ≤ n) (hc : n ≤ c) :
    ∃ A', (∀ W : World, (Instr.slice 24 (.slice A n c) (some (.int .i64 1)) (some (.int .i64 (n : Int))) (some (.int .i64 (n : Int)))).run Try.prog W = .ok (.slice A' (n - 1) (n - 1)) W) ∧ ∀ W, Kd.C (Kd.int .u8) W A n l → Kd.C (Kd.int .u8) W A' (n - 1) (l.drop 1) := by
  subst hl
  obtain ⟨i, hi, hz⟩ := Option.map_eq_some_iff.1 info5
  simp only [Prod.mk.injEq] at hz
  have hel : Try.prog.elem 24 = 5 := by simp [Program.elem, Try.underlying24]
  have hu : Try.prog.underlying 24 = some (.slice (Try.prog.elem 24)) := by rw [hel]; exact Try.underlying24
  refine ⟨if l.length = 1 then A else A.map (·.add 1), fun W => ?_, fun W h => ?_⟩
  · rw [run_slice_lhm W 24 A l.length c hu .i64 .i64 .i64 1 l.length l.length (by omega) (by omega) (by omega) (by omega), hel]
    simp [sizeOf, typeInfo, hi, hz.2.1, sliced, Result.andThen]
  · have h2 := Kd.C_drop (c := l.length) h h1 (Nat.le_refl _)
    rw [show (Kd.int IntKind.u8).sz = 1 from rfl, Nat.mul_one, List.length_drop] at h2
    exact h2

/-- what 'item' leaves: an item in new memory, and what is left of what was read -/
def ItemPost (A0 : Option Addr) (l : List Int) (r : Except Int (S47 × List Int)) (w : World) (e : Ending) (w' : World) : Prop :=
  Below w.heap.size w w' ∧ match r with
    | .ok q => ∃ v1 v2 A, e = .returned (.tuple #[.agg #[.bool q.1.f0, v1, v2], .slice A q.2.length q.2.length]) ∧
        Kd.R (Kd.int .u8) 5 w' w.heap.size (fun _ => True) v1 q.1.f1 ∧ Kd.R k47 47 w' w.heap.size (fun _ => True) v2 q.1.f2 ∧ (∀ W, Kd.C (Kd.int .u8) W A0 l.length l → Kd.C (Kd.int .u8) W A q.2.length q.2)
    | .error k => e = .panicked (wrongP k)


set_option maxHeartbeats 1000000 in
set_option maxRecDepth 100000 in
theorem item_empty (A : Option Addr) (c : Nat) (lv : Nat) (w : World) :
    Calls Try.prog 50 #[.slice A 0 c, .int .i64 (lv : Int)] w fun e w' => e = .panicked (wrongP 7) ∧ Below w.heap.size w w' := by
  have HB := Aside0.mk (Below.refl w.heap.size w)
  go_enter Try.func50, Try.ntmps50
  go_wp2_with (first | ((with_reducible refine gate_dst (N := 4) rfl ?_); refine alloc_ev rfl (N := 4) rfl (cs := #[.bool false, .slice none 0 0, .slice none 0 0]) (t := 47) HB ?hr ?_; (case hr => first | (go_simp; done) | (go_simp; rfl)); intro g4 w1 HG HGe HE HB1))
  refine (need_no 7 _).mono ?_
  rintro e w' ⟨rfl, rfl⟩
  exact ⟨rfl, rfl, HB1.out⟩

set_option maxHeartbeats 1000000 in
set_option maxRecDepth 100000 in
/-- a byte below 128 is itself -/
theorem item_byte (A : Option Addr) (c n lv : Nat) (c0 : Int) (rest : List Int) (w : World) (hr : Kd.C (Kd.int .u8) w A n (c0 :: rest)) (hc : n ≤ c) (hlt : c0 < 128) :
    Calls Try.prog 50 #[.slice A n c, .int .i64 (lv : Int)] w (ItemPost A (c0 :: rest) (.ok (⟨false, [c0], []⟩, rest)) w) := by
  have HB := Aside0.mk (Below.refl w.heap.size w)
  have HR := Aside0.mk hr
  have hn : 0 < n := by have := hr.1; simp at this; omega
  have hm : n ≤ 9223372036854775807 := hr.2.1
  obtain ⟨ad, rfl, hcell⟩ := Kd.at_int hr 0 (by omega) (by omega)
  obtain ⟨A', hcut, hC'⟩ := tail_cut (A := some ad) hr.1 (by omega) hc
  have HC' := Aside0.mk hC'
  clear hr hC'
  simp only [Int.toNat_zero, Addr.add_zero', rd, List.getD_cons_zero] at hcell
  have hcw : ∀ w1, Below w.heap.size w w1 → w1.cell? ad = some (.int .u8 c0) := fun w1 hb => pw_cell_below hb hcell
  have HCW := Aside0.mk hcw
  clear hcw
  have hd : decide (c0 < 128) = true := decide_eq_true hlt
  go_enter Try.func50, Try.ntmps50
  go_wp2_with (first | ((with_reducible refine gate_dst (N := 4) rfl ?_); refine alloc_ev rfl (N := 4) rfl (cs := #[.bool false, .slice none 0 0, .slice none 0 0]) (t := 47) HB ?hr ?_; (case hr => first | (go_simp; done) | (go_simp; rfl)); intro g4 w1 HG HGe HE HB1; have hcw1 := HCW.out w1 HB1.out))
  refine (need_ok 7 _).mono ?_
  rintro e w' ⟨rfl, rfl⟩
  go_wp2_with (first | ((with_reducible refine gate_dst (N := 29) rfl ?_); refine lit_bytes rfl (N := 29) rfl [c0] HB1 (by simp) ?hr ?_; (case hr => first | (go_simp; done) | (go_simp; rfl)); intro A1 c1 w2 HV HE2 HB2; have HG2 := Aside0.mk (blk_below HG.out HE2.out); have hcf := cf3 HG2))
  have hg0 : w.heap.size ≤ g4 := Nat.le_of_eq HGe.out
  refine bodyPost_ret (results_ct rfl _ _ g4 47 #[.bool false, .slice A1 [c0].length c1, .slice none 0 0] (0, 0) _ rfl (put3 HG2.out) Try.underlying47 rfl (by kernel_rfl)) rfl ?_
  have hn1 : n - 1 = rest.length := by have hl := HR.out.1; simp only [List.length_cons] at hl; omega
  refine ⟨below3 HB2.out hg0, .slice A1 1 c1, .slice none 0 0, A', ?_, ?_, Kd.R_nil _ _ _ _ _, ?_⟩
  · show Ending.returned (.tuple #[.agg #[.bool false, .slice A1 1 c1, .slice none 0 0], .slice A' (n - 1) (n - 1)]) = _
    rw [hn1]
  · exact Kd.R_lower (Kd.R_mono (Kd.R_keep (Kd.R_newB HV.out HG.out) keep3 (fun k hk => hk.2)) (fun _ _ => trivial)) (below_size HB1.out)
  · intro W hW; rw [← hn1]; rw [HR.out.1] at hW; exact HC'.out W hW
end Go.Proofs.Ytdjoekckhmggbaa.H
