import Derived.Test.YtdjoekckhmggbaaH12
import Derived.Test.YtdjoekckhmggbaaS8
namespace Go.Proofs.Ytdjoekckhmggbaa.H
open Go.RowKit Go.Proofs.YtdjoekckhmggbaaW.PrintWords Go.Proofs.YtdjoekckhmggbaaW.PrintLast Go.Proofs.YtdjoekckhmggbaaW.PrintMore Go.Proofs.Ytdjoekckhmggbaa.PRF
attribute [local go_sem] max2_int min2_int max_two min_two max_three min_three max_four min_four
set_option linter.unusedVariables false
set_option linter.unusedSimpArgs false

/-- a new block, by name -/
theorem alloc_named (w0 w : World) (cs : Array Value) (t : TypeId) (HB : Aside0 (Below w0.heap.size w0 w)) :
    ∃ w' g, Aside0 (w'.heap[g]? = some (.cells cs t (0, 0))) ∧ Aside0 (Below w0.heap.size w0 w') ∧ Aside0 (Below w.heap.size w w') ∧ w' = w.alloc (.cells cs t (0, 0)) ∧ g = w.heap.size :=
  ⟨_, _, ⟨blk_new w _ _ rfl⟩, ⟨below_alloc HB.out _⟩, ⟨below_alloc (Below.refl _ _) _⟩, rfl, rfl⟩
theorem decode_err {l : List Int} {e : Int} (h : decodeP l = .error e) : e ≠ 0 := by
  unfold decodeP at h
  split at h
  · cases h; decide
  · rcases bind_err h with h | ⟨q, _, h⟩
    · exact itemP_err h
    · split at h
      · cases h
      · cases h; decide

set_option maxHeartbeats 2000000 in
set_option maxRecDepth 100000 in
theorem decodes_law (A : Option Addr) (c : Nat) (l : List Int) (w : World) (hC : Kd.C (Kd.int .u8) w A l.length l) (hc : l.length ≤ c) (hB : Byt l) :
    Calls Try.prog 6 #[.slice A l.length c] w fun e w' => e = .returned (.bool true) ∧ Below w.heap.size w w' := by
  have HB := Aside0.mk (Below.refl w.heap.size w)
  have HC := Aside0.mk hC
  have Hc := Aside0.mk hc
  have HBy := Aside0.mk hB
  have HR := Aside0.mk (rdecode_any A c l)
  have hB0 := hB
  clear hC hB hc
  cases hdec : decodeP l with
  | error k =>
    have hk := decode_err hdec
    have hk1 : (k == 0) = false := by simpa using hk
    have hk2 : (k != 0) = true := by simpa using hk
    go_enter Try.func6, Try.ntmps6
    go_wp2_with fail
    refine (decode_any A c l w HC.out Hc.out HBy.out).mono ?_
    rw [hdec]
    rintro e w1 ⟨hb1, rfl⟩
    have HB1 := Aside0.mk hb1
    clear hb1
    go_wp2_with fail
    obtain ⟨w2, g3, HG3, HB3, HE3, hw2, hg3⟩ := alloc_named w w1 #[.bool false, .slice none 0 0, .slice none 0 0] 47 HB1
    rw [← hw2, ← hg3]
    refine (HR.out _ (Kd.C_below HC.out HB3.out) Hc.out HBy.out).mono ?_
    rw [hdec]
    rintro e w4 ⟨hb4, rfl⟩
    have HB4 := Aside0.mk (below_step HB3.out hb4)
    have HG4 := Aside0.mk (blk_below HG3.out hb4)
    have hcf4 := fun (o : Obj) => cf3 ⟨blk_alloc HG4.out o⟩
    clear hb4 hw2 hg3
    go_wp2_with fail
    have HG5 := Aside0.mk (blk_alloc HG4.out (.cells #[.bool false, .slice none 0 0, .slice none 0 0] 47))
    have HB5 := Aside0.mk (below_alloc HB4.out (.cells #[.bool false, .slice none 0 0, .slice none 0 0] 47))
    refine (proctorlaw02_zero.calls false none 0 [] none 0 [] true _ (Kd.C_nil _ _) (by simp) (Kd.C_nil _ _) (by simp) (by simp [proctorlaw02_zero.f])).mono ?_
    rintro e w6 ⟨rfl, hd6⟩
    have HB6 := Aside0.mk (below_step HB5.out hd6)
    clear hd6
    go_wp2_with fail
    refine (anchored2 _).mono ?_
    rintro e w7 ⟨rfl, hb7⟩
    have HB7 := Aside0.mk (below_step HB6.out hb7)
    clear hb7
    go_wp2
    go_ret
    exact ⟨rfl, HB7.out⟩
  | ok x =>
    obtain ⟨hform, hv⟩ := decode_form l x hB0 hdec
    obtain ⟨K, hK⟩ := rsame_self x hv
    have hs := hK K (Nat.le_refl _)
    simp only at hs
    have HS := Aside0.mk hs
    clear hK hs hv hform
    go_enter Try.func6, Try.ntmps6
    go_wp2_with fail
    refine (decode_any A c l w HC.out Hc.out HBy.out).mono ?_
    rw [hdec]
    rintro e w1 ⟨hb1, v1, v2, rfl, hR1, hR2⟩
    obtain ⟨A1, c1, rfl⟩ := Kd.R_slice hR1
    obtain ⟨A2, c2, rfl⟩ := Kd.R_slice hR2
    have HB1 := Aside0.mk hb1
    have HR1 := Aside0.mk (Kd.R_reads' hR1)
    have HR2 := Aside0.mk (Kd.R_reads' hR2)
    clear hb1 hR1 hR2
    obtain ⟨x0, x1, x2⟩ := x
    simp only at *
    obtain ⟨n1, hn1⟩ : ∃ n, n = x1.length := ⟨_, rfl⟩
    obtain ⟨n2, hn2⟩ : ∃ n, n = x2.length := ⟨_, rfl⟩
    have HN1 := Aside0.mk hn1
    have HN2 := Aside0.mk hn2
    rw [← hn1, ← hn2]
    clear hn1 hn2
    go_wp2_with fail
    obtain ⟨w2, g3, HG3, HB3, HE3, hw2, hg3⟩ := alloc_named w w1 #[.bool x0, .slice A1 n1 c1, .slice A2 n2 c2] 47 HB1
    rw [← hw2, ← hg3]
    have HR3 := Aside0.mk (Kd.C_below HR1.out.2.2 HE3.out)
    have HR4 := Aside0.mk (Kd.C_below HR2.out.2.2 HE3.out)
    refine (HR.out _ (Kd.C_below HC.out HB3.out) Hc.out HBy.out).mono ?_
    rw [hdec]
    rintro e w4 ⟨hb4, v3, v4, rfl, hR5, hR6⟩
    obtain ⟨A3, c3, rfl⟩ := Kd.R_slice hR5
    obtain ⟨A4, c4, rfl⟩ := Kd.R_slice hR6
    simp only
    rw [← HN1.out, ← HN2.out]
    have HB4 := Aside0.mk (below_step HB3.out hb4)
    have HG4 := Aside0.mk (blk_below HG3.out hb4)
    have hcf4 := fun (o : Obj) => cf3 ⟨blk_alloc HG4.out o⟩
    have HR5 := Aside0.mk (Kd.R_reads' hR5)
    have HR6 := Aside0.mk (Kd.R_reads' hR6)
    have HR3b := Aside0.mk (Kd.C_below HR3.out hb4)
    have HR4b := Aside0.mk (Kd.C_below HR4.out hb4)
    clear hb4 hw2 hg3 hR5 hR6
    go_wp2_with fail
    have HB5 := Aside0.mk (below_alloc HB4.out (.cells #[.bool x0, .slice A3 n1 c3, .slice A4 n2 c4] 47))
    rw [HN1.out, HN2.out]
    refine (proctorref02_Same.calls K x0 A1 c1 x1 A2 c2 x2 x0 A3 c3 x1 A4 c4 x2 true _ (Kd.C_alloc HR3b.out _) (by have := HR1.out.2.1; simpa using this) (Kd.C_alloc HR4b.out _) (by have := HR2.out.2.1; simpa using this) (Kd.C_alloc HR5.out.2.2 _) (by have := HR5.out.2.1; simpa using this) (Kd.C_alloc HR6.out.2.2 _) (by have := HR6.out.2.1; simpa using this) HS.out).mono ?_
    rintro e w6 ⟨rfl, hd6⟩
    rw [← HN1.out, ← HN2.out] at *
    have HB6 := Aside0.mk (below_step HB5.out hd6)
    clear hd6
    go_wp2_with fail
    refine (anchored2 _).mono ?_
    rintro e w7 ⟨rfl, hb7⟩
    have HB7 := Aside0.mk (below_step HB6.out hb7)
    clear hb7
    go_wp2
    go_ret
    exact ⟨rfl, HB7.out⟩
end Go.Proofs.Ytdjoekckhmggbaa.H
