import Derived.Test.YtdjoekckhmggbaaH10
import Derived.Test.YtdjoekckhmggbaaS6
namespace Go.Proofs.Ytdjoekckhmggbaa.H
open Go.RowKit Go.Proofs.YtdjoekckhmggbaaW.PrintWords Go.Proofs.YtdjoekckhmggbaaW.PrintLast Go.Proofs.YtdjoekckhmggbaaW.PrintMore Go.Proofs.Ytdjoekckhmggbaa.PRF
attribute [local go_sem] max2_int min2_int max_two min_two max_three min_three max_four min_four
set_option linter.unusedVariables false
set_option linter.unusedSimpArgs false

theorem F_all {w : World} {A : Option Addr} {n : Nat} {xs : List Int} (h : Kd.C (Kd.int .u8) w A n xs) : Kd.F (Kd.int .u8) w (fun _ => True) A n xs := by
  intro W' hW
  have hsz : w.heap.size ≤ W'.heap.size := by
    by_cases hlt : W'.heap.size < w.heap.size
    · have := heap_lt (hW _ trivial hlt) hlt
      omega
    · omega
  exact Kd.C_keep 0 h ⟨hsz, fun i hi _ _ => hW i trivial hi⟩ (Kd.far_C 0 h (Nat.le_refl _))

set_option maxHeartbeats 2000000 in
set_option maxRecDepth 100000 in
theorem rdecode_any (A : Option Addr) (c : Nat) (l : List Int) (w : World) (hC : Kd.C (Kd.int .u8) w A l.length l) (hc : l.length ≤ c) (hB : Byt l) :
    Calls Try.prog 24 #[.slice A l.length c] w (DecodePost (decodeP l) w) := by
  have HB := Aside0.mk (Below.refl w.heap.size w)
  have HC := Aside0.mk hC
  have HBy := Aside0.mk hB
  have hm := hC.2.1
  clear hC hB
  obtain ⟨res, hres⟩ : ∃ res, res = decodeP l := ⟨_, rfl⟩
  rw [← hres]
  have HRES := Aside0.mk hres
  clear hres
  by_cases hbig : 65536 < l.length
  · have hd : decide ((65536 : Int) < (l.length : Int)) = true := decide_eq_true (by omega)
    have hd' : decide (65536 < l.length) = true := decide_eq_true (by omega)
    obtain rfl : res = .error 4 := by rw [HRES.out, decodeP, if_pos hbig]
    go_enter Try.func24, Try.ntmps24
    go_wp2_with (first
      | ((with_reducible refine gate_dst (N := 2) rfl ?_); refine alloc_ev rfl (N := 2) rfl (cs := #[.bool false, .slice none 0 0, .slice none 0 0]) (t := 47) HB ?hr ?_; (case hr => first | (go_simp; done) | (go_simp; rfl)); intro g2 w1 HG2 HGe2 HE1 HB1; have hcf2 := cf3 HG2))
    have hg2 : w.heap.size ≤ g2 := Nat.le_of_eq HGe2.out
    refine bodyPost_ret (results_ct rfl _ _ g2 47 #[.bool false, .slice none 0 0, .slice none 0 0] (0, 0) _ rfl (put3 HG2.out) Try.underlying47 rfl (by kernel_rfl)) rfl ?_
    exact ⟨below3 HB1.out hg2, rfl⟩
  · have hd : decide ((65536 : Int) < (l.length : Int)) = false := decide_eq_false (by omega)
    have hd' : decide (65536 < l.length) = false := decide_eq_false (by omega)
    have hl65 : l.length ≤ 65536 := by omega
    rw [decodeP, if_neg hbig] at HRES
    obtain ⟨K, hK⟩ := read_spec 16 (Nat.le_refl _) l HBy.out (by omega)
    have hk := hK K (Nat.le_refl _)
    simp only at hk
    unfold resR at hk
    go_enter Try.func24, Try.ntmps24
    go_wp2_with (first
      | ((with_reducible refine gate_dst (N := 2) rfl ?_); refine alloc_ev rfl (N := 2) rfl (cs := #[.bool false, .slice none 0 0, .slice none 0 0]) (t := 47) HB ?hr ?_; (case hr => first | (go_simp; done) | (go_simp; rfl)); intro g2 w1 HG2 HGe2 HE1 HB1; have hcf2 := cf3 HG2))
    have hg2 : w.heap.size ≤ g2 := Nat.le_of_eq HGe2.out
    cases hit : itemP 16 l with
    | error k =>
      rw [hit] at hk HRES
      obtain rfl : res = .error k := HRES.out
      have hke := itemP_err hit
      have hk1 : (k == 0) = false := by simpa using hke
      have hk2 : (k != 0) = true := by simpa using hke
      refine (proctorref02_read.calls K (fun _ => True) A c l 16 _ _ _ _ _ _ (Kd.V_mk hc (F_all (Kd.C_below HC.out HB1.out))) hk).mono ?_
      clear hK hk hit
      rintro e w3 ⟨v1, v2, rfl, hR1, hR2, hbe⟩
      obtain ⟨Ab1, cb1, rfl⟩ := Kd.R_slice hR1
      obtain ⟨Ab2, cb2, rfl⟩ := Kd.R_slice hR2
      have HB3 := Aside0.mk (below_step HB1.out hbe)
      have HG2b := Aside0.mk (blk_below HG2.out hbe)
      have hcf3 := cf3 HG2b
      clear hR1 hR2 hbe hcf2
      go_wp2_with (first
        | ((with_reducible refine gate_dst (N := 4) rfl ?_); refine alloc_ev rfl (N := 4) rfl (cs := #[.bool false, .slice none 0 0, .slice none 0 0]) (t := 47) HB3 ?hr4 ?_; (case hr4 => first | (go_simp; done) | (go_simp; rfl)); intro g4 w4 HG4 HGe4 HE4 HB4; have HG2c := Aside0.mk (blk_below HG2b.out HE4.out); have hcf4 := cf3 HG4; have hcf5 := cf3 HG2c; have n1 : ¬ g2 = g4 := (by have := blk_lt HG2b.out; have := HGe4.out; omega); have n2 : ¬ g4 = g2 := fun h => n1 h.symm))
      have hg4 : w.heap.size ≤ g4 := by have := HGe4.out; have := HB3.out.size; omega
      have q1 := ((keep3 (w := w4) (g := g4) (x := .bool false) (y := .slice Ab1 0 cb1) (z := .slice Ab2 0 cb2)).2 g2 (blk_lt HG2c.out) n1 (by simp)).trans HG2c.out
      refine bodyPost_ret (results_ct rfl _ _ g2 47 #[.bool false, .slice none 0 0, .slice none 0 0] (0, 0) _ rfl (put3 q1) Try.underlying47 rfl (by kernel_rfl)) rfl ?_
      exact ⟨below3 (below3 HB4.out hg4) hg2, rfl⟩
    | ok q =>
      rw [hit] at hk HRES
      obtain ⟨x, r⟩ := q
      refine (proctorref02_read.calls K (fun _ => True) A c l 16 _ _ _ _ _ _ (Kd.V_mk hc (F_all (Kd.C_below HC.out HB1.out))) hk).mono ?_
      have hrl := itemP_len hit
      clear hK hk hit
      rintro e w3 ⟨v1, v2, rfl, hR1, hR2, hbe⟩
      obtain ⟨Ab1, cb1, rfl⟩ := Kd.R_slice hR1
      obtain ⟨Ab2, cb2, rfl⟩ := Kd.R_slice hR2
      have HB3 := Aside0.mk (below_step HB1.out hbe)
      have HG2b := Aside0.mk (blk_below HG2.out hbe)
      have HR1 := Aside0.mk hR1
      have HR2 := Aside0.mk hR2
      have hcf3 := cf3 HG2b
      clear hR1 hR2 hbe hcf2
      by_cases hr0 : r = []
      · subst hr0
        obtain rfl : res = .ok x := HRES.out
        obtain ⟨x0, x1, x2⟩ := x
        simp only at *
        have hd3 : decide (((l.length : Int) - (([] : List Int).length : Int)) < (l.length : Int)) = false := decide_eq_false (by simp)
        simp only [List.length_nil, Int.sub_zero, Int.natCast_zero, Int.ofNat_zero] at hd3 ⊢
        go_wp2_with (first
          | ((with_reducible refine gate_dst (N := 4) rfl ?_); refine alloc_ev rfl (N := 4) rfl (cs := #[.bool false, .slice none 0 0, .slice none 0 0]) (t := 47) HB3 ?hr4 ?_; (case hr4 => first | (go_simp; done) | (go_simp; rfl)); intro g4 w4 HG4 HGe4 HE4 HB4; have HG2c := Aside0.mk (blk_below HG2b.out HE4.out); have hcf4 := cf3 HG4; have hcf5 := cf3 HG2c; have n1 : ¬ g2 = g4 := (by have := blk_lt HG2b.out; have := HGe4.out; omega); have n2 : ¬ g4 = g2 := fun h => n1 h.symm))
        have hg4 : w.heap.size ≤ g4 := by have := HGe4.out; have := HB3.out.size; omega
        have q1 := ((keep3 (w := w4) (g := g4) (x := .bool x0) (y := .slice Ab1 x1.length cb1) (z := .slice Ab2 x2.length cb2)).2 g2 (blk_lt HG2c.out) n1 (by simp)).trans HG2c.out
        refine bodyPost_ret (results_ct rfl _ _ g2 47 #[.bool x0, .slice Ab1 x1.length cb1, .slice Ab2 x2.length cb2] (0, 0) _ rfl (put3 q1) Try.underlying47 rfl (by kernel_rfl)) rfl ?_
        have hfar : ∀ k, w1.heap.size ≤ k ∧ k < w3.heap.size → k ≠ g2 ∧ k ≠ g4 := fun k hk => ⟨by have := blk_lt HG2.out; omega, by have := HGe4.out; omega⟩
        refine ⟨below3 (below3 HB4.out hg4) hg2, _, _, rfl, ?_, ?_⟩
        · refine Kd.R_lower (Kd.R_mono (Kd.R_step (Kd.R_below (Kd.R_mono (Kd.R_bound HR1.out) (ok' := fun k => w1.heap.size ≤ k ∧ k < w3.heap.size) (fun k hk => ⟨hk.2.1, hk.2.2.1⟩)) HE4.out) (fun k hk _ => ?_)) (fun _ _ => trivial)) HB1.out.size
          iterate 6 rw [Below.heap_setCell _ _ _ _ (by first | exact (hfar k hk).1 | exact (hfar k hk).2)]
        · refine Kd.R_lower (Kd.R_mono (Kd.R_step (Kd.R_below (Kd.R_mono (Kd.R_bound HR2.out) (ok' := fun k => w1.heap.size ≤ k ∧ k < w3.heap.size) (fun k hk => ⟨hk.2.1, hk.2.2.1⟩)) HE4.out) (fun k hk _ => ?_)) (fun _ _ => trivial)) HB1.out.size
          iterate 6 rw [Below.heap_setCell _ _ _ _ (by first | exact (hfar k hk).1 | exact (hfar k hk).2)]
      · obtain rfl : res = .error 8 := by rw [HRES.out]; simp [Except.bind, hr0]
        obtain ⟨x0, x1, x2⟩ := x
        simp only at *
        obtain ⟨d, hd0⟩ : ∃ d, d = (l.length : Int) - (r.length : Int) := ⟨_, rfl⟩
        have hd3 : decide (d < (l.length : Int)) = true := decide_eq_true (by have : 0 < r.length := List.length_pos_iff.mpr hr0; omega)
        rw [← hd0]
        clear hd0
        go_wp2_with (first
          | ((with_reducible refine gate_dst (N := 4) rfl ?_); refine alloc_ev rfl (N := 4) rfl (cs := #[.bool false, .slice none 0 0, .slice none 0 0]) (t := 47) HB3 ?hr4 ?_; (case hr4 => first | (go_simp; done) | (go_simp; rfl)); intro g4 w4 HG4 HGe4 HE4 HB4; have HG2c := Aside0.mk (blk_below HG2b.out HE4.out); have hcf4 := cf3 HG4; have hcf5 := cf3 HG2c; have n1 : ¬ g2 = g4 := (by have := blk_lt HG2b.out; have := HGe4.out; omega); have n2 : ¬ g4 = g2 := fun h => n1 h.symm))
        have hg4 : w.heap.size ≤ g4 := by have := HGe4.out; have := HB3.out.size; omega
        have q1 := ((keep3 (w := w4) (g := g4) (x := .bool x0) (y := .slice Ab1 x1.length cb1) (z := .slice Ab2 x2.length cb2)).2 g2 (blk_lt HG2c.out) n1 (by simp)).trans HG2c.out
        refine bodyPost_ret (results_ct rfl _ _ g2 47 #[.bool false, .slice none 0 0, .slice none 0 0] (0, 0) _ rfl (put3 q1) Try.underlying47 rfl (by kernel_rfl)) rfl ?_
        exact ⟨below3 (below3 HB4.out hg4) hg2, rfl⟩
end Go.Proofs.Ytdjoekckhmggbaa.H
