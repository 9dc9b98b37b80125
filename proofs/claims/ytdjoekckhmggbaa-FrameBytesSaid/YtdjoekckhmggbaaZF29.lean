import Derived.Test.YtdjoekckhmggbaaZF28
namespace Go.Proofs.Ytdjoekckhmggbaa.H
open Go.RowKit Go.Proofs.YtdjoekckhmggbaaW.PrintWords Go.Proofs.YtdjoekckhmggbaaW.PrintLast Go.Proofs.YtdjoekckhmggbaaW.PrintMore Go.Proofs.Ytdjoekckhmggbaa.PRF
attribute [local go_sem] max2_int min2_int max_two min_two max_three min_three max_four min_four
set_option linter.unusedVariables false
set_option linter.unusedSimpArgs false
set_option maxHeartbeats 4000000 in
set_option maxRecDepth 100000 in
theorem bytes_law (f : S40) (hf : FrOk f) (A : Option Addr) (c : Nat) (b : List Int) (hB : Byt b) (D : Option Addr) (d : Nat) (w : World) (hC : Kd.C (Kd.int .u8) w A f.f3.length f.f3) (hc : f.f3.length ≤ c) (hD : Kd.C (Kd.int .u8) w D b.length b) (hd : b.length ≤ d) :
    Calls Try.prog 12 #[.agg #[.int .u64 f.f0, .int .i64 f.f1, .bool f.f2, .slice A f.f3.length c], .slice D b.length d] w fun e w' => e = .returned (.bool true) ∧ Below w.heap.size w w' := by
  have HB := Aside0.mk (Below.refl w.heap.size w)
  have HC := Aside0.mk hC
  have HD := Aside0.mk hD
  have HW := Aside0.mk (fun w' h => write_any f hf A c w' h hc)
  have HRW := Aside0.mk (fun w' h => rwrite_any f hf A c w' h hc)
  have HR := Aside0.mk (fun w' h => read_any b hB D d w' h hd)
  have HRR := Aside0.mk (fun w' h => rread_any b hB D d w' h hd)
  generalize writeP f = wr at *
  generalize readP b = rd at *
  obtain ⟨xs, xe⟩ := wr
  obtain ⟨p, pe⟩ := rd
  clear hC hc hD hd hB hf
  obtain ⟨f0, f1, f2, f3⟩ := f
  dsimp only at *
  obtain ⟨n, hn⟩ : ∃ n, n = f3.length := ⟨_, rfl⟩
  obtain ⟨m, hm⟩ : ∃ m, m = b.length := ⟨_, rfl⟩
  rw [← hn] at HC HW HRW ⊢
  rw [← hm] at HD HR HRR ⊢
  clear hn hm
  have HONE := Aside0.mk (one03_self p)
  obtain ⟨p0, p1, p2, p3⟩ := p
  dsimp only at *
  have HBx := Aside0.mk (below_alloc HB.out (.cells #[.int .u64 f0, .int .i64 f1, .bool f2, .slice A n c] 40))
  have HGx := Aside0.mk (blk_new w (.cells #[.int .u64 f0, .int .i64 f1, .bool f2, .slice A n c] 40) _ rfl)
  have hxe : (xe == xe) = true := by simp
  have hpe : (pe == pe) = true := by simp
  go_enter Try.func12, Try.ntmps12
  go_wp2_with fail
  generalize (w.alloc (.cells #[.int .u64 f0, .int .i64 f1, .bool f2, .slice A n c] 40)) = w1 at *
  obtain ⟨g1, hg1⟩ : ∃ g, g = w.heap.size := ⟨_, rfl⟩
  rw [← hg1] at HGx ⊢
  clear hg1
  refine (HW.out w1 (Kd.C_below HC.out HBx.out)).mono ?_
  rintro e w2 ⟨hE2, v2, rfl, hR2⟩
  obtain ⟨A2, n2, c2, rfl, hn2⟩ := R_shape hR2
  have HR2 := Aside0.mk (Kd.R_reads' hR2)
  have HB2 := Aside0.mk (below_step HBx.out hE2)
  have HG2 := Aside0.mk (blk_below HGx.out hE2)
  have hcf := cf4 HG2
  clear hE2 hR2 hn2
  go_wp2_with fail
  refine (HRW.out w2 (Kd.C_below HC.out HB2.out)).mono ?_
  rintro e w3 ⟨hE3, v3, rfl, hR3⟩
  obtain ⟨A3, n3, c3, rfl, hn3⟩ := R_shape hR3
  have HR3 := Aside0.mk (Kd.R_reads' hR3)
  have HE3 := Aside0.mk hE3
  have HB3 := Aside0.mk (below_step HB2.out hE3)
  clear hE3 hR3 hn3 hcf
  go_wp2_with fail
  refine (HR.out w3 (Kd.C_below HD.out HB3.out)).mono ?_
  rintro e w4 ⟨hE4, A4, c4, rfl, hl4, hC4⟩
  have HE4 := Aside0.mk hE4
  have HB4 := Aside0.mk (below_step HB3.out hE4)
  have HC4 := Aside0.mk hC4
  have HL4 := Aside0.mk hl4
  clear hE4 hC4 hl4
  dsimp only at HC4 HL4 ⊢
  obtain ⟨k, hk⟩ : ∃ k, k = p3.length := ⟨_, rfl⟩
  have HK := Aside0.mk hk
  rw [← hk]
  clear hk
  have HG5 := Aside0.mk (blk_new w4 (.cells #[.int .u64 p0, .int .i64 p1, .bool p2, .slice A4 k c4] 40) _ rfl)
  have HE5 := Aside0.mk (below_alloc (Below.refl w4.heap.size w4) (.cells #[.int .u64 p0, .int .i64 p1, .bool p2, .slice A4 k c4] 40))
  go_wp2_with fail
  generalize (w4.alloc (.cells #[.int .u64 p0, .int .i64 p1, .bool p2, .slice A4 k c4] 40)) = w5 at *
  obtain ⟨g5, hg5⟩ : ∃ g, g = w4.heap.size := ⟨_, rfl⟩
  rw [← hg5] at HG5 ⊢
  clear hg5
  refine (HRR.out w5 (Kd.C_below (Kd.C_below HD.out HB4.out) HE5.out)).mono ?_
  rintro e w6 ⟨hE6, A6, c6, rfl, hl6, hC6⟩
  have HB6 := Aside0.mk (below_step (below_step HB4.out HE5.out) hE6)
  have HC6 := Aside0.mk hC6
  have HL6 := Aside0.mk hl6
  have HG56 := Aside0.mk (blk_below HG5.out hE6)
  have HE46 := Aside0.mk (HE5.out.trans (hE6.mono HE5.out.size))
  clear hE6 hC6 hl6
  dsimp only at HC6 HL6 ⊢
  rw [← HK.out]
  have HG7 := Aside0.mk (blk_new w6 (.cells #[.int .u64 p0, .int .i64 p1, .bool p2, .slice A6 k c6] 40) _ rfl)
  have HE7 := Aside0.mk (below_alloc (Below.refl w6.heap.size w6) (.cells #[.int .u64 p0, .int .i64 p1, .bool p2, .slice A6 k c6] 40))
  have HG57 := Aside0.mk (blk_alloc HG56.out (.cells #[.int .u64 p0, .int .i64 p1, .bool p2, .slice A6 k c6] 40))
  go_wp2_with fail
  generalize (w6.alloc (.cells #[.int .u64 p0, .int .i64 p1, .bool p2, .slice A6 k c6] 40)) = w7 at *
  obtain ⟨g7, hg7⟩ : ∃ g, g = w6.heap.size := ⟨_, rfl⟩
  rw [← hg7] at HG7 ⊢
  clear hg7
  have HN2 := Aside0.mk HR2.out.1
  have HN3 := Aside0.mk HR3.out.1
  have HE37 := Aside0.mk (HE4.out.trans ((HE46.out.trans (HE7.out.mono HE46.out.size)).mono HE4.out.size))
  have HE27 := Aside0.mk (HE3.out.trans (HE37.out.mono HE3.out.size))
  rw [HN2.out, HN3.out]
  refine (proctorref01_Same.calls A2 c2 xs A3 c3 xs true w7 (Kd.C_below HR2.out.2.2 HE27.out) (by have := HR2.out; omega) (Kd.C_below HR3.out.2.2 HE37.out) (by have := HR3.out; omega) (same01_self xs)).mono ?_
  rintro e w8 ⟨rfl, hd⟩
  rw [← HN2.out]
  have HE8 := Aside0.mk hd.below
  have HB8 := Aside0.mk (below_step (below_step HB6.out HE7.out) hd.below)
  have HG58 := Aside0.mk (blk_below HG57.out hd.below)
  have HG78 := Aside0.mk (blk_below HG7.out hd.below)
  have hcf5 := cf4 HG58
  have hcf7 := cf4 HG78
  have HC48 := Aside0.mk (Kd.C_below HC4.out (HE46.out.trans ((HE7.out.trans (hd.below.mono HE7.out.size)).mono HE46.out.size)))
  have HC68 := Aside0.mk (Kd.C_below HC6.out (HE7.out.trans (hd.below.mono HE7.out.size)))
  clear hd
  go_wp2_with fail
  rw [HK.out]
  refine (proctorref03_One.calls p0 p1 p2 A4 c4 p3 p0 p1 p2 A6 c6 p3 true w8 HC48.out HL4.out HC68.out HL6.out HONE.out).mono ?_
  rintro e w9 ⟨rfl, hE9⟩
  rw [← HK.out]
  have HB9 := Aside0.mk (below_step HB8.out hE9)
  clear hE9
  go_wp2_with fail
  refine (anchored3 _).mono ?_
  rintro e w10 ⟨rfl, hE10⟩
  have HB10 := Aside0.mk (below_step HB9.out hE10)
  clear hE10
  go_wp2
  go_ret
  exact ⟨rfl, HB10.out⟩
end Go.Proofs.Ytdjoekckhmggbaa.H
