import Derived.Test.YtdjoekckhmggbaaZF27
namespace Go.Proofs.Ytdjoekckhmggbaa.H
open Go.RowKit Go.Proofs.YtdjoekckhmggbaaW.PrintWords Go.Proofs.YtdjoekckhmggbaaW.PrintLast Go.Proofs.YtdjoekckhmggbaaW.PrintMore Go.Proofs.Ytdjoekckhmggbaa.PRF
attribute [local go_sem] max2_int min2_int max_two min_two max_three min_three max_four min_four
set_option linter.unusedVariables false
set_option linter.unusedSimpArgs false
theorem write_byt {f : S40} (hf : FrOk f) (hm : mayF f = true) : Byt (formP (itemF4 f)) := by
  have hvi := item_vP f (may_of hm).2.2
  unfold vP at hvi
  simp only [Bool.and_eq_true, decide_eq_true_eq] at hvi
  exact formP_byt _ _ (Nat.le_refl _) (item_byt f hf.2.2) (by omega)
set_option maxHeartbeats 4000000 in
set_option maxRecDepth 100000 in
theorem forms_yes (f : S40) (hf : FrOk f) (hm : mayF f = true) (A : Option Addr) (c : Nat) (b : List Int) (hB : Byt b) (D : Option Addr) (d : Nat) (w : World) (hC : Kd.C (Kd.int .u8) w A f.f3.length f.f3) (hc : f.f3.length ≤ c) (hD : Kd.C (Kd.int .u8) w D b.length b) (hd : b.length ≤ d) :
    Calls Try.prog 13 #[.agg #[.int .u64 f.f0, .int .i64 f.f1, .bool f.f2, .slice A f.f3.length c], .slice D b.length d] w fun e w' => e = .returned (.bool true) ∧ Below w.heap.size w w' := by
  have HB := Aside0.mk (Below.refl w.heap.size w)
  have HC := Aside0.mk hC
  have HD := Aside0.mk hD
  have Hc := Aside0.mk hc
  have Hd := Aside0.mk hd
  have HW := Aside0.mk (fun w' h => write_any f hf A c w' h hc)
  have HR := Aside0.mk (fun w' h => read_any b hB D d w' h hd)
  have HMY := Aside0.mk (fun w' h => proctorref03_May.calls f.f0 f.f1 f.f2 A c f.f3 true w' h hc (by rw [rmay_f f, hm]))
  have HWB := Aside0.mk (fun p (h : readP b = (p, 0)) => fread_ok hB h)
  have hwp : writeP f = (formP (itemF4 f), 0) := by unfold writeP; rw [hm]; rfl
  rw [hwp] at HW
  have HRX := Aside0.mk (fun A1 c1 w' h1 h2 => (read_any (formP (itemF4 f)) (write_byt hf hm) A1 c1 w' h1 h2))
  rw [fread_write hf hm] at HRX
  have HONE := Aside0.mk (one03_self f)
  generalize formP (itemF4 f) = x at *
  clear hC hc hD hd hB hf hm hwp
  obtain ⟨f0, f1, f2, f3⟩ := f
  dsimp only at *
  obtain ⟨n, hn⟩ : ∃ n, n = f3.length := ⟨_, rfl⟩
  obtain ⟨m, hm⟩ : ∃ m, m = b.length := ⟨_, rfl⟩
  have HN := Aside0.mk hn
  have HM := Aside0.mk hm
  rw [← hn] at HC HW HMY ⊢
  rw [← hm] at HD HR ⊢
  clear hn hm
  have HBx := Aside0.mk (below_alloc HB.out (.cells #[.int .u64 f0, .int .i64 f1, .bool f2, .slice A n c] 40))
  have HGx := Aside0.mk (blk_new w (.cells #[.int .u64 f0, .int .i64 f1, .bool f2, .slice A n c] 40) _ rfl)
  go_enter Try.func13, Try.ntmps13
  go_wp2_with fail
  generalize (w.alloc (.cells #[.int .u64 f0, .int .i64 f1, .bool f2, .slice A n c] 40)) = w1 at *
  obtain ⟨g1, hg1⟩ : ∃ g, g = w.heap.size := ⟨_, rfl⟩
  rw [← hg1] at HGx ⊢
  clear hg1
  refine (HW.out w1 (Kd.C_below HC.out HBx.out)).mono ?_
  rintro e w2 ⟨hE2, v2, rfl, hR2⟩
  obtain ⟨A2, c2, rfl⟩ := Kd.R_slice hR2
  have HR2 := Aside0.mk (Kd.R_reads' hR2)
  have HB2 := Aside0.mk (below_step HBx.out hE2)
  have HG2 := Aside0.mk (blk_below HGx.out hE2)
  clear hE2 hR2
  dsimp only at HR2 ⊢
  have hcf := cf4 HG2
  obtain ⟨nx, hnx⟩ : ∃ n, n = x.length := ⟨_, rfl⟩
  have HNX := Aside0.mk hnx
  rw [← hnx]
  clear hnx
  go_wp2_with fail
  rw [HNX.out]
  refine (HRX.out A2 c2 w2 HR2.out.2.2 HR2.out.2.1).mono ?_
  rintro e w3 ⟨hE3, A3, c3, rfl, hl3, hC3⟩
  rw [← HNX.out]
  have HB3 := Aside0.mk (below_step HB2.out hE3)
  have HG3 := Aside0.mk (blk_below HG2.out hE3)
  have HC3 := Aside0.mk hC3
  have HL3 := Aside0.mk hl3
  clear hE3 hC3 hl3 hcf
  dsimp only at HC3 HL3 ⊢
  rw [← HN.out]
  have HG4 := Aside0.mk (blk_new w3 (.cells #[.int .u64 f0, .int .i64 f1, .bool f2, .slice A3 n c3] 40) _ rfl)
  have HE4 := Aside0.mk (below_alloc (Below.refl w3.heap.size w3) (.cells #[.int .u64 f0, .int .i64 f1, .bool f2, .slice A3 n c3] 40))
  have HG14 := Aside0.mk (blk_alloc HG3.out (.cells #[.int .u64 f0, .int .i64 f1, .bool f2, .slice A3 n c3] 40))
  have hcf4 := cf4 HG4
  have hcf14 := cf4 HG14
  go_wp2_with fail
  generalize (w3.alloc (.cells #[.int .u64 f0, .int .i64 f1, .bool f2, .slice A3 n c3] 40)) = w4 at *
  rw [HN.out]
  refine (proctorref03_One.calls f0 f1 f2 A c f3 f0 f1 f2 A3 c3 f3 true w4 (Kd.C_below (by have := HC.out; rw [HN.out] at this; exact this) (HB3.out.trans (HE4.out.mono HB3.out.size))) Hc.out (Kd.C_below HC3.out HE4.out) HL3.out HONE.out).mono ?_
  rintro e w5 ⟨rfl, hE5⟩
  rw [← HN.out]
  have HB5 := Aside0.mk (below_step (below_step HB3.out HE4.out) hE5)
  have HG5 := Aside0.mk (blk_below HG14.out hE5)
  clear hE5 hcf4 hcf14
  cases hrb : readP b with
  | mk p pe =>
    rw [hrb] at HR HWB
    by_cases hpe : pe = 0
    · subst hpe
      obtain ⟨q1, q2, q3⟩ := HWB.out p rfl
      have HWP := Aside0.mk (fun A1 c1 w' h1 h2 => write_any p q2 A1 c1 w' h1 h2)
      have hwq : writeP p = (b, 0) := by unfold writeP; rw [q1, if_pos rfl, q3]
      rw [hwq] at HWP
      clear q1 q2 q3 hwq hrb HWB
      obtain ⟨p0, p1, p2, p3⟩ := p
      dsimp only at HR HWP
      go_wp2_with fail
      refine (HR.out w5 (Kd.C_below HD.out HB5.out)).mono ?_
      rintro e w6 ⟨hE6, A6, c6, rfl, hl6, hC6⟩
      have HB6 := Aside0.mk (below_step HB5.out hE6)
      have HC6 := Aside0.mk hC6
      have HL6 := Aside0.mk hl6
      clear hE6 hC6 hl6
      dsimp only at HC6 HL6 ⊢
      obtain ⟨k, hk⟩ : ∃ k, k = p3.length := ⟨_, rfl⟩
      have HK := Aside0.mk hk
      rw [← hk]
      clear hk
      have HG7 := Aside0.mk (blk_new w6 (.cells #[.int .u64 p0, .int .i64 p1, .bool p2, .slice A6 k c6] 40) _ rfl)
      have HE7 := Aside0.mk (below_alloc (Below.refl w6.heap.size w6) (.cells #[.int .u64 p0, .int .i64 p1, .bool p2, .slice A6 k c6] 40))
      have hcf7 := cf4 HG7
      go_wp2_with fail
      generalize (w6.alloc (.cells #[.int .u64 p0, .int .i64 p1, .bool p2, .slice A6 k c6] 40)) = w7 at *
      rw [HK.out]
      refine (HWP.out A6 c6 w7 (Kd.C_below HC6.out HE7.out) HL6.out).mono ?_
      rintro e w8 ⟨hE8, v8, rfl, hR8⟩
      rw [← HK.out]
      obtain ⟨A8, c8, rfl⟩ := Kd.R_slice hR8
      have HR8 := Aside0.mk (Kd.R_reads' hR8)
      have HB8 := Aside0.mk (below_step (below_step HB6.out HE7.out) hE8)
      clear hE8 hR8 hcf7
      dsimp only at HR8 ⊢
      rw [← HM.out]
      go_wp2_with fail
      refine (anchored3 _).mono ?_
      rintro e w9 ⟨rfl, hE9⟩
      have HE9 := Aside0.mk hE9
      have HB9 := Aside0.mk (below_step HB8.out hE9)
      clear hE9
      go_wp2_with fail
      rw [HM.out]
      refine (proctorref01_Same.calls D d b A8 c8 b true w9 (Kd.C_below (by have := HD.out; rw [HM.out] at this; exact this) HB9.out) Hd.out (Kd.C_below HR8.out.2.2 HE9.out) HR8.out.2.1 (same01_self b)).mono ?_
      rintro e w10 ⟨rfl, hd⟩
      have HB10 := Aside0.mk (below_step HB9.out hd.below)
      clear hd
      go_wp2
      go_ret
      exact ⟨rfl, HB10.out⟩
    · have hne : (pe != 0) = true := by simpa using hpe
      clear hpe hrb HWB
      obtain ⟨p0, p1, p2, p3⟩ := p
      try dsimp only at HR
      go_wp2_with fail
      refine (HR.out w5 (Kd.C_below HD.out HB5.out)).mono ?_
      rintro e w6 ⟨hE6, A6, c6, rfl, hl6, hC6⟩
      have HB6 := Aside0.mk (below_step HB5.out hE6)
      have HG6 := Aside0.mk (blk_below HG5.out hE6)
      clear hE6 hC6 hl6
      try dsimp only
      generalize p3.length = k
      have HG7 := Aside0.mk (blk_alloc HG6.out (.cells #[.int .u64 p0, .int .i64 p1, .bool p2, .slice A6 k c6] 40))
      have HB7 := Aside0.mk (below_alloc HB6.out (.cells #[.int .u64 p0, .int .i64 p1, .bool p2, .slice A6 k c6] 40))
      go_wp2_with fail
      generalize (w6.alloc (.cells #[.int .u64 p0, .int .i64 p1, .bool p2, .slice A6 k c6] 40)) = w7 at *
      refine (anchored3 _).mono ?_
      rintro e w9 ⟨rfl, hE9⟩
      have HB9 := Aside0.mk (below_step HB7.out hE9)
      have HG9 := Aside0.mk (blk_below HG7.out hE9)
      have hcf9 := cf4 HG9
      clear hE9
      go_wp2_with fail
      refine (HMY.out w9 (Kd.C_below HC.out HB9.out)).mono ?_
      rintro e w10 ⟨rfl, hE10⟩
      have HB10 := Aside0.mk (below_step HB9.out hE10)
      clear hE10
      go_wp2
      go_ret
      exact ⟨rfl, HB10.out⟩
set_option maxHeartbeats 4000000 in
set_option maxRecDepth 100000 in
theorem forms_no (f : S40) (hf : FrOk f) (hm : mayF f = false) (A : Option Addr) (c : Nat) (b : List Int) (hB : Byt b) (D : Option Addr) (d : Nat) (w : World) (hC : Kd.C (Kd.int .u8) w A f.f3.length f.f3) (hc : f.f3.length ≤ c) (hD : Kd.C (Kd.int .u8) w D b.length b) (hd : b.length ≤ d) :
    Calls Try.prog 13 #[.agg #[.int .u64 f.f0, .int .i64 f.f1, .bool f.f2, .slice A f.f3.length c], .slice D b.length d] w fun e w' => e = .returned (.bool true) ∧ Below w.heap.size w w' := by
  have HB := Aside0.mk (Below.refl w.heap.size w)
  have HC := Aside0.mk hC
  have HD := Aside0.mk hD
  have Hc := Aside0.mk hc
  have Hd := Aside0.mk hd
  have HW := Aside0.mk (fun w' h => write_any f hf A c w' h hc)
  have HR := Aside0.mk (fun w' h => read_any b hB D d w' h hd)
  have HMY := Aside0.mk (fun w' h => proctorref03_May.calls f.f0 f.f1 f.f2 A c f.f3 false w' h hc (by rw [rmay_f f, hm]))
  have HWB := Aside0.mk (fun p (h : readP b = (p, 0)) => fread_ok hB h)
  have hwp : writeP f = ([], 2) := by unfold writeP; rw [hm]; rfl
  rw [hwp] at HW
  clear hC hc hD hd hB hf hm hwp
  obtain ⟨f0, f1, f2, f3⟩ := f
  dsimp only at *
  obtain ⟨n, hn⟩ : ∃ n, n = f3.length := ⟨_, rfl⟩
  obtain ⟨m, hm⟩ : ∃ m, m = b.length := ⟨_, rfl⟩
  have HN := Aside0.mk hn
  have HM := Aside0.mk hm
  rw [← hn] at HC HW HMY ⊢
  rw [← hm] at HD HR ⊢
  clear hn hm
  have HBx := Aside0.mk (below_alloc HB.out (.cells #[.int .u64 f0, .int .i64 f1, .bool f2, .slice A n c] 40))
  have HGx := Aside0.mk (blk_new w (.cells #[.int .u64 f0, .int .i64 f1, .bool f2, .slice A n c] 40) _ rfl)
  go_enter Try.func13, Try.ntmps13
  go_wp2_with fail
  generalize (w.alloc (.cells #[.int .u64 f0, .int .i64 f1, .bool f2, .slice A n c] 40)) = w1 at *
  obtain ⟨g1, hg1⟩ : ∃ g, g = w.heap.size := ⟨_, rfl⟩
  rw [← hg1] at HGx ⊢
  clear hg1
  refine (HW.out w1 (Kd.C_below HC.out HBx.out)).mono ?_
  rintro e w2 ⟨hE2, v2, rfl, hR2⟩
  obtain ⟨A2, c2, rfl⟩ := Kd.R_slice hR2
  have HR2 := Aside0.mk (Kd.R_reads' hR2)
  have HB2 := Aside0.mk (below_step HBx.out hE2)
  have HG2 := Aside0.mk (blk_below HGx.out hE2)
  clear hE2 hR2
  dsimp only at HR2 ⊢
  obtain ⟨w5, hw5⟩ : ∃ w5, w5 = w2 := ⟨_, rfl⟩
  rw [← hw5] at HB2 HG2 ⊢
  clear hw5
  have HB5 := HB2
  have HG5 := HG2
  cases hrb : readP b with
  | mk p pe =>
    rw [hrb] at HR HWB
    by_cases hpe : pe = 0
    · subst hpe
      obtain ⟨q1, q2, q3⟩ := HWB.out p rfl
      have HWP := Aside0.mk (fun A1 c1 w' h1 h2 => write_any p q2 A1 c1 w' h1 h2)
      have hwq : writeP p = (b, 0) := by unfold writeP; rw [q1, if_pos rfl, q3]
      rw [hwq] at HWP
      clear q1 q2 q3 hwq hrb HWB
      obtain ⟨p0, p1, p2, p3⟩ := p
      dsimp only at HR HWP
      go_wp2_with fail
      refine (HR.out w5 (Kd.C_below HD.out HB5.out)).mono ?_
      rintro e w6 ⟨hE6, A6, c6, rfl, hl6, hC6⟩
      have HB6 := Aside0.mk (below_step HB5.out hE6)
      have HC6 := Aside0.mk hC6
      have HL6 := Aside0.mk hl6
      clear hE6 hC6 hl6
      dsimp only at HC6 HL6 ⊢
      obtain ⟨k, hk⟩ : ∃ k, k = p3.length := ⟨_, rfl⟩
      have HK := Aside0.mk hk
      rw [← hk]
      clear hk
      have HG7 := Aside0.mk (blk_new w6 (.cells #[.int .u64 p0, .int .i64 p1, .bool p2, .slice A6 k c6] 40) _ rfl)
      have HE7 := Aside0.mk (below_alloc (Below.refl w6.heap.size w6) (.cells #[.int .u64 p0, .int .i64 p1, .bool p2, .slice A6 k c6] 40))
      have hcf7 := cf4 HG7
      go_wp2_with fail
      generalize (w6.alloc (.cells #[.int .u64 p0, .int .i64 p1, .bool p2, .slice A6 k c6] 40)) = w7 at *
      rw [HK.out]
      refine (HWP.out A6 c6 w7 (Kd.C_below HC6.out HE7.out) HL6.out).mono ?_
      rintro e w8 ⟨hE8, v8, rfl, hR8⟩
      rw [← HK.out]
      obtain ⟨A8, c8, rfl⟩ := Kd.R_slice hR8
      have HR8 := Aside0.mk (Kd.R_reads' hR8)
      have HB8 := Aside0.mk (below_step (below_step HB6.out HE7.out) hE8)
      clear hE8 hR8 hcf7
      dsimp only at HR8 ⊢
      rw [← HM.out]
      go_wp2_with fail
      refine (anchored3 _).mono ?_
      rintro e w9 ⟨rfl, hE9⟩
      have HE9 := Aside0.mk hE9
      have HB9 := Aside0.mk (below_step HB8.out hE9)
      clear hE9
      go_wp2_with fail
      rw [HM.out]
      refine (proctorref01_Same.calls D d b A8 c8 b true w9 (Kd.C_below (by have := HD.out; rw [HM.out] at this; exact this) HB9.out) Hd.out (Kd.C_below HR8.out.2.2 HE9.out) HR8.out.2.1 (same01_self b)).mono ?_
      rintro e w10 ⟨rfl, hd⟩
      have HB10 := Aside0.mk (below_step HB9.out hd.below)
      clear hd
      go_wp2
      go_ret
      exact ⟨rfl, HB10.out⟩
    · have hne : (pe != 0) = true := by simpa using hpe
      clear hpe hrb HWB
      obtain ⟨p0, p1, p2, p3⟩ := p
      try dsimp only at HR
      go_wp2_with fail
      refine (HR.out w5 (Kd.C_below HD.out HB5.out)).mono ?_
      rintro e w6 ⟨hE6, A6, c6, rfl, hl6, hC6⟩
      have HB6 := Aside0.mk (below_step HB5.out hE6)
      have HG6 := Aside0.mk (blk_below HG5.out hE6)
      clear hE6 hC6 hl6
      try dsimp only
      generalize p3.length = k
      have HG7 := Aside0.mk (blk_alloc HG6.out (.cells #[.int .u64 p0, .int .i64 p1, .bool p2, .slice A6 k c6] 40))
      have HB7 := Aside0.mk (below_alloc HB6.out (.cells #[.int .u64 p0, .int .i64 p1, .bool p2, .slice A6 k c6] 40))
      go_wp2_with fail
      generalize (w6.alloc (.cells #[.int .u64 p0, .int .i64 p1, .bool p2, .slice A6 k c6] 40)) = w7 at *
      refine (anchored3 _).mono ?_
      rintro e w9 ⟨rfl, hE9⟩
      have HB9 := Aside0.mk (below_step HB7.out hE9)
      have HG9 := Aside0.mk (blk_below HG7.out hE9)
      have hcf9 := cf4 HG9
      clear hE9
      go_wp2_with fail
      refine (HMY.out w9 (Kd.C_below HC.out HB9.out)).mono ?_
      rintro e w10 ⟨rfl, hE10⟩
      have HB10 := Aside0.mk (below_step HB9.out hE10)
      clear hE10
      go_wp2
      go_ret
      exact ⟨rfl, HB10.out⟩
theorem fforms_law (f : S40) (hf : FrOk f) (A : Option Addr) (c : Nat) (b : List Int) (hB : Byt b) (D : Option Addr) (d : Nat) (w : World) (hC : Kd.C (Kd.int .u8) w A f.f3.length f.f3) (hc : f.f3.length ≤ c) (hD : Kd.C (Kd.int .u8) w D b.length b) (hd : b.length ≤ d) :
    Calls Try.prog 13 #[.agg #[.int .u64 f.f0, .int .i64 f.f1, .bool f.f2, .slice A f.f3.length c], .slice D b.length d] w fun e w' => e = .returned (.bool true) ∧ Below w.heap.size w w' := by
  cases hm : mayF f with
  | true => exact forms_yes f hf hm A c b hB D d w hC hc hD hd
  | false => exact forms_no f hf hm A c b hB D d w hC hc hD hd
end Go.Proofs.Ytdjoekckhmggbaa.H
