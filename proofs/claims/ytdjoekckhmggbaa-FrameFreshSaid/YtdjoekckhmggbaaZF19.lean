import Derived.Test.YtdjoekckhmggbaaZF18
namespace Go.Proofs.Ytdjoekckhmggbaa.H
open Go.RowKit Go.Proofs.YtdjoekckhmggbaaW.PrintWords Go.Proofs.YtdjoekckhmggbaaW.PrintLast Go.Proofs.YtdjoekckhmggbaaW.PrintMore Go.Proofs.Ytdjoekckhmggbaa.PRF
attribute [local go_sem] max2_int min2_int max_two min_two max_three min_three max_four min_four
set_option linter.unusedVariables false
set_option linter.unusedSimpArgs false
set_option maxHeartbeats 4000000 in
set_option maxRecDepth 100000 in
theorem ffresh_law (data : List Int) (D : Option Addr) (d : Nat) (s : Nat) (hs : s < 256) (w : World) (hD : Kd.C (Kd.int .u8) w D data.length data) (hd : data.length ≤ d) (hl : data.length ≤ 140737488351232) :
    Calls Try.prog 5 #[.slice D data.length d, .int .u8 s] w fun e w' => e = .returned (.bool true) ∧ Below w.heap.size w w' := by
  have HB := Aside0.mk (Below.refl w.heap.size w)
  have HD := Aside0.mk hD
  have Hd := Aside0.mk hd
  have HL := Aside0.mk hl
  have HCP := Aside0.mk (copy_f data (by omega))
  have HSP := Aside0.mk (fun A c w' h hc => (split_any 5 s data A c w' h hc hl).mono (fun e w'' h => split_post h))
  have HRS := Aside0.mk (fun w' h => rsplit_any 5 s data D d w' h hd hl)
  have HLE := Aside0.mk (spL_len 5 s data)
  have HMEM := Aside0.mk (fun x (hx : x ∈ spL (splitP 5 data s)) => spL_mem hx)
  have HJL := Aside0.mk (show (jnB (joinP 5 (spL (splitP 5 data s)))).length ≤ 1000000 from by have := jn_len (ch := 5) (fun x (hx : x ∈ spL (splitP 5 data s)) => spL_le hx); omega)
  obtain ⟨n, hn⟩ : ∃ n, n = data.length := ⟨_, rfl⟩
  have HN := Aside0.mk hn
  generalize spL (splitP 5 data s) = sl at *
  generalize spE (splitP 5 data s) = se at *
  obtain ⟨m, hm⟩ : ∃ m, m = sl.length := ⟨_, rfl⟩
  have HM := Aside0.mk hm
  have hse : (se == se) = true := by simp
  have hm2 : m ≤ 1024 := by rw [hm]; exact HLE.out
  rw [← hn]
  clear hn hm hD hd hl
  go_enter Try.func5, Try.ntmps5
  go_wp2_with fail
  rw [HN.out]
  refine (proctorref01_Copy.calls D d data data w HD.out Hd.out HCP.out).mono ?_
  rintro e wa ⟨v1, rfl, hRa, hEa⟩
  obtain ⟨A1, c1, rfl⟩ := Kd.R_slice hRa
  have HRa := Aside0.mk hRa
  have HRa' := Aside0.mk (Kd.R_reads' hRa)
  have HBa := Aside0.mk hEa
  clear hRa hEa
  rw [← HN.out]
  go_wp2_with fail
  rw [HN.out]
  refine (HSP.out A1 c1 wa HRa'.out.2.2 HRa'.out.2.1).mono ?_
  rintro e wb ⟨hEb, v2, rfl, hRb⟩
  have HFb := Aside0.mk (FrAt_of_R hRb (fun x hx => (HMEM.out x hx).1))
  obtain ⟨A2, c2, rfl⟩ := Kd.R_slice hRb
  have HEb := Aside0.mk hEb
  have HBb := Aside0.mk (below_step HBa.out hEb)
  clear hEb hRb
  rw [← HM.out] at HFb ⊢
  rw [← HN.out]
  go_wp2_with fail
  rw [HN.out]
  refine (HSP.out A1 c1 wb (Kd.C_below HRa'.out.2.2 HEb.out) HRa'.out.2.1).mono ?_
  rintro e wc ⟨hEc, v3, rfl, hRc⟩
  obtain ⟨A3, c3, rfl⟩ := Kd.R_slice hRc
  have HRc := Aside0.mk hRc
  have HRc' := Aside0.mk (Kd.R_reads' hRc)
  have HEc := Aside0.mk hEc
  have HBc := Aside0.mk (below_step HBb.out hEc)
  clear hEc hRc
  rw [← HM.out] at HRc ⊢
  rw [← HN.out]
  go_wp2_with fail
  rw [HM.out]
  refine ((join_any 5 sl A3 c3 wc HRc'.out.2.2 HRc'.out.2.1 (fun x hx => (HMEM.out x hx).2)).mono (fun e w'' h => join_post h)).mono ?_
  rintro e wd ⟨hEd, v4, rfl, hRd⟩
  have HRd := Aside0.mk hRd
  have HEd := Aside0.mk hEd
  have HBd := Aside0.mk (below_step HBc.out hEd)
  obtain ⟨A4, n4, c4, rfl, hn4⟩ := R_shape hRd
  clear hRd hEd hn4
  rw [← HM.out]
  have HEbd := Aside0.mk (HEc.out.trans (HEd.out.mono HEc.out.size))
  have HFd : Aside0 (FrAt wd wa.heap.size wb.heap.size (.slice A2 m c2) m) := ⟨by
    rcases HFb.out with h | ⟨g, cap, cs, h1, h2, h3, h4⟩
    · exact .inl h
    · exact .inr ⟨g, cap, cs, h1, h2, blk_below h3 HEbd.out, fun i hi => (h4 i hi).imp fun u hu => ⟨hu.1, hu.2.below HEbd.out⟩⟩⟩
  go_wp2_with fail
  go_loopw [12] (fun v12 wr => ∃ i : Nat, i ≤ m ∧ v12 = .int .i64 (i : Int) ∧ Aside0 (Below w.heap.size w wr) ∧ Aside0 (Soft3 wa.heap.size wb.heap.size wd wr)) (fun v12 _ => m - (intOf v12).toNat)
  case atStart => exact ⟨0, Nat.zero_le _, rfl, HBd, ⟨Soft3.refl _ _ _⟩⟩
  case round =>
    obtain ⟨i, hi, rfl, HBr, HSr⟩ := hrel
    by_cases hlt : i < m
    · have hdl : decide (i < m) = true := decide_eq_true hlt
      rcases HFd.out with ⟨_, h⟩ | ⟨g, cap, cs, h1, h2, h3, h4⟩
      · omega
      injection h1 with h1 _ h1c
      subst h1 h1c
      obtain ⟨u, hu, hbu⟩ := h4 i hlt
      have hnq : ¬ ∃ c, Q8 wd g c := fun ⟨c, cs', q1, q2⟩ => by rw [h3] at q1; simp at q1
      have hgr := (HSr.out.far g (blk_lt h3) (fun hh => hnq hh.2.2)).trans h3
      have hcell : wr.cell? ⟨g, i * 4 + 3, none⟩ = some u := (blk_cell hgr _).trans hu
      have HBU := Aside0.mk hbu
      clear h3 h4 hu hbu hnq hgr HFd
      go_wp2_with fail
      refine (spoil_one u _ wa.heap.size wb.heap.size w wd wr HBr.out HBa.out.size HEbd.out.size HBU.out HSr.out).mono ?_
      rintro e w6 ⟨rfl, hb6, hs6⟩
      have HB6 := Aside0.mk hb6
      have HS6 := Aside0.mk hs6
      clear hb6 hs6 hcell
      go_wp2_with fail
      go_roundw
      case rel => exact ⟨i + 1, hlt, by go_num, HB6, HS6⟩
      case measure => simp [intOf]; omega
    · have hdl : decide (i < m) = false := decide_eq_false hlt
      have HRr := Aside0.mk (R_soft3 (ok := fun k => wc.heap.size ≤ k) (Kd.R_mono (Kd.R_bound HRd.out) (fun k hk => hk.2.1)) HSr.out (fun k hk h => by have := HEc.out.size; omega))
      have HMr := Aside0.mk (R_soft3 (ok := fun k => wb.heap.size ≤ k ∧ k < wc.heap.size) (Kd.R_below (Kd.R_mono (Kd.R_bound HRc.out) (fun k hk => ⟨hk.2.1, hk.2.2.1⟩)) HEd.out) HSr.out (fun k hk h => by omega))
      have HCr := Aside0.mk (R_soft3 (ok := fun k => k < wa.heap.size) (Kd.R_below (Kd.R_mono (Kd.R_bound HRa.out) (fun k hk => hk.2.2.1)) (HEb.out.trans (HEbd.out.mono HEb.out.size))) HSr.out (fun k hk h => by omega))
      clear HFd
      go_wp2_with fail
      refine (spoil_one (.slice A4 n4 c4) 8 wc.heap.size wr.heap.size w wr wr HBr.out HBc.out.size (Nat.le_refl _) (BOk_of_R HRr.out HJL.out) (Soft3.refl _ _ _)).mono ?_
      rintro e w7 ⟨rfl, hb7, hs7⟩
      have HB7 := Aside0.mk hb7
      have hle : wa.heap.size ≤ wc.heap.size := Nat.le_trans HEb.out.size HEc.out.size
      have HM7 := Aside0.mk (Kd.R_reads' (R_soft3 HMr.out hs7 (fun k hk h => by omega)))
      have HC7 := Aside0.mk (Kd.R_reads' (R_soft3 HCr.out hs7 (fun k hk h => by omega)))
      clear hb7 hs7 hle
      go_wp2_with fail
      rw [HN.out]
      refine (HRS.out w7 (Kd.C_below HD.out HB7.out)).mono ?_
      rintro e w8 ⟨hE8, v8, rfl, hR8⟩
      obtain ⟨A8, c8, rfl⟩ := Kd.R_slice hR8
      have HR8 := Aside0.mk (Kd.R_reads' hR8)
      have HE8 := Aside0.mk hE8
      have HB8 := Aside0.mk (below_step HB7.out hE8)
      clear hE8 hR8
      rw [← HN.out, ← HM.out]
      go_wp2_with fail
      refine (anchored3 _).mono ?_
      rintro e w9 ⟨rfl, hE9⟩
      have HE9 := Aside0.mk hE9
      have HE79 := Aside0.mk (HE8.out.trans (hE9.mono HE8.out.size))
      have HB9 := Aside0.mk (below_step HB8.out hE9)
      clear hE9
      go_wp2_with fail
      rw [HN.out]
      refine (proctorref01_Same.calls A1 c1 data D d data true _ (Kd.C_below HC7.out.2.2 HE79.out) HRa'.out.2.1 (Kd.C_below HD.out HB9.out) Hd.out (same01_self data)).mono ?_
      rintro e w10 ⟨rfl, hd⟩
      have HE10 := Aside0.mk hd.below
      have HB10 := Aside0.mk (below_step HB9.out hd.below)
      clear hd
      rw [← HN.out]
      go_wp2_with fail
      rw [HM.out]
      refine (proctorref03_Same.calls 2000 A3 c3 sl A8 c8 sl true _ (Kd.C_below (Kd.C_below HM7.out.2.2 HE79.out) HE10.out) HRc'.out.2.1 (Kd.C_below (Kd.C_below HR8.out.2.2 HE9.out) HE10.out) HR8.out.2.1 (same03_self sl (by have := HLE.out; omega) 2000 (by have := HLE.out; omega))).mono ?_
      rintro e w11 ⟨rfl, hE11⟩
      have HB11 := Aside0.mk (below_step HB10.out hE11)
      clear hE11
      go_wp2
      go_ret
      exact ⟨rfl, HB11.out⟩
end Go.Proofs.Ytdjoekckhmggbaa.H
