import Derived.Test.YtdjoekckhmggbaaG4
namespace Go.Proofs.Ytdjoekckhmggbaa.H
open Go.RowKit Go.Proofs.YtdjoekckhmggbaaW.PrintWords Go.Proofs.YtdjoekckhmggbaaW.PrintLast Go.Proofs.YtdjoekckhmggbaaW.PrintMore Go.Proofs.Ytdjoekckhmggbaa.PRF
attribute [local go_sem] max2_int min2_int max_two min_two max_three min_three max_four min_four
set_option linter.unusedVariables false
set_option linter.unusedSimpArgs false

set_option maxHeartbeats 2000000 in
set_option maxRecDepth 100000 in
theorem fresh_law (A : Option Addr) (c : Nat) (l : List Int) (w : World) (hC : Kd.C (Kd.int .u8) w A l.length l) (hc : l.length ≤ c) (hB : Byt l) (hl : l.length < 140737488355328) :
    Calls Try.prog 7 #[.slice A l.length c] w fun e w' => e = .returned (.bool true) ∧ Below w.heap.size w w' := by
  have HB := Aside0.mk (Below.refl w.heap.size w)
  have HC := Aside0.mk hC
  have Hc := Aside0.mk hc
  have HBy := Aside0.mk hB
  have HCP := Aside0.mk (copy_f l hl)
  have hmay := resI_may hB
  have HMAY := Aside0.mk hmay
  have HEN := Aside0.mk (encode_any (resI (decodeP l)))
  have hen : encP (resI (decodeP l)) = (formP (resI (decodeP l)), 0) := by unfold encP; rw [if_pos hmay]
  rw [hen] at HEN
  obtain ⟨K, hK⟩ := rsame_self _ hmay
  have HS := Aside0.mk (hK K (Nat.le_refl _))
  have hvv : wfP 16 (resI (decodeP l)) = true ∧ (formP (resI (decodeP l))).length ≤ 65536 := by simpa only [vP, Bool.and_eq_true, decide_eq_true_eq] using hmay
  have HSH := Aside0.mk (fun (w : World) (lo : Nat) v1 v2 ok1 ok2 h1 h2 => Sh_of_R (w := w) (lo := lo) 16 (resI (decodeP l)) v1 v2 ok1 ok2 hvv.1 (by omega) h1 h2)
  have HFL := Aside0.mk hvv.2
  have HD := Aside0.mk (fun A c w' h1 h2 => (decode_any A c l w' h1 h2 hB).mono (fun e w'' h => post_resI h))
  have HRD := Aside0.mk (fun A c w' h1 h2 => (rdecode_any A c l w' h1 h2 hB).mono (fun e w'' h => post_resI h))
  have HE0 : Aside0 (resE (decodeP l) = 0 ∨ resE (decodeP l) ≠ 0) := ⟨by omega⟩
  clear hC hc hB hl hmay hen hK hvv
  generalize resI (decodeP l) = x at *
  generalize resE (decodeP l) = E at *
  generalize formP x = fx at *
  obtain ⟨x0, x1, x2⟩ := x
  simp only at *
  obtain ⟨nl, hnl⟩ : ∃ n, n = l.length := ⟨_, rfl⟩
  obtain ⟨n1, hn1⟩ : ∃ n, n = x1.length := ⟨_, rfl⟩
  obtain ⟨n2, hn2⟩ : ∃ n, n = x2.length := ⟨_, rfl⟩
  have HNL := Aside0.mk hnl
  have HN1 := Aside0.mk hn1
  have HN2 := Aside0.mk hn2
  rw [← hnl]
  clear hnl hn1 hn2
  go_enter Try.func7, Try.ntmps7
  go_wp2_with fail
  rw [HNL.out]
  refine (proctorref01_Copy.calls A c l l w HC.out Hc.out HCP.out).mono ?_
  rintro e wa ⟨v3, rfl, hRa, hEa⟩
  rw [← HNL.out]
  obtain ⟨A3, c3, rfl⟩ := Kd.R_slice hRa
  have HRa := Aside0.mk (Kd.R_reads' hRa)
  have HBa := Aside0.mk hEa
  clear hRa hEa
  rw [← HNL.out]
  go_wp2_with fail
  rw [HNL.out]
  refine (HD.out A3 c3 wa HRa.out.2.2 HRa.out.2.1).mono ?_
  rintro e wb ⟨hEb, v1, v2, rfl, hR1, hR2⟩
  rw [← HNL.out]
  obtain ⟨A1, c1, rfl⟩ := Kd.R_slice hR1
  obtain ⟨A2, c2, rfl⟩ := Kd.R_slice hR2
  have HR1 := Aside0.mk (Kd.R_reads' hR1)
  have HR2 := Aside0.mk (Kd.R_reads' hR2)
  have HShb := Aside0.mk (HSH.out _ _ _ _ _ _ hR1 hR2)
  have HEb := Aside0.mk hEb
  have HBb := Aside0.mk (below_step HBa.out hEb)
  clear hEb hR1 hR2
  rw [← HN1.out, ← HN2.out] at HShb ⊢
  go_wp2_with fail
  obtain ⟨wc, g4, HG4, HBc, HEc, hwc, hg4⟩ := alloc_named w wb #[.bool x0, .slice A1 n1 c1, .slice A2 n2 c2] 47 HBb
  rw [← hwc, ← hg4]
  clear hwc
  have HG4e := Aside0.mk hg4
  clear hg4
  rw [HN1.out, HN2.out]
  refine (HEN.out A1 A2 c1 c2 wc (Kd.C_below HR1.out.2.2 HEc.out) HR1.out.2.1 (Kd.C_below HR2.out.2.2 HEc.out) HR2.out.2.1).mono ?_
  rintro e wd ⟨vd, rfl, hRd, hEd⟩
  rw [← HN1.out, ← HN2.out]
  have HBok := Aside0.mk (BOk_of_R hRd (by have := HFL.out; omega))
  have HEd := Aside0.mk hEd
  clear hRd hEd
  go_wp2_with fail
  refine (spoil_bytes vd 9 _ _ wc wd HEd.out (Nat.le_refl _) (Nat.le_refl _) HBok.out).mono ?_
  rintro e we ⟨rfl, hEe, _⟩
  have HEe := Aside0.mk hEe
  have HBe := Aside0.mk (below_step HBc.out hEe)
  have HG4b := Aside0.mk (blk_below HG4.out hEe)
  have HEab := Aside0.mk (below_step HEb.out HEc.out)
  have HEae := Aside0.mk (below_step HEab.out hEe)
  clear hEe
  go_wp2_with fail
  rw [HNL.out]
  refine (HD.out A3 c3 we (Kd.C_below HRa.out.2.2 HEae.out) HRa.out.2.1).mono ?_
  rintro e wf ⟨hEf, v5, v6, rfl, hR5, hR6⟩
  rw [← HNL.out]
  obtain ⟨A5, c5, rfl⟩ := Kd.R_slice hR5
  obtain ⟨A6, c6, rfl⟩ := Kd.R_slice hR6
  have HR5 := Aside0.mk hR5
  have HR6 := Aside0.mk hR6
  have HEf := Aside0.mk hEf
  have HBf := Aside0.mk (below_step HBe.out hEf)
  have HG4c := Aside0.mk (blk_below HG4b.out hEf)
  have hcf4 := fun (o : Obj) => cf3 ⟨blk_alloc HG4c.out o⟩
  clear hEf hR5 hR6
  simp only
  rw [← HN1.out, ← HN2.out]
  go_wp2_with fail
  obtain ⟨wg, g8, HG8, HBg, HEg, hwg, hg8⟩ := alloc_named w wf #[.bool x0, .slice A5 n1 c5, .slice A6 n2 c6] 47 HBf
  rw [← hwg, ← hg8]
  have HG8e := Aside0.mk hg8
  clear hwg hg8 hcf4
  have HEbg := Aside0.mk (below_step (below_step (below_step HEc.out HEe.out) HEf.out) HEg.out)
  have HEag := Aside0.mk (below_step HEb.out HEbg.out)
  have HSg := Aside0.mk (Sh.soft (Soft.below (lo := wa.heap.size) HEbg.out (Nat.le_refl _)) _ HShb.out)
  refine (spoil_item wa.heap.size wb.heap.size wa (Nat.le_refl _) _ x0 _ _ wg HEag.out HEbg.out.size HSg.out).mono ?_
  rintro e wh ⟨rfl, hEh, hSo⟩
  have hbe : wb.heap.size ≤ we.heap.size := Nat.le_trans HEc.out.size HEe.out.size
  have HR5h := Aside0.mk (Kd.R_reads' (R_soft (ok := fun k => we.heap.size ≤ k) (Kd.R_mono (Kd.R_bound (Kd.R_below HR5.out HEg.out)) (fun k hk => hk.2.1)) hSo (fun k hk h => by omega)))
  have HR6h := Aside0.mk (Kd.R_reads' (R_soft (ok := fun k => we.heap.size ≤ k) (Kd.R_mono (Kd.R_bound (Kd.R_below HR6.out HEg.out)) (fun k hk => hk.2.1)) hSo (fun k hk h => by omega)))
  have HG8h := Aside0.mk ((hSo.far g8 (blk_lt HG8.out) (fun h => by have := HG8e.out; have := HEf.out.size; omega)).trans HG8.out)
  have HBh := Aside0.mk (below_step HBa.out hEh)
  have HCah := Aside0.mk (Kd.C_below HRa.out.2.2 hEh)
  clear hEh hSo hbe
  go_wp2_with fail
  rw [HNL.out]
  refine (HRD.out A c wh (Kd.C_below HC.out HBh.out) Hc.out).mono ?_
  rintro e wi ⟨hEi, v7, v8, rfl, hR7, hR8⟩
  rw [← HNL.out]
  obtain ⟨A7, c7, rfl⟩ := Kd.R_slice hR7
  obtain ⟨A8, c8, rfl⟩ := Kd.R_slice hR8
  have HR7 := Aside0.mk (Kd.R_reads' hR7)
  have HR8 := Aside0.mk (Kd.R_reads' hR8)
  have HBi := Aside0.mk (below_step HBh.out hEi)
  have HG8i := Aside0.mk (blk_below HG8h.out hEi)
  have HR5i := Aside0.mk (Kd.C_below HR5h.out.2.2 hEi)
  have HR6i := Aside0.mk (Kd.C_below HR6h.out.2.2 hEi)
  have HCai := Aside0.mk (Kd.C_below HCah.out hEi)
  clear hEi hR7 hR8
  simp only
  rw [← HN1.out, ← HN2.out]
  go_wp2_with fail
  obtain ⟨wj, g10, HG10, HBj, HEj, hwj, hg10⟩ := alloc_named w wi #[.bool x0, .slice A7 n1 c7, .slice A8 n2 c8] 47 HBi
  rw [← hwj, ← hg10]
  clear hwj hg10
  refine (anchored2 _).mono ?_
  rintro e wk ⟨rfl, hEk⟩
  have HEk := Aside0.mk (below_step HEj.out hEk)
  have HBk := Aside0.mk (below_step HBj.out hEk)
  have HG10k := Aside0.mk (blk_below HG10.out hEk)
  have HG8k := Aside0.mk (blk_below HG8i.out HEk.out)
  clear hEk
  go_wp2_with fail
  rw [HNL.out]
  refine (proctorref01_Same.calls A c l A3 c3 l true _ (Kd.C_below HC.out HBk.out) Hc.out (Kd.C_below HCai.out HEk.out) HRa.out.2.1 (by unfold proctorref01_Same.f; simp)).mono ?_
  rintro e wl ⟨rfl, hdl⟩
  rw [← HNL.out]
  have hEl := hdl.below
  have HBl := Aside0.mk (below_step HBk.out hEl)
  have HEl := Aside0.mk (below_step HEk.out hEl)
  have HG10l := Aside0.mk (blk_below HG10k.out hEl)
  have HG8l := Aside0.mk (blk_below HG8k.out hEl)
  have hcf8 := cf3 HG8l
  have hcf10 := cf3 HG10l
  clear hdl hEl
  rcases HE0.out with h0 | h0
  · subst h0
    go_wp2_with fail
    rw [HN1.out, HN2.out]
    refine (proctorref02_Same.calls K x0 A5 c5 x1 A6 c6 x2 x0 A7 c7 x1 A8 c8 x2 true wl (Kd.C_below HR5i.out HEl.out) HR5h.out.2.1 (Kd.C_below HR6i.out HEl.out) HR6h.out.2.1 (Kd.C_below HR7.out.2.2 HEl.out) HR7.out.2.1 (Kd.C_below HR8.out.2.2 HEl.out) HR8.out.2.1 HS.out).mono ?_
    rintro e wm ⟨rfl, hEm⟩
    have HBm := Aside0.mk (below_step HBl.out hEm)
    clear hEm
    go_wp2
    go_ret
    exact ⟨rfl, HBm.out⟩
  · have hb1 : (E != 0) = true := by simpa using h0
    have hb2 : (E == E) = true := by simp
    go_wp2_with fail
    go_ret
    exact ⟨rfl, HBl.out⟩
end Go.Proofs.Ytdjoekckhmggbaa.H
