import Derived.Test.YtdjoekckhmggbaaMD
namespace Go.Proofs.Ytdjoekckhmggbaa.H
open Go.RowKit Go.Proofs.YtdjoekckhmggbaaW.PrintWords Go.Proofs.YtdjoekckhmggbaaW.PrintLast Go.Proofs.YtdjoekckhmggbaaW.PrintMore Go.Proofs.Ytdjoekckhmggbaa.PRF
attribute [local go_sem] max2_int min2_int max_two min_two max_three min_three max_four min_four
set_option linter.unusedVariables false
set_option linter.unusedSimpArgs false

set_option maxHeartbeats 4000000 in
set_option maxRecDepth 100000 in
/-- the first half of the law: an item that may not be -/
theorem back_no (x y : S47) (hx : BytI x) (hv : vP 16 65536 x = false) (A1 A2 B1 B2 : Option Addr) (c1 c2 d1 d2 : Nat) (m1 m2 : Nat) (w : World)
    (hC1 : Kd.C (Kd.int .u8) w A1 x.f1.length x.f1) (hc1 : x.f1.length ≤ c1) (hC2 : Kd.C k47 w A2 x.f2.length x.f2) (hc2 : x.f2.length ≤ c2) :
    Calls Try.prog 11 #[.agg #[.bool x.f0, .slice A1 x.f1.length c1, .slice A2 x.f2.length c2], .agg #[.bool y.f0, .slice B1 m1 d1, .slice B2 m2 d2]] w
      fun e w' => e = .returned (.bool true) ∧ Below w.heap.size w w' := by
  have HS1 := Aside0.mk (fun w' h1 h3 => rlpsame_bool x x hx hx A1 A2 A1 A2 c1 c2 c1 c2 w' h1 hc1 h3 hc2 h1 hc1 h3 hc2)
  have hs : sameP x x = false := by unfold sameP; rw [hv]; rfl
  rw [hs] at HS1
  obtain ⟨K2, hK2⟩ := rmay_spec x
  have HM2 := Aside0.mk (fun w' h1 h3 => proctorref02_May.calls K2 x.f0 A1 c1 x.f1 A2 c2 x.f2 _ w' h1 hc1 h3 hc2 (hK2 K2 (Nat.le_refl _)))
  rw [hv] at HM2
  have HE1 := Aside0.mk (fun w' h1 h3 => encode_any x A1 A2 c1 c2 w' h1 hc1 h3 hc2)
  have he : encP x = ([], 2) := by unfold encP; rw [hv]; rfl
  rw [he] at HE1
  have HB := Aside0.mk (Below.refl w.heap.size w)
  have HC1 := Aside0.mk hC1
  have HC2 := Aside0.mk hC2
  clear hK2 hC1 hC2 hc1 hc2 hx hs he hv
  obtain ⟨x0, x1, x2⟩ := x
  obtain ⟨y0, y1, y2⟩ := y
  simp only at *
  obtain ⟨n1, hn1⟩ : ∃ n, n = x1.length := ⟨_, rfl⟩
  obtain ⟨n2, hn2⟩ : ∃ n, n = x2.length := ⟨_, rfl⟩
  rw [← hn1] at HC1
  rw [← hn2] at HC2
  rw [← hn1, ← hn2] at HE1 HM2 HS1 ⊢
  clear hn1 hn2
  go_enter Try.func11, Try.ntmps11
  go_wp2_with (first
    | ((with_reducible refine gate_dst (N := 2) rfl ?_); refine alloc_ev rfl (N := 2) rfl (cs := #[.bool x0, .slice A1 n1 c1, .slice A2 n2 c2]) (t := 47) HB ?hr2 ?_; (case hr2 => first | (go_simp; done) | (go_simp; rfl)); intro g2 w1 HG2 HGe2 HE1' HB1)
    | ((with_reducible refine gate_dst (N := 3) rfl ?_); refine alloc_ev rfl (N := 3) rfl (cs := #[.bool y0, .slice B1 m1 d1, .slice B2 m2 d2]) (t := 47) HB1 ?hr3 ?_; (case hr3 => first | (go_simp; done) | (go_simp; rfl)); intro g3 w2 HG3 HGe3 HE2' HB2; have HG2b := Aside0.mk (blk_below HG2.out HE2'.out); have hcf2 := cf3 HG2b; have hcf3 := cf3 HG3))
  refine (HE1.out _ (Kd.C_below HC1.out HB2.out) (Kd.C_below HC2.out HB2.out)).mono ?_
  rintro e w3 ⟨v3, rfl, hR3, hE3⟩
  obtain ⟨A3, n3, c3, rfl, hn3⟩ := R_shape hR3
  have HB3 := Aside0.mk (below_step HB2.out hE3)
  have HG4 := Aside0.mk (blk_below HG2b.out hE3)
  have hcf4 := cf3 HG4
  clear hE3 hcf2 hcf3 hR3 hn3
  go_wp2_with fail
  refine (HM2.out _ (Kd.C_below HC1.out HB3.out) (Kd.C_below HC2.out HB3.out)).mono ?_
  rintro e w4 ⟨rfl, hE4⟩
  have HB4 := Aside0.mk (below_step HB3.out hE4)
  have HG6 := Aside0.mk (blk_below HG4.out hE4)
  clear hE4 hcf4
  go_wp2_with fail
  refine (anchored2 _).mono ?_
  rintro e w5 ⟨rfl, hE5⟩
  have HB5 := Aside0.mk (below_step HB4.out hE5)
  have hcf7 := cf3 ⟨blk_below HG6.out hE5⟩
  clear hE5
  go_wp2_with fail
  refine (HS1.out _ (Kd.C_below HC1.out HB5.out) (Kd.C_below HC2.out HB5.out)).mono ?_
  rintro e w6 ⟨rfl, hE6⟩
  have HB6 := Aside0.mk (below_step HB5.out hE6)
  clear hE6 hcf7
  go_wp2
  go_ret
  exact ⟨rfl, HB6.out⟩

set_option maxHeartbeats 1000000 in
set_option maxRecDepth 100000 in
theorem back_yes (x y : S47) (hx : BytI x) (hy : BytI y) (hv : vP 16 65536 x = true) (A1 A2 B1 B2 : Option Addr) (c1 c2 d1 d2 : Nat) (w : World)
    (hC1 : Kd.C (Kd.int .u8) w A1 x.f1.length x.f1) (hc1 : x.f1.length ≤ c1) (hC2 : Kd.C k47 w A2 x.f2.length x.f2) (hc2 : x.f2.length ≤ c2)
    (hD1 : Kd.C (Kd.int .u8) w B1 y.f1.length y.f1) (hd1 : y.f1.length ≤ d1) (hD2 : Kd.C k47 w B2 y.f2.length y.f2) (hd2 : y.f2.length ≤ d2) :
    Calls Try.prog 11 #[.agg #[.bool x.f0, .slice A1 x.f1.length c1, .slice A2 x.f2.length c2], .agg #[.bool y.f0, .slice B1 y.f1.length d1, .slice B2 y.f2.length d2]] w
      fun e w' => e = .returned (.bool true) ∧ Below w.heap.size w w' := by
  have hlx : (formP x).length ≤ 65536 := by simp only [vP, Bool.and_eq_true, decide_eq_true_eq] at hv; exact hv.2
  have hbx := formP_byt _ x (Nat.le_refl _) hx (by omega)
  have HS1 := Aside0.mk (fun D1 D2 e1 e2 w' h1 h3 h5 (h6 : x.f1.length ≤ e1) h7 (h8 : x.f2.length ≤ e2) => rlpsame_bool x x hx hx A1 A2 D1 D2 c1 c2 e1 e2 w' h1 hc1 h3 hc2 h5 h6 h7 h8)
  have hs : sameP x x = true := by unfold sameP; rw [hv]; simp
  rw [hs] at HS1
  have HS2 := Aside0.mk (fun w' h1 h3 h5 h7 => rlpsame_bool x y hx hy A1 A2 B1 B2 c1 c2 d1 d2 w' h1 hc1 h3 hc2 h5 hd1 h7 hd2)
  obtain ⟨K2, hK2⟩ := rmay_spec x
  have HM2 := Aside0.mk (fun w' h1 h3 => proctorref02_May.calls K2 x.f0 A1 c1 x.f1 A2 c2 x.f2 _ w' h1 hc1 h3 hc2 (hK2 K2 (Nat.le_refl _)))
  rw [hv] at HM2
  have HE1 := Aside0.mk (fun w' h1 h3 => encode_any x A1 A2 c1 c2 w' h1 hc1 h3 hc2)
  have he : encP x = (formP x, 0) := by unfold encP; rw [hv]; rfl
  rw [he] at HE1
  have HE2 := Aside0.mk (fun w' h1 h3 => encode_any y B1 B2 d1 d2 w' h1 hd1 h3 hd2)
  have HD := Aside0.mk (fun A c w' h hc => decode_any A c (formP x) w' h hc hbx)
  rw [form_decode x hx hv] at HD
  have HY : Aside0 ((encP y).2 = 0 → sameP x y = decide (formP x = (encP y).1) ∧ Byt (encP y).1) := ⟨by
    unfold encP
    by_cases hvy : vP 16 65536 y = true
    · rw [if_pos hvy]
      intro _
      refine ⟨?_, formP_byt _ y (Nat.le_refl _) hy ?_⟩
      · unfold sameP; rw [hv, hvy]; rfl
      · simp only [vP, Bool.and_eq_true, decide_eq_true_eq] at hvy; omega
    · rw [if_neg hvy]
      intro h; cases h⟩
  have HEE : Aside0 ((encP y).2 = 0 ∨ (encP y).2 = 2) := ⟨by
    unfold encP
    by_cases hvy : vP 16 65536 y = true
    · rw [if_pos hvy]; exact Or.inl rfl
    · rw [if_neg hvy]; exact Or.inr rfl⟩
  have HB := Aside0.mk (Below.refl w.heap.size w)
  have HC1 := Aside0.mk hC1
  have HC2 := Aside0.mk hC2
  have HD1 := Aside0.mk hD1
  have HD2 := Aside0.mk hD2
  have HBX := Aside0.mk hbx
  clear hK2 hC1 hC2 hc1 hc2 hD1 hD2 hd1 hd2 hx hy hs he hv hlx hbx
  generalize formP x = fx at *
  generalize encP y = en at *
  obtain ⟨eb, ee⟩ := en
  generalize sameP x y = sb at *
  obtain ⟨x0, x1, x2⟩ := x
  obtain ⟨y0, y1, y2⟩ := y
  simp only at *
  obtain ⟨n1, hn1⟩ : ∃ n, n = x1.length := ⟨_, rfl⟩
  obtain ⟨n2, hn2⟩ : ∃ n, n = x2.length := ⟨_, rfl⟩
  obtain ⟨m1, hm1⟩ : ∃ n, n = y1.length := ⟨_, rfl⟩
  obtain ⟨m2, hm2⟩ : ∃ n, n = y2.length := ⟨_, rfl⟩
  have HN1 := Aside0.mk hn1
  have HN2 := Aside0.mk hn2
  rw [← hn1] at HC1
  rw [← hn2] at HC2
  rw [← hm1] at HD1
  rw [← hm2] at HD2
  rw [← hn1, ← hn2] at HE1 HM2 HS1
  rw [← hm1, ← hm2] at HE2
  rw [← hn1, ← hn2, ← hm1, ← hm2] at HS2 ⊢
  clear hn1 hn2 hm1 hm2
  go_enter Try.func11, Try.ntmps11
  go_wp2_with (first
    | ((with_reducible refine gate_dst (N := 2) rfl ?_); refine alloc_ev rfl (N := 2) rfl (cs := #[.bool x0, .slice A1 n1 c1, .slice A2 n2 c2]) (t := 47) HB ?hr2 ?_; (case hr2 => first | (go_simp; done) | (go_simp; rfl)); intro g2 w1 HG2 HGe2 HE1' HB1)
    | ((with_reducible refine gate_dst (N := 3) rfl ?_); refine alloc_ev rfl (N := 3) rfl (cs := #[.bool y0, .slice B1 m1 d1, .slice B2 m2 d2]) (t := 47) HB1 ?hr3 ?_; (case hr3 => first | (go_simp; done) | (go_simp; rfl)); intro g3 w2 HG3 HGe3 HE2' HB2; have HG2b := Aside0.mk (blk_below HG2.out HE2'.out); have hcf2 := cf3 HG2b; have hcf3 := cf3 HG3))
  refine (HE1.out _ (Kd.C_below HC1.out HB2.out) (Kd.C_below HC2.out HB2.out)).mono ?_
  rintro e w3 ⟨v3, rfl, hR3, hE3⟩
  obtain ⟨A3, n3, c3, rfl, hn3⟩ := R_shape hR3
  have HR3 := Aside0.mk (Kd.R_reads' hR3)
  have HB3 := Aside0.mk (below_step HB2.out hE3)
  have HG4 := Aside0.mk (blk_below HG2b.out hE3)
  have HG5 := Aside0.mk (blk_below HG3.out hE3)
  have hcf4 := cf3 HG4
  clear hE3 hcf2 hcf3 hR3 hn3
  go_wp2_with fail
  refine (HM2.out _ (Kd.C_below HC1.out HB3.out) (Kd.C_below HC2.out HB3.out)).mono ?_
  rintro e w4 ⟨rfl, hE4⟩
  have HB4 := Aside0.mk (below_step HB3.out hE4)
  have HG6 := Aside0.mk (blk_below HG4.out hE4)
  have HG7 := Aside0.mk (blk_below HG5.out hE4)
  have HR4 := Aside0.mk (Kd.C_below HR3.out.2.2 hE4)
  clear hE4 hcf4
  go_wp2_with fail
  rw [HR3.out.1]
  refine (HD.out A3 c3 _ HR4.out (by have h1 := HR3.out.1; have h2 := HR3.out.2.1; omega)).mono ?_
  rintro e w5 ⟨hE5, v5, v6, rfl, hR5, hR6⟩
  rw [← HR3.out.1]
  obtain ⟨A5, c5, rfl⟩ := Kd.R_slice hR5
  obtain ⟨A6, c6, rfl⟩ := Kd.R_slice hR6
  have HR5 := Aside0.mk (Kd.R_reads' hR5)
  have HR6 := Aside0.mk (Kd.R_reads' hR6)
  have HB5 := Aside0.mk (below_step HB4.out hE5)
  have HG8 := Aside0.mk (blk_below HG6.out hE5)
  have HG9 := Aside0.mk (blk_below HG7.out hE5)
  have HR4b := Aside0.mk (Kd.C_below HR4.out hE5)
  simp only
  rw [← HN1.out, ← HN2.out]
  have hcf8 := fun (o : Obj) => cf3 ⟨blk_alloc HG8.out o⟩
  clear hE5 hR5 hR6
  go_wp2_with fail
  have HX6 := Aside0.mk (below_alloc (Below.refl w5.heap.size w5) (.cells #[.bool x0, .slice A5 n1 c5, .slice A6 n2 c6] 47))
  generalize (World.alloc _ _ : World) = w6 at *
  have HB6 := Aside0.mk (below_step HB5.out HX6.out)
  have HR5b := Aside0.mk (Kd.C_below HR5.out.2.2 HX6.out)
  have HR6b := Aside0.mk (Kd.C_below HR6.out.2.2 HX6.out)
  have HG10 := Aside0.mk (blk_below HG9.out HX6.out)
  have HG11 := Aside0.mk (blk_below HG8.out HX6.out)
  have HR4c := Aside0.mk (Kd.C_below HR4b.out HX6.out)
  clear hcf8
  refine (HS1.out A5 A6 c5 c6 _ (Kd.C_below HC1.out HB6.out) (Kd.C_below HC2.out HB6.out) (by rw [HN1.out]; exact HR5b.out) (by rw [HN1.out]; exact HR5.out.2.1) (by rw [HN2.out]; exact HR6b.out) (by rw [HN2.out]; exact HR6.out.2.1)).mono ?_
  rintro e w7 ⟨rfl, hE7⟩
  have HB7 := Aside0.mk (below_step HB6.out hE7)
  have HG12 := Aside0.mk (blk_below HG10.out hE7)
  have HG13 := Aside0.mk (blk_below HG11.out hE7)
  have HR4d := Aside0.mk (Kd.C_below HR4c.out hE7)
  have hcf12 := cf3 HG12
  clear hE7
  go_wp2_with fail
  refine (HE2.out _ (Kd.C_below HD1.out HB7.out) (Kd.C_below HD2.out HB7.out)).mono ?_
  rintro e w8 ⟨v8, rfl, hR8, hE8⟩
  obtain ⟨A8, n8, c8, rfl, hn8⟩ := R_shape hR8
  have HR8 := Aside0.mk (Kd.R_reads' hR8)
  have HB8 := Aside0.mk (below_step HB7.out hE8)
  have HG14 := Aside0.mk (blk_below HG12.out hE8)
  have HG15 := Aside0.mk (blk_below HG13.out hE8)
  have HR4e := Aside0.mk (Kd.C_below HR4d.out hE8)
  clear hE8 hcf12 hR8 hn8
  go_wp2_with fail
  obtain ⟨T, hTdef⟩ : ∃ T : World → Prop, T = fun W' => Below w8.heap.size w8 W' := ⟨_, rfl⟩
  have HS := Aside0.mk (show ∀ W', T W' → Below w8.heap.size w8 W' by intro W' h; rw [hTdef] at h; exact h)
  have HSb := Aside0.mk (show ∀ W', Below w8.heap.size w8 W' → T W' by intro W' h; rw [hTdef]; exact h)
  have HK := Aside0.mk (show ∀ W', T W' → (T W' ∧ W'.cell? ⟨g2, 0, none⟩ = some (.bool x0) ∧ W'.cell? ⟨g2, 1, none⟩ = some (.slice A1 n1 c1) ∧ W'.cell? ⟨g2, 2, none⟩ = some (.slice A2 n2 c2) ∧ W'.cell? ⟨g3, 0, none⟩ = some (.bool y0) ∧ W'.cell? ⟨g3, 1, none⟩ = some (.slice B1 m1 d1) ∧ W'.cell? ⟨g3, 2, none⟩ = some (.slice B2 m2 d2)) from fun W' h => by
    have h2 := cf3 ⟨blk_below HG15.out (HS.out W' h)⟩
    have h3 := cf3 ⟨blk_below HG14.out (HS.out W' h)⟩
    exact ⟨h, h2.1, h2.2.1, h2.2.2.1, h3.1, h3.2.1, h3.2.2.1⟩)
  have TS := Aside0.mk (show ∀ W', (T W' ∧ W'.cell? ⟨g2, 0, none⟩ = some (.bool x0) ∧ W'.cell? ⟨g2, 1, none⟩ = some (.slice A1 n1 c1) ∧ W'.cell? ⟨g2, 2, none⟩ = some (.slice A2 n2 c2) ∧ W'.cell? ⟨g3, 0, none⟩ = some (.bool y0) ∧ W'.cell? ⟨g3, 1, none⟩ = some (.slice B1 m1 d1) ∧ W'.cell? ⟨g3, 2, none⟩ = some (.slice B2 m2 d2)) → T W' from fun W' h => h.1)
  have HSC1 := Aside0.mk (fun W' (h : T W') => Kd.C_below (Kd.C_below HC1.out HB8.out) (HS.out W' h))
  have HSC2 := Aside0.mk (fun W' (h : T W') => Kd.C_below (Kd.C_below HC2.out HB8.out) (HS.out W' h))
  have HSD1 := Aside0.mk (fun W' (h : T W') => Kd.C_below (Kd.C_below HD1.out HB8.out) (HS.out W' h))
  have HSD2 := Aside0.mk (fun W' (h : T W') => Kd.C_below (Kd.C_below HD2.out HB8.out) (HS.out W' h))
  have HSR3 := Aside0.mk (fun W' (h : T W') => Kd.C_below HR4e.out (HS.out W' h))
  have HSR8 := Aside0.mk (fun W' (h : T W') => Kd.C_below HR8.out.2.2 (HS.out W' h))
  have HSe := Aside0.mk (fun W' W'' (h : T W') (hb : Below W'.heap.size W' W'') => HSb.out W'' (below_step (HS.out W' h) hb))
  have hS0 : T w8.drew := HSb.out _ (below_drew (Below.refl _ _))
  clear hTdef
  rcases HEE.out with hee | hee
  · subst hee
    have hsb := (HY.out rfl).1
    have HS3 : Aside0 (∀ w', Kd.C (Kd.int .u8) w' A3 fx.length fx → Kd.C (Kd.int .u8) w' A8 eb.length eb → Calls Try.prog 18 #[.slice A3 n3 c3, .slice A8 n8 c8] w' fun e w'' => e = .returned (.bool sb) ∧ Drawn0 w' w'') := ⟨fun w' h1 h2 => by
      have l1 := HR3.out.1
      have l2 := HR8.out.1
      have l3 := HR3.out.2.1
      have l4 := HR8.out.2.1
      subst l1 l2
      exact proctorref01_Same.calls A3 c3 fx A8 c8 eb sb w' h1 l3 h2 l4 (by rw [same01_f fx eb HBX.out (HY.out rfl).2, hsb])⟩
    clear hsb
    go_region_held3 (fun W' => T W' ∧ W'.cell? ⟨g2, 0, none⟩ = some (.bool x0) ∧ W'.cell? ⟨g2, 1, none⟩ = some (.slice A1 n1 c1) ∧ W'.cell? ⟨g2, 2, none⟩ = some (.slice A2 n2 c2) ∧ W'.cell? ⟨g3, 0, none⟩ = some (.bool y0) ∧ W'.cell? ⟨g3, 1, none⟩ = some (.slice B1 m1 d1) ∧ W'.cell? ⟨g3, 2, none⟩ = some (.slice B2 m2 d2)) (exact HK.out _ (by assumption)) (first
      | (go_at_call 37; have hT := TS.out _ (by assumption); refine (HS2.out _ (HSC1.out _ hT) (HSC2.out _ hT) (HSD1.out _ hT) (HSD2.out _ hT)).mono ?_; rintro e w' ⟨rfl, hE⟩; have hSn := HSe.out _ _ hT hE; clear hE hT)
      | (go_at_call 18; have hT := TS.out _ (by assumption); refine (HS3.out _ (HSR3.out _ hT) (HSR8.out _ hT)).mono ?_; rintro e w' ⟨rfl, hE⟩; have hSn := HSe.out _ _ hT hE.below; clear hE hT)
      | (go_at_call 27; have hT := TS.out _ (by assumption); refine (anchored2 _).mono ?_; rintro e w' ⟨rfl, hE⟩; have hSn := HSe.out _ _ hT hE; clear hE hT))
    all_goals
      go_wp2
      go_ret
      exact ⟨rfl, below_step HB8.out (HS.out _ (TS.out _ (by assumption)))⟩
  · subst hee
    clear HE1 HE2 HS1 HS2 HD HM2
    refine wp_region_noPanic ?_
    refine wp_region_held_drew (S := T) (by kernel_rfl) hS0 (fun hHeld => ?_)
    refine wpAnyH_ready (rs := [0]) (by kernel_rfl) (by simp) ?_
    refine AllReadyH.cons (o := { dst := some 52, op := Op.call { callee := Callee.value (Operand.func 27), args := #[], argTypes := #[] }, type := 4, pos := "law.go:53", after := #[], guard := none }) rfl (fun K hK => ?_) AllReadyH.nil
    go_simp
    refine (anchored2 _).mono ?_
    rintro e w' ⟨rfl, hE⟩
    refine hK.out _ _ (HSe.out _ _ hHeld hE) (fun hHeld => ?_)
    clear hK K hE
    try simp only [Act.put, List.setIfInBounds_toArray, List.set_cons_zero, List.set_cons_succ]
    refine wpAnyH_take (i := 1) (oi := { dst := some 53, op := Op.move (Operand.tmp 52), type := 4, pos := "law.go:53", after := #[{ on := 0, ground := Ground.data }, { on := 0, ground := Ground.chain }], guard := none }) (v := ?v1) rfl (by kernel_rfl) (by kernel_rfl) (by kernel_rfl) (fun _ _ _ h => h) (Or.inl ⟨by rfl, ?y1⟩) (by assumption) ?r1
    case y1 => intro w hSw; go_simp; first | done | with_reducible rfl
    try simp only [Act.put, List.setIfInBounds_toArray, List.set_cons_zero, List.set_cons_succ]
    refine wpAnyH_take (i := 2) (oi := { dst := some 54, op := Op.move (Operand.tmp 10), type := 29, pos := "law.go:53", after := #[{ on := 1, ground := Ground.guard }], guard := some (1, true) }) (v := ?v2) rfl (by kernel_rfl) (by kernel_rfl) (by kernel_rfl) (fun _ _ _ h => h) (Or.inl ⟨by rfl, ?y2⟩) (by assumption) ?r2
    case y2 => intro w hSw; go_simp; first | done | with_reducible rfl
    try simp only [Act.put, List.setIfInBounds_toArray, List.set_cons_zero, List.set_cons_succ]
    refine wpAnyH_take (i := 3) (oi := { dst := some 55, op := Op.binOp BinOp.neq 29 (Operand.tmp 54) (Operand.const (Value.int IntKind.i64 0)) 29, type := 4, pos := "law.go:53", after := #[{ on := 2, ground := Ground.data }, { on := 1, ground := Ground.guard }], guard := some (1, true) }) (v := ?v3) rfl (by kernel_rfl) (by kernel_rfl) (by kernel_rfl) (fun _ _ _ h => h) (Or.inl ⟨by rfl, ?y3⟩) (by assumption) ?r3
    case y3 => intro w hSw; go_simp; first | done | with_reducible rfl
    try simp only [Act.put, List.setIfInBounds_toArray, List.set_cons_zero, List.set_cons_succ]
    refine wpAnyH_take (i := 4) (oi := { dst := some 56, op := Op.move (Operand.tmp 55), type := 4, pos := "law.go:53", after := #[{ on := 3, ground := Ground.data }, { on := 1, ground := Ground.chain }, { on := 1, ground := Ground.guard }], guard := some (1, true) }) (v := ?v4) rfl (by kernel_rfl) (by kernel_rfl) (by kernel_rfl) (fun _ _ _ h => h) (Or.inl ⟨by rfl, ?y4⟩) (by assumption) ?r4
    case y4 => intro w hSw; go_simp; first | done | with_reducible rfl
    try simp only [Act.put, List.setIfInBounds_toArray, List.set_cons_zero, List.set_cons_succ]
    refine wpAnyH_take (i := 5) (oi := { dst := some 57, op := Op.move (Operand.tmp 5), type := 24, pos := "law.go:53", after := #[{ on := 4, ground := Ground.guard }], guard := some (4, false) }) (v := undef) rfl (by kernel_rfl) (by kernel_rfl) (by kernel_rfl) (fun _ _ _ h => h) (Or.inr ⟨by rfl, rfl⟩) (by assumption) ?_
    try simp only [Act.put, List.setIfInBounds_toArray, List.set_cons_zero, List.set_cons_succ]
    refine wpAnyH_take (i := 6) (oi := { dst := some 58, op := Op.move (Operand.tmp 9), type := 24, pos := "law.go:53", after := #[{ on := 4, ground := Ground.guard }], guard := some (4, false) }) (v := undef) rfl (by kernel_rfl) (by kernel_rfl) (by kernel_rfl) (fun _ _ _ h => h) (Or.inr ⟨by rfl, rfl⟩) (by assumption) ?_
    try simp only [Act.put, List.setIfInBounds_toArray, List.set_cons_zero, List.set_cons_succ]
    refine wpAnyH_take (i := 8) (oi := { dst := some 60, op := Op.load 47 (Operand.tmp 2), type := 47, pos := "law.go:53", after := #[{ on := 4, ground := Ground.guard }], guard := some (4, false) }) (v := undef) rfl (by kernel_rfl) (by kernel_rfl) (by kernel_rfl) (fun _ _ _ h => h) (Or.inr ⟨by rfl, rfl⟩) (by assumption) ?_
    try simp only [Act.put, List.setIfInBounds_toArray, List.set_cons_zero, List.set_cons_succ]
    refine wpAnyH_take (i := 9) (oi := { dst := some 61, op := Op.load 47 (Operand.tmp 3), type := 47, pos := "law.go:53", after := #[{ on := 4, ground := Ground.guard }], guard := some (4, false) }) (v := undef) rfl (by kernel_rfl) (by kernel_rfl) (by kernel_rfl) (fun _ _ _ h => h) (Or.inr ⟨by rfl, rfl⟩) (by assumption) ?_
    try simp only [Act.put, List.setIfInBounds_toArray, List.set_cons_zero, List.set_cons_succ]
    refine wpAnyH_take (i := 7) (oi := { dst := some 59, op := Op.call { callee := Callee.value (Operand.func 18), args := #[Operand.tmp 57, Operand.tmp 58], argTypes := #[24, 24] }, type := 4, pos := "law.go:53", after := #[{ on := 5, ground := Ground.data }, { on := 6, ground := Ground.data }, { on := 4, ground := Ground.chain }, { on := 4, ground := Ground.guard }], guard := some (4, false) }) (v := undef) rfl (by kernel_rfl) (by kernel_rfl) (by kernel_rfl) (fun _ _ _ h => h) (Or.inr ⟨by rfl, rfl⟩) (by assumption) ?_
    try simp only [Act.put, List.setIfInBounds_toArray, List.set_cons_zero, List.set_cons_succ]
    refine wpAnyH_take (i := 10) (oi := { dst := some 62, op := Op.call { callee := Callee.value (Operand.func 37), args := #[Operand.tmp 60, Operand.tmp 61], argTypes := #[47, 47] }, type := 4, pos := "law.go:53", after := #[{ on := 8, ground := Ground.data }, { on := 9, ground := Ground.data }, { on := 7, ground := Ground.chain }, { on := 4, ground := Ground.guard }], guard := some (4, false) }) (v := undef) rfl (by kernel_rfl) (by kernel_rfl) (by kernel_rfl) (fun _ _ _ h => h) (Or.inr ⟨by rfl, rfl⟩) (by assumption) ?_
    try simp only [Act.put, List.setIfInBounds_toArray, List.set_cons_zero, List.set_cons_succ]
    refine wpAnyH_take (i := 11) (oi := { dst := some 63, op := Op.binOp BinOp.eql 4 (Operand.tmp 59) (Operand.tmp 62) 4, type := 4, pos := "law.go:53", after := #[{ on := 7, ground := Ground.data }, { on := 10, ground := Ground.data }, { on := 4, ground := Ground.guard }], guard := some (4, false) }) (v := undef) rfl (by kernel_rfl) (by kernel_rfl) (by kernel_rfl) (fun _ _ _ h => h) (Or.inr ⟨by rfl, rfl⟩) (by assumption) ?_
    try simp only [Act.put, List.setIfInBounds_toArray, List.set_cons_zero, List.set_cons_succ]
    refine wpAnyH_take (i := 12) (oi := { dst := some 64, op := Op.pick (Operand.tmp 56) (Operand.const (Value.bool true)) (Operand.tmp 63), type := 4, pos := "law.go:53", after := #[{ on := 4, ground := Ground.data }, { on := 11, ground := Ground.data }, { on := 1, ground := Ground.guard }], guard := some (1, true) }) (v := ?v12) rfl (by kernel_rfl) (by kernel_rfl) (by kernel_rfl) (fun _ _ _ h => h) (Or.inl ⟨by rfl, ?y12⟩) (by assumption) ?r12
    case y12 => intro w hSw; go_simp; first | done | with_reducible rfl
    try simp only [Act.put, List.setIfInBounds_toArray, List.set_cons_zero, List.set_cons_succ]
    refine wpAnyH_take (i := 13) (oi := { dst := some 65, op := Op.pick (Operand.tmp 53) (Operand.tmp 64) (Operand.const (Value.bool false)), type := 4, pos := "law.go:53", after := #[{ on := 1, ground := Ground.data }, { on := 12, ground := Ground.data }], guard := none }) (v := ?v13) rfl (by kernel_rfl) (by kernel_rfl) (by kernel_rfl) (fun _ _ _ h => h) (Or.inl ⟨by rfl, ?y13⟩) (by assumption) ?r13
    case y13 => intro w hSw; go_simp; first | done | with_reducible rfl
    try simp only [Act.put, List.setIfInBounds_toArray, List.set_cons_zero, List.set_cons_succ]
    refine wpAnyH_take (i := 14) (oi := { dst := some 4, op := Op.assign (Operand.tmp 65), type := 4, pos := "law.go:53", after := #[{ on := 13, ground := Ground.data }, { on := 10, ground := Ground.chain }, { on := 0, ground := Ground.phase }, { on := 1, ground := Ground.phase }, { on := 2, ground := Ground.phase }, { on := 3, ground := Ground.phase }, { on := 4, ground := Ground.phase }, { on := 5, ground := Ground.phase }, { on := 6, ground := Ground.phase }, { on := 7, ground := Ground.phase }, { on := 8, ground := Ground.phase }, { on := 9, ground := Ground.phase }, { on := 10, ground := Ground.phase }, { on := 11, ground := Ground.phase }, { on := 12, ground := Ground.phase }, { on := 13, ground := Ground.phase }], guard := none }) (v := ?v14) rfl (by kernel_rfl) (by kernel_rfl) (by kernel_rfl) (fun _ _ _ h => h) (Or.inl ⟨by rfl, ?y14⟩) (by assumption) ?r14
    case y14 => intro w hSw; go_simp; first | done | with_reducible rfl
    try simp only [Act.put, List.setIfInBounds_toArray, List.set_cons_zero, List.set_cons_succ]
    refine wpAnyH_done (by kernel_rfl) ?_ _
    refine NoPanic.normal ?_
    go_wp2
    go_ret
    exact ⟨rfl, below_step HB8.out (HS.out _ (by assumption))⟩

theorem back_law (x y : S47) (hx : BytI x) (hy : BytI y) (A1 A2 B1 B2 : Option Addr) (c1 c2 d1 d2 : Nat) (w : World)
    (hC1 : Kd.C (Kd.int .u8) w A1 x.f1.length x.f1) (hc1 : x.f1.length ≤ c1) (hC2 : Kd.C k47 w A2 x.f2.length x.f2) (hc2 : x.f2.length ≤ c2)
    (hD1 : Kd.C (Kd.int .u8) w B1 y.f1.length y.f1) (hd1 : y.f1.length ≤ d1) (hD2 : Kd.C k47 w B2 y.f2.length y.f2) (hd2 : y.f2.length ≤ d2) :
    Calls Try.prog 11 #[.agg #[.bool x.f0, .slice A1 x.f1.length c1, .slice A2 x.f2.length c2], .agg #[.bool y.f0, .slice B1 y.f1.length d1, .slice B2 y.f2.length d2]] w
      fun e w' => e = .returned (.bool true) ∧ Below w.heap.size w w' := by
  cases hv : vP 16 65536 x with
  | false => exact back_no x y hx hv A1 A2 B1 B2 c1 c2 d1 d2 _ _ w hC1 hc1 hC2 hc2
  | true => exact back_yes x y hx hy hv A1 A2 B1 B2 c1 c2 d1 d2 w hC1 hc1 hC2 hc2 hD1 hd1 hD2 hd2
end Go.Proofs.Ytdjoekckhmggbaa.H
