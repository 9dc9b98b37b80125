import Derived.Test.YtdjoekckhmggbaaZF27
namespace Go.Proofs.Ytdjoekckhmggbaa.H
open Go.RowKit Go.Proofs.YtdjoekckhmggbaaW.PrintWords Go.Proofs.YtdjoekckhmggbaaW.PrintLast Go.Proofs.YtdjoekckhmggbaaW.PrintMore Go.Proofs.Ytdjoekckhmggbaa.PRF
attribute [local go_sem] max2_int min2_int max_two min_two max_three min_three max_four min_four
set_option linter.unusedVariables false
set_option linter.unusedSimpArgs false
theorem byt_four {x1 : List Int} {y0 y1 y2 y3 : S47} (h : BytI ⟨true, x1, [y0, y1, y2, y3]⟩) : ∀ y ∈ [y0, y1, y2, y3], Byt y.f1 := fun y hy => by
  cases h with
  | mk _ _ h => cases h y hy with | mk _ h _ => exact h
theorem rread_claim {b : List Int} (hB : Byt b) {x1 : List Int} {y0 y1 y2 y3 : S47} (hd : decodeP b = .ok ⟨true, x1, [y0, y1, y2, y3]⟩) (h0 : (rnumP y0).2 = 0) (h1 : (rnumP y1).2 = 0) (h2 : (rnumP y2).2 = 0) (hlt : (rnumP y1).1 < 1024) (hle : (rnumP y2).1 ≤ 1) (hl : y3.f1.length ≤ 4096) :
    proctorref01_Same.f (formP (itemF4 ⟨(rnumP y0).1, (rnumP y1).1, decide ((rnumP y2).1 = 1), y3.f1⟩)) b = some (!y3.f0) := by
  obtain ⟨hf, hv⟩ := decode_form b _ hB hd
  have hI := decode_byt hB hd
  have hb3 : Byt y3.f1 := byt_four hI y3 (by simp)
  cases hy : y3.f0 with
  | false =>
    have hr : readI ⟨true, x1, [y0, y1, y2, y3]⟩ = (⟨(rnumP y0).1, (rnumP y1).1, decide ((rnumP y2).1 = 1), y3.f1⟩, 0) := by
      unfold readI
      simp only
      rw [if_pos ⟨trivial, hy, h0, h1, h2, hlt, hle, hl⟩]
    have hw : wfP 16 ⟨true, x1, [y0, y1, y2, y3]⟩ = true := by
      unfold vP at hv
      simp only [Bool.and_eq_true] at hv
      exact hv.1
    obtain ⟨_, _, q3⟩ := readI_ok hI hw hr
    rw [q3, hf]
    exact same01_self b
  | true =>
    have hbi := item_byt ⟨(rnumP y0).1, (rnumP y1).1, decide ((rnumP y2).1 = 1), y3.f1⟩ hb3
    have hvi := item_vP ⟨(rnumP y0).1, (rnumP y1).1, decide ((rnumP y2).1 = 1), y3.f1⟩ hl
    have hlen : (formP (itemF4 ⟨(rnumP y0).1, (rnumP y1).1, decide ((rnumP y2).1 = 1), y3.f1⟩)).length ≤ 65536 := by
      unfold vP at hvi
      simp only [Bool.and_eq_true, decide_eq_true_eq] at hvi
      exact hvi.2
    rw [same01_f _ _ (formP_byt _ _ (Nat.le_refl _) hbi (by omega)) hB]
    rw [decide_eq_false]
    · rfl
    · intro he
      rw [← hf] at he
      have := form_inj _ _ hbi hI hvi hv he
      have h3 : (itemF4 ⟨(rnumP y0).1, (rnumP y1).1, decide ((rnumP y2).1 = 1), y3.f1⟩).f2 = [y0, y1, y2, y3] := by rw [this]
      simp only [itemF4, List.cons.injEq, and_true] at h3
      have h4 := h3.2.2.2
      rw [← h4] at hy
      cases hy
theorem rread_fr {y0 y1 : S47} {bl : Bool} {l : List Int} (h0 : Byt y0.f1) (h1 : Byt y1.f1) (hl : Byt l) (hlt : (rnumP y1).1 < 1024) : FrOk ⟨(rnumP y0).1, (rnumP y1).1, bl, l⟩ := by
  have r0 := rnumP_range y0 h0
  have r1 := rnumP_range y1 h1
  refine ⟨?_, ?_, hl⟩
  · simp [Lit.wf, IntKind.min, IntKind.max, IntKind.bits, IntKind.signed]; omega
  · simp [Lit.wf, IntKind.min, IntKind.max, IntKind.bits, IntKind.signed]; omega
set_option maxHeartbeats 4000000 in
set_option maxRecDepth 100000 in
theorem rread_any (b : List Int) (hB : Byt b) (A : Option Addr) (c : Nat) (w : World) (hC : Kd.C (Kd.int .u8) w A b.length b) (hc : b.length ≤ c) :
    Calls Try.prog 41 #[.slice A b.length c] w (ReadPost (readP b) w) := by
  have HB := Aside0.mk (Below.refl w.heap.size w)
  have HD := Aside0.mk (fun w' h1 => (rdecode_any A c b w' h1 hc hB))
  have HC := Aside0.mk hC
  obtain ⟨n, hn⟩ : ∃ n, n = b.length := ⟨_, rfl⟩
  have HRD : Aside0 (readP b = match decodeP b with | .error e => (z40, e) | .ok x => readI x) := ⟨rfl⟩
  have HERR := Aside0.mk (fun e (h : decodeP b = .error e) => decode_err h)
  have HBI := Aside0.mk (fun x (h : decodeP b = .ok x) => decode_byt hB h)
  have HC' := Aside0.mk hC
  generalize readP b = res at *
  rw [← hn] at HC HD ⊢
  have Hc := Aside0.mk hc
  have HN := Aside0.mk hn
  clear hC hc hn
  have HCL := Aside0.mk (fun x1 y0 y1 y2 y3 h => @rread_claim b hB x1 y0 y1 y2 y3 h)
  generalize decodeP b = dp at *
  clear hB
  have HB1 := Aside0.mk (below_alloc HB.out (.cells #[.int .u64 0, .int .i64 0, .bool false, .slice none 0 0] 40))
  have HG1 := Aside0.mk (blk_new w (.cells #[.int .u64 0, .int .i64 0, .bool false, .slice none 0 0] 40) _ rfl)
  go_enter Try.func41, Try.ntmps41
  go_wp2_with fail
  generalize (w.alloc (.cells #[.int .u64 0, .int .i64 0, .bool false, .slice none 0 0] 40)) = w1 at *
  obtain ⟨g1, hg1⟩ : ∃ g, g = w.heap.size := ⟨_, rfl⟩
  have HGE : Aside0 (w.heap.size ≤ g1) := ⟨by omega⟩
  rw [← hg1] at HG1 ⊢
  clear hg1
  refine (HD.out w1 (Kd.C_below HC.out HB1.out)).mono ?_
  rintro e w2 ⟨hE2, hp⟩
  have HB2 := Aside0.mk (below_step HB1.out hE2)
  have HG2 := Aside0.mk (blk_below HG1.out hE2)
  clear hE2
  cases dp with
  | error er =>
    obtain rfl := hp
    have her : (er != 0) = true := by have := HERR.out er rfl; simpa using this
    have HR : Aside0 (res = (z40, er)) := ⟨HRD.out⟩
    have HG3 := Aside0.mk (blk_alloc HG2.out (.cells #[.bool false, .slice none 0 0, .slice none 0 0] 47))
    have hcf := cf4 HG3
    go_wp2_with fail
    refine bodyPost_ret (results_ct rfl _ _ g1 40 #[.int .u64 0, .int .i64 0, .bool false, .slice none 0 0] (0, 0) _ rfl (put4 HG3.out) Try.underlying40 rfl (by kernel_rfl)) rfl ?_
    obtain rfl := HR.out
    exact ⟨below4 (below_alloc HB2.out _) HGE.out, none, 0, rfl, Nat.le_refl _, Kd.C_nil _ _⟩
  | ok x =>
    obtain ⟨v1, v2, rfl, hR1, hR2⟩ := hp
    have HR : Aside0 (res = readI x) := ⟨HRD.out⟩
    have HBX := Aside0.mk (HBI.out x rfl)
    have HST := Aside0.mk (fun h => readI_str (x := x) h)
    have HLN := Aside0.mk (fun h => readI_len (x := x) h)
    obtain ⟨x0, x1, x2⟩ := x
    dsimp only at hR1 hR2 HST HLN ⊢
    obtain ⟨A1, c1, rfl⟩ := Kd.R_slice hR1
    generalize x1.length = m1 at *
    have HGLT : Aside0 (g1 < w1.heap.size) := ⟨blk_lt HG1.out⟩
    by_cases hx0 : x0 = true
    · subst hx0
      by_cases hx4 : x2.length = 4
      · obtain ⟨y0, y1, y2, y3, rfl⟩ := four_of hx4
        obtain ⟨g2, c2, rfl, hc2, hg2, hrows⟩ := rows47 hR2 (by simp)
        have HBY := HBX.out
        have byt : ∀ y ∈ [y0, y1, y2, y3], Byt y.f1 := fun y hy => by cases HBY with | mk _ _ h => cases h y hy with | mk _ h _ => exact h
        obtain ⟨P0, p0, Q0, q0, u00, u01, u02, l01, C01, l02, C02, F01⟩ := hrows 0 (by simp)
        obtain ⟨P1, p1, Q1, q1, u10, u11, u12, l11, C11, l12, C12, F11⟩ := hrows 1 (by simp)
        obtain ⟨P2, p2, Q2, q2, u20, u21, u22, l21, C21, l22, C22, F21⟩ := hrows 2 (by simp)
        obtain ⟨P3, p3, Q3, q3, u30, u31, u32, l31, C31, l32, C32, F31⟩ := hrows 3 (by simp)
        simp only [List.length_cons, List.length_nil, List.getElem_cons_zero, List.getElem_cons_succ, Nat.zero_mul, Nat.one_mul, Nat.zero_add, Nat.reduceAdd, Nat.reduceMul] at u00 u01 u02 l01 C01 l02 C02 F01 u10 u11 u12 l11 C11 l12 C12 F11 u20 u21 u22 l21 C21 l22 C22 F21 u30 u31 u32 l31 C31 l32 C32 F31 hc2
        have HRN0 := Aside0.mk (fun w' (h : Below w2.heap.size w2 w') => rnum_call y0 (byt y0 (by simp)) w' (Kd.C_below C01 h) l01 (Kd.C_below C02 h) l02)
        have RG0 := rnumP_range y0 (byt y0 (by simp))
        have HU0 := Aside0.mk (fun w' (h : Below w2.heap.size w2 w') => (⟨pw_cell_below h u00, pw_cell_below h u01, pw_cell_below h u02⟩ : _ ∧ _ ∧ _))
        have HRN1 := Aside0.mk (fun w' (h : Below w2.heap.size w2 w') => rnum_call y1 (byt y1 (by simp)) w' (Kd.C_below C11 h) l11 (Kd.C_below C12 h) l12)
        have RG1 := rnumP_range y1 (byt y1 (by simp))
        have HU1 := Aside0.mk (fun w' (h : Below w2.heap.size w2 w') => (⟨pw_cell_below h u10, pw_cell_below h u11, pw_cell_below h u12⟩ : _ ∧ _ ∧ _))
        have HRN2 := Aside0.mk (fun w' (h : Below w2.heap.size w2 w') => rnum_call y2 (byt y2 (by simp)) w' (Kd.C_below C21 h) l21 (Kd.C_below C22 h) l22)
        have RG2 := rnumP_range y2 (byt y2 (by simp))
        have HU2 := Aside0.mk (fun w' (h : Below w2.heap.size w2 w') => (⟨pw_cell_below h u20, pw_cell_below h u21, pw_cell_below h u22⟩ : _ ∧ _ ∧ _))
        have HU3 := Aside0.mk (fun w' (h : Below w2.heap.size w2 w') => (⟨pw_cell_below h u30, pw_cell_below h u31, pw_cell_below h u32⟩ : _ ∧ _ ∧ _))
        have HC3 := Aside0.mk C31
        have HF3 := Aside0.mk F31
        have HL3 := Aside0.mk l31
        have HRI : Aside0 (res = if y3.f0 = false ∧ (rnumP y0).2 = 0 ∧ (rnumP y1).2 = 0 ∧ (rnumP y2).2 = 0 ∧ (rnumP y1).1 < 1024 ∧ (rnumP y2).1 ≤ 1 ∧ y3.f1.length ≤ 4096 then (⟨(rnumP y0).1, (rnumP y1).1, decide ((rnumP y2).1 = 1), y3.f1⟩, 0) else (z40, 8)) := ⟨by rw [HR.out]; unfold readI; simp⟩
        have HFRK := Aside0.mk (fun bl (h : (rnumP y1).1 < 1024) => rread_fr (y0 := y0) (y1 := y1) (bl := bl) (byt y0 (by simp)) (byt y1 (by simp)) (byt y3 (by simp)) h)
        have HCLM := Aside0.mk (HCL.out x1 y0 y1 y2 y3 rfl)
        clear HCL HBY byt hrows hR2 hR1 HBX HST HLN HR HERR HBI HRD HD hx4 u00 u01 u02 l01 C01 l02 C02 F01 u10 u11 u12 l11 C11 l12 C12 F11 u20 u21 u22 l21 C21 l22 C22 F21 u30 u31 u32 l31 C31 l32 C32 F31
        generalize rnumP y0 = r0 at *
        generalize rnumP y1 = r1 at *
        generalize rnumP y2 = r2 at *
        obtain ⟨a0, e0⟩ := r0
        obtain ⟨a1, e1⟩ := r1
        obtain ⟨a2, e2⟩ := r2
        obtain ⟨y30, y31, y32⟩ := y3
        dsimp only at *
        obtain ⟨n3, hn3⟩ : ∃ n, n = y31.length := ⟨_, rfl⟩
        have HN3 := Aside0.mk hn3
        rw [← hn3] at HU3
        clear hn3
        generalize y32.length = n32 at *
        have HE3 := Aside0.mk (below_alloc (Below.refl w2.heap.size w2) (.cells #[.bool true, .slice A1 m1 c1, .slice (some ⟨g2, 0, none⟩) 4 c2] 47))
        have HG3 := Aside0.mk (blk_alloc HG2.out (.cells #[.bool true, .slice A1 m1 c1, .slice (some ⟨g2, 0, none⟩) 4 c2] 47))
        have hcf := cf4 HG3
        have hu3 := HU3.out _ HE3.out
        have HGT := Aside0.mk (blk_new w2 (.cells #[.bool true, .slice A1 m1 c1, .slice (some ⟨g2, 0, none⟩) 4 c2] 47) _ rfl)
        have HGTa := Aside0.mk (blk_alloc HGT.out (.cells #[.int .u64 0, .int .u64 0, .int .u64 0] 98))
        have HG4 := Aside0.mk (blk_alloc HG3.out (.cells #[.int .u64 0, .int .u64 0, .int .u64 0] 98))
        have HE4 := Aside0.mk (below_alloc HE3.out (.cells #[.int .u64 0, .int .u64 0, .int .u64 0] 98))
        have HG6 := Aside0.mk (blk_new (w2.alloc (.cells #[.bool true, .slice A1 m1 c1, .slice (some ⟨g2, 0, none⟩) 4 c2] 47)) (.cells #[.int .u64 0, .int .u64 0, .int .u64 0] 98) (w2.heap.size + 1) (by simp))
        go_wp2_with fail
        generalize ((w2.alloc (.cells #[.bool true, .slice A1 m1 c1, .slice (some ⟨g2, 0, none⟩) 4 c2] 47)).alloc (.cells #[.int .u64 0, .int .u64 0, .int .u64 0] 98)) = w4 at *
        obtain ⟨g6, hg6⟩ : ∃ g, g = w2.heap.size + 1 := ⟨_, rfl⟩
        obtain ⟨g3, hg3⟩ : ∃ g, g = w2.heap.size := ⟨_, rfl⟩
        have HX : Aside0 (w2.heap.size ≤ g6 ∧ g1 ≠ g6 ∧ g3 ≠ g6 ∧ w.heap.size ≤ g6) := ⟨by have := blk_lt HG2.out; have := HB2.out.size; omega⟩
        rw [← hg6] at HG6 ⊢
        rw [← hg3] at HGTa ⊢
        clear hg6 hg3 hcf hu3 HGT HG3 HE3
        go_loopw [7] (fun v7 wr => ∃ i : Nat, (i = 0 ∧ v7 = .int .i64 0 ∨ i = 1 ∧ v7 = .int .i64 1 ∨ i = 2 ∧ v7 = .int .i64 2 ∨ i = 3 ∧ v7 = .int .i64 3) ∧ Aside0 (wr.heap[g6]? = some (.cells (arrN a0 a1 a2 i) 98 (0, 0))) ∧ Aside0 (Below w2.heap.size w2 wr) ∧ Aside0 (wr.heap[g3]? = some (.cells #[.bool true, .slice A1 m1 c1, .slice (some ⟨g2, 0, none⟩) 4 c2] 47 (0, 0))) ∧ Aside0 (wr.heap[g1]? = some (.cells #[.int .u64 0, .int .i64 0, .bool false, .slice none 0 0] 40 (0, 0))) ∧ Aside0 (Below w.heap.size w wr) ∧ Aside0 ((0 < i → e0 = 0) ∧ (1 < i → e1 = 0) ∧ (2 < i → e2 = 0))) (fun v7 _ => 3 - (intOf v7).toNat)
        case atStart => exact ⟨0, .inl ⟨rfl, rfl⟩, HG6, HE4, HGTa, HG4, ⟨below_step HB2.out HE4.out⟩, ⟨by simp⟩⟩
        case round =>
          obtain ⟨i, hi, HAr, HBr, HTr, HGr, HWr, HEr⟩ := hrel
          have hcg := cf3 HTr
          rcases hi with ⟨rfl, rfl⟩ | ⟨rfl, rfl⟩ | ⟨rfl, rfl⟩ | ⟨rfl, rfl⟩
          · have HA : Aside0 (wr.heap[g6]? = some (.cells #[.int .u64 0, .int .u64 0, .int .u64 0] 98 (0, 0))) := HAr
            have hcf6 := cf3 HA
            have hu := HU0.out _ HBr.out
            go_wp2_with fail
            refine (HRN0.out _ HBr.out).mono ?_
            rintro e w5 ⟨rfl, hE5⟩
            have HB5 := Aside0.mk (below_step HBr.out hE5)
            have HW5 := Aside0.mk (below_step HWr.out hE5)
            have HT5 := Aside0.mk (blk_below HTr.out hE5)
            have HG5 := Aside0.mk (blk_below HGr.out hE5)
            have HA5 := Aside0.mk (blk_below HA.out hE5)
            have hcf65 := cf3 HA5
            clear hE5 hu hcf6 hcg
            by_cases he : e0 = 0
            · subst he
              have HA6 : Aside0 ((w5.setCell ⟨g6, 0, none⟩ (.int .u64 a0)).heap[g6]? = some (.cells (arrN a0 a1 a2 1) 98 (0, 0))) := ⟨blk_put HA5.out 0 _ rfl⟩
              go_wp2_with fail
              go_roundw
              case rel => (repeat apply Exists.intro); exact ⟨⟨1, by simp, HA6, ⟨below_set HB5.out HX.out.1⟩, ⟨blk_far HT5.out HX.out.2.2.1 _⟩, ⟨blk_far HG5.out HX.out.2.1 _⟩, ⟨below_set HW5.out HX.out.2.2.2⟩, ⟨by have := HEr.out; simp at this ⊢; try exact this⟩⟩, rfl⟩
              case measure => simp [intOf]
            · have hne : (e0 != 0) = true := by simpa using he
              have HRR : Aside0 (res = (z40, 8)) := ⟨by rw [HRI.out, if_neg (by simp [he])]⟩
              have hcfz := cf4 HG5
              clear he
              go_wp2_with fail
              refine bodyPost_ret (results_ct rfl _ _ g1 40 #[.int .u64 0, .int .i64 0, .bool false, .slice none 0 0] (0, 0) _ rfl (put4 (HG5.out)) Try.underlying40 rfl (by kernel_rfl)) rfl ?_
              obtain rfl := HRR.out
              exact ⟨below4 (HW5.out) HGE.out, none, 0, rfl, Nat.le_refl _, Kd.C_nil _ _⟩
          · have HA : Aside0 (wr.heap[g6]? = some (.cells #[.int .u64 a0, .int .u64 0, .int .u64 0] 98 (0, 0))) := HAr
            have hcf6 := cf3 HA
            have hu := HU1.out _ HBr.out
            go_wp2_with fail
            refine (HRN1.out _ HBr.out).mono ?_
            rintro e w5 ⟨rfl, hE5⟩
            have HB5 := Aside0.mk (below_step HBr.out hE5)
            have HW5 := Aside0.mk (below_step HWr.out hE5)
            have HT5 := Aside0.mk (blk_below HTr.out hE5)
            have HG5 := Aside0.mk (blk_below HGr.out hE5)
            have HA5 := Aside0.mk (blk_below HA.out hE5)
            have hcf65 := cf3 HA5
            clear hE5 hu hcf6 hcg
            by_cases he : e1 = 0
            · subst he
              have HA6 : Aside0 ((w5.setCell ⟨g6, 1, none⟩ (.int .u64 a1)).heap[g6]? = some (.cells (arrN a0 a1 a2 2) 98 (0, 0))) := ⟨blk_put HA5.out 1 _ rfl⟩
              go_wp2_with fail
              go_roundw
              case rel => (repeat apply Exists.intro); exact ⟨⟨2, by simp, HA6, ⟨below_set HB5.out HX.out.1⟩, ⟨blk_far HT5.out HX.out.2.2.1 _⟩, ⟨blk_far HG5.out HX.out.2.1 _⟩, ⟨below_set HW5.out HX.out.2.2.2⟩, ⟨by have := HEr.out; simp at this ⊢; try exact this⟩⟩, rfl⟩
              case measure => simp [intOf]
            · have hne : (e1 != 0) = true := by simpa using he
              have HRR : Aside0 (res = (z40, 8)) := ⟨by rw [HRI.out, if_neg (by simp [he])]⟩
              have hcfz := cf4 HG5
              clear he
              go_wp2_with fail
              refine bodyPost_ret (results_ct rfl _ _ g1 40 #[.int .u64 0, .int .i64 0, .bool false, .slice none 0 0] (0, 0) _ rfl (put4 (HG5.out)) Try.underlying40 rfl (by kernel_rfl)) rfl ?_
              obtain rfl := HRR.out
              exact ⟨below4 (HW5.out) HGE.out, none, 0, rfl, Nat.le_refl _, Kd.C_nil _ _⟩
          · have HA : Aside0 (wr.heap[g6]? = some (.cells #[.int .u64 a0, .int .u64 a1, .int .u64 0] 98 (0, 0))) := HAr
            have hcf6 := cf3 HA
            have hu := HU2.out _ HBr.out
            go_wp2_with fail
            refine (HRN2.out _ HBr.out).mono ?_
            rintro e w5 ⟨rfl, hE5⟩
            have HB5 := Aside0.mk (below_step HBr.out hE5)
            have HW5 := Aside0.mk (below_step HWr.out hE5)
            have HT5 := Aside0.mk (blk_below HTr.out hE5)
            have HG5 := Aside0.mk (blk_below HGr.out hE5)
            have HA5 := Aside0.mk (blk_below HA.out hE5)
            have hcf65 := cf3 HA5
            clear hE5 hu hcf6 hcg
            by_cases he : e2 = 0
            · subst he
              have HA6 : Aside0 ((w5.setCell ⟨g6, 2, none⟩ (.int .u64 a2)).heap[g6]? = some (.cells (arrN a0 a1 a2 3) 98 (0, 0))) := ⟨blk_put HA5.out 2 _ rfl⟩
              go_wp2_with fail
              go_roundw
              case rel => (repeat apply Exists.intro); exact ⟨⟨3, by simp, HA6, ⟨below_set HB5.out HX.out.1⟩, ⟨blk_far HT5.out HX.out.2.2.1 _⟩, ⟨blk_far HG5.out HX.out.2.1 _⟩, ⟨below_set HW5.out HX.out.2.2.2⟩, ⟨by have := HEr.out; simp at this ⊢; try exact this⟩⟩, rfl⟩
              case measure => simp [intOf]
            · have hne : (e2 != 0) = true := by simpa using he
              have HRR : Aside0 (res = (z40, 8)) := ⟨by rw [HRI.out, if_neg (by simp [he])]⟩
              have hcfz := cf4 HG5
              clear he
              go_wp2_with fail
              refine bodyPost_ret (results_ct rfl _ _ g1 40 #[.int .u64 0, .int .i64 0, .bool false, .slice none 0 0] (0, 0) _ rfl (put4 (HG5.out)) Try.underlying40 rfl (by kernel_rfl)) rfl ?_
              obtain rfl := HRR.out
              exact ⟨below4 (HW5.out) HGE.out, none, 0, rfl, Nat.le_refl _, Kd.C_nil _ _⟩
          · obtain ⟨z0, z1, z2⟩ := HEr.out
            obtain rfl := z0 (by omega)
            obtain rfl := z1 (by omega)
            obtain rfl := z2 (by omega)
            have HA : Aside0 (wr.heap[g6]? = some (.cells #[.int .u64 a0, .int .u64 a1, .int .u64 a2] 98 (0, 0))) := HAr
            have hcf6 := cf3 HA
            have hcf1 := cf4 HGr
            have hu := HU3.out _ HBr.out
            clear z0 z1 z2 HRN0 HRN1 HRN2 HU0 HU1 HU2
            by_cases h1 : a1 < 1024
            · by_cases h2 : a2 ≤ 1
              · have hd1 : decide (1024 ≤ a1) = false := decide_eq_false (by omega)
                have hd2 : decide (1 < a2) = false := decide_eq_false (by omega)
                have hw1 : IntKind.i64.wrap a1 = a1 := IntWalk.i64_in _ (by omega)
                have h3 : a2 = 0 ∨ a2 = 1 := by omega
                rcases h3 with rfl | rfl
                · have HK := Aside0.mk (show ∀ W', Below wr.heap.size wr W' → (fun W' => Below wr.heap.size wr W' ∧ W'.cell? ⟨g6, 0, none⟩ = some (.int .u64 a0) ∧ W'.cell? ⟨g6, 1, none⟩ = some (.int .u64 a1) ∧ W'.cell? ⟨g6, 2, none⟩ = some (.int .u64 0) ∧ W'.cell? ⟨g3, 2, none⟩ = some (.slice (some ⟨g2, 0, none⟩) 4 c2) ∧ W'.cell? ⟨g2, 10, none⟩ = some (.slice P3 n3 p3)) W' from fun W' h => ⟨h, pw_cell_below h hcf6.1, pw_cell_below h hcf6.2.1, pw_cell_below h hcf6.2.2.1, pw_cell_below h hcg.2.2.1, pw_cell_below h hu.2.1⟩)
                  have hS0 := below_drew (Below.refl wr.heap.size wr)
                  have HWR : Aside0 (∀ w', Below w2.heap.size w2 w' → Calls Try.prog 39 #[.agg #[.int .u64 a0, .int .i64 a1, .bool false, .slice P3 n3 p3]] w' (WritePost (if y31.length ≤ 4096 then (formP (itemF4 ⟨a0, a1, false, y31⟩), 0) else ([], 2)) w')) := ⟨fun w' h => by
                    have h0 := rwrite_any ⟨a0, a1, false, y31⟩ (HFRK.out false h1) P3 p3 w' (Kd.C_below HC3.out h) HL3.out
                    have hm : mayF ⟨a0, a1, false, y31⟩ = decide (y31.length ≤ 4096) := by
                      unfold mayF
                      rw [decide_eq_true (show (0 : Int) ≤ a1 by omega), decide_eq_true (show a1 < 1024 by omega)]
                      rfl
                    have hw : writeP ⟨a0, a1, false, y31⟩ = if y31.length ≤ 4096 then (formP (itemF4 ⟨a0, a1, false, y31⟩), 0) else ([], 2) := by
                      unfold writeP
                      rw [hm]
                      by_cases hl : y31.length ≤ 4096
                      · rw [decide_eq_true hl, if_pos rfl, if_pos hl]
                      · rw [decide_eq_false hl, if_neg (by simp), if_neg hl]
                    rw [hw] at h0
                    rw [HN3.out]
                    exact h0⟩
                  have HGN : Aside0 ((wr.alloc (.cells #[.int .u64 a0, .int .i64 a1, .bool false, .slice P3 n3 p3] 40)).drew.heap[wr.heap.size]? = some (.cells #[.int .u64 a0, .int .i64 a1, .bool false, .slice P3 n3 p3] 40 (0, 0))) := ⟨blk_new wr _ _ rfl⟩
                  have HED := Aside0.mk (below_drew (below_alloc (Below.refl wr.heap.size wr) (.cells #[.int .u64 a0, .int .i64 a1, .bool false, .slice P3 n3 p3] 40)))
                  have hcn := cf4 HGN
                  clear h2
                  go_wp2_with fail
                  go_region_held3 (fun W' => Below wr.heap.size wr W' ∧ W'.cell? ⟨g6, 0, none⟩ = some (.int .u64 a0) ∧ W'.cell? ⟨g6, 1, none⟩ = some (.int .u64 a1) ∧ W'.cell? ⟨g6, 2, none⟩ = some (.int .u64 0) ∧ W'.cell? ⟨g3, 2, none⟩ = some (.slice (some ⟨g2, 0, none⟩) 4 c2) ∧ W'.cell? ⟨g2, 10, none⟩ = some (.slice P3 n3 p3)) (first | exact HK.out _ (by assumption) | exact HK.out _ (below_drew (below_alloc (Below.refl _ _) _))) (fail)
                  go_wp2_with fail
                  generalize ((wr.alloc (.cells #[.int .u64 a0, .int .i64 a1, .bool false, .slice P3 n3 p3] 40)).drew) = w6 at *
                  obtain ⟨g8, hg8⟩ : ∃ g, g = wr.heap.size := ⟨_, rfl⟩
                  rw [← hg8] at HGN ⊢
                  clear hg8 hcn
                  refine (HWR.out w6 (HBr.out.trans (HED.out.mono HBr.out.size))).mono ?_
                  rintro e w7 ⟨hE7, v7, rfl, hR7⟩
                  obtain ⟨A7, c7, rfl⟩ := Kd.R_slice hR7
                  have HR7 := Aside0.mk (Kd.R_reads' hR7)
                  have HGN7 := Aside0.mk (blk_below HGN.out hE7)
                  have HG17 := Aside0.mk (blk_below (blk_below HGr.out HED.out) hE7)
                  have HW7 := Aside0.mk (below_step (below_step HWr.out HED.out) hE7)
                  have HB7 := Aside0.mk (below_step (HBr.out.trans (HED.out.mono HBr.out.size)) hE7)
                  have hcn7 := cf4 HGN7
                  have hcf17 := cf4 HG17
                  clear hE7 hR7
                  by_cases hl : y31.length ≤ 4096
                  · rw [if_pos hl] at HR7 ⊢
                    have HSB : Aside0 (proctorref01_Same.f (formP (itemF4 ⟨a0, a1, false, y31⟩)) b = some (!y30)) := ⟨HCLM.out trivial trivial trivial h1 (by omega) hl⟩
                    have HRK : Aside0 (y30 = false → res = (⟨a0, a1, false, y31⟩, 0)) := ⟨fun h => by rw [HRI.out, if_pos ⟨h, trivial, trivial, trivial, h1, by omega, hl⟩]; simp⟩
                    have HRB : Aside0 (y30 = true → res = (z40, 8)) := ⟨fun h => by rw [HRI.out, if_neg (by simp [h])]⟩
                    have HFB := Aside0.mk (Kd.F_mono (Kd.F_below HF3.out HB7.out) (ok' := fun k => k ≠ g1) (fun k hk => by have := HGLT.out; omega))
                    have hee : ((0 : Int) != 0) = false := rfl
                    clear hl
                    dsimp only at HR7 ⊢
                    generalize formP (itemF4 ⟨a0, a1, false, y31⟩) = fx at *
                    obtain ⟨m7, hm7⟩ : ∃ m, m = fx.length := ⟨_, rfl⟩
                    have HM7 := Aside0.mk hm7
                    rw [← hm7]
                    clear hm7
                    go_wp2_with fail
                    rw [HM7.out, HN.out]
                    refine (proctorref01_Same.calls A7 c7 fx A c b (!y30) _ HR7.out.2.2 HR7.out.2.1 (Kd.C_below HC'.out HW7.out) Hc.out HSB.out).mono ?_
                    rintro e w8 ⟨rfl, hd8⟩
                    have HG18 := Aside0.mk (blk_below HG17.out hd8.below)
                    have HW8 := Aside0.mk (below_step HW7.out hd8.below)
                    have HGN8 := Aside0.mk (blk_below HGN7.out hd8.below)
                    have HFB8 := Aside0.mk (Kd.F_below HFB.out hd8.below)
                    have hcf18 := cf4 HG18
                    have hcn8 := cf4 HGN8
                    clear hd8
                    cases y30 with
                    | true =>
                      have HRR : Aside0 (res = (z40, 8)) := ⟨HRB.out rfl⟩
                      simp only [Bool.not_true]
                      go_wp2_with fail
                      refine bodyPost_ret (results_ct rfl _ _ g1 40 #[.int .u64 0, .int .i64 0, .bool false, .slice none 0 0] (0, 0) _ rfl (put4 (HG18.out)) Try.underlying40 rfl (by kernel_rfl)) rfl ?_
                      obtain rfl := HRR.out
                      exact ⟨below4 (HW8.out) HGE.out, none, 0, rfl, Nat.le_refl _, Kd.C_nil _ _⟩
                    | false =>
                      have HRR : Aside0 (res = (⟨a0, a1, false, y31⟩, 0)) := ⟨HRK.out rfl⟩
                      simp only [Bool.not_false]
                      go_wp2_with fail
                      refine bodyPost_ret (results_ct rfl _ _ g1 40 #[.int .u64 a0, .int .i64 a1, .bool false, .slice P3 n3 p3] (0, 0) _ rfl (put4 HG18.out) Try.underlying40 rfl (by kernel_rfl)) rfl ?_
                      obtain rfl := HRR.out
                      refine ⟨below4 HW8.out HGE.out, P3, p3, by rw [HN3.out]; rfl, HL3.out, ?_⟩
                      exact Kd.F_now (Kd.F_far (p := ⟨g1, 3, none⟩) (Kd.F_far (p := ⟨g1, 2, none⟩) (Kd.F_far (p := ⟨g1, 1, none⟩) (Kd.F_far (p := ⟨g1, 0, none⟩) HFB8.out (fun _ h => h) _) (fun _ h => h) _) (fun _ h => h) _) (fun _ h => h) _)
                  · rw [if_neg hl] at HR7 ⊢
                    have HRR : Aside0 (res = (z40, 8)) := ⟨by rw [HRI.out, if_neg (by simp [hl])]⟩
                    clear hl
                    dsimp only at HR7 ⊢
                    go_wp2_with fail
                    refine bodyPost_ret (results_ct rfl _ _ g1 40 #[.int .u64 0, .int .i64 0, .bool false, .slice none 0 0] (0, 0) _ rfl (put4 (HG17.out)) Try.underlying40 rfl (by kernel_rfl)) rfl ?_
                    obtain rfl := HRR.out
                    exact ⟨below4 (HW7.out) HGE.out, none, 0, rfl, Nat.le_refl _, Kd.C_nil _ _⟩
                · have HK := Aside0.mk (show ∀ W', Below wr.heap.size wr W' → (fun W' => Below wr.heap.size wr W' ∧ W'.cell? ⟨g6, 0, none⟩ = some (.int .u64 a0) ∧ W'.cell? ⟨g6, 1, none⟩ = some (.int .u64 a1) ∧ W'.cell? ⟨g6, 2, none⟩ = some (.int .u64 1) ∧ W'.cell? ⟨g3, 2, none⟩ = some (.slice (some ⟨g2, 0, none⟩) 4 c2) ∧ W'.cell? ⟨g2, 10, none⟩ = some (.slice P3 n3 p3)) W' from fun W' h => ⟨h, pw_cell_below h hcf6.1, pw_cell_below h hcf6.2.1, pw_cell_below h hcf6.2.2.1, pw_cell_below h hcg.2.2.1, pw_cell_below h hu.2.1⟩)
                  have hS0 := below_drew (Below.refl wr.heap.size wr)
                  have HWR : Aside0 (∀ w', Below w2.heap.size w2 w' → Calls Try.prog 39 #[.agg #[.int .u64 a0, .int .i64 a1, .bool true, .slice P3 n3 p3]] w' (WritePost (if y31.length ≤ 4096 then (formP (itemF4 ⟨a0, a1, true, y31⟩), 0) else ([], 2)) w')) := ⟨fun w' h => by
                    have h0 := rwrite_any ⟨a0, a1, true, y31⟩ (HFRK.out true h1) P3 p3 w' (Kd.C_below HC3.out h) HL3.out
                    have hm : mayF ⟨a0, a1, true, y31⟩ = decide (y31.length ≤ 4096) := by
                      unfold mayF
                      rw [decide_eq_true (show (0 : Int) ≤ a1 by omega), decide_eq_true (show a1 < 1024 by omega)]
                      rfl
                    have hw : writeP ⟨a0, a1, true, y31⟩ = if y31.length ≤ 4096 then (formP (itemF4 ⟨a0, a1, true, y31⟩), 0) else ([], 2) := by
                      unfold writeP
                      rw [hm]
                      by_cases hl : y31.length ≤ 4096
                      · rw [decide_eq_true hl, if_pos rfl, if_pos hl]
                      · rw [decide_eq_false hl, if_neg (by simp), if_neg hl]
                    rw [hw] at h0
                    rw [HN3.out]
                    exact h0⟩
                  have HGN : Aside0 ((wr.alloc (.cells #[.int .u64 a0, .int .i64 a1, .bool true, .slice P3 n3 p3] 40)).drew.heap[wr.heap.size]? = some (.cells #[.int .u64 a0, .int .i64 a1, .bool true, .slice P3 n3 p3] 40 (0, 0))) := ⟨blk_new wr _ _ rfl⟩
                  have HED := Aside0.mk (below_drew (below_alloc (Below.refl wr.heap.size wr) (.cells #[.int .u64 a0, .int .i64 a1, .bool true, .slice P3 n3 p3] 40)))
                  have hcn := cf4 HGN
                  clear h2
                  go_wp2_with fail
                  go_region_held3 (fun W' => Below wr.heap.size wr W' ∧ W'.cell? ⟨g6, 0, none⟩ = some (.int .u64 a0) ∧ W'.cell? ⟨g6, 1, none⟩ = some (.int .u64 a1) ∧ W'.cell? ⟨g6, 2, none⟩ = some (.int .u64 1) ∧ W'.cell? ⟨g3, 2, none⟩ = some (.slice (some ⟨g2, 0, none⟩) 4 c2) ∧ W'.cell? ⟨g2, 10, none⟩ = some (.slice P3 n3 p3)) (first | exact HK.out _ (by assumption) | exact HK.out _ (below_drew (below_alloc (Below.refl _ _) _))) (fail)
                  go_wp2_with fail
                  generalize ((wr.alloc (.cells #[.int .u64 a0, .int .i64 a1, .bool true, .slice P3 n3 p3] 40)).drew) = w6 at *
                  obtain ⟨g8, hg8⟩ : ∃ g, g = wr.heap.size := ⟨_, rfl⟩
                  rw [← hg8] at HGN ⊢
                  clear hg8 hcn
                  refine (HWR.out w6 (HBr.out.trans (HED.out.mono HBr.out.size))).mono ?_
                  rintro e w7 ⟨hE7, v7, rfl, hR7⟩
                  obtain ⟨A7, c7, rfl⟩ := Kd.R_slice hR7
                  have HR7 := Aside0.mk (Kd.R_reads' hR7)
                  have HGN7 := Aside0.mk (blk_below HGN.out hE7)
                  have HG17 := Aside0.mk (blk_below (blk_below HGr.out HED.out) hE7)
                  have HW7 := Aside0.mk (below_step (below_step HWr.out HED.out) hE7)
                  have HB7 := Aside0.mk (below_step (HBr.out.trans (HED.out.mono HBr.out.size)) hE7)
                  have hcn7 := cf4 HGN7
                  have hcf17 := cf4 HG17
                  clear hE7 hR7
                  by_cases hl : y31.length ≤ 4096
                  · rw [if_pos hl] at HR7 ⊢
                    have HSB : Aside0 (proctorref01_Same.f (formP (itemF4 ⟨a0, a1, true, y31⟩)) b = some (!y30)) := ⟨HCLM.out trivial trivial trivial h1 (by omega) hl⟩
                    have HRK : Aside0 (y30 = false → res = (⟨a0, a1, true, y31⟩, 0)) := ⟨fun h => by rw [HRI.out, if_pos ⟨h, trivial, trivial, trivial, h1, by omega, hl⟩]; simp⟩
                    have HRB : Aside0 (y30 = true → res = (z40, 8)) := ⟨fun h => by rw [HRI.out, if_neg (by simp [h])]⟩
                    have HFB := Aside0.mk (Kd.F_mono (Kd.F_below HF3.out HB7.out) (ok' := fun k => k ≠ g1) (fun k hk => by have := HGLT.out; omega))
                    have hee : ((0 : Int) != 0) = false := rfl
                    clear hl
                    dsimp only at HR7 ⊢
                    generalize formP (itemF4 ⟨a0, a1, true, y31⟩) = fx at *
                    obtain ⟨m7, hm7⟩ : ∃ m, m = fx.length := ⟨_, rfl⟩
                    have HM7 := Aside0.mk hm7
                    rw [← hm7]
                    clear hm7
                    go_wp2_with fail
                    rw [HM7.out, HN.out]
                    refine (proctorref01_Same.calls A7 c7 fx A c b (!y30) _ HR7.out.2.2 HR7.out.2.1 (Kd.C_below HC'.out HW7.out) Hc.out HSB.out).mono ?_
                    rintro e w8 ⟨rfl, hd8⟩
                    have HG18 := Aside0.mk (blk_below HG17.out hd8.below)
                    have HW8 := Aside0.mk (below_step HW7.out hd8.below)
                    have HGN8 := Aside0.mk (blk_below HGN7.out hd8.below)
                    have HFB8 := Aside0.mk (Kd.F_below HFB.out hd8.below)
                    have hcf18 := cf4 HG18
                    have hcn8 := cf4 HGN8
                    clear hd8
                    cases y30 with
                    | true =>
                      have HRR : Aside0 (res = (z40, 8)) := ⟨HRB.out rfl⟩
                      simp only [Bool.not_true]
                      go_wp2_with fail
                      refine bodyPost_ret (results_ct rfl _ _ g1 40 #[.int .u64 0, .int .i64 0, .bool false, .slice none 0 0] (0, 0) _ rfl (put4 (HG18.out)) Try.underlying40 rfl (by kernel_rfl)) rfl ?_
                      obtain rfl := HRR.out
                      exact ⟨below4 (HW8.out) HGE.out, none, 0, rfl, Nat.le_refl _, Kd.C_nil _ _⟩
                    | false =>
                      have HRR : Aside0 (res = (⟨a0, a1, true, y31⟩, 0)) := ⟨HRK.out rfl⟩
                      simp only [Bool.not_false]
                      go_wp2_with fail
                      refine bodyPost_ret (results_ct rfl _ _ g1 40 #[.int .u64 a0, .int .i64 a1, .bool true, .slice P3 n3 p3] (0, 0) _ rfl (put4 HG18.out) Try.underlying40 rfl (by kernel_rfl)) rfl ?_
                      obtain rfl := HRR.out
                      refine ⟨below4 HW8.out HGE.out, P3, p3, by rw [HN3.out]; rfl, HL3.out, ?_⟩
                      exact Kd.F_now (Kd.F_far (p := ⟨g1, 3, none⟩) (Kd.F_far (p := ⟨g1, 2, none⟩) (Kd.F_far (p := ⟨g1, 1, none⟩) (Kd.F_far (p := ⟨g1, 0, none⟩) HFB8.out (fun _ h => h) _) (fun _ h => h) _) (fun _ h => h) _) (fun _ h => h) _)
                  · rw [if_neg hl] at HR7 ⊢
                    have HRR : Aside0 (res = (z40, 8)) := ⟨by rw [HRI.out, if_neg (by simp [hl])]⟩
                    clear hl
                    dsimp only at HR7 ⊢
                    go_wp2_with fail
                    refine bodyPost_ret (results_ct rfl _ _ g1 40 #[.int .u64 0, .int .i64 0, .bool false, .slice none 0 0] (0, 0) _ rfl (put4 (HG17.out)) Try.underlying40 rfl (by kernel_rfl)) rfl ?_
                    obtain rfl := HRR.out
                    exact ⟨below4 (HW7.out) HGE.out, none, 0, rfl, Nat.le_refl _, Kd.C_nil _ _⟩
              · have hd1 : decide (1024 ≤ a1) = false := decide_eq_false (by omega)
                have hd2 : decide (1 < a2) = true := decide_eq_true (by omega)
                have HRR : Aside0 (res = (z40, 8)) := ⟨by rw [HRI.out, if_neg (by simp [h2])]⟩
                clear h1 h2
                go_wp2_with fail
                refine bodyPost_ret (results_ct rfl _ _ g1 40 #[.int .u64 0, .int .i64 0, .bool false, .slice none 0 0] (0, 0) _ rfl (put4 (HGr.out)) Try.underlying40 rfl (by kernel_rfl)) rfl ?_
                obtain rfl := HRR.out
                exact ⟨below4 (HWr.out) HGE.out, none, 0, rfl, Nat.le_refl _, Kd.C_nil _ _⟩
            · have hd1 : decide (1024 ≤ a1) = true := decide_eq_true (by omega)
              have HRR : Aside0 (res = (z40, 8)) := ⟨by rw [HRI.out, if_neg (by simp [h1])]⟩
              clear h1
              go_wp2_with fail
              refine bodyPost_ret (results_ct rfl _ _ g1 40 #[.int .u64 0, .int .i64 0, .bool false, .slice none 0 0] (0, 0) _ rfl (put4 (HGr.out)) Try.underlying40 rfl (by kernel_rfl)) rfl ?_
              obtain rfl := HRR.out
              exact ⟨below4 (HWr.out) HGE.out, none, 0, rfl, Nat.le_refl _, Kd.C_nil _ _⟩
      · obtain ⟨A2, c2, rfl⟩ := Kd.R_slice hR2
        have hm4 : ((x2.length : Int) != 4) = true := by simp; omega
        have HRR : Aside0 (res = (z40, 8)) := ⟨by rw [HR.out]; exact HLN.out hx4⟩
        generalize x2.length = m2 at *
        clear hx4 hR1 hR2 HERR HBI HRD HD HST HLN
        have HG3 := Aside0.mk (blk_alloc HG2.out (.cells #[.bool true, .slice A1 m1 c1, .slice A2 m2 c2] 47))
        have hcf := cf4 HG3
        go_wp2_with fail
        refine bodyPost_ret (results_ct rfl _ _ g1 40 #[.int .u64 0, .int .i64 0, .bool false, .slice none 0 0] (0, 0) _ rfl (put4 HG3.out) Try.underlying40 rfl (by kernel_rfl)) rfl ?_
        obtain rfl := HRR.out
        exact ⟨below4 (below_alloc HB2.out _) HGE.out, none, 0, rfl, Nat.le_refl _, Kd.C_nil _ _⟩
    · obtain ⟨A2, c2, rfl⟩ := Kd.R_slice hR2
      have hx0' : x0 = false := by simpa using hx0
      subst hx0'
      have HRR : Aside0 (res = (z40, 8)) := ⟨by rw [HR.out]; exact HST.out rfl⟩
      generalize x2.length = m2 at *
      clear hx0 hR1 hR2 HERR HBI HRD HD HST HLN
      have HG3 := Aside0.mk (blk_alloc HG2.out (.cells #[.bool false, .slice A1 m1 c1, .slice A2 m2 c2] 47))
      have hcf := cf4 HG3
      go_wp2_with fail
      refine bodyPost_ret (results_ct rfl _ _ g1 40 #[.int .u64 0, .int .i64 0, .bool false, .slice none 0 0] (0, 0) _ rfl (put4 HG3.out) Try.underlying40 rfl (by kernel_rfl)) rfl ?_
      obtain rfl := HRR.out
      exact ⟨below4 (below_alloc HB2.out _) HGE.out, none, 0, rfl, Nat.le_refl _, Kd.C_nil _ _⟩
end Go.Proofs.Ytdjoekckhmggbaa.H
