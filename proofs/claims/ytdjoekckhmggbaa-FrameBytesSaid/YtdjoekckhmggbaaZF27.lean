import Derived.Test.YtdjoekckhmggbaaZF26
import Derived.IntWalk
namespace Go.Proofs.Ytdjoekckhmggbaa.H
open Go.RowKit Go.Proofs.YtdjoekckhmggbaaW.PrintWords Go.Proofs.YtdjoekckhmggbaaW.PrintLast Go.Proofs.YtdjoekckhmggbaaW.PrintMore Go.Proofs.Ytdjoekckhmggbaa.PRF
attribute [local go_sem] max2_int min2_int max_two min_two max_three min_three max_four min_four
set_option linter.unusedVariables false
set_option linter.unusedSimpArgs false
theorem rows47 {w : World} {base : Nat} {ok : Nat → Prop} {v : Value} {l : List S47} (h : Kd.R k47 47 w base ok v l) (hne : 0 < l.length) : ∃ g cap, v = .slice (some ⟨g, 0, none⟩) l.length cap ∧ l.length ≤ cap ∧ g < w.heap.size ∧
    ∀ i (h : i < l.length), ∃ A1 c1 A2 c2, w.cell? ⟨g, i * 3, none⟩ = some (.bool l[i].f0) ∧ w.cell? ⟨g, i * 3 + 1, none⟩ = some (.slice A1 l[i].f1.length c1) ∧ w.cell? ⟨g, i * 3 + 2, none⟩ = some (.slice A2 l[i].f2.length c2) ∧ l[i].f1.length ≤ c1 ∧ Kd.C (Kd.int .u8) w A1 l[i].f1.length l[i].f1 ∧ l[i].f2.length ≤ c2 ∧ Kd.C k47 w A2 l[i].f2.length l[i].f2 ∧ Kd.F (Kd.int .u8) w (fun k => base ≤ k) A1 l[i].f1.length l[i].f1 := by
  obtain ⟨A, c, hv, hc, hC⟩ := Kd.R_reads h
  obtain ⟨inner, hown⟩ := Kd.R_own h
  rcases hown.2 with ⟨rfl, hn⟩ | ⟨g, cap, cur, rfl, _, hg, _⟩
  · exfalso
    injection hv with _ h2 _
    omega
  · injection hv with h1 h2 h3
    subst h1
    refine ⟨g, cap, by rw [h2], by omega, blk_lt hg, fun i hi => ?_⟩
    obtain ⟨c, hcl, hM, hcc, _⟩ := Kd.R_elem h z47 (i : Int) (by omega) (by omega)
    have hg' : l.getD (i : Int).toNat z47 = l[i] := by simp [List.getD_eq_getElem?_getD, List.getElem?_eq_getElem hi]
    rw [hg'] at hM
    obtain ⟨v1, v2, rfl, hR1, hR2⟩ := k47_openM hM
    rw [Int.toNat_natCast, show k47.sz = 3 from rfl] at hcc
    obtain ⟨A1, c1, rfl, q1, q2⟩ := Kd.R_reads hR1
    obtain ⟨A2, c2, rfl, q3, q4⟩ := Kd.R_reads hR2
    exact ⟨A1, c1, A2, c2, hcc 0 _ rfl, hcc 1 _ rfl, hcc 2 _ rfl, q1, q2, q3, q4, Kd.R_F (Kd.R_mono (Kd.R_bound hR1) (fun k hk => hk.2.1))⟩
theorem readI_len {x : S47} (h : x.f2.length ≠ 4) : readI x = (z40, 8) := by
  unfold readI
  split
  · rename_i y0 y1 y2 y3 hx
    rw [hx] at h
    simp at h
  · rfl
theorem readI_str {x : S47} (h : x.f0 = false) : readI x = (z40, 8) := by
  unfold readI
  split
  · rw [if_neg (by rw [h]; simp)]
  · rfl
theorem four_of {l : List S47} (h : l.length = 4) : ∃ y0 y1 y2 y3, l = [y0, y1, y2, y3] := by
  match l, h with
  | [y0, y1, y2, y3], _ => exact ⟨y0, y1, y2, y3, rfl⟩
def ReadPost (r : S40 × Int) (w : World) (e : Ending) (w' : World) : Prop := Below w.heap.size w w' ∧ ∃ A c, e = .returned (.tuple #[.agg #[.int .u64 r.1.f0, .int .i64 r.1.f1, .bool r.1.f2, .slice A r.1.f3.length c], .int .i64 r.2]) ∧ r.1.f3.length ≤ c ∧ Kd.C (Kd.int .u8) w' A r.1.f3.length r.1.f3
def arrN (a0 a1 a2 : Int) : Nat → Array Value
  | 0 => #[.int .u64 0, .int .u64 0, .int .u64 0]
  | 1 => #[.int .u64 a0, .int .u64 0, .int .u64 0]
  | 2 => #[.int .u64 a0, .int .u64 a1, .int .u64 0]
  | _ + 3 => #[.int .u64 a0, .int .u64 a1, .int .u64 a2]
theorem num_call (y : S47) (hB : Byt y.f1) {A1 A2 : Option Addr} {c1 c2 : Nat} (w : World) (h1 : Kd.C (Kd.int .u8) w A1 y.f1.length y.f1) (l1 : y.f1.length ≤ c1) (h2 : Kd.C k47 w A2 y.f2.length y.f2) (l2 : y.f2.length ≤ c2) :
    Calls Try.prog 30 #[.agg #[.bool y.f0, .slice A1 y.f1.length c1, .slice A2 y.f2.length c2]] w fun e w' => e = .returned (.tuple #[.int .u64 (rnumP y).1, .int .i64 (rnumP y).2]) ∧ Below w.heap.size w w' := by
  obtain ⟨k, hk⟩ := readnum_f y hB
  exact rlp_ReadNum.calls k y.f0 A1 c1 y.f1 A2 c2 y.f2 (rnumP y).1 (rnumP y).2 w h1 l1 h2 l2 hk
theorem rnum_call (y : S47) (hB : Byt y.f1) {A1 A2 : Option Addr} {c1 c2 : Nat} (w : World) (h1 : Kd.C (Kd.int .u8) w A1 y.f1.length y.f1) (l1 : y.f1.length ≤ c1) (h2 : Kd.C k47 w A2 y.f2.length y.f2) (l2 : y.f2.length ≤ c2) :
    Calls Try.prog 31 #[.agg #[.bool y.f0, .slice A1 y.f1.length c1, .slice A2 y.f2.length c2]] w fun e w' => e = .returned (.tuple #[.int .u64 (rnumP y).1, .int .i64 (rnumP y).2]) ∧ Below w.heap.size w w' := by
  obtain ⟨k, hk⟩ := rreadnum_f y hB
  exact proctorref02_ReadNum.calls k y.f0 A1 c1 y.f1 A2 c2 y.f2 (rnumP y).1 (rnumP y).2 w h1 l1 h2 l2 hk
theorem rnumP_range (y : S47) (hb : Byt y.f1) : 0 ≤ (rnumP y).1 ∧ (rnumP y).1 ≤ 18446744073709551615 := by
  unfold rnumP
  split
  · exact ⟨by simp, by simp⟩
  · rename_i h
    simp only [not_or] at h
    have hl := num_lt y.f1 hb
    have h8 : (256 : Nat) ^ y.f1.length ≤ 256 ^ 8 := Nat.pow_le_pow_right (by omega) (by omega)
    rw [pow256_8] at h8
    exact ⟨by simp, by show ((num y.f1 : Nat) : Int) ≤ _; omega⟩
set_option maxHeartbeats 4000000 in
set_option maxRecDepth 100000 in
theorem read_any (b : List Int) (hB : Byt b) (A : Option Addr) (c : Nat) (w : World) (hC : Kd.C (Kd.int .u8) w A b.length b) (hc : b.length ≤ c) :
    Calls Try.prog 40 #[.slice A b.length c] w (ReadPost (readP b) w) := by
  have HB := Aside0.mk (Below.refl w.heap.size w)
  have HD := Aside0.mk (fun w' h1 => (decode_any A c b w' h1 hc hB))
  have HC := Aside0.mk hC
  obtain ⟨n, hn⟩ : ∃ n, n = b.length := ⟨_, rfl⟩
  have HRD : Aside0 (readP b = match decodeP b with | .error e => (z40, e) | .ok x => readI x) := ⟨rfl⟩
  have HERR := Aside0.mk (fun e (h : decodeP b = .error e) => decode_err h)
  have HBI := Aside0.mk (fun x (h : decodeP b = .ok x) => decode_byt hB h)
  generalize readP b = res at *
  rw [← hn] at HC HD ⊢
  clear hC hc hB hn
  generalize decodeP b = dp at *
  have HB1 := Aside0.mk (below_alloc HB.out (.cells #[.int .u64 0, .int .i64 0, .bool false, .slice none 0 0] 40))
  have HG1 := Aside0.mk (blk_new w (.cells #[.int .u64 0, .int .i64 0, .bool false, .slice none 0 0] 40) _ rfl)
  go_enter Try.func40, Try.ntmps40
  go_wp2_with fail
  generalize (w.alloc (.cells #[.int .u64 0, .int .i64 0, .bool false, .slice none 0 0] 40)) = w1 at *
  obtain ⟨g1, hg1⟩ : ∃ g, g = w.heap.size := ⟨_, rfl⟩
  have HGE : Aside0 (w.heap.size ≤ g1) := ⟨by omega⟩
  rw [← hg1] at HG1 ⊢
  clear hg1
  refine (HD.out w1 (Kd.C_below HC.out HB1.out)).mono ?_
  rintro e w2 ⟨hE2, hp⟩
  have HB2 := Aside0.mk (below_step HB1.out hE2)
  have HG2 := Aside0.mk (blk_below HG1.out hE2)
  clear hE2
  cases dp with
  | error er =>
    obtain rfl := hp
    have her : (er != 0) = true := by have := HERR.out er rfl; simpa using this
    have HR : Aside0 (res = (z40, er)) := ⟨HRD.out⟩
    have HG3 := Aside0.mk (blk_alloc HG2.out (.cells #[.bool false, .slice none 0 0, .slice none 0 0] 47))
    have hcf := cf4 HG3
    go_wp2_with fail
    refine bodyPost_ret (results_ct rfl _ _ g1 40 #[.int .u64 0, .int .i64 0, .bool false, .slice none 0 0] (0, 0) _ rfl (put4 HG3.out) Try.underlying40 rfl (by kernel_rfl)) rfl ?_
    obtain rfl := HR.out
    exact ⟨below4 (below_alloc HB2.out _) HGE.out, none, 0, rfl, Nat.le_refl _, Kd.C_nil _ _⟩
  | ok x =>
    obtain ⟨v1, v2, rfl, hR1, hR2⟩ := hp
    have HR : Aside0 (res = readI x) := ⟨HRD.out⟩
    have HBX := Aside0.mk (HBI.out x rfl)
    have HST := Aside0.mk (fun h => readI_str (x := x) h)
    have HLN := Aside0.mk (fun h => readI_len (x := x) h)
    obtain ⟨x0, x1, x2⟩ := x
    dsimp only at hR1 hR2 HST HLN ⊢
    obtain ⟨A1, c1, rfl⟩ := Kd.R_slice hR1
    generalize x1.length = m1 at *
    have HGLT : Aside0 (g1 < w1.heap.size) := ⟨blk_lt HG1.out⟩
    by_cases hx0 : x0 = true
    · subst hx0
      by_cases hx4 : x2.length = 4
      · obtain ⟨y0, y1, y2, y3, rfl⟩ := four_of hx4
        obtain ⟨g2, c2, rfl, hc2, hg2, hrows⟩ := rows47 hR2 (by simp)
        have HBY := HBX.out
        have byt : ∀ y ∈ [y0, y1, y2, y3], Byt y.f1 := fun y hy => by cases HBY with | mk _ _ h => cases h y hy with | mk _ h _ => exact h
        obtain ⟨P0, p0, Q0, q0, u00, u01, u02, l01, C01, l02, C02, F01⟩ := hrows 0 (by simp)
        obtain ⟨P1, p1, Q1, q1, u10, u11, u12, l11, C11, l12, C12, F11⟩ := hrows 1 (by simp)
        obtain ⟨P2, p2, Q2, q2, u20, u21, u22, l21, C21, l22, C22, F21⟩ := hrows 2 (by simp)
        obtain ⟨P3, p3, Q3, q3, u30, u31, u32, l31, C31, l32, C32, F31⟩ := hrows 3 (by simp)
        simp only [List.length_cons, List.length_nil, List.getElem_cons_zero, List.getElem_cons_succ, Nat.zero_mul, Nat.one_mul, Nat.zero_add, Nat.reduceAdd, Nat.reduceMul] at u00 u01 u02 l01 C01 l02 C02 F01 u10 u11 u12 l11 C11 l12 C12 F11 u20 u21 u22 l21 C21 l22 C22 F21 u30 u31 u32 l31 C31 l32 C32 F31 hc2
        have HRN0 := Aside0.mk (fun w' (h : Below w2.heap.size w2 w') => num_call y0 (byt y0 (by simp)) w' (Kd.C_below C01 h) l01 (Kd.C_below C02 h) l02)
        have RG0 := rnumP_range y0 (byt y0 (by simp))
        have HU0 := Aside0.mk (fun w' (h : Below w2.heap.size w2 w') => (⟨pw_cell_below h u00, pw_cell_below h u01, pw_cell_below h u02⟩ : _ ∧ _ ∧ _))
        have HRN1 := Aside0.mk (fun w' (h : Below w2.heap.size w2 w') => num_call y1 (byt y1 (by simp)) w' (Kd.C_below C11 h) l11 (Kd.C_below C12 h) l12)
        have RG1 := rnumP_range y1 (byt y1 (by simp))
        have HU1 := Aside0.mk (fun w' (h : Below w2.heap.size w2 w') => (⟨pw_cell_below h u10, pw_cell_below h u11, pw_cell_below h u12⟩ : _ ∧ _ ∧ _))
        have HRN2 := Aside0.mk (fun w' (h : Below w2.heap.size w2 w') => num_call y2 (byt y2 (by simp)) w' (Kd.C_below C21 h) l21 (Kd.C_below C22 h) l22)
        have RG2 := rnumP_range y2 (byt y2 (by simp))
        have HU2 := Aside0.mk (fun w' (h : Below w2.heap.size w2 w') => (⟨pw_cell_below h u20, pw_cell_below h u21, pw_cell_below h u22⟩ : _ ∧ _ ∧ _))
        have HU3 := Aside0.mk (fun w' (h : Below w2.heap.size w2 w') => (⟨pw_cell_below h u30, pw_cell_below h u31, pw_cell_below h u32⟩ : _ ∧ _ ∧ _))
        have HC3 := Aside0.mk C31
        have HF3 := Aside0.mk F31
        have HL3 := Aside0.mk l31
        have HRI : Aside0 (res = if y3.f0 = false ∧ (rnumP y0).2 = 0 ∧ (rnumP y1).2 = 0 ∧ (rnumP y2).2 = 0 ∧ (rnumP y1).1 < 1024 ∧ (rnumP y2).1 ≤ 1 ∧ y3.f1.length ≤ 4096 then (⟨(rnumP y0).1, (rnumP y1).1, decide ((rnumP y2).1 = 1), y3.f1⟩, 0) else (z40, 8)) := ⟨by rw [HR.out]; unfold readI; simp⟩
        clear HBY byt hrows hR2 hR1 HBX HST HLN HR HERR HBI HRD HD hx4 u00 u01 u02 l01 C01 l02 C02 F01 u10 u11 u12 l11 C11 l12 C12 F11 u20 u21 u22 l21 C21 l22 C22 F21 u30 u31 u32 l31 C31 l32 C32 F31
        generalize rnumP y0 = r0 at *
        generalize rnumP y1 = r1 at *
        generalize rnumP y2 = r2 at *
        obtain ⟨a0, e0⟩ := r0
        obtain ⟨a1, e1⟩ := r1
        obtain ⟨a2, e2⟩ := r2
        obtain ⟨y30, y31, y32⟩ := y3
        dsimp only at *
        obtain ⟨n3, hn3⟩ : ∃ n, n = y31.length := ⟨_, rfl⟩
        have HN3 := Aside0.mk hn3
        rw [← hn3] at HU3
        clear hn3
        generalize y32.length = n32 at *
        have HE3 := Aside0.mk (below_alloc (Below.refl w2.heap.size w2) (.cells #[.bool true, .slice A1 m1 c1, .slice (some ⟨g2, 0, none⟩) 4 c2] 47))
        have HG3 := Aside0.mk (blk_alloc HG2.out (.cells #[.bool true, .slice A1 m1 c1, .slice (some ⟨g2, 0, none⟩) 4 c2] 47))
        have hcf := cf4 HG3
        have hu3 := HU3.out _ HE3.out
        cases y30 with
        | true =>
          have HRR : Aside0 (res = (z40, 8)) := ⟨by rw [HRI.out, if_neg (by simp)]⟩
          go_wp2_with fail
          refine bodyPost_ret (results_ct rfl _ _ g1 40 #[.int .u64 0, .int .i64 0, .bool false, .slice none 0 0] (0, 0) _ rfl (put4 HG3.out) Try.underlying40 rfl (by kernel_rfl)) rfl ?_
          obtain rfl := HRR.out
          exact ⟨below4 (below_alloc HB2.out _) HGE.out, none, 0, rfl, Nat.le_refl _, Kd.C_nil _ _⟩
        | false =>
          have HGT := Aside0.mk (blk_new w2 (.cells #[.bool true, .slice A1 m1 c1, .slice (some ⟨g2, 0, none⟩) 4 c2] 47) _ rfl)
          have HGTa := Aside0.mk (blk_alloc HGT.out (.cells #[.int .u64 0, .int .u64 0, .int .u64 0] 98))
          have HG4 := Aside0.mk (blk_alloc HG3.out (.cells #[.int .u64 0, .int .u64 0, .int .u64 0] 98))
          have HE4 := Aside0.mk (below_alloc HE3.out (.cells #[.int .u64 0, .int .u64 0, .int .u64 0] 98))
          have HG6 := Aside0.mk (blk_new (w2.alloc (.cells #[.bool true, .slice A1 m1 c1, .slice (some ⟨g2, 0, none⟩) 4 c2] 47)) (.cells #[.int .u64 0, .int .u64 0, .int .u64 0] 98) (w2.heap.size + 1) (by simp))
          go_wp2_with fail
          generalize ((w2.alloc (.cells #[.bool true, .slice A1 m1 c1, .slice (some ⟨g2, 0, none⟩) 4 c2] 47)).alloc (.cells #[.int .u64 0, .int .u64 0, .int .u64 0] 98)) = w4 at *
          obtain ⟨g6, hg6⟩ : ∃ g, g = w2.heap.size + 1 := ⟨_, rfl⟩
          obtain ⟨g3, hg3⟩ : ∃ g, g = w2.heap.size := ⟨_, rfl⟩
          have HX : Aside0 (w2.heap.size ≤ g6 ∧ g1 ≠ g6 ∧ g3 ≠ g6 ∧ w.heap.size ≤ g6) := ⟨by have := blk_lt HG2.out; have := HB2.out.size; omega⟩
          rw [← hg6] at HG6 ⊢
          rw [← hg3] at HGTa ⊢
          clear hg6 hg3 hcf hu3 HGT HG3 HE3
          go_loopw [35] (fun v35 wr => ∃ i : Nat, (i = 0 ∧ v35 = .int .i64 0 ∨ i = 1 ∧ v35 = .int .i64 1 ∨ i = 2 ∧ v35 = .int .i64 2 ∨ i = 3 ∧ v35 = .int .i64 3) ∧ Aside0 (wr.heap[g6]? = some (.cells (arrN a0 a1 a2 i) 98 (0, 0))) ∧ Aside0 (Below w2.heap.size w2 wr) ∧ Aside0 (wr.heap[g3]? = some (.cells #[.bool true, .slice A1 m1 c1, .slice (some ⟨g2, 0, none⟩) 4 c2] 47 (0, 0))) ∧ Aside0 (wr.heap[g1]? = some (.cells #[.int .u64 0, .int .i64 0, .bool false, .slice none 0 0] 40 (0, 0))) ∧ Aside0 (Below w.heap.size w wr) ∧ Aside0 ((0 < i → e0 = 0) ∧ (1 < i → e1 = 0) ∧ (2 < i → e2 = 0))) (fun v35 _ => 3 - (intOf v35).toNat)
          case atStart => exact ⟨0, .inl ⟨rfl, rfl⟩, HG6, HE4, HGTa, HG4, ⟨below_step HB2.out HE4.out⟩, ⟨by simp⟩⟩
          case round =>
            obtain ⟨i, hi, HAr, HBr, HTr, HGr, HWr, HEr⟩ := hrel
            have hcg := cf3 HTr
            rcases hi with ⟨rfl, rfl⟩ | ⟨rfl, rfl⟩ | ⟨rfl, rfl⟩ | ⟨rfl, rfl⟩
            · have HA : Aside0 (wr.heap[g6]? = some (.cells #[.int .u64 0, .int .u64 0, .int .u64 0] 98 (0, 0))) := HAr
              have hcf6 := cf3 HA
              have hu := HU0.out _ HBr.out
              go_wp2_with fail
              refine (HRN0.out _ HBr.out).mono ?_
              rintro e w5 ⟨rfl, hE5⟩
              have HB5 := Aside0.mk (below_step HBr.out hE5)
              have HW5 := Aside0.mk (below_step HWr.out hE5)
              have HT5 := Aside0.mk (blk_below HTr.out hE5)
              have HG5 := Aside0.mk (blk_below HGr.out hE5)
              have HA5 := Aside0.mk (blk_below HA.out hE5)
              have hcf65 := cf3 HA5
              clear hE5 hu hcf6 hcg
              by_cases he : e0 = 0
              · subst he
                have HA6 : Aside0 ((w5.setCell ⟨g6, 0, none⟩ (.int .u64 a0)).heap[g6]? = some (.cells (arrN a0 a1 a2 1) 98 (0, 0))) := ⟨blk_put HA5.out 0 _ rfl⟩
                go_wp2_with fail
                go_roundw
                case rel => exact ⟨1, by simp, HA6, ⟨below_set HB5.out HX.out.1⟩, ⟨blk_far HT5.out HX.out.2.2.1 _⟩, ⟨blk_far HG5.out HX.out.2.1 _⟩, ⟨below_set HW5.out HX.out.2.2.2⟩, ⟨by have := HEr.out; simp at this ⊢; try exact this⟩⟩
                case measure => simp [intOf]
              · have hne : (e0 != 0) = true := by simpa using he
                have HRR : Aside0 (res = (z40, 8)) := ⟨by rw [HRI.out, if_neg (by simp [he])]⟩
                have hcfz := cf4 ⟨blk_far HG5.out (p := ⟨g6, 0, none⟩) HX.out.2.1 (.int .u64 a0)⟩
                clear he
                go_wp2_with fail
                refine bodyPost_ret (results_ct rfl _ _ g1 40 #[.int .u64 0, .int .i64 0, .bool false, .slice none 0 0] (0, 0) _ rfl (put4 (blk_far HG5.out (p := ⟨g6, 0, none⟩) HX.out.2.1 (.int .u64 a0))) Try.underlying40 rfl (by kernel_rfl)) rfl ?_
                obtain rfl := HRR.out
                exact ⟨below4 (below_set HW5.out HX.out.2.2.2) HGE.out, none, 0, rfl, Nat.le_refl _, Kd.C_nil _ _⟩
            · have HA : Aside0 (wr.heap[g6]? = some (.cells #[.int .u64 a0, .int .u64 0, .int .u64 0] 98 (0, 0))) := HAr
              have hcf6 := cf3 HA
              have hu := HU1.out _ HBr.out
              go_wp2_with fail
              refine (HRN1.out _ HBr.out).mono ?_
              rintro e w5 ⟨rfl, hE5⟩
              have HB5 := Aside0.mk (below_step HBr.out hE5)
              have HW5 := Aside0.mk (below_step HWr.out hE5)
              have HT5 := Aside0.mk (blk_below HTr.out hE5)
              have HG5 := Aside0.mk (blk_below HGr.out hE5)
              have HA5 := Aside0.mk (blk_below HA.out hE5)
              have hcf65 := cf3 HA5
              clear hE5 hu hcf6 hcg
              by_cases he : e1 = 0
              · subst he
                have HA6 : Aside0 ((w5.setCell ⟨g6, 1, none⟩ (.int .u64 a1)).heap[g6]? = some (.cells (arrN a0 a1 a2 2) 98 (0, 0))) := ⟨blk_put HA5.out 1 _ rfl⟩
                go_wp2_with fail
                go_roundw
                case rel => exact ⟨2, by simp, HA6, ⟨below_set HB5.out HX.out.1⟩, ⟨blk_far HT5.out HX.out.2.2.1 _⟩, ⟨blk_far HG5.out HX.out.2.1 _⟩, ⟨below_set HW5.out HX.out.2.2.2⟩, ⟨by have := HEr.out; simp at this ⊢; try exact this⟩⟩
                case measure => simp [intOf]
              · have hne : (e1 != 0) = true := by simpa using he
                have HRR : Aside0 (res = (z40, 8)) := ⟨by rw [HRI.out, if_neg (by simp [he])]⟩
                have hcfz := cf4 ⟨blk_far HG5.out (p := ⟨g6, 1, none⟩) HX.out.2.1 (.int .u64 a1)⟩
                clear he
                go_wp2_with fail
                refine bodyPost_ret (results_ct rfl _ _ g1 40 #[.int .u64 0, .int .i64 0, .bool false, .slice none 0 0] (0, 0) _ rfl (put4 (blk_far HG5.out (p := ⟨g6, 1, none⟩) HX.out.2.1 (.int .u64 a1))) Try.underlying40 rfl (by kernel_rfl)) rfl ?_
                obtain rfl := HRR.out
                exact ⟨below4 (below_set HW5.out HX.out.2.2.2) HGE.out, none, 0, rfl, Nat.le_refl _, Kd.C_nil _ _⟩
            · have HA : Aside0 (wr.heap[g6]? = some (.cells #[.int .u64 a0, .int .u64 a1, .int .u64 0] 98 (0, 0))) := HAr
              have hcf6 := cf3 HA
              have hu := HU2.out _ HBr.out
              go_wp2_with fail
              refine (HRN2.out _ HBr.out).mono ?_
              rintro e w5 ⟨rfl, hE5⟩
              have HB5 := Aside0.mk (below_step HBr.out hE5)
              have HW5 := Aside0.mk (below_step HWr.out hE5)
              have HT5 := Aside0.mk (blk_below HTr.out hE5)
              have HG5 := Aside0.mk (blk_below HGr.out hE5)
              have HA5 := Aside0.mk (blk_below HA.out hE5)
              have hcf65 := cf3 HA5
              clear hE5 hu hcf6 hcg
              by_cases he : e2 = 0
              · subst he
                have HA6 : Aside0 ((w5.setCell ⟨g6, 2, none⟩ (.int .u64 a2)).heap[g6]? = some (.cells (arrN a0 a1 a2 3) 98 (0, 0))) := ⟨blk_put HA5.out 2 _ rfl⟩
                go_wp2_with fail
                go_roundw
                case rel => exact ⟨3, by simp, HA6, ⟨below_set HB5.out HX.out.1⟩, ⟨blk_far HT5.out HX.out.2.2.1 _⟩, ⟨blk_far HG5.out HX.out.2.1 _⟩, ⟨below_set HW5.out HX.out.2.2.2⟩, ⟨by have := HEr.out; simp at this ⊢; try exact this⟩⟩
                case measure => simp [intOf]
              · have hne : (e2 != 0) = true := by simpa using he
                have HRR : Aside0 (res = (z40, 8)) := ⟨by rw [HRI.out, if_neg (by simp [he])]⟩
                have hcfz := cf4 ⟨blk_far HG5.out (p := ⟨g6, 2, none⟩) HX.out.2.1 (.int .u64 a2)⟩
                clear he
                go_wp2_with fail
                refine bodyPost_ret (results_ct rfl _ _ g1 40 #[.int .u64 0, .int .i64 0, .bool false, .slice none 0 0] (0, 0) _ rfl (put4 (blk_far HG5.out (p := ⟨g6, 2, none⟩) HX.out.2.1 (.int .u64 a2))) Try.underlying40 rfl (by kernel_rfl)) rfl ?_
                obtain rfl := HRR.out
                exact ⟨below4 (below_set HW5.out HX.out.2.2.2) HGE.out, none, 0, rfl, Nat.le_refl _, Kd.C_nil _ _⟩
            · obtain ⟨z0, z1, z2⟩ := HEr.out
              obtain rfl := z0 (by omega)
              obtain rfl := z1 (by omega)
              obtain rfl := z2 (by omega)
              have HA : Aside0 (wr.heap[g6]? = some (.cells #[.int .u64 a0, .int .u64 a1, .int .u64 a2] 98 (0, 0))) := HAr
              have hcf6 := cf3 HA
              have hcf1 := cf4 HGr
              have hu := HU3.out _ HBr.out
              clear z0 z1 z2 HRN0 HRN1 HRN2 HU0 HU1 HU2
              by_cases h1 : a1 < 1024
              · by_cases h2 : a2 ≤ 1
                · have hd1 : decide (1024 ≤ a1) = false := decide_eq_false (by omega)
                  have hd2 : decide (1 < a2) = false := decide_eq_false (by omega)
                  have hw1 : IntKind.i64.wrap a1 = a1 := IntWalk.i64_in _ (by omega)
                  have h3 : a2 = 0 ∨ a2 = 1 := by omega
                  rcases h3 with rfl | rfl
                  · have HK := Aside0.mk (show ∀ W', Below wr.heap.size wr W' → (fun W' => Below wr.heap.size wr W' ∧ W'.cell? ⟨g6, 0, none⟩ = some (.int .u64 a0) ∧ W'.cell? ⟨g6, 1, none⟩ = some (.int .u64 a1) ∧ W'.cell? ⟨g6, 2, none⟩ = some (.int .u64 0) ∧ W'.cell? ⟨g3, 2, none⟩ = some (.slice (some ⟨g2, 0, none⟩) 4 c2) ∧ W'.cell? ⟨g2, 10, none⟩ = some (.slice P3 n3 p3)) W' from fun W' h => ⟨h, pw_cell_below h hcf6.1, pw_cell_below h hcf6.2.1, pw_cell_below h hcf6.2.2.1, pw_cell_below h hcg.2.2.1, pw_cell_below h hu.2.1⟩)
                    have hS0 := below_drew (Below.refl wr.heap.size wr)
                    clear h2
                    go_wp2_with fail
                    go_region_held3 (fun W' => Below wr.heap.size wr W' ∧ W'.cell? ⟨g6, 0, none⟩ = some (.int .u64 a0) ∧ W'.cell? ⟨g6, 1, none⟩ = some (.int .u64 a1) ∧ W'.cell? ⟨g6, 2, none⟩ = some (.int .u64 0) ∧ W'.cell? ⟨g3, 2, none⟩ = some (.slice (some ⟨g2, 0, none⟩) 4 c2) ∧ W'.cell? ⟨g2, 10, none⟩ = some (.slice P3 n3 p3)) (first | exact HK.out _ (by assumption) | exact HK.out _ (below_drew (below_alloc (Below.refl _ _) _))) (fail)
                    have HMAY : Aside0 (∀ w', Below w2.heap.size w2 w' → Calls Try.prog 46 #[.agg #[.int .u64 a0, .int .i64 a1, .bool false, .slice P3 n3 p3]] w' fun e w'' => e = .returned (.bool (decide (y31.length ≤ 4096))) ∧ Below w'.heap.size w' w'') := ⟨fun w' h => by
                      have hm : mayF ⟨a0, a1, false, y31⟩ = decide (y31.length ≤ 4096) := by
                        unfold mayF
                        rw [decide_eq_true (show (0 : Int) ≤ a1 by omega), decide_eq_true (show a1 < 1024 by omega)]
                        rfl
                      rw [HN3.out]
                      exact frame_may.calls a0 a1 false P3 p3 y31 _ w' (Kd.C_below HC3.out h) HL3.out (by rw [may_f ⟨a0, a1, false, y31⟩, hm])⟩
                    have HGN : Aside0 ((wr.alloc (.cells #[.int .u64 a0, .int .i64 a1, .bool false, .slice P3 n3 p3] 40)).drew.heap[wr.heap.size]? = some (.cells #[.int .u64 a0, .int .i64 a1, .bool false, .slice P3 n3 p3] 40 (0, 0))) := ⟨blk_new wr _ _ rfl⟩
                    have HED := Aside0.mk (below_drew (below_alloc (Below.refl wr.heap.size wr) (.cells #[.int .u64 a0, .int .i64 a1, .bool false, .slice P3 n3 p3] 40)))
                    have hcn := cf4 HGN
                    go_wp2_with fail
                    generalize ((wr.alloc (.cells #[.int .u64 a0, .int .i64 a1, .bool false, .slice P3 n3 p3] 40)).drew) = w6 at *
                    obtain ⟨g8, hg8⟩ : ∃ g, g = wr.heap.size := ⟨_, rfl⟩
                    rw [← hg8] at HGN ⊢
                    clear hg8 hcn
                    refine (HMAY.out w6 (HBr.out.trans (HED.out.mono HBr.out.size))).mono ?_
                    rintro e w7 ⟨rfl, hE7⟩
                    have HGN7 := Aside0.mk (blk_below HGN.out hE7)
                    have HG17 := Aside0.mk (blk_below (blk_below HGr.out HED.out) hE7)
                    have HW7 := Aside0.mk (below_step (below_step HWr.out HED.out) hE7)
                    have HB7 := Aside0.mk (below_step (HBr.out.trans (HED.out.mono HBr.out.size)) hE7)
                    have hcn7 := cf4 HGN7
                    have hcf17 := cf4 HG17
                    clear hE7
                    by_cases hl : y31.length ≤ 4096
                    · rw [decide_eq_true hl]
                      have HRR : Aside0 (res = (⟨a0, a1, false, y31⟩, 0)) := ⟨by rw [HRI.out, if_pos ⟨trivial, trivial, trivial, trivial, h1, by omega, hl⟩]; simp⟩
                      have HFB := Aside0.mk (Kd.F_mono (Kd.F_below HF3.out HB7.out) (ok' := fun k => k ≠ g1) (fun k hk => by have := HGLT.out; omega))
                      clear hl
                      go_wp2_with fail
                      refine bodyPost_ret (results_ct rfl _ _ g1 40 #[.int .u64 a0, .int .i64 a1, .bool false, .slice P3 n3 p3] (0, 0) _ rfl (put4 HG17.out) Try.underlying40 rfl (by kernel_rfl)) rfl ?_
                      obtain rfl := HRR.out
                      refine ⟨below4 HW7.out HGE.out, P3, p3, by rw [HN3.out]; rfl, HL3.out, ?_⟩
                      exact Kd.F_now (Kd.F_far (p := ⟨g1, 3, none⟩) (Kd.F_far (p := ⟨g1, 2, none⟩) (Kd.F_far (p := ⟨g1, 1, none⟩) (Kd.F_far (p := ⟨g1, 0, none⟩) HFB.out (fun _ h => h) _) (fun _ h => h) _) (fun _ h => h) _) (fun _ h => h) _)
                    · rw [decide_eq_false hl]
                      have HRR : Aside0 (res = (z40, 8)) := ⟨by rw [HRI.out, if_neg (by simp [hl])]⟩
                      clear hl
                      go_wp2_with fail
                      refine bodyPost_ret (results_ct rfl _ _ g1 40 #[.int .u64 0, .int .i64 0, .bool false, .slice none 0 0] (0, 0) _ rfl (put4 HG17.out) Try.underlying40 rfl (by kernel_rfl)) rfl ?_
                      obtain rfl := HRR.out
                      exact ⟨below4 HW7.out HGE.out, none, 0, rfl, Nat.le_refl _, Kd.C_nil _ _⟩
                  · have HK := Aside0.mk (show ∀ W', Below wr.heap.size wr W' → (fun W' => Below wr.heap.size wr W' ∧ W'.cell? ⟨g6, 0, none⟩ = some (.int .u64 a0) ∧ W'.cell? ⟨g6, 1, none⟩ = some (.int .u64 a1) ∧ W'.cell? ⟨g6, 2, none⟩ = some (.int .u64 1) ∧ W'.cell? ⟨g3, 2, none⟩ = some (.slice (some ⟨g2, 0, none⟩) 4 c2) ∧ W'.cell? ⟨g2, 10, none⟩ = some (.slice P3 n3 p3)) W' from fun W' h => ⟨h, pw_cell_below h hcf6.1, pw_cell_below h hcf6.2.1, pw_cell_below h hcf6.2.2.1, pw_cell_below h hcg.2.2.1, pw_cell_below h hu.2.1⟩)
                    have hS0 := below_drew (Below.refl wr.heap.size wr)
                    clear h2
                    go_wp2_with fail
                    go_region_held3 (fun W' => Below wr.heap.size wr W' ∧ W'.cell? ⟨g6, 0, none⟩ = some (.int .u64 a0) ∧ W'.cell? ⟨g6, 1, none⟩ = some (.int .u64 a1) ∧ W'.cell? ⟨g6, 2, none⟩ = some (.int .u64 1) ∧ W'.cell? ⟨g3, 2, none⟩ = some (.slice (some ⟨g2, 0, none⟩) 4 c2) ∧ W'.cell? ⟨g2, 10, none⟩ = some (.slice P3 n3 p3)) (first | exact HK.out _ (by assumption) | exact HK.out _ (below_drew (below_alloc (Below.refl _ _) _))) (fail)
                    have HMAY : Aside0 (∀ w', Below w2.heap.size w2 w' → Calls Try.prog 46 #[.agg #[.int .u64 a0, .int .i64 a1, .bool true, .slice P3 n3 p3]] w' fun e w'' => e = .returned (.bool (decide (y31.length ≤ 4096))) ∧ Below w'.heap.size w' w'') := ⟨fun w' h => by
                      have hm : mayF ⟨a0, a1, true, y31⟩ = decide (y31.length ≤ 4096) := by
                        unfold mayF
                        rw [decide_eq_true (show (0 : Int) ≤ a1 by omega), decide_eq_true (show a1 < 1024 by omega)]
                        rfl
                      rw [HN3.out]
                      exact frame_may.calls a0 a1 true P3 p3 y31 _ w' (Kd.C_below HC3.out h) HL3.out (by rw [may_f ⟨a0, a1, true, y31⟩, hm])⟩
                    have HGN : Aside0 ((wr.alloc (.cells #[.int .u64 a0, .int .i64 a1, .bool true, .slice P3 n3 p3] 40)).drew.heap[wr.heap.size]? = some (.cells #[.int .u64 a0, .int .i64 a1, .bool true, .slice P3 n3 p3] 40 (0, 0))) := ⟨blk_new wr _ _ rfl⟩
                    have HED := Aside0.mk (below_drew (below_alloc (Below.refl wr.heap.size wr) (.cells #[.int .u64 a0, .int .i64 a1, .bool true, .slice P3 n3 p3] 40)))
                    have hcn := cf4 HGN
                    go_wp2_with fail
                    generalize ((wr.alloc (.cells #[.int .u64 a0, .int .i64 a1, .bool true, .slice P3 n3 p3] 40)).drew) = w6 at *
                    obtain ⟨g8, hg8⟩ : ∃ g, g = wr.heap.size := ⟨_, rfl⟩
                    rw [← hg8] at HGN ⊢
                    clear hg8 hcn
                    refine (HMAY.out w6 (HBr.out.trans (HED.out.mono HBr.out.size))).mono ?_
                    rintro e w7 ⟨rfl, hE7⟩
                    have HGN7 := Aside0.mk (blk_below HGN.out hE7)
                    have HG17 := Aside0.mk (blk_below (blk_below HGr.out HED.out) hE7)
                    have HW7 := Aside0.mk (below_step (below_step HWr.out HED.out) hE7)
                    have HB7 := Aside0.mk (below_step (HBr.out.trans (HED.out.mono HBr.out.size)) hE7)
                    have hcn7 := cf4 HGN7
                    have hcf17 := cf4 HG17
                    clear hE7
                    by_cases hl : y31.length ≤ 4096
                    · rw [decide_eq_true hl]
                      have HRR : Aside0 (res = (⟨a0, a1, true, y31⟩, 0)) := ⟨by rw [HRI.out, if_pos ⟨trivial, trivial, trivial, trivial, h1, by omega, hl⟩]; simp⟩
                      have HFB := Aside0.mk (Kd.F_mono (Kd.F_below HF3.out HB7.out) (ok' := fun k => k ≠ g1) (fun k hk => by have := HGLT.out; omega))
                      clear hl
                      go_wp2_with fail
                      refine bodyPost_ret (results_ct rfl _ _ g1 40 #[.int .u64 a0, .int .i64 a1, .bool true, .slice P3 n3 p3] (0, 0) _ rfl (put4 HG17.out) Try.underlying40 rfl (by kernel_rfl)) rfl ?_
                      obtain rfl := HRR.out
                      refine ⟨below4 HW7.out HGE.out, P3, p3, by rw [HN3.out]; rfl, HL3.out, ?_⟩
                      exact Kd.F_now (Kd.F_far (p := ⟨g1, 3, none⟩) (Kd.F_far (p := ⟨g1, 2, none⟩) (Kd.F_far (p := ⟨g1, 1, none⟩) (Kd.F_far (p := ⟨g1, 0, none⟩) HFB.out (fun _ h => h) _) (fun _ h => h) _) (fun _ h => h) _) (fun _ h => h) _)
                    · rw [decide_eq_false hl]
                      have HRR : Aside0 (res = (z40, 8)) := ⟨by rw [HRI.out, if_neg (by simp [hl])]⟩
                      clear hl
                      go_wp2_with fail
                      refine bodyPost_ret (results_ct rfl _ _ g1 40 #[.int .u64 0, .int .i64 0, .bool false, .slice none 0 0] (0, 0) _ rfl (put4 HG17.out) Try.underlying40 rfl (by kernel_rfl)) rfl ?_
                      obtain rfl := HRR.out
                      exact ⟨below4 HW7.out HGE.out, none, 0, rfl, Nat.le_refl _, Kd.C_nil _ _⟩
                · have hd1 : decide (1024 ≤ a1) = false := decide_eq_false (by omega)
                  have hd2 : decide (1 < a2) = true := decide_eq_true (by omega)
                  have HRR : Aside0 (res = (z40, 8)) := ⟨by rw [HRI.out, if_neg (by simp [h2])]⟩
                  clear h1 h2
                  go_wp2_with fail
                  refine bodyPost_ret (results_ct rfl _ _ g1 40 #[.int .u64 0, .int .i64 0, .bool false, .slice none 0 0] (0, 0) _ rfl (put4 (HGr.out)) Try.underlying40 rfl (by kernel_rfl)) rfl ?_
                  obtain rfl := HRR.out
                  exact ⟨below4 (HWr.out) HGE.out, none, 0, rfl, Nat.le_refl _, Kd.C_nil _ _⟩
              · have hd1 : decide (1024 ≤ a1) = true := decide_eq_true (by omega)
                have HRR : Aside0 (res = (z40, 8)) := ⟨by rw [HRI.out, if_neg (by simp [h1])]⟩
                clear h1
                go_wp2_with fail
                refine bodyPost_ret (results_ct rfl _ _ g1 40 #[.int .u64 0, .int .i64 0, .bool false, .slice none 0 0] (0, 0) _ rfl (put4 (HGr.out)) Try.underlying40 rfl (by kernel_rfl)) rfl ?_
                obtain rfl := HRR.out
                exact ⟨below4 (HWr.out) HGE.out, none, 0, rfl, Nat.le_refl _, Kd.C_nil _ _⟩
      · obtain ⟨A2, c2, rfl⟩ := Kd.R_slice hR2
        have hm4 : ((x2.length : Int) != 4) = true := by simp; omega
        have HRR : Aside0 (res = (z40, 8)) := ⟨by rw [HR.out]; exact HLN.out hx4⟩
        generalize x2.length = m2 at *
        clear hx4 hR1 hR2 HERR HBI HRD HD HST HLN
        have HG3 := Aside0.mk (blk_alloc HG2.out (.cells #[.bool true, .slice A1 m1 c1, .slice A2 m2 c2] 47))
        have hcf := cf4 HG3
        go_wp2_with fail
        refine bodyPost_ret (results_ct rfl _ _ g1 40 #[.int .u64 0, .int .i64 0, .bool false, .slice none 0 0] (0, 0) _ rfl (put4 HG3.out) Try.underlying40 rfl (by kernel_rfl)) rfl ?_
        obtain rfl := HRR.out
        exact ⟨below4 (below_alloc HB2.out _) HGE.out, none, 0, rfl, Nat.le_refl _, Kd.C_nil _ _⟩
    · obtain ⟨A2, c2, rfl⟩ := Kd.R_slice hR2
      have hx0' : x0 = false := by simpa using hx0
      subst hx0'
      have HRR : Aside0 (res = (z40, 8)) := ⟨by rw [HR.out]; exact HST.out rfl⟩
      generalize x2.length = m2 at *
      clear hx0 hR1 hR2 HERR HBI HRD HD HST HLN
      have HG3 := Aside0.mk (blk_alloc HG2.out (.cells #[.bool false, .slice A1 m1 c1, .slice A2 m2 c2] 47))
      have hcf := cf4 HG3
      go_wp2_with fail
      refine bodyPost_ret (results_ct rfl _ _ g1 40 #[.int .u64 0, .int .i64 0, .bool false, .slice none 0 0] (0, 0) _ rfl (put4 HG3.out) Try.underlying40 rfl (by kernel_rfl)) rfl ?_
      obtain rfl := HRR.out
      exact ⟨below4 (below_alloc HB2.out _) HGE.out, none, 0, rfl, Nat.le_refl _, Kd.C_nil _ _⟩
end Go.Proofs.Ytdjoekckhmggbaa.H
