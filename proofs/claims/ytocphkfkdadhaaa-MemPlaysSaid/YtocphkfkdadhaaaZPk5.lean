import Derived.Test.YtocphkfkdadhaaaZPk4
import Derived.Test.YtocphkfkdadhaaaZPk1
import Derived.Deep.RegionHeld3
import Derived.Deep.RegionLaw
import Derived.Great.BuildSlice
import Derived.Laws.StructEq
namespace Go.Proofs.Ytocphkfkdadhaaa.H
open Go.RowKit Go.Proofs.YtocphkfkdadhaaaW.PrintWords Go.Proofs.YtocphkfkdadhaaaW.PrintLast Go.Proofs.YtocphkfkdadhaaaW.PrintMore
set_option linter.unusedVariables false
set_option linter.unusedSimpArgs false
theorem turnedP_two (x a b : Nat) : turnedP x [a, b] = rotr x a ^^^ rotr x b := by
  unfold turnedP
  rw [List.foldl_cons, List.foldl_cons, List.foldl_nil, Nat.zero_xor]
theorem turnedP_three (x a b c : Nat) : turnedP x [a, b, c] = rotr x a ^^^ rotr x b ^^^ rotr x c := by
  unfold turnedP
  rw [List.foldl_cons, List.foldl_cons, List.foldl_cons, List.foldl_nil, Nat.zero_xor]
theorem round_eq (s0 s1 s2 s3 s4 s5 s6 s7 k w : Nat) : roundP [s0, s1, s2, s3, s4, s5, s6, s7] k w =
    [add32 (add32 (add32 (add32 (add32 s7 (rotr s4 6 ^^^ rotr s4 11 ^^^ rotr s4 25)) ((s4 &&& s5) ^^^ (not32 s4 &&& s6))) k) w) (add32 (rotr s0 2 ^^^ rotr s0 13 ^^^ rotr s0 22) ((s0 &&& s1) ^^^ (s0 &&& s2) ^^^ (s1 &&& s2))), s0, s1, s2,
      add32 s3 (add32 (add32 (add32 (add32 s7 (rotr s4 6 ^^^ rotr s4 11 ^^^ rotr s4 25)) ((s4 &&& s5) ^^^ (not32 s4 &&& s6))) k) w), s4, s5, s6] := by
  have e1 := turnedP_three s4 6 11 25
  have e2 := turnedP_three s0 2 13 22
  have e3 := add32_assoc (add32 (add32 s7 (turnedP s4 [6, 11, 25])) ((s4 &&& s5) ^^^ (not32 s4 &&& s6))) k w
  rw [← e1, ← e2, e3]
  rfl
theorem words16_at (b : List Nat) (t : Nat) (ht : t < 16) : (words16 b).take (t + 1) = (words16 b).take t ++ [wordAt b t] := by
  rw [List.take_succ_eq_append_getElem (by simp [words16]; omega)]
  simp [words16]
set_option maxHeartbeats 4000000 in
set_option maxRecDepth 100000 in
theorem block_any (q b : List Nat) (hh : q.length = 8) (hh2 : ∀ x ∈ q, x < 4294967296) (hb : b.length = 64) (hb2 : ∀ x ∈ b, x < 256) (gb ob c : Nat) (hc : 64 ≤ c) (w : World)
    (hC : ∀ i (h : i < b.length), w.cell? ⟨gb, ob + i, none⟩ = some (.int .u8 (b[i] : Int))) :
    Calls Try.prog 128 #[.agg (cellsW q), .slice (some ⟨gb, ob, none⟩) 64 c] w fun e w' => e = .returned (.agg (cellsW (blockP q b))) ∧ Below w.heap.size w w' := by
  have HC := Aside0.mk hC
  clear hC
  have H0 := Aside0.mk (Own.start w)
  have Hq : Aside0 (Arr 8 (cellsW q)) := ⟨Arr_W hh⟩
  have HA1 := Aside0.mk Arr_KS
  have R8 : Aside0 (Arr 8 (Array.replicate 8 (.int .u32 0))) := ⟨Arr_rep _ _ rfl⟩
  have R64 : Aside0 (Arr 64 (Array.replicate 64 (.int .u32 0))) := ⟨Arr_rep _ _ rfl⟩
  have hlen := fun W : World => True
  clear hlen
  go_enter Try.func128, Try.ntmps128
  go_wp2_with (first
    | fail
    | ((with_reducible refine gate_dst (N := 2) rfl ?_); refine own_box H0.out rfl (N := 2) rfl (t := 187) rfl (.agg (cellsW q)) rfl ?_; intro g2 w1 H1 B1; replace H1 := Aside0.mk H1; replace B1 := Aside0.mk B1)
    | ((with_reducible refine gate_dst (N := 4) rfl ?_); refine own_alloc H1.out rfl (N := 4) rfl (t := 187) rfl (Array.replicate 8 (.int .u32 0)) 8 (by kernel_rfl) ?_; intro g4 w2 H2 B2; replace H2 := Aside0.mk H2; replace B2 := Aside0.mk B2)
    | (go_at_call 155; refine (kays_any _).mono ?_; rintro e w3 ⟨rfl, hB3⟩; have H3 := Aside0.mk (H2.out.step hB3); replace hB3 := Aside0.mk hB3)
    | ((with_reducible refine gate_dst (N := 5) rfl ?_); refine own_alloc H3.out rfl (N := 5) rfl (t := 185) rfl (Array.replicate 64 (.int .u32 0)) 64 (by kernel_rfl) ?_; intro g5 w4 H4 B4; replace H4 := Aside0.mk H4; replace B4 := Aside0.mk B4)
    | ((with_reducible refine own_store H4.out 0 g5 _ 185 rfl rfl (.tmp 5) (.tmp 19) rfl (cellsW KS) ?_ ?_ 64 R64.out HA1.out (by kernel_rfl) ?_); (case _ => rfl); (case _ => rfl); intro w5 H5; replace H5 := Aside0.mk H5)
    | ((with_reducible refine gate_dst (N := 6) rfl ?_); refine own_alloc H5.out rfl (N := 6) rfl (t := 185) rfl (Array.replicate 64 (.int .u32 0)) 64 (by kernel_rfl) ?_; intro g6 w6 H6 B6; replace H6 := Aside0.mk H6; replace B6 := Aside0.mk B6)
    )
  have H7 : Aside0 (Own w.heap.size w w6 [.blk g6 (cellsW ((words16 b).take 0 ++ List.replicate (64 - 0) 0)) 185, .blk g5 (cellsW KS) 185, .blk g4 (Array.replicate 8 (.int .u32 0)) 187, .blk g2 (cellsW q) 187]) := ⟨by
    have e : cellsW ((words16 b).take 0 ++ List.replicate (64 - 0) 0) = Array.replicate 64 (.int .u32 0) := rfl
    rw [e]; exact H6.out⟩
  go_loopw [7] (fun v7 wr => ∃ t : Nat, t ≤ 16 ∧ v7 = .int .i64 (t : Int) ∧ Aside0 (Own w.heap.size w wr [.blk g6 (cellsW ((words16 b).take t ++ List.replicate (64 - t) 0)) 185, .blk g5 (cellsW KS) 185, .blk g4 (Array.replicate 8 (.int .u32 0)) 187, .blk g2 (cellsW q) 187])) (fun v7 _ => 16 - (intOf v7).toNat)
  case atStart => exact ⟨0, Nat.zero_le _, rfl, H7⟩
  case round =>
    obtain ⟨t, ht, rfl, HR⟩ := hrel
    by_cases hlt : t < 16
    · have hdl : decide (t < 16) = true := decide_eq_true hlt
      have hcell : ∀ j (hj : j < 64), wr.cell? ⟨gb, ob + j, none⟩ = some (.int .u8 (b.getD j 0 : Int)) := fun j hj => by
        have := HC.out j (by omega)
        rw [← getD_at b j (by omega)] at this
        exact (HR.out.below.cell (World.block_lt_of_cell? w _ this)).trans this
      have c0 := hcell (4 * t) (by omega)
      have c1 := hcell (4 * t + 1) (by omega)
      have c2 := hcell (4 * t + 2) (by omega)
      have c3 := hcell (4 * t + 3) (by omega)
      clear hcell
      have l0 := getD_lt b hb2 (4 * t)
      have l1 := getD_lt b hb2 (4 * t + 1)
      have l2 := getD_lt b hb2 (4 * t + 2)
      have l3 := getD_lt b hb2 (4 * t + 3)
      have HW : Aside0 (wordAt b t = ((b.getD (4 * t) 0 * 256 + b.getD (4 * t + 1) 0) * 256 + b.getD (4 * t + 2) 0) * 256 + b.getD (4 * t + 3) 0) := ⟨rfl⟩
      generalize b.getD (4 * t) 0 = y0 at *
      generalize b.getD (4 * t + 1) 0 = y1 at *
      generalize b.getD (4 * t + 2) 0 = y2 at *
      generalize b.getD (4 * t + 3) 0 = y3 at *
      have hcw : wr.cell? ⟨g6, t, none⟩ = some (.int .u32 0) := HR.out.cell 0 rfl t (by
        rw [show 64 - t = (63 - t) + 1 by omega, List.replicate_succ]
        exact cellsW_mid _ _ 0 t (by simp [words16]; omega))
      have hfw : wr.frozen? ⟨g6, t, none⟩ = false := HR.out.fz 0 rfl t
      go_wp2_with fail
      refine blk6 _ _ _ ?_ t gb ob c g6 y0 y1 y2 y3 _ hc hlt l0 l1 l2 l3 c0 c1 c2 c3 hcw hfw ?_ ?_ ?_ ?_
      · rfl
      · rfl
      · rfl
      · rfl
      intros
      simp only [Act.put, List.setIfInBounds_toArray, List.set_cons_succ, List.set_cons_zero]
      rw [← HW.out]
      have HN := Aside0.mk (HR.out.put 0 rfl t (.int .u32 (wordAt b t : Int)) (cs' := cellsW ((words16 b).take (t + 1) ++ List.replicate (64 - (t + 1)) 0)) (by
        rw [words16_at b t hlt, show 64 - t = (64 - (t + 1)) + 1 by omega, List.replicate_succ, cellsW_put _ _ 0 (wordAt b t) t (by simp [words16]; omega), List.append_assoc]; rfl)).drew
      generalize (wr.setCell ⟨g6, t, none⟩ (.int .u32 (wordAt b t : Int))).drew = w8 at *
      clear c0 c1 c2 c3 hcw hfw HR HW
      go_wp2_with fail
      go_roundw
      case rel => exact ⟨t + 1, hlt, by go_num, HN⟩
      case measure => simp [intOf]; omega
    · have hdl : decide (t < 16) = false := decide_eq_false hlt
      have he : t = 16 := by omega
      subst he
      clear hlt
      have HR2 : Aside0 (Own w.heap.size w wr [.blk g6 (cellsW (preW b 16 ++ List.replicate (64 - 16) 0)) 185, .blk g5 (cellsW KS) 185, .blk g4 (Array.replicate 8 (.int .u32 0)) 187, .blk g2 (cellsW q) 187]) := ⟨by
        have h := HR.out
        rw [List.take_of_length_le (by simp [words16])] at h
        exact h⟩
      go_wp2_with fail
      go_loopw [8] (fun v8 wk => ∃ t : Nat, 16 ≤ t ∧ t ≤ 64 ∧ v8 = .int .i64 (t : Int) ∧ Aside0 (Own w.heap.size w wk [.blk g6 (cellsW (preW b t ++ List.replicate (64 - t) 0)) 185, .blk g5 (cellsW KS) 185, .blk g4 (Array.replicate 8 (.int .u32 0)) 187, .blk g2 (cellsW q) 187])) (fun v8 _ => 64 - (intOf v8).toNat)
      case atStart => exact ⟨16, Nat.le_refl _, by decide, rfl, HR2⟩
      case round =>
        obtain ⟨t, ht, ht2, rfl, HT⟩ := hrel
        by_cases hlt : t < 64
        · have hdl : decide (t < 64) = true := decide_eq_true hlt
          obtain ⟨p, hp⟩ : ∃ p, p = preW b t := ⟨_, rfl⟩
          have HP := Aside0.mk hp
          have hpl := preW_len b t ht
          rw [← hp] at hpl HT
          clear hp
          have hcell : ∀ j (hj : j < t), wr.cell? ⟨g6, j, none⟩ = some (.int .u32 (p.getD j 0 : Int)) := fun j hj => HT.out.cell 0 rfl j (cellsW_low p _ j (by omega))
          have c2 := hcell (t - 2) (by omega)
          have c15 := hcell (t - 15) (by omega)
          have c7 := hcell (t - 7) (by omega)
          have c16 := hcell (t - 16) (by omega)
          clear hcell
          have HNW : Aside0 (nextW p t = add32 (add32 (add32 (turnedP (p.getD (t - 2) 0) [17, 19] ^^^ p.getD (t - 2) 0 / 1024) (p.getD (t - 7) 0)) (turnedP (p.getD (t - 15) 0) [7, 18] ^^^ p.getD (t - 15) 0 / 8)) (p.getD (t - 16) 0)) := ⟨rfl⟩
          have hx2 : p.getD (t - 2) 0 < 4294967296 := by rw [HP.out]; exact preW_at b hb2 t _
          have hx15 : p.getD (t - 15) 0 < 4294967296 := by rw [HP.out]; exact preW_at b hb2 t _
          have HX7 := Aside0.mk (fun r => cellsW_low p r (t - 7) (by omega))
          have HX16 := Aside0.mk (fun r => cellsW_low p r (t - 16) (by omega))
          generalize p.getD (t - 2) 0 = x2 at *
          generalize p.getD (t - 15) 0 = x15 at *
          generalize p.getD (t - 7) 0 = x7 at *
          generalize p.getD (t - 16) 0 = x16 at *
          go_wp2_with fail
          refine blk10 _ _ _ ?_ t g6 x15 (by omega) hlt hx15 c15 ?_ ?_ ?_
          · rfl
          · rfl
          · rfl
          intro n10
          intros
          simp only [Act.put, List.setIfInBounds_toArray, List.set_cons_succ, List.set_cons_zero]
          have c2' : (wr.drewN n10).cell? ⟨g6, t - 2, none⟩ = some (.int .u32 (x2 : Int)) := by simpa using c2
          go_wp2_with fail
          refine blk11 _ _ _ ?_ t g6 x2 (by omega) hlt hx2 c2' ?_ ?_ ?_
          · rfl
          · rfl
          · rfl
          intro n11
          intros
          simp only [Act.put, List.setIfInBounds_toArray, List.set_cons_succ, List.set_cons_zero]
          have HP1 := Aside0.mk (turnedP_two x2 17 19)
          have HP2 := Aside0.mk (turnedP_two x15 7 18)
          rw [HP1.out, HP2.out] at HNW
          generalize rotr x2 17 ^^^ rotr x2 19 ^^^ x2 / 1024 = y2 at *
          generalize rotr x15 7 ^^^ rotr x15 18 ^^^ x15 / 8 = y15 at *
          have H2 := Aside0.mk ((HT.out.drewN n10).drewN n11)
          clear c2 c15 c7 c16 c2' HP1 HP2 HT
          generalize (wr.drewN n10).drewN n11 = w10 at *
          have c7 : w10.cell? ⟨g6, t - 7, none⟩ = some (.int .u32 (x7 : Int)) := H2.out.cell 0 rfl _ (HX7.out _)
          have c16 : w10.cell? ⟨g6, t - 16, none⟩ = some (.int .u32 (x16 : Int)) := H2.out.cell 0 rfl _ (HX16.out _)
          have ct : w10.cell? ⟨g6, t, none⟩ = some (.int .u32 0) := H2.out.cell 0 rfl t (by
            rw [show 64 - t = (63 - t) + 1 by omega, List.replicate_succ]
            exact cellsW_mid _ _ 0 t hpl)
          have ft : w10.frozen? ⟨g6, t, none⟩ = false := H2.out.fz 0 rfl t
          go_wp2_with fail
          refine blk12 _ _ _ ?_ t g6 y2 y15 x7 x16 _ ht hlt c7 c16 ct ft ?_ ?_ ?_ ?_ ?_
          · rfl
          · rfl
          · rfl
          · rfl
          · rfl
          intros
          simp only [Act.put, List.setIfInBounds_toArray, List.set_cons_succ, List.set_cons_zero]
          rw [← HNW.out]
          have HN := Aside0.mk (show Own w.heap.size w (w10.setCell ⟨g6, t, none⟩ (.int .u32 (nextW p t : Int))).drew [.blk g6 (cellsW (preW b (t + 1) ++ List.replicate (64 - (t + 1)) 0)) 185, .blk g5 (cellsW KS) 185, .blk g4 (Array.replicate 8 (.int .u32 0)) 187, .blk g2 (cellsW q) 187] from (H2.out.put 0 rfl t (.int .u32 (nextW p t : Int)) (by
            rw [preW_succ b t ht, ← HP.out, show 64 - t = (64 - (t + 1)) + 1 by omega, List.replicate_succ, cellsW_put _ _ 0 (nextW p t) t hpl, List.append_assoc]; rfl)).drew)
          clear c7 c16 ct ft HX7 HX16 H2 HNW
          generalize nextW p t = nx at *
          go_wp2_with fail
          go_roundw
          case rel => exact ⟨t + 1, by omega, by omega, by go_num, HN⟩
          case measure => simp [intOf]; omega
        · have hdl : decide (t < 64) = false := decide_eq_false hlt
          have he : t = 64 := by omega
          subst he
          clear hlt
          have HT2 : Aside0 (Own w.heap.size w wr [.blk g6 (cellsW (spreadP b)) 185, .blk g5 (cellsW KS) 185, .blk g4 (Array.replicate 8 (.int .u32 0)) 187, .blk g2 (cellsW q) 187]) := ⟨by
            have h := HT.out
            rw [show preW b 64 ++ List.replicate (64 - 64) 0 = spreadP b from List.append_nil _] at h
            exact h⟩
          go_wp2_with (first
            | fail
            | ((with_reducible refine gate_dst (N := 112) rfl ?_); refine own_load HT2.out 3 g2 _ 187 rfl rfl (.tmp 2) rfl (by rfl) Try.underlying187 8 Hq.out (by kernel_rfl) ?_)
            | ((with_reducible refine gate_dst (N := 11) rfl ?_); refine own_alloc HT2.out rfl (N := 11) rfl (t := 187) rfl (Array.replicate 8 (.int .u32 0)) 8 (by kernel_rfl) ?_; intro g11 w20 H20 B20; replace H20 := Aside0.mk H20; replace B20 := Aside0.mk B20)
            | ((with_reducible refine own_store H20.out 0 g11 _ 187 rfl rfl (.tmp 11) (.tmp 112) rfl (cellsW q) ?_ ?_ 8 R8.out Hq.out (by kernel_rfl) ?_); (case _ => rfl); (case _ => rfl); intro w21 H21; replace H21 := Aside0.mk H21)
            )
          have HWE := Aside0.mk (show ∀ t, t < 64 → (cellsW (spreadP b))[t]? = some (.int .u32 ((spreadP b).getD t 0 : Int)) from fun t ht => by rw [cellsW_at _ _ (by rw [spreadP_len]; exact ht), getD_at _ _ (by rw [spreadP_len]; exact ht)])
          have HKE := Aside0.mk (show ∀ t, t < 64 → (cellsW KS)[t]? = some (.int .u32 (KS.getD t 0 : Int)) from fun t ht => by rw [cellsW_at _ _ (by exact ht), getD_at _ _ (by exact ht)])
          have HL := Aside0.mk (spreadP_len b)
          have HFIN : Aside0 (List.zipWith add32 q (stR q (spreadP b) 64) = blockP q b) := ⟨by
            rw [stR_eq q (spreadP b) (spreadP_len b) 64 (by decide), List.take_of_length_le (by rw [List.length_zip, spreadP_len]; decide)]; rfl⟩
          generalize spreadP b = ws at *
          go_loopw [12] (fun v12 wk => ∃ t : Nat, t ≤ 64 ∧ v12 = .int .i64 (t : Int) ∧ Aside0 (Own w.heap.size w wk [.blk g11 (cellsW (stR q ws t)) 187, .blk g6 (cellsW ws) 185, .blk g5 (cellsW KS) 185, .blk g4 (Array.replicate 8 (.int .u32 0)) 187, .blk g2 (cellsW q) 187])) (fun v12 _ => 64 - (intOf v12).toNat)
          case atStart => exact ⟨0, Nat.zero_le _, rfl, H21⟩
          case round =>
            obtain ⟨t, ht, rfl, HR⟩ := hrel
            by_cases hlt : t < 64
            · have hdl : decide (t < 64) = true := decide_eq_true hlt
              have HN := Aside0.mk (show stR q ws (t + 1) = roundP (stR q ws t) (KS.getD t 0) (ws.getD t 0) from rfl)
              have HSL := Aside0.mk (stR_lt q ws hh2 t)
              obtain ⟨s0, s1, s2, s3, s4, s5, s6, s7, hs⟩ := eight (stR_len q ws hh t)
              rw [hs] at HR HN HSL
              clear hs
              have b0 : s0 < 4294967296 := HSL.out _ (by simp)
              have b1 : s1 < 4294967296 := HSL.out _ (by simp)
              have b2 : s2 < 4294967296 := HSL.out _ (by simp)
              have b4 : s4 < 4294967296 := HSL.out _ (by simp)
              have b5 : s5 < 4294967296 := HSL.out _ (by simp)
              have b6 : s6 < 4294967296 := HSL.out _ (by simp)
              have c0 : wr.cell? ⟨g11, 0, none⟩ = some (.int .u32 (s0 : Int)) := HR.out.cell 0 rfl 0 rfl
              have c2 : wr.cell? ⟨g11, 2, none⟩ = some (.int .u32 (s2 : Int)) := HR.out.cell 0 rfl 2 rfl
              have c4 : wr.cell? ⟨g11, 4, none⟩ = some (.int .u32 (s4 : Int)) := HR.out.cell 0 rfl 4 rfl
              go_wp2_with fail
              refine blk17 _ _ _ ?_ g11 s0 s2 s4 c0 c2 c4 ?_ ?_
              · rfl
              · rfl
              intro n17
              intros
              simp only [Act.put, List.setIfInBounds_toArray, List.set_cons_succ, List.set_cons_zero]
              have H2 := Aside0.mk (HR.out.drewN n17)
              clear c0 c2 c4 HR
              generalize wr.drewN n17 = w17 at *
              have c5 : w17.cell? ⟨g11, 5, none⟩ = some (.int .u32 (s5 : Int)) := H2.out.cell 0 rfl 5 rfl
              have c6 : w17.cell? ⟨g11, 6, none⟩ = some (.int .u32 (s6 : Int)) := H2.out.cell 0 rfl 6 rfl
              have c7 : w17.cell? ⟨g11, 7, none⟩ = some (.int .u32 (s7 : Int)) := H2.out.cell 0 rfl 7 rfl
              have ck : w17.cell? ⟨g5, t, none⟩ = some (.int .u32 (KS.getD t 0 : Int)) := H2.out.cell 2 rfl t (HKE.out t hlt)
              have cw : w17.cell? ⟨g6, t, none⟩ = some (.int .u32 (ws.getD t 0 : Int)) := H2.out.cell 1 rfl t (HWE.out t hlt)
              generalize KS.getD t 0 = kt at *
              generalize ws.getD t 0 = wt at *
              go_wp2_with fail
              refine blk18 _ _ _ ?_ t g11 g5 g6 s4 s5 s6 s7 kt wt hlt b4 b5 b6 c5 c6 c7 ck cw ?_ ?_ ?_ ?_ ?_ ?_
              · rfl
              · rfl
              · rfl
              · rfl
              · rfl
              · rfl
              intro n18
              intros
              simp only [Act.put, List.setIfInBounds_toArray, List.set_cons_succ, List.set_cons_zero]
              have H3 := Aside0.mk (H2.out.drewN n18)
              clear c5 c6 c7 ck cw H2
              generalize w17.drewN n18 = w18 at *
              have c1 : w18.cell? ⟨g11, 1, none⟩ = some (.int .u32 (s1 : Int)) := H3.out.cell 0 rfl 1 rfl
              generalize hv1 : add32 (add32 (add32 (add32 s7 _) _) kt) wt = v1 at *
              have HV1 := Aside0.mk hv1
              clear hv1
              go_wp2_with fail
              refine blk19 _ _ _ ?_ g11 s0 s1 s2 b0 b1 b2 c1 ?_ ?_ ?_ ?_
              · rfl
              · rfl
              · rfl
              · rfl
              intro n19
              intros
              simp only [Act.put, List.setIfInBounds_toArray, List.set_cons_succ, List.set_cons_zero]
              have H4' := Aside0.mk (H3.out.drewN n19)
              clear c1 H3
              generalize w18.drewN n19 = w19 at *
              generalize hv5 : add32 _ ((s0 &&& s1) ^^^ (s0 &&& s2) ^^^ (s1 &&& s2)) = v5 at *
              have HV5 := Aside0.mk hv5
              clear hv5
              have n1 := add32_mod v1 v5
              have n2 := add32_mod s3 v1
              have HN2 : Aside0 (stR q ws (t + 1) = [add32 v1 v5, s0, s1, s2, add32 s3 v1, s4, s5, s6]) := ⟨by
                rw [HN.out, ← HV1.out, ← HV5.out]
                exact round_eq s0 s1 s2 s3 s4 s5 s6 s7 kt wt⟩
              generalize add32 v1 v5 = r0 at *
              generalize add32 s3 v1 = r4 at *
              have A1 : Aside0 (Arr 8 (cellsW [s0, s1, s2, s3, s4, s5, s6, s7])) := ⟨Arr_W rfl⟩
              have A2 : Aside0 (Arr 8 (cellsW [r0, s0, s1, s2, r4, s4, s5, s6])) := ⟨Arr_W rfl⟩
              have c1 : w19.cell? ⟨g11, 1, none⟩ = some (.int .u32 (s1 : Int)) := H4'.out.cell 0 rfl 1 rfl
              have c3 : w19.cell? ⟨g11, 3, none⟩ = some (.int .u32 (s3 : Int)) := H4'.out.cell 0 rfl 3 rfl
              have c5 : w19.cell? ⟨g11, 5, none⟩ = some (.int .u32 (s5 : Int)) := H4'.out.cell 0 rfl 5 rfl
              have c6 : w19.cell? ⟨g11, 6, none⟩ = some (.int .u32 (s6 : Int)) := H4'.out.cell 0 rfl 6 rfl
              go_wp2_with (first
                | fail
                | ((with_reducible refine own_store H4'.out 0 g11 _ 187 rfl rfl (.tmp 11) (.tmp 191) rfl (cellsW [r0, s0, s1, s2, r4, s4, s5, s6]) ?_ ?_ 8 A1.out A2.out (by kernel_rfl) ?_); (case _ => rfl); (case _ => rfl); intro w20' H5'; replace H5' := Aside0.mk H5')
                )
              go_roundw
              case rel => exact ⟨t + 1, hlt, by go_num, by have h := H5'; rw [← HN2.out] at h; exact h⟩
              case measure => simp [intOf]; omega
            · have hdl : decide (t < 64) = false := decide_eq_false hlt
              have he : t = 64 := by omega
              subst he
              clear hlt
              go_wp2_with fail
              have Hs8 := Aside0.mk (stR_len q ws hh 64)
              generalize stR q ws 64 = s at *
              go_loopw [18] (fun v18 wk => ∃ i : Nat, i ≤ 8 ∧ v18 = .int .i64 (i : Int) ∧ Aside0 (Own w.heap.size w wk [.blk g11 (cellsW s) 187, .blk g6 (cellsW ws) 185, .blk g5 (cellsW KS) 185, .blk g4 (Array.replicate 8 (.int .u32 0)) 187, .blk g2 (cellsW (addT q s i)) 187])) (fun v18 _ => 8 - (intOf v18).toNat)
              case atStart => exact ⟨0, Nat.zero_le _, rfl, HR⟩
              case round =>
                obtain ⟨i, hi, rfl, HI⟩ := hrel
                by_cases hlt : i < 8
                · have hdl : decide (i < 8) = true := decide_eq_true hlt
                  have HAT := Aside0.mk (addT_at q s hh Hs8.out i hlt)
                  have ca : wr.cell? ⟨g2, i, none⟩ = some (.int .u32 (q.getD i 0 : Int)) := HI.out.cell 4 rfl i HAT.out.1
                  have cb : wr.cell? ⟨g11, i, none⟩ = some (.int .u32 (s.getD i 0 : Int)) := HI.out.cell 0 rfl i HAT.out.2.1
                  have fa : wr.frozen? ⟨g2, i, none⟩ = false := HI.out.fz 4 rfl i
                  have HI2 := Aside0.mk (HI.out.put 4 rfl i (.int .u32 (add32 (q.getD i 0) (s.getD i 0) : Int)) HAT.out.2.2).drew
                  generalize q.getD i 0 = x at *
                  generalize s.getD i 0 = y at *
                  go_wp2_with fail
                  refine blk24 _ _ _ ?_ i g2 g11 x y hlt ca cb fa ?_ ?_ ?_ ?_
                  · rfl
                  · rfl
                  · rfl
                  · rfl
                  intros
                  simp only [Act.put, List.setIfInBounds_toArray, List.set_cons_succ, List.set_cons_zero]
                  clear ca cb fa HAT
                  generalize ((wr.setCell ⟨g2, i, none⟩ (.int .u32 (add32 x y : Int))).drew) = w22 at *
                  go_wp2_with fail
                  go_roundw
                  case rel => exact ⟨i + 1, hlt, by go_num, HI2⟩
                  case measure => simp [intOf]; omega
                · have hdl : decide (i < 8) = false := decide_eq_false hlt
                  have he : i = 8 := by omega
                  subst he
                  clear hlt
                  have HZ : Aside0 (Arr 8 (cellsW (addT q s 8))) := ⟨Arr_W (by rw [addT_end q s hh Hs8.out, List.length_zipWith, hh, Hs8.out]; rfl)⟩
                  have HFE : Aside0 (addT q s 8 = blockP q b) := ⟨(addT_end q s hh Hs8.out).trans HFIN.out⟩
                  generalize addT q s 8 = res at *
                  go_wp2_with (first
                    | fail
                    | ((with_reducible refine gate_dst (N := 204) rfl ?_); refine own_load HI.out 4 g2 _ 187 rfl rfl (.tmp 2) rfl (by rfl) Try.underlying187 8 HZ.out (by kernel_rfl) ?_)
                    | ((with_reducible refine own_store HI.out 3 g4 _ 187 rfl rfl (.tmp 4) (.tmp 204) rfl (cellsW res) ?_ ?_ 8 R8.out HZ.out (by kernel_rfl) ?_); (case _ => rfl); (case _ => rfl); intro w30 H30; replace H30 := Aside0.mk H30)
                    )
                  refine bodyPost_ret (own_result rfl _ H30.out 3 g4 (cellsW res) rfl rfl Try.underlying187 8 HZ.out (by kernel_rfl)) rfl ?_
                  exact ⟨by rw [HFE.out], H30.out.below⟩
end Go.Proofs.Ytocphkfkdadhaaa.H

namespace Go.Proofs.Ytocphkfkdadhaaa.H
open Go.RowKit Go.Proofs.YtocphkfkdadhaaaW.PrintWords Go.Proofs.YtocphkfkdadhaaaW.PrintLast Go.Proofs.YtocphkfkdadhaaaW.PrintMore
set_option linter.unusedVariables false
set_option linter.unusedSimpArgs false
set_option maxHeartbeats 4000000 in
set_option maxRecDepth 100000 in
theorem rsum_any (A : Option Addr) (c : Nat) (l : List Int) (w : World) (hB : Byt l) (hC : Kd.C kB w A l.length l) (hc : l.length ≤ c) (hl : l.length ≤ 140737488355200) :
    Calls Try.prog 80 #[.slice A l.length c] w fun e w' => e = .returned (.agg (cellsB (shaI l))) ∧ Below w.heap.size w w' := by
  obtain ⟨nb, hnb, hnb2⟩ := padI_len l
  have HSH := Aside0.mk (shaI_eq l nb hnb)
  have HPB := Aside0.mk (padI_byt hB)
  have HPD := Aside0.mk (fun W h => rpadded_any A c l W h hc hl)
  have HC := Aside0.mk hC
  have HSL := Aside0.mk (shaI_len l)
  have HOK := Aside0.mk (hsP_ok (toN (padI l)) nb (by rw [toN, List.length_map, hnb]))
  have HNB := Aside0.mk hnb
  have HPP : Aside0 (0 < (padI l).length) := ⟨by simp [padI]; omega⟩
  have hnl : nb ≤ 2199023255560 := by omega
  have H0 := Aside0.mk (Own.start w)
  have HA1 := Aside0.mk Arr_KS
  have HA2 := Aside0.mk Arr_HS
  have R8 : Aside0 (Arr 8 (Array.replicate 8 (.int .u32 0))) := ⟨Arr_rep _ _ rfl⟩
  have R64 : Aside0 (Arr 64 (Array.replicate 64 (.int .u32 0))) := ⟨Arr_rep _ _ rfl⟩
  have R32 : Aside0 (Arr 32 (Array.replicate 32 (.int .u8 0))) := ⟨Arr_rep _ _ rfl⟩
  generalize padI l = p at *
  generalize shaI l = res at *
  clear hC hB hnb hnb2
  have HL := Aside0.mk hc
  clear hc
  generalize l.length = n at *
  go_enter Try.func80, Try.ntmps80
  go_wp2_with (first
    | fail
    | ((with_reducible refine gate_dst (N := 2) rfl ?_); refine own_alloc H0.out rfl (N := 2) rfl (t := 25) rfl (Array.replicate 32 (.int .u8 0)) 32 (by kernel_rfl) ?_; intro g2 w1 H1 B1; replace H1 := Aside0.mk H1; replace B1 := Aside0.mk B1)
    | ((with_reducible refine gate_dst (N := 3) rfl ?_); refine own_alloc H1.out rfl (N := 3) rfl (t := 187) rfl (Array.replicate 8 (.int .u32 0)) 8 (by kernel_rfl) ?_; intro g4 w5 H5 B5; replace H5 := Aside0.mk H5; replace B5 := Aside0.mk B5)
    | ((with_reducible refine own_store H5.out 0 g4 _ 187 rfl rfl (.tmp 3) (.tmp 8) rfl (cellsW HS) ?_ ?_ 8 R8.out HA2.out (by kernel_rfl) ?_); (case _ => rfl); (case _ => rfl); intro w7 H7; replace H7 := Aside0.mk H7)
    | (go_at_call 127; refine (HPD.out _ (Kd.C_below HC.out H7.out.below)).mono ?_; rintro e w8 ⟨v8, rfl, hO8⟩; have H8 := Aside0.mk (H7.out.call hO8); replace hO8 := Aside0.mk hO8)
    )
  have hnb0 : 0 < nb := by have := HPP.out; have := HNB.out; omega
  obtain ⟨g8, c8, rfl, hc8⟩ := H8.out.form 0 rfl (by have := HNB.out; omega)
  rw [HNB.out] at H8 hO8 hc8 ⊢
  have HC8 := Aside0.mk hc8
  clear hc8 hO8
  go_loopw [5] (fun v5 wr => ∃ i : Nat, i ≤ nb ∧ v5 = .int .i64 (64 * (i : Int)) ∧ Aside0 (Own w.heap.size w wr [.row kB 5 (.slice (some ⟨g8, 0, none⟩) (64 * nb) c8) p, .blk g4 (cellsW (hsP (toN p) i)) 187, .blk g2 (Array.replicate 32 (.int .u8 0)) 25])) (fun v5 _ => 64 * nb - (intOf v5).toNat)
  case atStart => exact ⟨0, Nat.zero_le _, rfl, H8⟩
  case round =>
    obtain ⟨i, hi, rfl, HR⟩ := hrel
    by_cases hlt : i < nb
    · have hdl : (64 * (i : Int)) < ((64 * nb : Nat) : Int) := by omega
      have HX := Aside0.mk (HOK.out i hi)
      have HBL : Aside0 ((((toN p).drop (64 * i)).take 64).length = 64) := ⟨by have := HNB.out; simp [toN]; omega⟩
      have HTH := Aside0.mk (fun (W : World) (hrow : ∀ k (h : k < p.length), W.cell? ⟨g8, k, none⟩ = some (Value.int .u8 p[k])) (cc : Nat) (hcc : 64 ≤ cc) => block_any (hsP (toN p) i) (((toN p).drop (64 * i)).take 64) HX.out.1 HX.out.2 HBL.out (fun x hx => toN_lt HPB.out x (List.mem_of_mem_drop (List.mem_of_mem_take hx))) g8 (64 * i) cc hcc W (fun j hj => by rw [chunk_cell p HPB.out (64 * i) j hj]; exact hrow _ _))
      have HNX : Aside0 (hsP (toN p) (i + 1) = blockP (hsP (toN p) i) (((toN p).drop (64 * i)).take 64)) := ⟨rfl⟩
      have HOKn := Aside0.mk (HOK.out (i + 1) hlt)
      generalize ((toN p).drop (64 * i)).take 64 = b at *
      obtain ⟨h0, h1, h2, h3, h4, h5, h6, h7, he⟩ := eight HX.out.1
      obtain ⟨r0, r1, r2, r3, r4, r5, r6, r7, hr⟩ := eight HOKn.out.1
      rw [hr] at HNX
      rw [he] at HR HTH HNX
      rw [← HNX.out] at HTH
      have HRR := Aside0.mk hr
      clear he hr HNX
      have c0 : wr.cell? ⟨g4, 0, none⟩ = some (.int .u32 (h0 : Int)) := HR.out.cell 1 rfl 0 rfl
      have c1 : wr.cell? ⟨g4, 1, none⟩ = some (.int .u32 (h1 : Int)) := HR.out.cell 1 rfl 1 rfl
      have c2 : wr.cell? ⟨g4, 2, none⟩ = some (.int .u32 (h2 : Int)) := HR.out.cell 1 rfl 2 rfl
      have c3 : wr.cell? ⟨g4, 3, none⟩ = some (.int .u32 (h3 : Int)) := HR.out.cell 1 rfl 3 rfl
      have c4 : wr.cell? ⟨g4, 4, none⟩ = some (.int .u32 (h4 : Int)) := HR.out.cell 1 rfl 4 rfl
      have c5' : wr.cell? ⟨g4, 5, none⟩ = some (.int .u32 (h5 : Int)) := HR.out.cell 1 rfl 5 rfl
      have c6 : wr.cell? ⟨g4, 6, none⟩ = some (.int .u32 (h6 : Int)) := HR.out.cell 1 rfl 6 rfl
      have c7 : wr.cell? ⟨g4, 7, none⟩ = some (.int .u32 (h7 : Int)) := HR.out.cell 1 rfl 7 rfl
      have HC8' := HC8.out
      have i1 : IntKind.i64.wrap (64 * (i : Int) + 64) = 64 * (i : Int) + 64 := IntWalk.i64_in _ (by omega)
      have i2 : (64 * (i : Int)).toNat = 64 * i := by omega
      have i3 : (64 * (i : Int) + 64).toNat = 64 * i + 64 := by omega
      have i4 : (0 : Int) ≤ 64 * (i : Int) ∧ 64 * (i : Int) ≤ 64 * (i : Int) + 64 ∧ 64 * (i : Int) + 64 ≤ (c8 : Int) := by omega
      have i5 : ¬ c8 = 64 * i := by omega
      go_wp2_with fail
      go_region_with (first
        | (go_at_call 128; refine (HTH.out wr.drew (fun j hj => row_cells HR.out.drew 0 rfl j hj) _ (by omega)).mono ?_; rintro e w9 ⟨he9, hB9⟩; obtain rfl : e = .returned (.agg #[.int .u32 (r0 : Int), .int .u32 (r1 : Int), .int .u32 (r2 : Int), .int .u32 (r3 : Int), .int .u32 (r4 : Int), .int .u32 (r5 : Int), .int .u32 (r6 : Int), .int .u32 (r7 : Int)]) := he9; have H9 := Aside0.mk (HR.out.drew.step hB9); have d0 : w9.cell? ⟨g4, 0, none⟩ = some (.int .u32 (h0 : Int)) := H9.out.cell 1 rfl 0 rfl; have f0 : w9.frozen? ⟨g4, 0, none⟩ = false := H9.out.fz 1 rfl 0; have d1 : w9.cell? ⟨g4, 1, none⟩ = some (.int .u32 (h1 : Int)) := H9.out.cell 1 rfl 1 rfl; have f1 : w9.frozen? ⟨g4, 1, none⟩ = false := H9.out.fz 1 rfl 1; have d2 : w9.cell? ⟨g4, 2, none⟩ = some (.int .u32 (h2 : Int)) := H9.out.cell 1 rfl 2 rfl; have f2 : w9.frozen? ⟨g4, 2, none⟩ = false := H9.out.fz 1 rfl 2; have d3 : w9.cell? ⟨g4, 3, none⟩ = some (.int .u32 (h3 : Int)) := H9.out.cell 1 rfl 3 rfl; have f3 : w9.frozen? ⟨g4, 3, none⟩ = false := H9.out.fz 1 rfl 3; have d4 : w9.cell? ⟨g4, 4, none⟩ = some (.int .u32 (h4 : Int)) := H9.out.cell 1 rfl 4 rfl; have f4 : w9.frozen? ⟨g4, 4, none⟩ = false := H9.out.fz 1 rfl 4; have d5 : w9.cell? ⟨g4, 5, none⟩ = some (.int .u32 (h5 : Int)) := H9.out.cell 1 rfl 5 rfl; have f5 : w9.frozen? ⟨g4, 5, none⟩ = false := H9.out.fz 1 rfl 5; have d6 : w9.cell? ⟨g4, 6, none⟩ = some (.int .u32 (h6 : Int)) := H9.out.cell 1 rfl 6 rfl; have f6 : w9.frozen? ⟨g4, 6, none⟩ = false := H9.out.fz 1 rfl 6; have d7 : w9.cell? ⟨g4, 7, none⟩ = some (.int .u32 (h7 : Int)) := H9.out.cell 1 rfl 7 rfl; have f7 : w9.frozen? ⟨g4, 7, none⟩ = false := H9.out.fz 1 rfl 7))
      have H10 := Aside0.mk (show Own w.heap.size w _ [.row kB 5 (.slice (some ⟨g8, 0, none⟩) (64 * nb) c8) p, .blk g4 (cellsW (hsP (toN p) (i + 1))) 187, .blk g2 (Array.replicate 32 (.int .u8 0)) 25] from by
        rw [HRR.out]; exact H9.out.put8 1 rfl (.int .u32 (r0 : Int)) (.int .u32 (r1 : Int)) (.int .u32 (r2 : Int)) (.int .u32 (r3 : Int)) (.int .u32 (r4 : Int)) (.int .u32 (r5 : Int)) (.int .u32 (r6 : Int)) (.int .u32 (r7 : Int)))
      generalize ((((((((w9.setCell ⟨g4, 0, none⟩ (.int .u32 (r0 : Int))).setCell ⟨g4, 1, none⟩ (.int .u32 (r1 : Int))).setCell ⟨g4, 2, none⟩ (.int .u32 (r2 : Int))).setCell ⟨g4, 3, none⟩ (.int .u32 (r3 : Int))).setCell ⟨g4, 4, none⟩ (.int .u32 (r4 : Int))).setCell ⟨g4, 5, none⟩ (.int .u32 (r5 : Int))).setCell ⟨g4, 6, none⟩ (.int .u32 (r6 : Int))).setCell ⟨g4, 7, none⟩ (.int .u32 (r7 : Int))) = w10 at *
      clear c0 c1 c2 c3 c4 c5' c6 c7 d0 d1 d2 d3 d4 d5 d6 d7 f0 f1 f2 f3 f4 f5 f6 f7 H9 hB9 HR HTH i1 i2 i3 i4 i5 HC8'
      go_wp2_with fail
      go_roundw
      case rel => exact ⟨i + 1, hlt, by go_num, H10⟩
      case measure => simp [intOf]; omega
    · have hie : i = nb := by omega
      subst hie
      clear hlt
      have hdl : ¬ (64 * (i : Int)) < ((64 * i : Nat) : Int) := by omega
      have HFL := Aside0.mk (fill_at (hsP (toN p) i) (HOK.out i (Nat.le_refl _)).1)
      have H8L := Aside0.mk (Arr_W (HOK.out i (Nat.le_refl _)).1)
      have HIX := Aside0.mk (show ∀ (m : Nat), m < 8 → (cellsW (hsP (toN p) i))[m]? = some (.int .u32 ((hsP (toN p) i).getD m 0 : Int)) from fun m hm => by rw [cellsW_at _ _ (by rw [(HOK.out i (Nat.le_refl _)).1]; exact hm), getD_at _ _ (by rw [(HOK.out i (Nat.le_refl _)).1]; exact hm)])
      have HFN : Aside0 ((toI ((hsP (toN p) i).flatMap bytes4)).length = 32) := ⟨by rw [← HSH.out]; exact HSL.out⟩
      have HRES := HSH.out
      generalize hsP (toN p) i = hs at *
      generalize toI (hs.flatMap bytes4) = full at *
      subst HRES
      go_wp2_with (first
        | fail
        | ((with_reducible refine gate_dst (N := 6) rfl ?_); refine own_alloc HR.out rfl (N := 6) rfl (t := 25) rfl (Array.replicate 32 (.int .u8 0)) 32 (by kernel_rfl) ?_; intro g6 w20 H20 B20; replace H20 := Aside0.mk H20; replace B20 := Aside0.mk B20)
        )
      have H21 : Aside0 (Own w.heap.size w w20 [.blk g6 (cellsB (res.take 0 ++ List.replicate (32 - 0) 0)) 25, .blk g4 (cellsW hs) 187, .blk g2 (Array.replicate 32 (.int .u8 0)) 25]) := ⟨by
        have h := (H20.out.erase 1)
        have e : cellsB (res.take 0 ++ List.replicate (32 - 0) 0) = Array.replicate 32 (.int .u8 0) := rfl
        rw [e]; exact h⟩
      clear hdl
      go_loopw [7] (fun v7 wk => ∃ k : Nat, k ≤ 32 ∧ v7 = .int .i64 (k : Int) ∧ Aside0 (Own w.heap.size w wk [.blk g6 (cellsB (res.take k ++ List.replicate (32 - k) 0)) 25, .blk g4 (cellsW hs) 187, .blk g2 (Array.replicate 32 (.int .u8 0)) 25])) (fun v7 _ => 32 - (intOf v7).toNat)
      case atStart => exact ⟨0, Nat.zero_le _, rfl, H21⟩
      case round =>
        obtain ⟨k, hk, rfl, HO⟩ := hrel
        by_cases hlt : k < 32
        · have hdl : decide (k < 32) = true := decide_eq_true hlt
          have hx := HFL.out (k / 4) (k % 4) (by omega) (by omega)
          rw [show 4 * (k / 4) + k % 4 = k by omega] at hx
          have ch : wr.cell? ⟨g4, k / 4, none⟩ = some (.int .u32 (hs.getD (k / 4) 0 : Int)) := HO.out.cell 1 rfl (k / 4) (HIX.out (k / 4) (by omega))
          generalize hs.getD (k / 4) 0 = x at *
          obtain ⟨q0, q1⟩ := fill_put res k HFN.out hlt
          rw [hx, cast_shr8 x (24 - 8 * (k % 4))] at q1
          have ca := HO.out.cell 0 rfl k q0
          have fa := HO.out.fz 0 rfl k
          have HP3 := Aside0.mk (HO.out.put 0 rfl k _ q1)
          clear q0 q1 hx
          go_wp2_with fail
          go_roundw
          case rel => exact ⟨k + 1, hlt, by go_num, HP3⟩
          case measure => simp [intOf]; omega
        · have hdl : decide (k < 32) = false := decide_eq_false hlt
          have he : k = 32 := by omega
          subst he
          clear hlt
          have HF : Aside0 (Own w.heap.size w wr [.blk g6 (cellsB res) 25, .blk g4 (cellsW hs) 187, .blk g2 (Array.replicate 32 (.int .u8 0)) 25]) := ⟨by
            have h := HO.out
            rw [show res.take 32 ++ List.replicate (32 - 32) 0 = res by rw [List.take_of_length_le (by rw [HFN.out]; decide)]; simp] at h
            exact h⟩
          have HA6 := Aside0.mk (Arr_B HFN.out)
          go_wp2_with (first
            | fail
            | ((with_reducible refine gate_dst (N := 41) rfl ?_); refine own_load HF.out 0 g6 _ 25 rfl rfl (.tmp 6) rfl (by rfl) Try.underlying25 32 HA6.out (by kernel_rfl) ?_)
            | ((with_reducible refine own_store HF.out 2 g2 _ 25 rfl rfl (.tmp 2) (.tmp 41) rfl (cellsB res) ?_ ?_ 32 R32.out HA6.out (by kernel_rfl) ?_); (case _ => rfl); (case _ => rfl); intro w30 H30; replace H30 := Aside0.mk H30)
            )
          refine bodyPost_ret (own_result rfl _ H30.out 2 g2 (cellsB res) rfl rfl Try.underlying25 32 HA6.out (by kernel_rfl)) rfl ?_
          exact ⟨rfl, H30.out.below⟩
end Go.Proofs.Ytocphkfkdadhaaa.H

namespace Go.Proofs.Ytocphkfkdadhaaa.H
open Go.RowKit Go.Proofs.YtocphkfkdadhaaaW.PrintWords Go.Proofs.YtocphkfkdadhaaaW.PrintLast Go.Proofs.YtocphkfkdadhaaaW.PrintMore
set_option linter.unusedVariables false
set_option linter.unusedSimpArgs false
namespace Own
variable {B : Nat} {w0 W W1 : World} {L : List Item} {α : Type} {d : Kd α} {e : Nat}
theorem take (h : Own B w0 W L) (k : Nat) {A : Option Addr} {n c : Nat} {xs : List α} (hk : L[k]? = some (.row d e (.slice A n c) xs)) (m : Nat) (hm : m ≤ xs.length) : Own B w0 W (L.set k (.row d e (.slice A m c) (xs.take m))) :=
  h.turn k hk fun S hs => Kd.R_take hs hm
theorem lit (h : Own B w0 W L) (d : Kd α) (hF : Flat d) (e : Nat) (xs : List α) (inner : List Value) (hrep : Reps (d.K W) d.sz xs inner) (hm : xs.length ≤ 9223372036854775807) :
    Own B w0 (W.alloc (.cells inner.toArray e)) (.row d e (.slice (some ⟨W.heap.size, 0, none⟩) xs.length xs.length) xs :: L) := by
  refine h.fresh (below_alloc (Below.refl _ _) _) (.row d e _ xs) ⟨fun k hk => ?_, inner, ?_, ?_⟩
  · simp only [Value.ownBlock, Option.some.injEq] at hk
    subst hk
    exact ⟨Nat.le_refl _, blk_lt (blk_new W _)⟩
  · have hl : inner.length = xs.length * d.sz := hrep.1
    have := World.ownsRow_lit (base := 0) (e := e) (size := d.sz) W inner.toArray xs.length (Nat.zero_le _) (by simpa [maxLen] using hm) (by simpa using hl)
    simpa using this
  · refine hrep.imp_ fun x cs hx => d.M_mono (fun _ hk => hk.elim) (hF (d.K_below (below_alloc (Below.refl _ _) _) hx))
end Own
theorem C_blkB {W : World} {g : Nat} {t : TypeId} {xs : List Int} (h : W.heap[g]? = some (.cells (cellsB xs) t (0, 0))) (hm : xs.length ≤ 9223372036854775807) : Kd.C kB W (some ⟨g, 0, none⟩) xs.length xs := by
  refine ⟨rfl, hm, fun _ => ⟨_, rfl, fun j p hj => ⟨_, rfl, rfl, fun i u hu => ?_⟩⟩⟩
  have h0 : i = 0 := by
    have := (List.getElem?_eq_some_iff.1 hu).1
    simpa using this
  subst h0
  rw [Nat.add_zero, show j * kB.sz = j from Nat.mul_one j, add_plain, blk_cell h j]
  obtain ⟨hl, he⟩ := List.getElem?_eq_some_iff.1 hj
  simp only [List.getElem?_cons_zero, Option.some.injEq] at hu
  subst hu
  simp [cellsB, hl, he]
section
variable {P : Program} {ops : Array Oper} {rest : List Oper} {o : Oper} {a : Act} {Q : Exit → Act → World → Prop} {B : Nat} {w0 W : World} {L : List Item} {α : Type} (d : Kd α)
theorem own_append_zeros (hF : Flat d) (H : Own B w0 W L) (k : Nat) {v : Value} {xs : List α} {e : Nat} (hk : L[k]? = some (.row d e v xs)) (hgd : o.guard = none) (s x : Operand) (t ti : TypeId) (z : Value) (bytes : Nat)
    (ho : o.op = .call { callee := .builtin .append, args := #[s, x], argTypes := #[t, ti] })
    (ht : P.underlying t = some (.slice e)) {kk : IntKind} (hti : P.underlying ti = some (.int kk)) (hinfo : (P.info? e).map (fun i => (i.zero, i.size, i.bytes)) = some (some z, d.sz, bytes)) (hz : z.cells.size = d.sz) (hs0 : 0 < d.sz) (hb0 : 0 < bytes)
    (z0 : α) (hzero : ∀ w, d.K w z0 z.cells.toList) {kx : IntKind} (n : Nat) (hs : a.eval s = v) (hx : a.eval x = .int kx (n : Int)) (hl : (xs.length + n) * bytes ≤ 140737488355328)
    (h : ∀ v1 w1, Own B w0 w1 (L.set k (.row d e v1 (xs ++ List.replicate n z0))) → wpList P ops Q rest (a.put o.dst v1) w1) :
    wpList P ops Q (o :: rest) a W := by
  obtain ⟨S, hS, hR, hch⟩ := H.focus k hk
  have hR : Kd.R d e W 0 S v xs := hR
  refine Kd.R_append_zeros d 0 hgd s x t ti e z bytes ho ht hti hinfo hz hs0 hb0 v xs z0 (n : Int) (fun i => S i ∨ W.heap.size ≤ i) hs hx (hF (hzero W)) (fun i hi => .inr hi) (Kd.R_mono hR fun i hi => .inl hi) (Int.natCast_nonneg n) (w0 := W) ⟨rfl, rfl, rfl, Nat.le_refl _, fun _ _ => rfl⟩ (Nat.zero_le _) (by rw [Int.toNat_natCast]; exact hl) ?_
  intro v1 w1 hR1 _ hg _
  rw [Int.toNat_natCast] at hR1
  refine h v1 w1 (hch w1 (.row d e v1 _) v.ownBlock hg (fun g hr => hR.1 g hr) ?_)
  exact Kd.R_mono (Kd.R_bound hR1) (fun i hi => by rcases hi with ⟨hi | hi, h2, h3, _⟩; exact .inl hi; exact .inr ⟨hi, h3⟩)
variable {Kc : Act → World → Prop}
theorem own_append_row_step (hF : Flat d) (H : Own B w0 W L) (k : Nat) {v : Value} {xs : List α} {e : Nat} (hk : L[k]? = some (.row d e v xs)) (hgd : o.guard = none) (s x : Operand) (t : TypeId) (z : Value) (bytes : Nat)
    (ho : o.op = .call { callee := .builtin .append, args := #[s, x], argTypes := #[t, t] })
    (ht : P.underlying t = some (.slice e)) (hinfo : (P.info? e).map (fun i => (i.zero, i.size, i.bytes)) = some (some z, d.sz, bytes)) (hz : z.cells.size = d.sz) (hs0 : 0 < d.sz) (hb0 : 0 < bytes)
    (ys : List α) (A : Option Addr) (m c : Nat) (hs : a.eval s = v) (hx : a.eval x = .slice A m c) (hC : d.C W A m ys) (hl : (xs.length + m) * bytes ≤ 140737488355328)
    (h : ∀ v1 w1, Own B w0 w1 (L.set k (.row d e v1 (xs ++ ys))) → Kc (a.put o.dst v1) w1) :
    if Region.wanted o (yielded ops a.tmps) = true then Oper.wp P o a W Kc Q else Kc (a.put o.dst undef) W := by
  obtain ⟨S, hS, hR, hch⟩ := H.focus k hk
  have hR : Kd.R d e W 0 S v xs := hR
  refine Kd.R_append_rows_step d 0 (by simp [Region.wanted, hgd]) s x t e z bytes ho ht hinfo hz hs0 hb0 v xs ys A m c (fun i => S i ∨ W.heap.size ≤ i) (fun _ => False) hs hx (Kd.R_mono hR fun i hi => .inl hi) hC (fun x cs hk => hF hk) (fun _ hk => hk.elim) (fun i hi => .inr hi) (w0 := W) ⟨rfl, rfl, rfl, Nat.le_refl _, fun _ _ => rfl⟩ (Nat.zero_le _) hl ?_
  intro v1 w1 hR1 _ hg _
  refine h v1 w1 (hch w1 (.row d e v1 (xs ++ ys)) v.ownBlock hg (fun g hr => hR.1 g hr) ?_)
  exact Kd.R_mono (Kd.R_bound hR1) (fun i hi => by rcases hi with ⟨hi | hi, h2, h3, _⟩; exact .inl hi; exact .inr ⟨hi, h3⟩)
end
theorem flatten_take (ls : List (List Int)) (i : Nat) (h : i < ls.length) : (ls.take (i + 1)).flatten = (ls.take i).flatten ++ ls.getD i [] := by
  rw [List.take_succ_eq_append_getElem h, List.flatten_append]
  simp [h]
theorem flatten_le (ls : List (List Int)) (i : Nat) : (ls.take i).flatten.length ≤ ls.flatten.length := by
  have h : ls.flatten = (ls.take i).flatten ++ (ls.drop i).flatten := by rw [← List.flatten_append, List.take_append_drop]
  rw [h, List.length_append]
  omega
set_option maxHeartbeats 1000000 in
theorem growB_nil (n : Nat) (hn : n ≤ 140737488355328) (w : World) :
    Calls Try.prog 166 #[.slice none 0 0, .int .i64 (n : Int)] w fun e w' => ∃ v : Value, e = .returned v ∧ Own w.heap.size w w' [.row kB 5 v []] := by
  have H0 := Aside0.mk ((Own.start w).null kB 5)
  by_cases h0 : n = 0
  · subst h0
    go_enter Try.func166, Try.ntmps166
    go_wp2_with fail
    go_ret
    exact ⟨_, rfl, H0.out⟩
  · have hp : decide (0 < n) = true := decide_eq_true (by omega)
    have hge : ¬ (n : Int) < 0 := by omega
    go_enter Try.func166, Try.ntmps166
    go_wp2_with (first
      | ((with_reducible refine gate_dst (N := 22) rfl ?_); refine own_append_zeros kB Flat_B H0.out 0 rfl rfl (.tmp 20) (.tmp 21) 74 3 (.int .u8 0) 1 rfl Try.underlying74 Try.underlying3 infoB rfl (by decide) (by decide) 0 (fun _ => rfl) n rfl rfl ?_ ?_; (case _ => simp; omega); intro v1 w1 H1; replace H1 := Aside0.mk H1; obtain ⟨g1, c1, rfl, hc1⟩ := H1.out.form 0 rfl (by simp; omega); simp only [List.nil_append, List.length_replicate] at H1 hc1 ⊢))
    go_ret
    have h := H1.out.take 0 rfl 0 (Nat.zero_le _)
    exact ⟨_, rfl, h⟩
set_option maxHeartbeats 2000000 in
set_option maxRecDepth 100000 in
theorem concatB_any (ls : List (List Int)) (A : Option Addr) (c : Nat) (w : World) (hC : Kd.C (Kd.slice 5 kB) w A ls.length ls) (hc : ls.length ≤ c) (hl : ls.flatten.length ≤ 140737488355328) :
    Calls Try.prog 151 #[.slice A ls.length c] w fun e w' => ∃ v : Value, e = .returned v ∧ Own w.heap.size w w' [.row kB 5 v ls.flatten] := by
  have HC := Aside0.mk hC
  have Hl := Aside0.mk hl
  have hm := hC.2.1
  have HPS := Aside0.mk (fun i (h : i < ls.length) => flatten_take ls i h)
  have HPL := Aside0.mk (fun i => flatten_le ls i)
  clear hC hl
  have HG := Aside0.mk (growB_nil ls.flatten.length Hl.out)
  obtain ⟨n, hn⟩ : ∃ n, n = ls.length := ⟨_, rfl⟩
  have HN := Aside0.mk hn
  rw [← hn] at HC hc hm ⊢
  clear hn
  go_enter Try.func151, Try.ntmps151
  go_wp2_with fail
  go_loopw [3, 11] (fun v3 v11 wr => ∃ i s : Nat, i ≤ n ∧ v11 = .int .i64 (i : Int) ∧ v3 = .int .i64 (s : Int) ∧ Aside0 (s = (ls.take i).flatten.length) ∧ wr = w) (fun _ v11 _ => n - (intOf v11).toNat)
  case atStart => exact ⟨0, 0, Nat.zero_le _, rfl, rfl, ⟨rfl⟩, rfl⟩
  case round =>
    obtain ⟨i, s, hi, rfl, rfl, HS, rfl⟩ := hrel
    by_cases hlt : i < n
    · have hdl : decide (i < n) = true := decide_eq_true hlt
      have hil : i < ls.length := by have := HN.out; omega
      obtain ⟨ad, cs, rfl, hcl, hK, hcell⟩ := Kd.C_get HC.out ([] : List Int) (i : Int) (Int.natCast_nonneg i) (by omega)
      obtain ⟨Ai, ci, rfl, hli, hCi⟩ := hK
      have hc0 := hcell 0 _ rfl
      rw [Int.toNat_natCast, show i * (Kd.slice 5 kB).sz + 0 = i from by show i * 1 + 0 = i; omega] at hc0
      have HP := Aside0.mk (HPS.out i hil)
      have HQ := Aside0.mk (HPL.out (i + 1))
      have hle : s + (ls.getD i []).length ≤ 140737488355328 := by have h1 := HS.out; have h2 := HP.out; have h3 := HQ.out; have h4 := Hl.out; rw [h2, List.length_append] at h3; omega
      have HS2 : Aside0 (s + (ls.getD i []).length = (ls.take (i + 1)).flatten.length) := ⟨by rw [HP.out, List.length_append, ← HS.out]⟩
      clear hcell hcl hli hCi
      generalize (ls.getD i []).length = m at *
      have hneg : ¬ ((s : Int) + (m : Int) < 0) := by omega
      go_wp2_with fail
      go_roundw
      case rel => exact ⟨i + 1, s + m, hlt, by go_num, by go_num, HS2, by trivial⟩
      case measure => simp [intOf]; omega
    · have hdl : decide (i < n) = false := decide_eq_false hlt
      have hie : i = n := by omega
      subst hie
      clear hlt
      obtain rfl : s = ls.flatten.length := by rw [HS.out, HN.out, List.take_of_length_le (Nat.le_refl _)]
      generalize ls.flatten.length = N at *
      go_wp2_with (first
        | (go_at_call 166; refine (HG.out _).mono ?_; rintro e w1 ⟨v1, rfl, H1⟩; replace H1 := Aside0.mk H1))
      obtain ⟨w0, hw0⟩ : ∃ w0 : World, w0 = wr := ⟨_, rfl⟩
      subst hw0
      go_loopw [6, 27] (fun v6 v27 wk => ∃ k : Nat, k ≤ i ∧ v27 = .int .i64 (k : Int) ∧ Aside0 (Own w0.heap.size w0 wk [.row kB 5 v6 (ls.take k).flatten])) (fun _ v27 _ => i - (intOf v27).toNat)
      case atStart => exact ⟨0, Nat.zero_le _, rfl, H1⟩
      case round =>
        obtain ⟨k, hk, rfl, HK⟩ := hrel
        by_cases hlt : k < i
        · have hdl : decide (k < i) = true := decide_eq_true hlt
          have hil : k < ls.length := by have := HN.out; omega
          have HCk := Aside0.mk (Kd.C_below HC.out HK.out.below)
          obtain ⟨ad, cs, rfl, hcl, hK, hcell⟩ := Kd.C_get HCk.out ([] : List Int) (k : Int) (Int.natCast_nonneg k) (by omega)
          obtain ⟨Ai, ci, rfl, hli, hCi⟩ := hK
          have hc0 := hcell 0 _ rfl
          rw [Int.toNat_natCast, show k * (Kd.slice 5 kB).sz + 0 = k from by show k * 1 + 0 = k; omega] at hc0
          rw [Int.toNat_natCast] at hCi
          have HCI := Aside0.mk hCi
          have HP := Aside0.mk (HPS.out k hil)
          have HQ := Aside0.mk (HPL.out (k + 1))
          have HLE : Aside0 (((ls.take k).flatten.length + (ls.getD k []).length) * 1 ≤ 140737488355328) := ⟨by have h1 := HP.out; have h2 := HQ.out; rw [h1, List.length_append] at h2; have := Hl.out; omega⟩
          clear hcell hcl hli hCi
          generalize ls.getD k [] = y at *
          go_wp2_with (first
            | fail
            | ((with_reducible refine gate_dst (N := 33) rfl ?_); refine own_append_row kB Flat_B HK.out 0 rfl rfl (.tmp 31) (.tmp 32) 74 (.int .u8 0) 1 rfl Try.underlying74 infoB rfl (by decide) (by decide) y _ _ _ rfl rfl HCI.out HLE.out ?_; intro v2 w2 H2; replace H2 := Aside0.mk H2)
            )
          rw [← HP.out] at H2
          go_roundw
          case rel => exact ⟨k + 1, hlt, by go_num, H2⟩
          case measure => simp [intOf]; omega
        · have hdl : decide (k < i) = false := decide_eq_false hlt
          have hie : k = i := by omega
          subst hie
          go_wp2_with fail
          go_ret
          exact ⟨_, rfl, by have h := HK.out; rw [List.take_of_length_le (by rw [← HN.out]; exact Nat.le_refl _)] at h; exact h⟩
end Go.Proofs.Ytocphkfkdadhaaa.H

namespace Go.Proofs.Ytocphkfkdadhaaa.H
open Go.RowKit Go.Proofs.YtocphkfkdadhaaaW.PrintWords Go.Proofs.YtocphkfkdadhaaaW.PrintLast Go.Proofs.YtocphkfkdadhaaaW.PrintMore
set_option linter.unusedVariables false
set_option linter.unusedSimpArgs false
theorem C_of_block {α : Type} {d : Kd α} {W : World} {g : Nat} {t : TypeId} {fr : Nat × Nat} {cs : Array Value} {xs : List α} (h : W.heap[g]? = some (.cells cs t fr)) (hr : Reps (d.K W) d.sz xs cs.toList) (hs : 0 < d.sz) (hm : xs.length ≤ 9223372036854775807) : d.C W (some ⟨g, 0, none⟩) xs.length xs := by
  refine ⟨rfl, hm, fun _ => ⟨_, rfl, fun j p hj => ⟨_, d.K_len (hr.2 j p hj), hr.2 j p hj, fun i u hu => ?_⟩⟩⟩
  rw [add_plain, cell_of_row W g _ cs t fr h]
  rw [List.getElem?_take] at hu
  split at hu
  · rw [List.getElem?_drop] at hu
    simpa using hu
  · cases hu
theorem K_sl {W : World} {e : Nat} {A : Option Addr} {c : Nat} {xs : List Int} (hc : xs.length ≤ c) (hC : Kd.C kB W A xs.length xs) : (Kd.slice e kB).K W xs [.slice A xs.length c] := ⟨A, c, rfl, hc, hC⟩
theorem Reps.cons_ {α : Type} {R : α → List Value → Prop} {x : α} {xs : List α} {v : Value} {cs : List Value} (h : R x [v]) (hs : Reps R 1 xs cs) : Reps R 1 (x :: xs) (v :: cs) := by
  refine ⟨by simp [hs.1], fun j p hj => ?_⟩
  cases j with
  | zero =>
    obtain rfl : x = p := by simpa using hj
    simpa using h
  | succ j =>
    have := hs.2 j p (by simpa using hj)
    simpa [Nat.mul_one] using this
section
variable {P : Program} {ops : Array Oper} {rest : List Oper} {o : Oper} {a : Act} {Q : Exit → Act → World → Prop} {B : Nat} {w0 W : World} {L : List Item}
theorem lit_ev (H : Own B w0 W L) (hgd : o.guard = none) {N : Tmp} (hd : o.dst = some N) (cs : Array Value) (e : TypeId) (n : Nat)
    (hrun : (execOp a.eval o).run P W = .ok (.value (.slice (some ⟨W.heap.size, 0, none⟩) n n)) (W.alloc (.cells cs e)))
    (h : ∀ g w1, Own B w0 w1 (.blk g cs e :: L) → Below W.heap.size W w1 → wpList P ops Q rest (a.put o.dst (.slice (some ⟨g, 0, none⟩) n n)) w1) : wpList P ops Q (o :: rest) a W :=
  Kd.event_run hgd hrun (h _ _ (H.new cs e) (below_alloc (Below.refl _ _) _))
end
set_option maxHeartbeats 1000000 in
set_option maxRecDepth 100000 in
theorem leaf_any (A : Option Addr) (c : Nat) (l : List Int) (w : World) (hB : Byt l) (hC : Kd.C kB w A l.length l) (hc : l.length ≤ c) (hl : l.length ≤ 140737488355199) :
    Calls Try.prog 116 #[.slice A l.length c] w fun e w' => e = .returned (.agg (cellsB (leafI l))) ∧ Below w.heap.size w w' := by
  have HC := Aside0.mk hC
  have Hc := Aside0.mk hc
  have H0 := Aside0.mk (Own.start w)
  have R32 : Aside0 (Arr 32 (Array.replicate 32 (.int .u8 0))) := ⟨Arr_rep _ _ rfl⟩
  have HA : Aside0 (Arr 32 (cellsB (leafI l))) := ⟨Arr_B (shaI_len _)⟩
  have HB2 : Byt (0 :: l) := by
    intro x hx
    rcases List.mem_cons.1 hx with rfl | hx
    · decide
    · exact hB x hx
  have HSM := Aside0.mk (fun A c W hC hc => sum_any A c (0 :: l) W HB2 hC hc (by simp; omega))
  have HCC := Aside0.mk (fun A c W hC hc => concatB_any [[0], l] A c W hC hc (by simp; omega))
  have hfl : ([[0], l] : List (List Int)).flatten = 0 :: l := by simp
  rw [hfl] at HCC
  clear hfl HB2 hC hc hl
  have HRES : Aside0 (shaI (0 :: l) = leafI l) := ⟨rfl⟩
  rw [HRES.out] at HSM
  generalize leafI l = res at *
  have HL2 : Aside0 ((0 :: l).length = l.length + 1) := ⟨rfl⟩
  obtain ⟨n, hn⟩ : ∃ n, n = l.length := ⟨_, rfl⟩
  have HN := Aside0.mk hn
  rw [← hn] at HC Hc ⊢
  clear hn
  go_enter Try.func116, Try.ntmps116
  go_wp2_with (first
    | fail
    | ((with_reducible refine gate_dst (N := 2) rfl ?_); refine own_alloc H0.out rfl (N := 2) rfl (t := 25) rfl (Array.replicate 32 (.int .u8 0)) 32 (by kernel_rfl) ?_; intro g2 w1 H1 B1; replace H1 := Aside0.mk H1; replace B1 := Aside0.mk B1)
    | ((with_reducible refine gate_dst (N := 3) rfl ?_); refine own_lit kB Flat_B H1.out 5 rfl (N := 3) rfl (xs := ([0] : List Int)) (inner := (([0] : List Int)).map (Value.int .u8)) ?hr3 (Kd.reps_scalar _) (by simp) ?_; (case hr3 => first | (go_simp; done) | (go_simp; rfl)); intro A3 c3 w3 H3 B3; replace H3 := Aside0.mk H3; replace B3 := Aside0.mk B3)
    | ((with_reducible refine gate_dst (N := 5) rfl ?_); refine lit_ev H3.out rfl (N := 5) rfl #[.slice A3 1 c3, .slice A n c] 74 2 ?hr5 ?_; (case hr5 => first | (go_simp; done) | (go_simp; rfl)); intro g5 w5 H5 B5; replace H5 := Aside0.mk H5; replace B5 := Aside0.mk B5)
    )
  have hC5 : Aside0 (Kd.C (Kd.slice 5 kB) w5 (some ⟨g5, 0, none⟩) [[0], l].length [[0], l]) := ⟨by
    refine C_of_block (H5.out.get 0 rfl) ?_ (by decide) (by simp)
    obtain ⟨A', c', he, hc', hC'⟩ := H3.out.reads 0 rfl
    injection he with e1 e2 e3
    subst e1; subst e3
    refine Reps.cons_ (K_sl hc' (Kd.C_below hC' B5.out)) (Reps.cons_ (v := .slice A n c) ?_ (Reps.none _ _))
    have := K_sl (e := 5) (xs := l) (A := A) (c := c) (W := w5) (by rw [← HN.out]; exact Hc.out) (by rw [← HN.out]; exact Kd.C_below HC.out H5.out.below)
    rw [← HN.out] at this
    exact this⟩
  refine (HCC.out (some ⟨g5, 0, none⟩) 2 w5 hC5.out (by simp)).mono ?_
  rintro e w6 ⟨v6, rfl, H6⟩
  have H7 := Aside0.mk (H5.out.call H6)
  clear H6
  obtain ⟨A6, c6, rfl, hc6, hC6⟩ := H7.out.reads 0 rfl
  go_wp2_with fail
  refine (HSM.out A6 c6 w6 hC6 hc6).mono ?_
  rintro e w7 ⟨rfl, hB7⟩
  have H8 := Aside0.mk (H7.out.step hB7)
  clear hC6 hc6 hB7
  go_wp2_with (first
    | fail
    | ((with_reducible refine own_store H8.out 3 g2 _ 25 rfl rfl (.tmp 2) (.tmp 7) rfl (cellsB res) ?_ ?_ 32 R32.out HA.out (by kernel_rfl) ?_); (case _ => rfl); (case _ => rfl); intro w30 H30; replace H30 := Aside0.mk H30)
    )
  refine bodyPost_ret (own_result rfl _ H30.out 3 g2 (cellsB res) rfl rfl Try.underlying25 32 HA.out (by kernel_rfl)) rfl ?_
  exact ⟨rfl, H30.out.below⟩
set_option maxHeartbeats 1000000 in
set_option maxRecDepth 100000 in
theorem rleaf_any (A : Option Addr) (c : Nat) (l : List Int) (w : World) (hB : Byt l) (hC : Kd.C kB w A l.length l) (hc : l.length ≤ c) (hl : l.length ≤ 140737488355199) :
    Calls Try.prog 65 #[.slice A l.length c] w fun e w' => e = .returned (.agg (cellsB (leafI l))) ∧ Below w.heap.size w w' := by
  have HC := Aside0.mk hC
  have H0 := Aside0.mk (Own.start w)
  have R32 : Aside0 (Arr 32 (Array.replicate 32 (.int .u8 0))) := ⟨Arr_rep _ _ rfl⟩
  have HA : Aside0 (Arr 32 (cellsB (leafI l))) := ⟨Arr_B (shaI_len _)⟩
  have HB2 : Byt (0 :: l) := by
    intro x hx
    rcases List.mem_cons.1 hx with rfl | hx
    · decide
    · exact hB x hx
  have HSM := Aside0.mk (fun A c W hC hc => rsum_any A c (0 :: l) W HB2 hC hc (by simp; omega))
  clear HB2 hC hc
  have HRES : Aside0 (shaI (0 :: l) = leafI l) := ⟨rfl⟩
  rw [HRES.out] at HSM
  generalize leafI l = res at *
  have HBD : Aside0 ((([0] : List Int).length + l.length) * 1 ≤ 140737488355328) := ⟨by simp; omega⟩
  go_enter Try.func65, Try.ntmps65
  go_wp2_with (first
    | fail
    | ((with_reducible refine gate_dst (N := 2) rfl ?_); refine own_alloc H0.out rfl (N := 2) rfl (t := 25) rfl (Array.replicate 32 (.int .u8 0)) 32 (by kernel_rfl) ?_; intro g2 w1 H1 B1; replace H1 := Aside0.mk H1; replace B1 := Aside0.mk B1)
    | ((with_reducible refine gate_dst (N := 3) rfl ?_); refine own_lit kB Flat_B H1.out 5 rfl (N := 3) rfl (xs := ([0] : List Int)) (inner := (([0] : List Int)).map (Value.int .u8)) ?hr3 (Kd.reps_scalar _) (by simp) ?_; (case hr3 => first | (go_simp; done) | (go_simp; rfl)); intro A3 c3 w3 H3 B3; replace H3 := Aside0.mk H3; replace B3 := Aside0.mk B3)
    | ((with_reducible refine gate_dst (N := 5) rfl ?_); (with_reducible refine gate_builtin (b := .append) (xs := #[.tmp 3, .tmp 4]) rfl ?_); refine own_append_row kB Flat_B H3.out 0 rfl rfl (.tmp 3) (.tmp 4) 74 (.int .u8 0) 1 rfl Try.underlying74 infoB rfl (by decide) (by decide) (l) _ _ _ rfl rfl (Kd.C_below HC.out H3.out.below) ?_ ?_; (case _ => (exact HBD.out)); intro v5 w5 H5; replace H5 := Aside0.mk H5)
    )
  obtain ⟨A6, c6, rfl, hc6, hC6⟩ := H5.out.reads 0 rfl
  go_wp2_with fail
  refine (HSM.out A6 c6 w5 hC6 hc6).mono ?_
  rintro e w7 ⟨rfl, hB7⟩
  have H8 := Aside0.mk (H5.out.step hB7)
  clear hC6 hc6 hB7
  go_wp2_with (first
    | fail
    | ((with_reducible refine own_store H8.out 1 g2 _ 25 rfl rfl (.tmp 2) (.tmp 6) rfl (cellsB res) ?_ ?_ 32 R32.out HA.out (by kernel_rfl) ?_); (case _ => rfl); (case _ => rfl); intro w30 H30; replace H30 := Aside0.mk H30)
    )
  refine bodyPost_ret (own_result rfl _ H30.out 1 g2 (cellsB res) rfl rfl Try.underlying25 32 HA.out (by kernel_rfl)) rfl ?_
  exact ⟨rfl, H30.out.below⟩
end Go.Proofs.Ytocphkfkdadhaaa.H

namespace Go.Proofs.Ytocphkfkdadhaaa.H
open Go.RowKit Go.Proofs.YtocphkfkdadhaaaW.PrintWords Go.Proofs.YtocphkfkdadhaaaW.PrintLast Go.Proofs.YtocphkfkdadhaaaW.PrintMore
set_option linter.unusedVariables false
set_option linter.unusedSimpArgs false
theorem Own.setCells {B : Nat} {w0 W : World} {L : List Item} (h : Own B w0 W L) (k : Nat) {g : Nat} {cur : Array Value} {t : TypeId} (hk : L[k]? = some (.blk g cur t)) (vs : List Value) (hl : vs.length = cur.size) : Own B w0 (W.setCells g 0 vs) (L.set k (.blk g vs.toArray t)) := by
  obtain ⟨s1, s2, s3, s4⟩ := setCells_same g vs 0 W
  obtain ⟨cur', h1, h2, h3⟩ := setCells_row vs 0 W cur (h.get k hk) (by omega)
  have he : cur' = vs.toArray := by
    apply Array.toList_inj.1
    rw [h3, Nat.zero_add, List.take_zero, List.nil_append, List.drop_eq_nil_of_le (by rw [Array.length_toList]; omega), List.append_nil]
  subst he
  refine h.change k hk (some g) ⟨s1, s2, s3, by omega, fun i _ hi => setCells_far vs 0 i (fun e => hi (by rw [e]))⟩ fun S hs => ⟨fun x hx => by injection hx with hx; exact hx ▸ hs.1, .inl hs.1, h1⟩
theorem there_blk {W : World} {g : Nat} {cs : Array Value} {t : TypeId} (h : W.heap[g]? = some (.cells cs t (0, 0))) (n : Nat) (hn : cs.size = n) : W.there g 0 n := fun j hj => by
  rw [Nat.zero_add]
  exact ⟨by rw [blk_cell h j]; simp; omega, blk_frozen h j⟩
theorem hash_reads {W : World} {g : Nat} {t : TypeId} {x : List Int} (h : W.heap[g]? = some (.cells (cellsB x) t (0, 0))) (hx : x.length = 32) : (Kd.slice 5 kB).K W x [.slice (some ⟨g, 0, none⟩) 32 32] := by
  have := K_sl (e := 5) (c := 32) (A := some ⟨g, 0, none⟩) (W := W) (xs := x) (by omega) (C_blkB h (by omega))
  rwa [hx] at this
theorem Byt_append {x y : List Int} (hx : Byt x) (hy : Byt y) : Byt (x ++ y) := fun a ha => (List.mem_append.1 ha).elim (hx a) (hy a)
theorem Byt_one : Byt ([1] : List Int) := fun x hx => by rw [List.mem_singleton.1 hx]; decide
set_option maxHeartbeats 2000000 in
set_option maxRecDepth 100000 in
theorem pair_any (x y : List Int) (hx : x.length = 32) (hy : y.length = 32) (bx : Byt x) (by_ : Byt y) (w : World) :
    Calls Try.prog 118 #[.agg (cellsB x), .agg (cellsB y)] w fun e w' => e = .returned (.agg (cellsB (pairI x y))) ∧ Below w.heap.size w w' := by
  have H0 := Aside0.mk (Own.start w)
  have R32 : Aside0 (Arr 32 (Array.replicate 32 (.int .u8 0))) := ⟨Arr_rep _ _ rfl⟩
  have HL65 : Aside0 ((1 :: x ++ y).length = 65) := ⟨by simp [hx, hy]⟩
  have HSM := Aside0.mk (fun A c W hC hc => sum_any A c (1 :: x ++ y) W (Byt_append (Byt_append (x := [1]) Byt_one bx) by_) hC hc (by rw [HL65.out]; decide))
  have HCC := Aside0.mk (fun A c W hC hc => concatB_any [[1], x, y] A c W hC hc (by simp [hx, hy]))
  have hfl : ([[1], x, y] : List (List Int)).flatten = 1 :: x ++ y := by simp
  rw [hfl] at HCC
  clear hfl
  have HRL := Aside0.mk (shaI_len (1 :: x ++ y))
  have HRES : Aside0 (shaI (1 :: x ++ y) = pairI x y) := ⟨rfl⟩
  rw [HRES.out] at HSM HRL
  generalize pairI x y = res at *
  rw [HL65.out] at HSM
  obtain ⟨cs, hcs⟩ : ∃ cs : List Value, cs = res.map (Value.int .u8) := ⟨_, rfl⟩
  have HCS : Aside0 (cellsB res = cs.toArray) := ⟨by rw [hcs]; rfl⟩
  have hcl : cs.length = 32 := by rw [hcs, List.length_map]; exact HRL.out
  have hc1 : ∀ v ∈ cs, v.oneCell' = true := by rw [hcs]; intro v hv; obtain ⟨z, _, rfl⟩ := List.mem_map.1 hv; rfl
  have HA : Aside0 (Arr 32 cs.toArray) := ⟨by simp [hcl], all_oneCell_toArray hc1⟩
  rw [HCS.out] at HSM ⊢
  clear hcs
  have Hx := Aside0.mk hx
  have Hy := Aside0.mk hy
  clear hx hy
  go_enter Try.func118, Try.ntmps118
  go_wp2_with (first
    | fail
    | ((with_reducible refine gate_dst (N := 2) rfl ?_); refine own_box H0.out rfl (N := 2) rfl (t := 25) rfl (.agg (cellsB x)) rfl ?_; intro g2 w1 H1 B1; replace H1 := Aside0.mk H1; replace B1 := Aside0.mk B1)
    | ((with_reducible refine gate_dst (N := 3) rfl ?_); refine own_box H1.out rfl (N := 3) rfl (t := 25) rfl (.agg (cellsB y)) rfl ?_; intro g3 w2 H2 B2; replace H2 := Aside0.mk H2; replace B2 := Aside0.mk B2)
    | ((with_reducible refine gate_dst (N := 4) rfl ?_); refine own_alloc H2.out rfl (N := 4) rfl (t := 25) rfl (Array.replicate 32 (.int .u8 0)) 32 (by kernel_rfl) ?_; intro g4 w3 H3 B3; replace H3 := Aside0.mk H3; replace B3 := Aside0.mk B3)
    )
  have H5 := Aside0.mk (H3.out.lit kB Flat_B 5 [1] [.int .u8 1] (Kd.reps_scalar [1]) (by decide))
  have H8 := Aside0.mk (H5.out.new #[.slice (some ⟨w3.heap.size, 0, none⟩) 1 1, .slice (some ⟨g2, 0, none⟩) 32 32, .slice (some ⟨g3, 0, none⟩) 32 32] 74).drew
  rw [World.size_alloc] at H8
  have HC8 : Aside0 (Kd.C (Kd.slice 5 kB) ((w3.alloc (.cells #[.int .u8 1] 5)).alloc (.cells #[.slice (some ⟨w3.heap.size, 0, none⟩) 1 1, .slice (some ⟨g2, 0, none⟩) 32 32, .slice (some ⟨g3, 0, none⟩) 32 32] 74)).drew (some ⟨w3.heap.size + 1, 0, none⟩) 3 [[1], x, y]) := ⟨by
    refine C_of_block (H8.out.get 0 rfl) ?_ (by decide) (by simp)
    exact Reps.cons_ (K_sl (xs := [1]) (by decide) (H8.out.C_of 1 rfl)) (Reps.cons_ (hash_reads (H8.out.get 4 rfl) Hx.out) (Reps.cons_ (hash_reads (H8.out.get 3 rfl) Hy.out) (Reps.none _ _)))⟩
  have ht : w3.there g4 0 32 := there_blk (H3.out.get 0 rfl) 32 (by simp)
  have hu := Try.underlying25
  have hi : (Try.prog.info? 25).map (·.size) = some cs.length := by rw [hcl]; kernel_rfl
  go_region_held3 (fun W => W.there g4 0 32) (first | exact K9.out | exact K10.out | exact World.there_setCells K10.out _ _ _ | go_keep_ranges) (first
    | (go_at_call 151; refine (HCC.out _ 3 _ HC8.out (by simp)).mono ?_; rintro e w9 ⟨v9, rfl, hO9⟩; obtain ⟨A9, c9, rfl, hc9, hC9⟩ := hO9.reads 0 rfl; rw [HL65.out] at hc9 hC9 hO9; have H9 := Aside0.mk (H8.out.call hO9); replace hc9 := Aside0.mk hc9; replace hC9 := Aside0.mk hC9; clear hO9; have K9 := Aside0.mk (there_blk (H9.out.get 3 rfl) 32 (by simp)); rw [HL65.out])
    | (go_at_call 78; refine (HSM.out A9 c9 _ hC9.out hc9.out).mono ?_; rintro e w10 ⟨rfl, hB10⟩; have H10 := Aside0.mk (H9.out.step hB10); clear hB10; have K10 := Aside0.mk (there_blk (H10.out.get 3 rfl) 32 (by simp))))
  have H11 := Aside0.mk (H10.out.setCells 3 rfl cs (by rw [hcl]; simp))
  go_wp2_with fail
  refine bodyPost_ret (own_result rfl _ H11.out 3 g4 cs.toArray rfl rfl Try.underlying25 32 HA.out (by kernel_rfl)) rfl ?_
  exact ⟨rfl, H11.out.below⟩
end Go.Proofs.Ytocphkfkdadhaaa.H

namespace Go.Proofs.Ytocphkfkdadhaaa.H
open Go.RowKit Go.Proofs.YtocphkfkdadhaaaW.PrintWords Go.Proofs.YtocphkfkdadhaaaW.PrintLast Go.Proofs.YtocphkfkdadhaaaW.PrintMore
set_option linter.unusedVariables false
set_option linter.unusedSimpArgs false
set_option maxHeartbeats 2000000 in
set_option maxRecDepth 100000 in
theorem rpair_any (x y : List Int) (hx : x.length = 32) (hy : y.length = 32) (bx : Byt x) (by_ : Byt y) (w : World) :
    Calls Try.prog 66 #[.agg (cellsB x), .agg (cellsB y)] w fun e w' => e = .returned (.agg (cellsB (pairI x y))) ∧ Below w.heap.size w w' := by
  have H0 := Aside0.mk (Own.start w)
  have R32 : Aside0 (Arr 32 (Array.replicate 32 (.int .u8 0))) := ⟨Arr_rep _ _ rfl⟩
  have HLB : Aside0 (([1] ++ x ++ y).length = 65) := ⟨by simp [hx, hy]⟩
  have HL65 : Aside0 ((1 :: x ++ y).length = 65) := ⟨by simp [hx, hy]⟩
  have HSM := Aside0.mk (fun A c W hC hc => rsum_any A c (1 :: x ++ y) W (Byt_append (Byt_append (x := [1]) Byt_one bx) by_) hC hc (by rw [HL65.out]; decide))
  have HRL := Aside0.mk (shaI_len (1 :: x ++ y))
  have HRES : Aside0 (shaI (1 :: x ++ y) = pairI x y) := ⟨rfl⟩
  rw [HRES.out] at HSM HRL
  generalize pairI x y = res at *
  rw [HL65.out] at HSM
  obtain ⟨cs, hcs⟩ : ∃ cs : List Value, cs = res.map (Value.int .u8) := ⟨_, rfl⟩
  have HCS : Aside0 (cellsB res = cs.toArray) := ⟨by rw [hcs]; rfl⟩
  have hcl : cs.length = 32 := by rw [hcs, List.length_map]; exact HRL.out
  have hc1 : ∀ v ∈ cs, v.oneCell' = true := by rw [hcs]; intro v hv; obtain ⟨z, _, rfl⟩ := List.mem_map.1 hv; rfl
  have HA : Aside0 (Arr 32 cs.toArray) := ⟨by simp [hcl], all_oneCell_toArray hc1⟩
  rw [HCS.out] at HSM ⊢
  clear hcs
  have Hx := Aside0.mk hx
  have Hy := Aside0.mk hy
  clear hx hy
  go_enter Try.func66, Try.ntmps66
  go_wp2_with (first
    | fail
    | ((with_reducible refine gate_dst (N := 2) rfl ?_); refine own_box H0.out rfl (N := 2) rfl (t := 25) rfl (.agg (cellsB x)) rfl ?_; intro g2 w1 H1 B1; replace H1 := Aside0.mk H1; replace B1 := Aside0.mk B1)
    | ((with_reducible refine gate_dst (N := 3) rfl ?_); refine own_box H1.out rfl (N := 3) rfl (t := 25) rfl (.agg (cellsB y)) rfl ?_; intro g3 w2 H2 B2; replace H2 := Aside0.mk H2; replace B2 := Aside0.mk B2)
    | ((with_reducible refine gate_dst (N := 4) rfl ?_); refine own_alloc H2.out rfl (N := 4) rfl (t := 25) rfl (Array.replicate 32 (.int .u8 0)) 32 (by kernel_rfl) ?_; intro g4 w3 H3 B3; replace H3 := Aside0.mk H3; replace B3 := Aside0.mk B3)
    )
  have H5 := Aside0.mk (H3.out.lit kB Flat_B 5 [1] [.int .u8 1] (Kd.reps_scalar [1]) (by decide))
  have H6 := Aside0.mk H5.out.drew
  have hCx : Aside0 (Kd.C kB (w3.alloc (.cells #[.int .u8 1] 5)).drew (some ⟨g2, 0, none⟩) 32 x) := ⟨by have h := C_blkB (H6.out.get 3 rfl) (by have := Hx.out; omega); rw [Hx.out] at h; exact h⟩
  have ht : w3.there g4 0 32 := there_blk (H3.out.get 0 rfl) 32 (by simp)
  have hu := Try.underlying25
  have hi : (Try.prog.info? 25).map (·.size) = some cs.length := by rw [hcl]; kernel_rfl
  go_region_held3 (fun W => W.there g4 0 32) (first | exact K9.out | exact K10.out | exact K11.out | exact World.there_setCells K11.out _ _ _ | go_keep_ranges) (first
    | (refine own_append_row_step kB Flat_B H6.out 0 rfl rfl (.tmp 5) (.tmp 6) 74 (.int .u8 0) 1 rfl Try.underlying74 infoB rfl (by decide) (by decide) x _ _ _ (by rfl) (by rfl) hCx.out (by simp) ?_; intro v9 w9 hO9; have H9 := Aside0.mk hO9; clear hO9; have K9 := Aside0.mk (there_blk (H9.out.get 1 rfl) 32 (by simp)))
    | (refine own_append_row_step kB Flat_B H9.out 0 rfl rfl (.tmp 7) (.tmp 8) 74 (.int .u8 0) 1 rfl Try.underlying74 infoB rfl (by decide) (by decide) y _ _ _ (by rfl) (by rfl) (by have h := C_blkB (H9.out.get 2 rfl) (by have := Hy.out; omega); rw [Hy.out] at h; exact h) (by simp [Hx.out]) ?_; intro v10 w10 hO10; have H10 := Aside0.mk hO10; clear hO10; have K10 := Aside0.mk (there_blk (H10.out.get 1 rfl) 32 (by simp)))
    | (go_at_call 80; obtain ⟨A10, c10, rfl, hc10, hC10⟩ := H10.out.reads 0 rfl; rw [HLB.out] at hc10 hC10 ⊢; refine (HSM.out A10 c10 _ hC10 hc10).mono ?_; rintro e w11 ⟨rfl, hB11⟩; have H11' := Aside0.mk (H10.out.step hB11); clear hB11; have K11 := Aside0.mk (there_blk (H11'.out.get 1 rfl) 32 (by simp))))
  have H11 := Aside0.mk (H11'.out.setCells 1 rfl cs (by rw [hcl]; simp))
  go_wp2_with fail
  refine bodyPost_ret (own_result rfl _ H11.out 1 g4 cs.toArray rfl rfl Try.underlying25 32 HA.out (by kernel_rfl)) rfl ?_
  exact ⟨rfl, H11.out.below⟩
end Go.Proofs.Ytocphkfkdadhaaa.H

namespace Go.Proofs.Ytocphkfkdadhaaa.H
open Go.RowKit Go.Proofs.YtocphkfkdadhaaaW.PrintWords Go.Proofs.YtocphkfkdadhaaaW.PrintLast Go.Proofs.YtocphkfkdadhaaaW.PrintMore
set_option linter.unusedVariables false
set_option linter.unusedSimpArgs false
theorem Sep.perm {W : World} {L L' : List Item} (hp : L.Perm L') : ∀ {U : Nat → Prop}, Sep W L U → Sep W L' U := by
  induction hp with
  | nil => intro U h; exact h
  | cons x _ ih => intro U ⟨S, h1, h2, h3⟩; exact ⟨S, h1, h2, ih h3⟩
  | swap x y l =>
    intro U ⟨S, h1, h2, S', g1, g2, g3⟩
    exact ⟨S', fun i hi => (g1 i hi).1, g2, S, fun i hi => ⟨h1 i hi, fun hs => (g1 i hs).2 hi⟩, h2, Sep.imp (fun i hi => ⟨⟨hi.1.1, hi.2⟩, hi.1.2⟩) g3⟩
  | trans _ _ ih1 ih2 => intro U h; exact ih2 (ih1 h)
theorem Own.perm {B : Nat} {w0 W : World} {L L' : List Item} (h : Own B w0 W L) (hp : L.Perm L') : Own B w0 W L' := ⟨h.below, h.base, Sep.perm hp h.sep⟩
abbrev kU : Kd Int := Kd.int .u64
theorem Flat_U : Flat kU := Flat_int .u64
theorem infoU : (Try.prog.info? 23).map (fun i => (i.zero, i.size, i.bytes)) = some (some (.int .u64 0), 1, 8) := by kernel_rfl
def Wrd (l : List Int) : Prop := ∀ x ∈ l, 0 ≤ x ∧ x ≤ 18446744073709551615
def bigI (ws : List Int) : List Int := ws.flatMap fun w => be8I w.toNat
theorem be8I_byt (n : Nat) : Byt (be8I n) := toI_byt (by
  intro y hy
  simp only [be8, List.mem_cons, List.not_mem_nil, or_false] at hy
  omega)
theorem be8I_len (n : Nat) : (be8I n).length = 8 := by simp [be8I, toI, be8_len]
theorem bigI_len : ∀ ws : List Int, (bigI ws).length = 8 * ws.length
  | [] => rfl
  | w :: ws => by
    have := bigI_len ws
    simp only [bigI, List.flatMap_cons, List.length_append, List.length_cons, be8I_len] at *
    omega
theorem bigI_take (ws : List Int) (i : Nat) (h : i < ws.length) : bigI (ws.take (i + 1)) = bigI (ws.take i) ++ be8I (ws.getD i 0).toNat := by
  unfold bigI
  rw [List.take_succ_eq_append_getElem h, List.flatMap_append]
  simp [h]
set_option maxHeartbeats 1000000 in
set_option maxRecDepth 100000 in
theorem eight_any (m : Nat) (hm : m ≤ 18446744073709551615) (w : World) :
    Calls Try.prog 79 #[.int .u64 (m : Int)] w fun e w' => ∃ v : Value, e = .returned v ∧ Own w.heap.size w w' [.row kB 5 v (be8I m)] := by
  have H0 := Aside0.mk ((Own.start w).null kB 5)
  have HB8 := Aside0.mk (fun j h => be8_take m j h)
  have HBL := Aside0.mk (fun j h => be8_tlen m j h)
  have HB9 : Aside0 ((be8I m).take 8 = be8I m) := ⟨List.take_of_length_le (by simp [be8I, toI, be8_len])⟩
  generalize be8I m = b8 at *
  go_enter Try.func79, Try.ntmps79
  go_wp2_with fail
  go_loopw [3, 4] (fun v3 v4 wr => ∃ (j : Nat) (A : Option Addr) (c : Nat), j ≤ 8 ∧ v4 = .int .i64 (7 - (j : Int)) ∧ v3 = .slice A j c ∧ Aside0 (Own w.heap.size w wr [.row kB 5 (.slice A j c) (b8.take j)])) (fun v3 v4 _ => 8 - lenV v3)
  case atStart => exact ⟨0, none, 0, by decide, rfl, rfl, ⟨by simpa using H0.out⟩⟩
  case round =>
    obtain ⟨j, A4, c4, hj, rfl, rfl, H4⟩ := hrel
    by_cases hlt : j < 8
    · have HT := Aside0.mk ((HB8.out j hlt).trans (by rw [show 56 - 8 * j = 8 * (7 - j) by omega, cast_shr8 m (8 * (7 - j))]))
      have HL4 : Aside0 ((b8.take j).length + 1 ≤ 140737488355328) := ⟨by have := HBL.out j hj; omega⟩
      have HL5 : Aside0 ((b8.take (j + 1)).length = j + 1) := ⟨HBL.out (j + 1) (by omega)⟩
      have hge : (0 : Int) ≤ 7 - (j : Int) := by omega
      go_wp2_with (first
        | fail
        | ((with_reducible refine gate_dst (N := 17) rfl ?_); (with_reducible refine gate_builtin (b := .append) (xs := #[.tmp 9, .tmp 16]) rfl ?_); refine own_append kB Flat_B H4.out 0 rfl rfl (.tmp 9) (.tmp 16) 74 (.int .u8 0) 1 rfl Try.underlying74 infoB rfl (by decide) (by decide) ((m : Int) / 2 ^ (8 * (7 - j)) % 256) [.int .u8 ((m : Int) / 2 ^ (8 * (7 - j)) % 256)] (fun _ => rfl) rfl rfl ?_ ?_; (case _ => (have := HL4.out; omega)); intro v5 w5 H5; replace H5 := Aside0.mk H5)
        )
      obtain ⟨A5, c5, rfl, _⟩ := H5.out.reads 0 rfl
      rw [← HT.out] at H5 ⊢
      rw [HL5.out] at H5 ⊢
      go_wp2_with fail
      go_roundw
      case rel => exact ⟨j + 1, A5, c5, hlt, by go_num, rfl, H5⟩
      case measure => simp [lenV]; omega
    · have hje : j = 8 := by omega
      subst hje
      clear hlt
      go_wp2_with fail
      go_ret
      exact ⟨_, rfl, by have h := H4.out; rw [HB9.out] at h; exact h⟩
set_option maxHeartbeats 2000000 in
set_option maxRecDepth 100000 in
theorem big_any (v : Value) (xs ws : List Int) (A : Option Addr) (c : Nat) (B : Nat) (w0 w : World) (L : List Item) (HO : Own B w0 w (.row kB 5 v xs :: L)) (hw : Wrd ws) (hc : ws.length ≤ c)
    (hC : ∀ v' xs' W', Own B w0 W' (.row kB 5 v' xs' :: L) → Kd.C kU W' A ws.length ws) (hl : xs.length + 8 * ws.length ≤ 140737488355328) :
    Calls Try.prog 77 #[v, .slice A ws.length c] w fun e w' => ∃ v1 : Value, e = .returned v1 ∧ Own B w0 w' (.row kB 5 v1 (xs ++ bigI ws) :: L) := by
  have H0 := Aside0.mk HO
  have HC := Aside0.mk hC
  have HBT := Aside0.mk (fun i h => bigI_take ws i h)
  have HBN := Aside0.mk (fun i => bigI_len (ws.take i))
  have Hm := Aside0.mk ((hC v xs w HO).2.1)
  have HW := Aside0.mk hw
  have Hl := Aside0.mk hl
  clear HO hC hw hl
  obtain ⟨n, hn⟩ : ∃ n, n = ws.length := ⟨_, rfl⟩
  have HN := Aside0.mk hn
  rw [← hn] at HC hc Hm Hl ⊢
  clear hn
  have hm := Hm.out
  obtain ⟨A0, c0, rfl, _⟩ := H0.out.reads 0 rfl
  go_enter Try.func77, Try.ntmps77
  go_wp2_with fail
  go_loopw [0, 10] (fun v0 v10 wr => ∃ (i : Nat) (A1 : Option Addr) (n1 c1 : Nat), i ≤ n ∧ v10 = .int .i64 (i : Int) ∧ v0 = .slice A1 n1 c1 ∧ Aside0 (n1 = xs.length + 8 * i) ∧ Aside0 (Own B w0 wr (.row kB 5 (.slice A1 n1 c1) (xs ++ bigI (ws.take i)) :: L))) (fun _ v10 _ => n - (intOf v10).toNat)
  case atStart => exact ⟨0, A0, _, c0, Nat.zero_le _, rfl, rfl, ⟨rfl⟩, ⟨by simpa [bigI] using H0.out⟩⟩
  case round =>
    obtain ⟨i, A1, n1, c1, hi, rfl, rfl, HN1, HI⟩ := hrel
    by_cases hlt : i < n
    · have hdl : decide (i < n) = true := decide_eq_true hlt
      have hil : i < ws.length := by have := HN.out; omega
      obtain ⟨ad, rfl, hcell⟩ := Kd.at_int (HC.out _ _ _ HI.out) (i : Int) (Int.natCast_nonneg i) (by omega)
      rw [Int.toNat_natCast] at hcell
      have hrd : rd ws (i : Int) = ws.getD i 0 := by simp [rd]
      rw [hrd] at hcell
      obtain ⟨b1, b2⟩ := HW.out _ (show ws.getD i 0 ∈ ws by rw [List.getD_eq_getElem?_getD, List.getElem?_eq_getElem hil]; exact List.getElem_mem hil)
      have HT := Aside0.mk (HBT.out i hil)
      generalize ws.getD i 0 = x at *
      obtain ⟨m, rfl⟩ := Int.eq_ofNat_of_zero_le b1
      rw [Int.toNat_natCast] at HT
      clear hrd b1
      have HB8 := Aside0.mk (fun j h => be8_take m j h)
      have HBL := Aside0.mk (fun j h => be8_tlen m j h)
      have HB9 : Aside0 ((be8I m).take 8 = be8I m) := ⟨List.take_of_length_le (by simp [be8I, toI, be8_len])⟩
      have HXL : Aside0 ((xs ++ bigI (ws.take i)).length = n1) := ⟨by rw [List.length_append, HBN.out i, List.length_take, HN1.out]; have := HN.out; omega⟩
      have Hl2 : Aside0 (n1 + 8 ≤ 140737488355328) := ⟨by have := HN1.out; have := Hl.out; omega⟩
      generalize be8I m = b8 at *
      obtain ⟨ys, hys⟩ : ∃ ys, ys = xs ++ bigI (ws.take i) := ⟨_, rfl⟩
      rw [← hys] at HXL HI
      have HYS := Aside0.mk hys.symm
      clear hys
      go_wp2_with fail
      clear hcell
      go_loopw [0, 7] (fun v0 v7 wk => ∃ (j : Nat) (A2 : Option Addr) (n2 c2 : Nat), j ≤ 8 ∧ v7 = .int .i64 (56 - 8 * (j : Int)) ∧ v0 = .slice A2 n2 c2 ∧ n2 = n1 + j ∧ Aside0 (Own B w0 wk (.row kB 5 (.slice A2 n2 c2) (ys ++ b8.take j) :: L))) (fun v0 v7 _ => n1 + 8 - lenV v0)
      case atStart => exact ⟨0, A1, n1, c1, by decide, rfl, rfl, rfl, ⟨by simpa using HI.out⟩⟩
      case round =>
        obtain ⟨j, A2, n2, c2, hj, rfl, rfl, hn2, H4⟩ := hrel
        have HN2 := Aside0.mk hn2
        clear hn2
        by_cases hlt2 : j < 8
        · have HTj := Aside0.mk ((HB8.out j hlt2).trans (by rw [cast_shr8 m (56 - 8 * j)]))
          have HL4 : Aside0 ((ys ++ b8.take j).length + 1 ≤ 140737488355328) := ⟨by have := HBL.out j hj; have := HXL.out; have := Hl2.out; rw [List.length_append]; omega⟩
          have HL5 : Aside0 ((ys ++ b8.take (j + 1)).length = n2 + 1) := ⟨by have := HBL.out (j + 1) (by omega); have := HXL.out; have := HN2.out; rw [List.length_append]; omega⟩
          have hge : (0 : Int) ≤ 56 - 8 * (j : Int) := by omega
          go_wp2_with (first
            | fail
            | ((with_reducible refine gate_dst (N := 24) rfl ?_); (with_reducible refine gate_builtin (b := .append) (xs := #[.tmp 18, .tmp 23]) rfl ?_); refine own_append kB Flat_B H4.out 0 rfl rfl (.tmp 18) (.tmp 23) 74 (.int .u8 0) 1 rfl Try.underlying74 infoB rfl (by decide) (by decide) ((m : Int) / 2 ^ (56 - 8 * j) % 256) [.int .u8 ((m : Int) / 2 ^ (56 - 8 * j) % 256)] (fun _ => rfl) rfl rfl ?_ ?_; (case _ => (have := HL4.out; omega)); intro v5 w5 H5; replace H5 := Aside0.mk H5)
            )
          obtain ⟨A5, c5, rfl, _⟩ := H5.out.reads 0 rfl
          have HE : Aside0 (ys ++ b8.take j ++ [(m : Int) / 2 ^ (56 - 8 * j) % 256] = ys ++ b8.take (j + 1)) := ⟨by rw [HTj.out, List.append_assoc]⟩
          rw [HE.out] at H5 ⊢
          rw [HL5.out] at H5 ⊢
          go_wp2_with fail
          go_roundw
          case rel => exact ⟨j + 1, A5, n2 + 1, c5, hlt2, by go_num, rfl, by have := HN2.out; omega, H5⟩
          case measure => simp [lenV]; have := HN2.out; omega
        · have hje : j = 8 := by omega
          subst hje
          clear hlt2
          have H6 : Aside0 (Own B w0 wr (.row kB 5 (.slice A2 n2 c2) (xs ++ bigI (ws.take (i + 1))) :: L)) := ⟨by
            have h := H4.out
            rw [HB9.out] at h
            rw [HT.out, ← List.append_assoc, HYS.out]
            exact h⟩
          go_wp2_with fail
          go_roundw
          case rel => exact ⟨i + 1, A2, n2, c2, hlt, by go_num, rfl, ⟨by have := HN2.out; have := HN1.out; omega⟩, H6⟩
          case measure => simp [intOf]; omega
    · have hdl : decide (i < n) = false := decide_eq_false hlt
      have hie : i = n := by omega
      subst hie
      go_wp2_with fail
      go_ret
      exact ⟨_, rfl, by have h := HI.out; rw [List.take_of_length_le (by rw [← HN.out]; exact Nat.le_refl _)] at h; exact h⟩
end Go.Proofs.Ytocphkfkdadhaaa.H

namespace Go.Proofs.Ytocphkfkdadhaaa.H
open Go.RowKit Go.Proofs.YtocphkfkdadhaaaW.PrintWords Go.Proofs.YtocphkfkdadhaaaW.PrintLast Go.Proofs.YtocphkfkdadhaaaW.PrintMore
set_option linter.unusedVariables false
set_option linter.unusedSimpArgs false
theorem beq_drop (x y : List Int) (hl : x.length = y.length) (s : Nat) (h : s < x.length) : (x.drop s == y.drop s) = (x[s] == y[s]'(by omega) && (x.drop (s + 1) == y.drop (s + 1))) := by
  rw [List.drop_eq_getElem_cons h, List.drop_eq_getElem_cons (by omega : s < y.length)]
  rfl
section
variable {P : Program}
theorem run_part_B (e : TypeId) (he : P.underlying e = some (.int .u8)) (xs : List Int) (i : Nat) (h : i < xs.length) (w : World) : (part e (cellsB xs) i).run P w = .ok (.int .u8 xs[i]) w := by
  have hag : (isAgg e).run P w = .ok false w := by
    unfold isAgg
    simp [run_underlying he, go_sem]
  have hg : (cellsB xs)[i]? = some (.int .u8 xs[i]) := by simp [cellsB, h]
  simp [part, hag, hg, go_sem]
theorem run_equalIn_B (d : Nat) (t e : TypeId) (n : Nat) (ht : P.underlying t = some (.array n e)) (he : P.underlying e = some (.int .u8)) (hs : (P.info? e).map (·.size) = some 1) (xs ys : List Int) (hx : xs.length = n) (hy : ys.length = n) (w : World) :
    (Op.equalIn (d + 2) t (.agg (cellsB xs)) (.agg (cellsB ys))).run P w = .ok (xs == ys) w := by
  obtain ⟨ti, hti, hsz⟩ := Option.map_eq_some_iff.1 hs
  have hso : (sizeOf e).run P w = .ok 1 w := by simp [sizeOf, typeInfo, hti, hsz, go_sem]
  rw [Op.equalIn]
  simp only [Sem.run_bind, run_underlying ht, Result.andThen_ok, hso, Nat.mul_one]
  rw [Std.Legacy.Range.forIn_eq_forIn_range']
  simp only [Std.Legacy.Range.size]
  have key : ∀ (k s : Nat), s + k = n → ((forIn (m := Sem) (List.range' s k 1) ((none, ()) : Option Bool × PUnit) fun i r => do
      let a ← part e (cellsB xs) i
      let b ← part e (cellsB ys) i
      let q ← Op.equalIn (d + 1) e a b
      if (!q) = true then pure (ForInStep.done (some false, ())) else pure (ForInStep.yield (none, ())))).run P w = .ok (if (xs.drop s == ys.drop s) = true then (none, ()) else (some false, ())) w := by
    intro k
    induction k with
    | zero =>
      intro s hsn
      rw [List.drop_eq_nil_of_le (by omega), List.drop_eq_nil_of_le (by omega)]
      simp
    | succ k ih =>
      intro s hsn
      rw [List.range'_succ, List.forIn_cons]
      have h1 : s < xs.length := by omega
      have h2 : s < ys.length := by omega
      have he2 := run_equalIn_int (P := P) w d e .u8 .u8 xs[s] ys[s] he
      simp only [Sem.run_bind, run_part_B e he xs s h1 w, run_part_B e he ys s h2 w, Result.andThen_ok, he2]
      rw [beq_drop xs ys (by omega) s h1]
      cases hq : (xs[s] == ys[s])
      · simp
      · have := ih (s + 1) (by omega)
        simp only [Bool.not_true, Bool.false_eq_true, if_false, Sem.run_pure, Result.andThen_ok, Bool.true_and]
        exact this
  have := key n 0 (by omega)
  simp only [List.drop_zero] at this
  simp only [show (n - 0 + 1 - 1) / 1 = n by omega]
  rw [this]
  by_cases hxy : (xs == ys) = true
  · simp [hxy]
  · simp [hxy]
end
theorem run_eqH {P : Program} (d t e : TypeId) (n : Nat) (ht : P.underlying t = some (.array n e)) (he : P.underlying e = some (.int .u8)) (hs : (P.info? e).map (·.size) = some 1) (hg : P.eqGuardType P.depth t = false) (xs ys : List Int) (hx : xs.length = n) (hy : ys.length = n) (px py : Operand) (w : World) :
    (do eqGuard .eql t px py (.agg (cellsB xs)) (.agg (cellsB ys)); binOp .eql t (.agg (cellsB xs)) (.agg (cellsB ys)) : Sem Value).run P w = .ok (.bool (xs == ys)) w ∧
    (do eqGuard .neq t px py (.agg (cellsB xs)) (.agg (cellsB ys)); binOp .neq t (.agg (cellsB xs)) (.agg (cellsB ys)) : Sem Value).run P w = .ok (.bool (!(xs == ys))) w := by
  have h1 : (Op.equal t (.agg (cellsB xs)) (.agg (cellsB ys))).run P w = .ok (xs == ys) w := run_equalIn_B 9998 t e n ht he hs xs ys hx hy w
  constructor
  · simp [eqGuard, hg, binOp, h1, Sem.run_bind, go_sem]
  · simp [eqGuard, hg, binOp, h1, Sem.run_bind, go_sem]
theorem add_add_ (ad : Addr) (i j : Nat) : (ad.add i).add j = ad.add (i + j) := by
  unfold Addr.add
  by_cases h1 : i = 0 <;> by_cases h2 : j = 0 <;> simp [h1, h2, Nat.add_assoc]
theorem cells_H {W : World} {A : Option Addr} {n : Nat} {xs : List (List Int)} (h : Kd.C kH W A n xs) (i : Nat) (hi : i < n) :
    ∃ ad, A = some ad ∧ (xs.getD i []).length = 32 ∧ ∀ j u, ((xs.getD i []).map (Value.int .u8))[j]? = some u → W.cell? ((ad.add (i * 32)).add j) = some u := by
  obtain ⟨ad, c, rfl, _, ⟨h1, h2⟩, h3⟩ := Kd.C_get h ([] : List Int) (i : Int) (Int.natCast_nonneg i) (by omega)
  rw [Int.toNat_natCast] at h1 h2 h3
  refine ⟨ad, rfl, h1, fun j u hu => ?_⟩
  rw [add_add_]
  exact h3 j u (by rw [h2]; exact hu)
section
variable {P : Program} {ops : Array Oper} {rest : List Oper} {o : Oper} {a : Act} {Q : Exit → Act → World → Prop} {W : World}
theorem run_loadVar_at (p : Addr) (ty : TypeId) (cs : List Value) (d : TypeDesc) (hc : ∀ j v, cs[j]? = some v → W.cell? (p.add j) = some v) (hu : P.underlying ty = some d) (hd : (match d with | .struct _ | .array _ _ => true | _ => false) = true) (hi : (P.info? ty).map (·.size) = some cs.length) :
    (loadVar ty p).run P W = .ok (.agg cs.toArray) W := by
  have hl : (loadCells p cs.length).run P W = .ok cs.toArray W := run_loadCells_list (P := P) W p cs hc
  cases hq : P.info? ty with
  | none => simp [hq] at hi
  | some i =>
    have hs : i.size = cs.length := by simpa [hq] using hi
    have hagg : (isAgg ty).run P W = .ok true W := by
      unfold isAgg
      rw [Sem.run_bind, run_underlying hu W]
      cases d <;> simp_all
    simp [loadVar, Sem.run_bind, hagg, sizeOf, typeInfo, hq, hs, hl]
theorem load_H (hgd : o.guard = none) (ty : TypeId) (x : Operand) (ho : o.op = .load ty x) (p : Addr) (xs : List Int) {n : Nat} {el : TypeId} (hx : a.eval x = .pointer (some p)) (hc : ∀ j v, (xs.map (Value.int .u8))[j]? = some v → W.cell? (p.add j) = some v) (hu : P.underlying ty = some (.array n el))
    (hi : (P.info? ty).map (·.size) = some xs.length) (h : wpList P ops Q rest (a.put o.dst (.agg (cellsB xs))) W) : wpList P ops Q (o :: rest) a W :=
  wpList_plain hgd fun _ hK => by
    unfold Oper.wp execOp
    simp only [ho, hx, Instr.loadAt, Instr.sureAddr, Sem.run_bind, Sem.run_pure, Result.andThen_ok, run_loadVar_at (P := P) (W := W) p ty (xs.map (Value.int .u8)) _ hc hu rfl (by rw [List.length_map]; exact hi)]
    exact hK _ _ h
end
section
variable {P : Program}
theorem run_lit_H (w : World) (t e : TypeId) (xs : List Int) (hx : xs.length = 32) (ie : TypeInfo) (z : Value) (hu : P.underlying t = some (.slice e)) (hie : P.info? e = some ie) (hz : ie.zero = some z) (hs : ie.size = 32) :
    (Instr.buildSlice t 1 #[(0, .agg (cellsB xs))]).run P w = .ok (.slice (some ⟨w.heap.size, 0, none⟩) 1 1) (w.alloc (.cells (cellsB xs) e)) := by
  have hf := Great.fill_whole (s := 32) (by decide) [Value.agg (cellsB xs)] ((Array.range (1 * ie.size)).map (z.cells[· % z.cells.size]!)) (by simp [Value.cells, cellsB, hx]) (by simp [hs])
  rw [← hs] at hf
  refine run_buildSlice w t e 1 _ (cellsB xs) ie z hu hie hz (by rw [hs]; decide) (by rw [hs]; decide) ?_
  rw [show (#[(0, Value.agg (cellsB xs))] : Array (Nat × Value)).toList = (([Value.agg (cellsB xs)].zipIdx 0).map fun x => (x.2, x.1)) from rfl, hf]
  simp [Value.cells]
end
theorem guardH : Try.prog.eqGuardType Try.prog.depth 25 = false := by kernel_rfl
theorem size1B : (Try.prog.info? 5).map (·.size) = some 1 := by kernel_rfl
theorem infoH : (Try.prog.info? 25).map (fun i => (i.zero, i.size, i.bytes)) = some (some (.agg (Array.replicate 32 (.int .u8 0))), 32, 32) := by kernel_rfl
end Go.Proofs.Ytocphkfkdadhaaa.H

