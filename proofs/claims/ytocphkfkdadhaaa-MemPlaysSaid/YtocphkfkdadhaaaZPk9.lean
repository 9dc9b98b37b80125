import Derived.Test.YtocphkfkdadhaaaZPk8
namespace Go.Proofs.Ytocphkfkdadhaaa.H
open Go.RowKit Go.Proofs.YtocphkfkdadhaaaW.PrintWords Go.Proofs.YtocphkfkdadhaaaW.PrintLast Go.Proofs.YtocphkfkdadhaaaW.PrintMore
set_option linter.unusedVariables false
set_option linter.unusedSimpArgs false
theorem o_op8 : Opens 5 kB (fun n => (Lit.int .u8 n).wf = true) := opens_int Try.underlying5
abbrev kOp : Kd (Int × Int × Int) := Kd.pair kB (Kd.pair kU kU)
def OpOk (y : Int × Int × Int) : Prop := (Lit.int .u8 y.1).wf = true ∧ (Lit.int .u64 y.2.1).wf = true ∧ (Lit.int .u64 y.2.2).wf = true
theorem o_Op : Opens 53 kOp OpOk := opens_struct Try.underlying53 (many_cons o_op8 (by kernel_rfl) (many_cons o_u64 (by kernel_rfl) (many_one o_u64 (by kernel_rfl)))) (by kernel_rfl) (by kernel_rfl)
theorem op_at {W : World} {A : Option Addr} {n : Nat} {l : List (Int × Int × Int)} (h : Kd.C kOp W A n l) (hn : 0 < n) :
    ∃ b o, A = some ⟨b, o, none⟩ ∧ ∀ (W' : World), Kd.C kOp W' A n l → ∀ i, i < n → W'.cell? ⟨b, o + i * 3, none⟩ = some (.int .u8 (l.getD i default).1) ∧ W'.cell? ⟨b, o + i * 3 + 1, none⟩ = some (.int .u64 (l.getD i default).2.1) ∧ W'.cell? ⟨b, o + i * 3 + 2, none⟩ = some (.int .u64 (l.getD i default).2.2) := by
  have hlen := h.1
  obtain ⟨ad, hA, hc⟩ := h.2.2 hn
  have hsp : ad.spot = none := by
    obtain ⟨c, hcl, hK, hj⟩ := hc 0 _ (List.getElem?_eq_getElem (by omega))
    obtain ⟨c0, c1, rfl, h0, _⟩ := hK
    have h0' : c0 = [.int .u8 (l[0]'(by omega)).1] := h0
    have := hj 0 _ (by rw [h0']; rfl)
    rw [Nat.zero_mul] at this
    have h2 := spot_of_cell this
    simpa [Addr.add] using h2
  obtain ⟨b, o, s⟩ := ad
  have hs : s = none := hsp
  subst hs
  subst hA
  refine ⟨b, o, rfl, fun W' hW i hi => ?_⟩
  obtain ⟨ad, he, hc'⟩ := hW.2.2 hn
  injection he with he
  subst he
  have hil : i < l.length := by omega
  obtain ⟨c, hcl, hK, hj⟩ := hc' i _ (List.getElem?_eq_getElem hil)
  have e1 : l.getD i default = l[i] := by rw [List.getD_eq_getElem?_getD, List.getElem?_eq_getElem hil]; rfl
  rw [e1]
  obtain ⟨c0, c1, rfl, h0, c2, c3, rfl, h2, h3⟩ := hK
  have h0' : c0 = [.int .u8 l[i].1] := h0
  have h2' : c2 = [.int .u64 l[i].2.1] := h2
  have h3' : c3 = [.int .u64 l[i].2.2] := h3
  subst h0' h2' h3'
  have hsz : (kOp : Kd _).sz = 3 := rfl
  rw [hsz] at hj
  have j0 := hj 0 _ rfl
  have j1 := hj 1 _ rfl
  have j2 := hj 2 _ rfl
  rw [add_at] at j0 j1 j2
  exact ⟨j0, j1, j2⟩
end Go.Proofs.Ytocphkfkdadhaaa.H

namespace Go.Proofs.Ytocphkfkdadhaaa.H
open Go.RowKit Go.Proofs.YtocphkfkdadhaaaW.PrintWords Go.Proofs.YtocphkfkdadhaaaW.PrintLast Go.Proofs.YtocphkfkdadhaaaW.PrintMore
set_option linter.unusedVariables false
set_option linter.unusedSimpArgs false
theorem yif_neqb {P : Program} {ops : Array Oper} {S : World → Prop} {o : Oper} {a : Act} (b : Bool) (hw : Region.wanted o (yielded ops a.tmps) = true) (t u : TypeId) (x y : Operand) (ho : o.op = .binOp .neq t x y u) (xs ys : List Int) (hx : a.eval x = .agg (cellsB xs)) (hy : a.eval y = .agg (cellsB ys)) {n : Nat} {e : TypeId} (ht : P.underlying t = some (.array n e)) (he : P.underlying e = some (.int .u8)) (hs : (P.info? e).map (·.size) = some 1) (hg : P.eqGuardType P.depth t = false) (lx : xs.length = n) (ly : ys.length = n) (hb : (!(xs == ys)) = b) :
    YieldsIf P ops S o (.bool b) a := by
  rw [← hb]
  exact yif_neq_H hw t u x y ho xs ys hx hy ht he hs hg lx ly
set_option maxHeartbeats 2000000 in
set_option maxRecDepth 100000 in
theorem plays_no (ws : List Int) (hs : sizeB ws.length = false) (A : Option Addr) (c : Nat) (w : World) (hn : ws.length ≤ 9223372036854775807) (v : Value) :
    Calls Try.prog 5 #[.slice A ws.length c, v] w fun e w' => e = .returned (.bool true) ∧ Below w.heap.size w w' := by
  have H0 := Aside0.mk (Own.start w)
  have HN := Aside0.mk (fun W => new_no ws.length hn hs A c W)
  have HS := Aside0.mk (fun W => size_any ws.length hn W)
  rw [hs] at HS
  have HA := Aside0.mk (fun W => anchored11 W)
  clear hs
  generalize ws.length = n at *
  go_enter Try.func5, Try.ntmps5
  go_wp2_with fail
  refine (HN.out _).mono ?_
  rintro e w3 ⟨rfl, hB3⟩
  have H3 := Aside0.mk (H0.out.step hB3)
  clear hB3
  go_wp2_with (first
    | fail
    | (go_at_call 20; refine (HS.out _).mono ?_; rintro e w6 ⟨rfl, rfl⟩)
    | (go_at_call 18; refine (HA.out _).mono ?_; rintro e w5 ⟨rfl, hB5⟩; have H5 := Aside0.mk (H3.out.step hB5); clear hB5)
    )
  go_ret
  exact ⟨rfl, H5.out.below⟩
abbrev TOp : TypeId := 53
set_option maxHeartbeats 8000000 in
set_option maxRecDepth 100000 in
theorem plays_yes (D : Nat) (hD : D ≤ 12) (ws : List Int) (hl : ws.length = 2 ^ D) (hw : Wrd ws) (A : Option Addr) (c : Nat) (hc : ws.length ≤ c) (w : World) (hC : Kd.C kU w A ws.length ws)
    (sc : List (Int × Int × Int)) (hsc : ∀ y ∈ sc, OpOk y) (A2 : Option Addr) (c2 : Nat) (hC2 : Kd.C kOp w A2 sc.length sc) :
    Calls Try.prog 5 #[.slice A ws.length c, .slice A2 sc.length c2] w fun e w' => e = .returned (.bool true) ∧ Below w.heap.size w w' := by
  have hn4 : 1 ≤ ws.length ∧ ws.length ≤ 4096 := by rw [hl]; exact ⟨Nat.two_pow_pos D, Nat.pow_le_pow_right (by decide) hD⟩
  have H0 := Aside0.mk (Own.start w)
  have R32 : Aside0 (Arr 32 (Array.replicate 32 (.int .u8 0))) := ⟨Arr_rep _ _ rfl⟩
  have HNW := Aside0.mk (new_ok D hD ws hl hw A c hc w hC)
  have HSZ := Aside0.mk (fun W => size_any ws.length (by omega) W)
  rw [hl, sizeB_of hD, ← hl] at HSZ
  have HA := Aside0.mk (fun W => anchored11 W)
  have HC := Aside0.mk hC
  have HCS := Aside0.mk hC2
  have hsm := hC2.2.1
  have HOK : Aside0 (∀ i, i < sc.length → OpOk (sc.getD i default)) := ⟨fun i hi => by rw [List.getD_eq_getElem?_getD, List.getElem?_eq_getElem hi]; exact hsc _ (List.getElem_mem hi)⟩
  clear hC hC2 hsc
  have HDL := Aside0.mk hl
  obtain ⟨n, hn⟩ : ∃ n, n = ws.length := ⟨_, rfl⟩
  rw [← hn] at HNW hn4 hc HSZ HC HDL ⊢
  have HN := Aside0.mk hn
  clear hn hl hw
  generalize sc.length = m at *
  have hwn : IntKind.u64.wrap (n : Int) = (n : Int) := by rw [IntKind.wrap_u64]; omega
  go_enter Try.func5, Try.ntmps5
  go_wp2_with fail
  refine HNW.out.mono ?_
  rintro e w3 ⟨g, v1, v2, ss, rfl, hM, hO⟩
  have HM := Aside0.mk hM
  have H3 := Aside0.mk hO
  clear hM hO
  go_upto_region 7 with (first
    | fail
    | (go_at_call 20; refine (HSZ.out _).mono ?_; rintro e w6 ⟨rfl, rfl⟩)
    | ((with_reducible refine gate_dst (N := 44) rfl ?_); refine own_lit kU Flat_U H3.out 23 rfl (N := 44) rfl (xs := ([] : List Int)) (inner := (([] : List Int)).map (Value.int .u64)) ?hr44 (Kd.reps_scalar _) (by simp) ?_; (case hr44 => first | (go_simp; done) | (go_simp; rfl)); intro A1 c1 w4 H4 B4; replace H4 := Aside0.mk H4; replace B4 := Aside0.mk B4)
    | ((with_reducible refine gate_dst (N := 46) rfl ?_); (with_reducible refine gate_builtin (b := .append) (xs := #[.tmp 44, .tmp 45]) rfl ?_); refine own_append_row kU Flat_U H4.out 0 rfl rfl (.tmp 44) (.tmp 45) 22 (.int .u64 0) 8 rfl Try.underlying22 infoU rfl (by decide) (by decide) ws _ _ _ rfl rfl (Kd.C_below HC.out H4.out.below) ?_ ?_; (case _ => simp only [List.length_nil]; omega); intro v5 w5 H5; replace H5 := Aside0.mk H5)
    )
  rw [List.nil_append] at H5
  obtain ⟨g7, c7, rfl, hc7⟩ := H5.out.form 0 rfl (by rw [← HN.out]; omega)
  rw [← HN.out] at H5 hc7 ⊢
  have H6 := Aside0.mk H5.out.under
  clear H5 H4
  go_wp2_with fail
  go_loopw [8] (fun v8 wr => ∃ (i : Nat) (xs : List Int) (ss : List (List Int)), i ≤ m ∧ v8 = .int .i64 (i : Int) ∧ Aside0 (MemAt D xs ss ∧ xs.length = n) ∧ Aside0 (Own w.heap.size w wr (memL g v1 v2 xs ss [.row kU 23 (.slice (some ⟨g7, 0, none⟩) n c7) xs]))) (fun v8 _ => m - (intOf v8).toNat)
  case atStart => exact ⟨0, ws, ss, Nat.zero_le _, rfl, ⟨HM.out, HN.out.symm⟩, H6⟩
  case round =>
    clear H6 H3 HM
    obtain ⟨i, xs, ss, hi, rfl, HM, HI⟩ := hrel
    by_cases hlt : i < m
    · have hdl : decide (i < m) = true := decide_eq_true hlt
      have hi0 : (0 : Int) ≤ (i : Int) ∧ (i : Int) < (m : Int) := by omega
      obtain ⟨b, o, rfl, hel⟩ := op_at HCS.out (by omega)
      obtain ⟨q0, q1, q2⟩ := hel wr (Kd.C_below HCS.out HI.out.below) i hlt
      obtain ⟨k0, k1, k2⟩ := HOK.out i hlt
      clear hel
      obtain ⟨b1, b2⟩ := wf_u64 k1
      obtain ⟨b3, b4⟩ := wf_u64 k2
      obtain ⟨b5, b6⟩ := wf_u8 k0
      generalize (sc.getD i default).1 = y0 at *
      generalize (sc.getD i default).2.1 = x1 at *
      generalize (sc.getD i default).2.2 = x2 at *
      obtain ⟨x1, rfl⟩ := Int.eq_ofNat_of_zero_le b1
      obtain ⟨x2, rfl⟩ := Int.eq_ofNat_of_zero_le b3
      have hx1 : x1 ≤ 18446744073709551615 := by omega
      have hx2 : x2 ≤ 18446744073709551615 := by omega
      clear b1 b2 b3 b4 k0 k1 k2
      have HAO : Aside0 (Arr 3 #[.int .u8 y0, .int .u64 (x1 : Int), .int .u64 (x2 : Int)]) := ⟨rfl, by simp [Value.oneCell']⟩
      have HAZ : Aside0 (Arr 3 #[.int .u8 0, .int .u64 0, .int .u64 0]) := ⟨rfl, by simp [Value.oneCell']⟩
      go_upto_region 11 with (first
        | fail
        | ((with_reducible refine gate_dst (N := 9) rfl ?_); refine own_alloc HI.out rfl (N := 9) rfl (t := TOp) rfl (#[.int .u8 0, .int .u64 0, .int .u64 0]) 3 (by kernel_rfl) ?_; intro g9 w7 H7 B7; replace H7 := Aside0.mk H7; replace B7 := Aside0.mk B7)
        | ((with_reducible refine own_store H7.out 0 g9 _ TOp rfl rfl (.tmp 9) (.tmp 56) rfl (#[.int .u8 y0, .int .u64 (x1 : Int), .int .u64 (x2 : Int)]) ?_ ?_ 3 HAZ.out HAO.out (by kernel_rfl) ?_); (case _ => rfl); (case _ => rfl); intro w8 H8; replace H8 := Aside0.mk H8)
        )
      have H9 := Aside0.mk H8.out.under
      clear q0 q1 q2 H7 H8 hi0
      have q0 : w8.cell? ⟨g9, 0, none⟩ = some (.int .u8 y0) := H9.out.cell 3 rfl 0 rfl
      have q1 : w8.cell? ⟨g9, 1, none⟩ = some (.int .u64 (x1 : Int)) := H9.out.cell 3 rfl 1 rfl
      have q2 : w8.cell? ⟨g9, 2, none⟩ = some (.int .u64 (x2 : Int)) := H9.out.cell 3 rfl 2 rfl
      by_cases h3 : y0 = 3
      · subst h3
        have HHR := Aside0.mk (Hsh_memroot D xs)
        have HAR := Aside0.mk (Arr_B (Hsh_memroot D xs).1)
        have HRR := Aside0.mk (fun A c W hC hc => rroot_yes D hD xs HM.out.1.2.2.1 HM.out.1.2.2.2 A c hc W hC)
        rw [HM.out.2] at HRR
        have HRT := Aside0.mk (fun B w0 W L (h : Own B w0 W (memL g v1 v2 xs ss L)) => mroot_mem hD HM.out.1 h)
        generalize memroot D xs = r at *
        go_wp2_with fail
        refine (HRR.out _ c7 _ (H9.out.C_of 4 rfl) hc7).mono ?_
        rintro e w9 ⟨rfl, hB⟩
        have H10 := Aside0.mk (H9.out.step hB)
        clear hB q0 q1 q2
        go_upto_region 30 with (first
          | fail
          | ((with_reducible refine gate_dst (N := 18) rfl ?_); refine own_alloc H10.out rfl (N := 18) rfl (t := 25) rfl (Array.replicate 32 (.int .u8 0)) 32 (by kernel_rfl) ?_; intro g18 w11 H11 B11; replace H11 := Aside0.mk H11; replace B11 := Aside0.mk B11)
          | ((with_reducible refine own_store H11.out 0 g18 _ 25 rfl rfl (.tmp 18) (.tmp 159) rfl (cellsB r) ?_ ?_ 32 R32.out HAR.out (by kernel_rfl) ?_); (case _ => rfl); (case _ => rfl); intro w12 H12; replace H12 := Aside0.mk H12)
          )
        have H13 := Aside0.mk H12.out.under
        have hhp := Try.underlying25
        have HZR : Aside0 ((Try.prog.info? 25).map (·.size) = some (cellsB r).size) := ⟨by rw [HAR.out.1]; kernel_rfl⟩
        refine wp_region_held_drew (S := (fun W => W.heap[g18]? = some (.cells (cellsB r) 25 (0, 0)))) (by kernel_rfl) ?_ (fun hHeld => ?_)
        · exact H13.out.drew.get 3 rfl
        refine wpAnyH_take (i := 0) (oi := { dst := some 161, op := Go.Op.move (Go.Operand.tmp 5), type := 38, pos := "law.go:74", after := #[], guard := none }) (v := ?_) rfl (by kernel_rfl) (by kernel_rfl) (by kernel_rfl) (fun _ _ _ h => h) (Or.inl ⟨by rfl, ?_⟩) (by assumption) ?_
        rotate_left
        · intro wS hSw; (try dsimp only at hSw); go_simp; (try with_reducible rfl)
        try simp only [Act.put, List.setIfInBounds_toArray, List.set_cons_zero, List.set_cons_succ]
        refine wpAnyH_take (i := 2) (oi := { dst := some 163, op := Go.Op.load 25 (Go.Operand.tmp 18), type := 25, pos := "law.go:74", after := #[], guard := none }) (v := .agg (cellsB r)) rfl (by kernel_rfl) (by kernel_rfl) (by kernel_rfl) (fun _ _ _ h => h) (yif_loadV (by rfl) 25 (.tmp 18) rfl g18 _ rfl (fun W h => h) _ hhp rfl HZR.out) (by assumption) ?_
        try simp only [Act.put, List.setIfInBounds_toArray, List.set_cons_zero, List.set_cons_succ]
        refine wpAnyH_ready (rs := [1]) (by kernel_rfl) (by simp) ?_
        refine AllReadyH.cons (o := { dst := some 162, op := Go.Op.call { callee := Go.Callee.value (Go.Operand.func 25), args := #[Go.Operand.tmp 161], argTypes := #[38] }, type := 25, pos := "law.go:74", after := #[{ on := 0, ground := Go.Ground.data }], guard := none }) rfl (fun K hK => ?_) AllReadyH.nil
        go_simp
        refine (HRT.out _ _ _ _ H13.out.drew).mono ?_
        rintro e w14 ⟨rfl, hB⟩
        have H14 := Aside0.mk (H13.out.drew.step hB)
        clear hB
        go_wp2_with fail
        refine hK.out _ _ ?_ (fun hHeld => ?_)
        · exact H14.out.get 3 rfl
        clear hK K
        try simp only [Act.put, List.setIfInBounds_toArray, List.set_cons_zero, List.set_cons_succ]
        refine wpAnyH_take (i := 3) (oi := { dst := some 164, op := Go.Op.binOp Go.BinOp.neq 25 (Go.Operand.tmp 162) (Go.Operand.tmp 163) 25, type := 4, pos := "law.go:74", after := #[{ on := 1, ground := Go.Ground.data }, { on := 2, ground := Go.Ground.data }], guard := none }) (v := .bool false) rfl (by kernel_rfl) (by kernel_rfl) (by kernel_rfl) (fun _ _ _ h => h) (yif_neqb false (by rfl) 25 _ (.tmp 162) (.tmp 163) rfl r r rfl rfl Try.underlying25 Try.underlying5 size1B guardH HHR.out.1 HHR.out.1 (by simp)) (by assumption) ?_
        try simp only [Act.put, List.setIfInBounds_toArray, List.set_cons_zero, List.set_cons_succ]
        refine wpAnyH_done (by kernel_rfl) ?_ _
        clear hHeld
        go_wp2_with fail
        go_roundw
        case rel => exact ⟨i + 1, xs, ss, hlt, by go_num, HM, ⟨(H14.out.erase 3).erase 3⟩⟩
        case measure => simp [intOf]; omega
      by_cases h4 : y0 = 4
      · subst h4
        have HWD := Aside0.mk (words_mem hD HM.out.1 H9.out)
        go_wp2_with fail
        refine HWD.out.mono ?_
        rintro e w9 ⟨v20, rfl, hO'⟩
        obtain ⟨A20, c20, rfl, _, _⟩ := hO'.reads 0 rfl
        have H10 := Aside0.mk hO'.under
        clear hO' q0 q1 q2
        have HSU := Aside0.mk (same11_any xs xs A20 (some ⟨g7, 0, none⟩) c20 c7 w9 (H10.out.C_of 3 rfl) (by rw [HM.out.2]; exact H10.out.C_of 5 rfl))
        rw [decide_eq_true (show xs = xs from rfl), HM.out.2] at HSU
        rw [HM.out.2]
        go_wp2_with fail
        refine HSU.out.mono ?_
        rintro e w11 ⟨rfl, hB⟩
        have H12 := Aside0.mk (H10.out.step hB)
        clear hB
        go_wp2_with fail
        go_roundw
        case rel => exact ⟨i + 1, xs, ss, hlt, by go_num, HM, ⟨(H12.out.erase 3).erase 3⟩⟩
        case measure => simp [intOf]; omega
      by_cases hin : x1 < n
      · have hdi : decide (x1 < n) = true := decide_eq_true hin
        have hin0 : (0 : Int) ≤ (x1 : Int) ∧ (x1 : Int) < (n : Int) := by omega
        by_cases h0 : y0 = 0
        · subst h0
          have HG := Aside0.mk (get_mem hD HM.out.1 H9.out x1 hx1)
          rw [if_pos (show x1 < xs.length by rw [HM.out.2]; exact hin)] at HG
          obtain ⟨ad, he, q7⟩ := Kd.at_int (H9.out.C_of 4 rfl) (x1 : Int) (Int.natCast_nonneg x1) (by omega)
          injection he with he
          subst he
          rw [Int.toNat_natCast, show rd xs (x1 : Int) = xs.getD x1 0 by simp [rd], add_plain] at q7
          generalize xs.getD x1 0 = z at *
          go_wp2_with (first
            | fail
            | (go_at_call 27; refine HG.out.mono ?_; rintro e w9 ⟨rfl, rfl⟩)
            )
          go_roundw
          case rel => exact ⟨i + 1, xs, ss, hlt, by go_num, HM, ⟨H9.out.erase 3⟩⟩
          case measure => simp [intOf]; omega
        by_cases h1 : y0 = 1
        · subst h1
          have HG := Aside0.mk (set_yes hD HM.out.1 H9.out x1 x2 (by rw [HM.out.2]; exact hin) hx2)
          go_wp2_with fail
          refine HG.out.mono ?_
          rintro e w9 ⟨ss', rfl, hM', hO'⟩
          have H10 := Aside0.mk hO'
          have HM' : Aside0 (MemAt D (xs.set x1 (x2 : Int)) ss' ∧ (xs.set x1 (x2 : Int)).length = n) := ⟨hM', by rw [List.length_set]; exact HM.out.2⟩
          clear hM' hO' q0 q1 q2
          have q1 : w9.cell? ⟨g9, 1, none⟩ = some (.int .u64 (x1 : Int)) := H10.out.cell 3 rfl 1 rfl
          have q2 : w9.cell? ⟨g9, 2, none⟩ = some (.int .u64 (x2 : Int)) := H10.out.cell 3 rfl 2 rfl
          obtain ⟨hth, hfz⟩ := H10.out.there1 4 rfl x1 hin rfl
          obtain ⟨u0, hu0⟩ := Option.isSome_iff_exists.1 hth
          have H11 := Aside0.mk (H10.out.putS 4 rfl x1 hin (x := (x2 : Int)) (v := .int .u64 (x2 : Int)) Flat_U rfl (fun _ => rfl))
          go_wp2_with fail
          go_roundw
          case rel => exact ⟨i + 1, _, ss', hlt, by go_num, HM', ⟨H11.out.erase 3⟩⟩
          case measure => simp [intOf]; omega
        by_cases h2 : y0 = 2
        · subst h2
          have HPH : Aside0 (Hshs (proofP D (leavesW xs) x1)) := ⟨Hshs_proof _ _ _ (Hshs_leaves xs)⟩
          have HG := Aside0.mk (prove_yes hD HM.out.1 H9.out x1 (by rw [HM.out.2]; exact hin))
          have HG2 := Aside0.mk (fun A c hc W hC => prove11_yes D hD xs HM.out.1.2.2.1 HM.out.1.2.2.2 x1 (by rw [HM.out.2]; exact hin) A c hc W hC)
          rw [HM.out.2] at HG2
          generalize proofP D (leavesW xs) x1 = pf at *
          go_wp2_with fail
          refine HG.out.mono ?_
          rintro e w9 ⟨v14, rfl, hO'⟩
          obtain ⟨A14, c14, rfl, _, _⟩ := hO'.reads 0 rfl
          have H10 := Aside0.mk hO'.under
          clear hO' q0 q1 q2
          have q1 : w9.cell? ⟨g9, 1, none⟩ = some (.int .u64 (x1 : Int)) := H10.out.cell 4 rfl 1 rfl
          have q2 : w9.cell? ⟨g9, 2, none⟩ = some (.int .u64 (x2 : Int)) := H10.out.cell 4 rfl 2 rfl
          go_wp2_with fail
          refine (HG2.out _ c7 hc7 _ (H10.out.C_of 5 rfl)).mono ?_
          rintro e w10 ⟨v16, rfl, hO'⟩
          obtain ⟨A16, c16, rfl, _, _⟩ := hO'.reads 0 rfl
          have H11 : Aside0 (Own w.heap.size w w10 (memL g v1 v2 xs ss [.row kH 25 (.slice A16 pf.length c16) pf, .row kH 25 (.slice A14 pf.length c14) pf, .blk g9 #[.int .u8 2, .int .u64 (x1 : Int), .int .u64 (x2 : Int)] TOp, .row kU 23 (.slice (some ⟨g7, 0, none⟩) n c7) xs])) := ⟨(H10.out.call hO').under⟩
          clear hO' q1 q2
          have HSM := Aside0.mk (same04_any pf pf HPH.out HPH.out A14 A16 c14 c16 w10 (H11.out.C_of 4 rfl) (H11.out.C_of 3 rfl))
          rw [decide_eq_true (show pf = pf from rfl)] at HSM
          go_wp2_with fail
          refine HSM.out.mono ?_
          rintro e w11 ⟨rfl, hB⟩
          have H12 := Aside0.mk (H11.out.step hB)
          clear hB
          go_wp2_with fail
          go_roundw
          case rel => exact ⟨i + 1, xs, ss, hlt, by go_num, HM, ⟨((H12.out.erase 3).erase 3).erase 3⟩⟩
          case measure => simp [intOf]; omega
        have e0 : (y0 == 0) = false := beq_eq_false_iff_ne.2 h0
        have e1 : (y0 == 1) = false := beq_eq_false_iff_ne.2 h1
        have e2 : (y0 == 2) = false := beq_eq_false_iff_ne.2 h2
        have e3 : (y0 == 3) = false := beq_eq_false_iff_ne.2 h3
        have e4 : (y0 == 4) = false := beq_eq_false_iff_ne.2 h4
        clear h0 h1 h2 h3 h4
        go_wp2_with fail
        go_roundw
        case rel => exact ⟨i + 1, xs, ss, hlt, by go_num, HM, ⟨H9.out.erase 3⟩⟩
        case measure => simp [intOf]; omega
      · have hdi : decide (x1 < n) = false := decide_eq_false hin
        by_cases h0 : y0 = 0
        · subst h0
          have HG := Aside0.mk (get_mem hD HM.out.1 H9.out x1 hx1)
          rw [if_neg (show ¬ x1 < xs.length by rw [HM.out.2]; exact hin)] at HG
          go_wp2_with (first
            | fail
            | (go_at_call 27; refine HG.out.mono ?_; rintro e w9 ⟨rfl, rfl⟩)
            )
          go_roundw
          case rel => exact ⟨i + 1, xs, ss, hlt, by go_num, HM, ⟨H9.out.erase 3⟩⟩
          case measure => simp [intOf]; omega
        by_cases h1 : y0 = 1
        · subst h1
          have HG := Aside0.mk (set_no hD HM.out.1 H9.out x1 x2 hx1 (by rw [HM.out.2]; exact hin))
          go_wp2_with (first
            | fail
            | (go_at_call 28; refine HG.out.mono ?_; rintro e w9 ⟨rfl, rfl⟩)
            )
          go_roundw
          case rel => exact ⟨i + 1, xs, ss, hlt, by go_num, HM, ⟨H9.out.erase 3⟩⟩
          case measure => simp [intOf]; omega
        by_cases h2 : y0 = 2
        · subst h2
          have HG := Aside0.mk (prove_no hD HM.out.1 H9.out x1 hx1 (by rw [HM.out.2]; exact hin))
          have HG2 := Aside0.mk (fun A c W => prove11_no xs x1 hx1 (by rw [HM.out.2]; exact hin) (by rw [HM.out.2]; omega) A c W)
          rw [HM.out.2] at HG2
          have HSM : Aside0 (∀ W, Calls Try.prog 26 #[.slice none 0 0, .slice none 0 0] W fun e w' => e = .returned (.bool true) ∧ Below W.heap.size W w') := ⟨fun W => same04_any [] [] (by intro x hx; cases hx) (by intro x hx; cases hx) none none 0 0 W (Kd.C_nil _ _) (Kd.C_nil _ _)⟩
          go_wp2_with (first
            | fail
            | (go_at_call 22; refine HG.out.mono ?_; rintro e w9 ⟨rfl, rfl⟩)
            | (go_at_call 23; refine (HG2.out _ _ _).mono ?_; rintro e w10 ⟨rfl, rfl⟩)
            | (go_at_call 26; refine (HSM.out _).mono ?_; rintro e w11 ⟨rfl, hB⟩; have H12 := Aside0.mk (H9.out.step hB); clear hB)
            )
          go_roundw
          case rel => exact ⟨i + 1, xs, ss, hlt, by go_num, HM, ⟨H12.out.erase 3⟩⟩
          case measure => simp [intOf]; omega
        have e0 : (y0 == 0) = false := beq_eq_false_iff_ne.2 h0
        have e1 : (y0 == 1) = false := beq_eq_false_iff_ne.2 h1
        have e2 : (y0 == 2) = false := beq_eq_false_iff_ne.2 h2
        have e3 : (y0 == 3) = false := beq_eq_false_iff_ne.2 h3
        have e4 : (y0 == 4) = false := beq_eq_false_iff_ne.2 h4
        clear h0 h1 h2 h3 h4
        go_wp2_with fail
        go_roundw
        case rel => exact ⟨i + 1, xs, ss, hlt, by go_num, HM, ⟨H9.out.erase 3⟩⟩
        case measure => simp [intOf]; omega
    · have hdl : decide (i < m) = false := decide_eq_false hlt
      obtain rfl : i = m := by omega
      go_wp2_with fail
      refine (HA.out _).mono ?_
      rintro e w9 ⟨rfl, hB⟩
      have H9 := Aside0.mk (HI.out.step hB)
      clear hB
      go_wp2_with fail
      go_ret
      exact ⟨rfl, H9.out.below⟩
theorem plays_law (ws : List Int) (hw : Wrd ws) (A : Option Addr) (c : Nat) (hc : ws.length ≤ c) (w : World) (hC : Kd.C kU w A ws.length ws)
    (sc : List (Int × Int × Int)) (hsc : ∀ y ∈ sc, OpOk y) (A2 : Option Addr) (c2 : Nat) (hC2 : Kd.C kOp w A2 sc.length sc) :
    Calls Try.prog 5 #[.slice A ws.length c, .slice A2 sc.length c2] w fun e w' => e = .returned (.bool true) ∧ Below w.heap.size w w' := by
  rcases size_ways ws.length with hs | ⟨D, hD, hl⟩
  · exact plays_no ws hs A c w hC.2.1 _
  · exact plays_yes D hD ws hl hw A c hc w hC sc hsc A2 c2 hC2
end Go.Proofs.Ytocphkfkdadhaaa.H

