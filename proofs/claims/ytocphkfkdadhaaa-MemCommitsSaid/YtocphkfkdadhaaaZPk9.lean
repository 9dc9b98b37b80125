import Derived.Test.YtocphkfkdadhaaaZPk8
namespace Go.Proofs.Ytocphkfkdadhaaa.H
open Go.RowKit Go.Proofs.YtocphkfkdadhaaaW.PrintWords Go.Proofs.YtocphkfkdadhaaaW.PrintLast Go.Proofs.YtocphkfkdadhaaaW.PrintMore
set_option linter.unusedVariables false
set_option linter.unusedSimpArgs false
theorem load_at {P : Program} {ops : Array Oper} {rest : List Oper} {o : Oper} {a : Act} {Q : Exit → Act → World → Prop} {W : World} (hgd : o.guard = none) (ty : TypeId) (x : Operand) (ho : o.op = .load ty x) (p : Addr) (cs : List Value) (hx : a.eval x = .pointer (some p))
    (hc : ∀ j v, cs[j]? = some v → W.cell? (p.add j) = some v) {n : Nat} {el : TypeId} (hu : P.underlying ty = some (.array n el)) (hi : (P.info? ty).map (·.size) = some cs.length)
    (h : wpList P ops Q rest (a.put o.dst (.agg cs.toArray)) W) : wpList P ops Q (o :: rest) a W :=
  wpList_plain hgd fun _ hK => by
    unfold Oper.wp execOp
    simp only [ho, hx, Instr.loadAt, Instr.sureAddr, Sem.run_bind, Sem.run_pure, Result.andThen_ok, run_loadVar_at (P := P) (W := W) p ty cs _ hc hu rfl hi]
    exact hK _ _ h
set_option maxHeartbeats 4000000 in
set_option maxRecDepth 100000 in
theorem commits_walk (pc : Int) (regs : List Int) (hl : regs.length = 16) (s : Int) (A : Option Addr) (n c : Nat) (d : Int) (root : List Int) (hro : root.length = 32) (w : World) (r1 r2 : List Int) (e1 e2 : Int) (h1 : Hsh r1) (h2 : Hsh r2)
    (HC1 : ∀ W, Below w.heap.size w W → Calls Try.prog 29 #[.agg (machC pc regs s A n c)] W fun e' w' => e' = .returned (.tuple #[.agg (cellsB r1), .int .i64 e1]) ∧ Below W.heap.size W w')
    (HC2 : ∀ W, Below w.heap.size w W → Calls Try.prog 30 #[.agg (machC pc regs s A n c)] W fun e' w' => e' = .returned (.tuple #[.agg (cellsB r1), .int .i64 e1]) ∧ Below W.heap.size W w')
    (HP1 : ∀ W, Calls Try.prog 31 #[.int .u64 pc, .agg (cellsU regs), .int .u8 s, .int .i64 d, .agg (cellsB root)] W fun e' w' => e' = .returned (.tuple #[.agg (cellsB r2), .int .i64 e2]) ∧ Below W.heap.size W w')
    (HP2 : ∀ W, Calls Try.prog 32 #[.int .u64 pc, .agg (cellsU regs), .int .u8 s, .int .i64 d, .agg (cellsB root)] W fun e' w' => e' = .returned (.tuple #[.agg (cellsB r2), .int .i64 e2]) ∧ Below W.heap.size W w') :
    Calls Try.prog 8 #[.agg (machC pc regs s A n c), .int .i64 d, .agg (cellsB root)] w fun e w' => e = .returned (.bool true) ∧ Below w.heap.size w w' := by
  have H0 := Aside0.mk (Own.start w)
  have HC1 := Aside0.mk HC1
  have HC2 := Aside0.mk HC2
  have HP1 := Aside0.mk HP1
  have HP2 := Aside0.mk HP2
  have HAN := Aside0.mk (fun W => anchored11 W)
  have R32 : Aside0 (Arr 32 (Array.replicate 32 (.int .u8 0))) := ⟨Arr_rep _ _ rfl⟩
  have HA1 := Aside0.mk (Arr_B h1.1)
  have HA2 := Aside0.mk (Arr_B h2.1)
  have HAR := Aside0.mk (Arr_B hro)
  have HH := Aside0.mk (And.intro h1 h2)
  have HSZ : Aside0 ((Try.prog.info? TMach).map (·.size) = some (machC pc regs s A n c).size) := ⟨by rw [show (machC pc regs s A n c).size = 19 by simp [machC, hl]]; kernel_rfl⟩
  have HAT := Aside0.mk (machC_at (pc := pc) (s := s) (A := A) (n := n) (c := c) hl)
  have HLR := Aside0.mk hl
  generalize machC pc regs s A n c = mc at *
  clear hl h1 h2 hro
  go_enter Try.func8, Try.ntmps8
  go_wp2_with (first
    | fail
    | ((with_reducible refine gate_dst (N := 3) rfl ?_); refine own_box H0.out rfl (N := 3) rfl (t := TMach) rfl (.agg mc) rfl ?_; intro g3 w1 H1 B1; replace H1 := Aside0.mk H1; replace B1 := Aside0.mk B1)
    | ((with_reducible refine gate_dst (N := 5) rfl ?_); refine own_box H1.out rfl (N := 5) rfl (t := 25) rfl (.agg (cellsB root)) rfl ?_; intro g5 w2 H2 B2; replace H2 := Aside0.mk H2; replace B2 := Aside0.mk B2)
    | ((with_reducible refine gate_dst (N := 16) rfl ?_); refine own_loadV H2.out 1 g3 mc TMach rfl rfl (.tmp 3) rfl _ rfl Try.underlying64 rfl HSZ.out ?_)
    | (go_at_call 29; refine (HC1.out _ H2.out.below).mono ?_; rintro e w3 ⟨rfl, hB3⟩; have H3 := Aside0.mk (H2.out.step hB3); clear hB3)
    | ((with_reducible refine gate_dst (N := 7) rfl ?_); refine own_alloc H3.out rfl (N := 7) rfl (t := 25) rfl (Array.replicate 32 (.int .u8 0)) 32 (by kernel_rfl) ?_; intro g7 w4 H4 B4; replace H4 := Aside0.mk H4; replace B4 := Aside0.mk B4)
    | ((with_reducible refine own_store H4.out 0 g7 _ 25 rfl rfl (.tmp 7) (.tmp 18) rfl (cellsB r1) ?_ ?_ 32 R32.out HA1.out (by kernel_rfl) ?_); (case _ => rfl); (case _ => rfl); intro w5 H5; replace H5 := Aside0.mk H5)
    | ((with_reducible refine gate_dst (N := 21) rfl ?_); refine own_loadV H5.out 2 g3 mc TMach rfl rfl (.tmp 3) rfl _ rfl Try.underlying64 rfl HSZ.out ?_)
    | (go_at_call 30; refine (HC2.out _ H5.out.below).mono ?_; rintro e w6 ⟨rfl, hB6⟩; have H6 := Aside0.mk (H5.out.step hB6); clear hB6)
    | ((with_reducible refine gate_dst (N := 9) rfl ?_); refine own_alloc H6.out rfl (N := 9) rfl (t := 25) rfl (Array.replicate 32 (.int .u8 0)) 32 (by kernel_rfl) ?_; intro g9 w7 H7 B7; replace H7 := Aside0.mk H7; replace B7 := Aside0.mk B7)
    | ((with_reducible refine own_store H7.out 0 g9 _ 25 rfl rfl (.tmp 9) (.tmp 23) rfl (cellsB r1) ?_ ?_ 32 R32.out HA1.out (by kernel_rfl) ?_); (case _ => rfl); (case _ => rfl); intro w8 H8; replace H8 := Aside0.mk H8; have q0 : w8.cell? ⟨g3, 0, none⟩ = _ := H8.out.cell 3 rfl 0 HAT.out.1; have q17 : w8.cell? ⟨g3, 17, none⟩ = _ := H8.out.cell 3 rfl 17 HAT.out.2.1)
    | ((with_reducible refine gate_dst (N := 29) rfl ?_); refine load_at rfl 61 (.tmp 28) rfl ⟨g3, 1, none⟩ (regs.map (Value.int .u64)) rfl (fun j u hj => by rw [add_at]; exact (blk_cell (H8.out.get 3 rfl) _).trans (HAT.out.2.2.2 j u hj)) Try.underlying61 (by rw [List.length_map, HLR.out]; kernel_rfl) ?_)
    | ((with_reducible refine gate_dst (N := 33) rfl ?_); refine own_load H8.out 2 g5 _ 25 rfl rfl (.tmp 5) rfl (by rfl) Try.underlying25 32 HAR.out (by kernel_rfl) ?_)
    | (go_at_call 31; refine (HP1.out _).mono ?_; rintro e w9 ⟨rfl, hB9⟩; have H9 := Aside0.mk (H8.out.step hB9); clear hB9)
    | ((with_reducible refine gate_dst (N := 11) rfl ?_); refine own_alloc H9.out rfl (N := 11) rfl (t := 25) rfl (Array.replicate 32 (.int .u8 0)) 32 (by kernel_rfl) ?_; intro g11 w10 H10 B10; replace H10 := Aside0.mk H10; replace B10 := Aside0.mk B10)
    | ((with_reducible refine own_store H10.out 0 g11 _ 25 rfl rfl (.tmp 11) (.tmp 35) rfl (cellsB r2) ?_ ?_ 32 R32.out HA2.out (by kernel_rfl) ?_); (case _ => rfl); (case _ => rfl); intro w11 H11; replace H11 := Aside0.mk H11; have p0 : w11.cell? ⟨g3, 0, none⟩ = _ := H11.out.cell 4 rfl 0 HAT.out.1; have p17 : w11.cell? ⟨g3, 17, none⟩ = _ := H11.out.cell 4 rfl 17 HAT.out.2.1)
    | ((with_reducible refine gate_dst (N := 41) rfl ?_); refine load_at rfl 61 (.tmp 40) rfl ⟨g3, 1, none⟩ (regs.map (Value.int .u64)) rfl (fun j u hj => by rw [add_at]; exact (blk_cell (H11.out.get 4 rfl) _).trans (HAT.out.2.2.2 j u hj)) Try.underlying61 (by rw [List.length_map, HLR.out]; kernel_rfl) ?_)
    | ((with_reducible refine gate_dst (N := 45) rfl ?_); refine own_load H11.out 3 g5 _ 25 rfl rfl (.tmp 5) rfl (by rfl) Try.underlying25 32 HAR.out (by kernel_rfl) ?_)
    | (go_at_call 32; refine (HP2.out _).mono ?_; rintro e w12 ⟨rfl, hB12⟩; have H12 := Aside0.mk (H11.out.step hB12); clear hB12)
    | ((with_reducible refine gate_dst (N := 13) rfl ?_); refine own_alloc H12.out rfl (N := 13) rfl (t := 25) rfl (Array.replicate 32 (.int .u8 0)) 32 (by kernel_rfl) ?_; intro g13 w13 H13 B13; replace H13 := Aside0.mk H13; replace B13 := Aside0.mk B13)
    | ((with_reducible refine own_store H13.out 0 g13 _ 25 rfl rfl (.tmp 13) (.tmp 47) rfl (cellsB r2) ?_ ?_ 32 R32.out HA2.out (by kernel_rfl) ?_); (case _ => rfl); (case _ => rfl); intro w14 H14; replace H14 := Aside0.mk H14)
    | ((with_reducible refine gate_dst (N := 49) rfl ?_); refine own_load H14.out 3 g7 _ 25 rfl rfl (.tmp 7) rfl (by rfl) Try.underlying25 32 HA1.out (by kernel_rfl) ?_)
    | ((with_reducible refine gate_dst (N := 50) rfl ?_); refine own_load H14.out 2 g9 _ 25 rfl rfl (.tmp 9) rfl (by rfl) Try.underlying25 32 HA1.out (by kernel_rfl) ?_)
    | ((with_reducible refine gate_dst (N := 51) rfl ?_); refine geqb_H true (by rfl) 25 _ (.tmp 49) (.tmp 50) rfl r1 r1 rfl rfl Try.underlying25 Try.underlying5 size1B guardH HH.out.1.1 HH.out.1.1 (beq_self_eq_true r1) ?_)
    | ((with_reducible refine gate_dst (N := 58) rfl ?_); refine gload_H (by rfl) 25 (.tmp 11) rfl ⟨g11, 0, none⟩ r2 rfl (cells_blkB (H14.out.get 1 rfl)) Try.underlying25 (by rw [HH.out.2.1]; kernel_rfl) ?_)
    | ((with_reducible refine gate_dst (N := 59) rfl ?_); refine gload_H (by rfl) 25 (.tmp 13) rfl ⟨g13, 0, none⟩ r2 rfl (cells_blkB (H14.out.get 0 rfl)) Try.underlying25 (by rw [HH.out.2.1]; kernel_rfl) ?_)
    | ((with_reducible refine gate_dst (N := 60) rfl ?_); refine geqb_H true (by rfl) 25 _ (.tmp 58) (.tmp 59) rfl r2 r2 rfl rfl Try.underlying25 Try.underlying5 size1B guardH HH.out.2.1 HH.out.2.1 (beq_self_eq_true r2) ?_)
    | (go_at_call 18; refine (HAN.out _).mono ?_; rintro e w15 ⟨rfl, hB15⟩; have H15 := Aside0.mk (H14.out.step hB15); clear hB15)
    )
  go_ret
  exact ⟨rfl, H15.out.below⟩
theorem o_status : Opens 62 kB (fun n => (Lit.int .u8 n).wf = true) := opens_int Try.underlying62
theorem o_regs : Opens 61 (kA 16 .u64) (fun l => l.length = 16 ∧ ∀ y ∈ l, (Lit.int .u64 y).wf = true) := opens_arr Try.underlying61 Try.underlying23 (by kernel_rfl) (by kernel_rfl)
theorem o_words : Opens 22 (Kd.slice 23 kU) (fun l => ∀ y ∈ l, (Lit.int .u64 y).wf = true) := opens_slice Try.underlying22 (by kernel_rfl) o_u64
theorem o_Mach : Opens 64 kMach (fun y => (Lit.int .u64 y.1).wf = true ∧ (y.2.1.length = 16 ∧ ∀ z ∈ y.2.1, (Lit.int .u64 z).wf = true) ∧ (Lit.int .u8 y.2.2.1).wf = true ∧ ∀ z ∈ y.2.2.2, (Lit.int .u64 z).wf = true) :=
  opens_struct Try.underlying64 (many_cons o_u64 (by kernel_rfl) (many_cons o_regs (by kernel_rfl) (many_cons o_status (by kernel_rfl) (many_one o_words (by kernel_rfl))))) (by kernel_rfl) (by kernel_rfl)
theorem kH_open {W : World} {x : List Int} {cs : Array Value} (h : kH.K W x cs.toList) : cs = cellsB x ∧ x.length = 32 := by
  refine ⟨?_, h.1⟩
  apply Array.toList_inj.1
  rw [h.2]
  rfl
theorem commits_law (cs : Array Value) (y : Int × List Int × Int × List Int) (w : World) (hK : kMach.K w y cs.toList) (hy : (Lit.int .u64 y.1).wf = true ∧ (y.2.1.length = 16 ∧ ∀ z ∈ y.2.1, (Lit.int .u64 z).wf = true) ∧ (Lit.int .u8 y.2.2.1).wf = true ∧ ∀ z ∈ y.2.2.2, (Lit.int .u64 z).wf = true)
    (d : Int) (rs : Array Value) (root : List Int) (hR : kH.K w root rs.toList) (hr : root.length = 32 ∧ ∀ z ∈ root, (Lit.int .u8 z).wf = true) :
    Calls Try.prog 8 #[.agg cs, .int .i64 d, .agg rs] w fun e w' => e = .returned (.bool true) ∧ Below w.heap.size w w' := by
  obtain ⟨A, c, rfl, h16, hc, hC⟩ := kMach_open hK
  obtain ⟨rfl, h32⟩ := kH_open hR
  obtain ⟨pc, regs, s, ws⟩ := y
  obtain ⟨b1, b2⟩ := wf_u64 hy.1
  obtain ⟨b3, b4⟩ := wf_u8 hy.2.2.1
  obtain ⟨pc, rfl⟩ := Int.eq_ofNat_of_zero_le b1
  obtain ⟨s, rfl⟩ := Int.eq_ofNat_of_zero_le b3
  have hrg := Wrd_of hy.2.1.2
  have hw := Wrd_of hy.2.2.2
  have hro := Hsh_of hr
  have b2' : (pc : Int) ≤ 18446744073709551615 := b2
  have hpc : pc ≤ 18446744073709551615 := by omega
  have hn := hC.2.1
  have P : ∃ r2 e2, Hsh r2 ∧ (∀ W, Calls Try.prog 31 #[.int .u64 (pc : Int), .agg (cellsU regs), .int .u8 (s : Int), .int .i64 d, .agg (cellsB root)] W fun e' w' => e' = .returned (.tuple #[.agg (cellsB r2), .int .i64 e2]) ∧ Below W.heap.size W w') ∧
      (∀ W, Calls Try.prog 32 #[.int .u64 (pc : Int), .agg (cellsU regs), .int .u8 (s : Int), .int .i64 d, .agg (cellsB root)] W fun e' w' => e' = .returned (.tuple #[.agg (cellsB r2), .int .i64 e2]) ∧ Below W.heap.size W w') := by
    by_cases hb : d < 0 ∨ 12 < d ∨ 2 < s
    · exact ⟨zero32, 2, Hsh_zero, fun W => parts_no _ regs s d hb root W, fun W => rparts_no _ regs s d hb root W⟩
    · obtain ⟨d, rfl⟩ := Int.eq_ofNat_of_zero_le (show 0 ≤ d by omega)
      exact ⟨_, 0, Hsh_parts pc regs s d root, fun W => parts_ok pc hpc regs h16 hrg s d (by omega) (by omega) root hro W, fun W => rparts_ok pc hpc regs h16 hrg s d (by omega) (by omega) root hro W⟩
  obtain ⟨r2, e2, hr2, P1, P2⟩ := P
  cases hb : (sizeB ws.length && decide (s ≤ 2)) with
  | false => exact commits_walk _ regs h16 _ A _ c d root h32 w zero32 r2 2 e2 Hsh_zero hr2 (fun W _ => commit_no _ regs h16 s A _ c hn hb W) (fun W _ => rcommit_no _ regs h16 s A _ c hn hb W) P1 P2
  | true =>
    rw [Bool.and_eq_true] at hb
    obtain ⟨D, hD, hl⟩ := sizeB_yes hb.1
    have hs := of_decide_eq_true hb.2
    exact commits_walk _ regs h16 _ A _ c d root h32 w (partsI pc regs s D (memroot D ws)) r2 0 e2 (Hsh_parts _ _ _ _ _) hr2 (fun W hbl => commit_yes pc hpc regs h16 hrg s D hs hD ws hl hw A c hc W (Kd.C_below hC hbl)) (fun W hbl => rcommit_yes pc hpc regs h16 hrg s D hs hD ws hl hw A c hc W (Kd.C_below hC hbl)) P1 P2
end Go.Proofs.Ytocphkfkdadhaaa.H

