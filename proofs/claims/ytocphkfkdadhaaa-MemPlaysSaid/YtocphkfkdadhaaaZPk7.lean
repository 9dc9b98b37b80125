import Derived.Test.YtocphkfkdadhaaaZPk6
import Derived.Deep.DeepCutAuto
import Derived.Laws.EntriesVeiled
namespace Go.Proofs.Ytocphkfkdadhaaa.H
open Go.RowKit Go.Proofs.YtocphkfkdadhaaaW.PrintWords Go.Proofs.YtocphkfkdadhaaaW.PrintLast Go.Proofs.YtocphkfkdadhaaaW.PrintMore
set_option linter.unusedVariables false
set_option linter.unusedSimpArgs false
def isAggD : TypeDesc → Bool
  | .struct _ => true
  | .array _ _ => true
  | _ => false
section
variable {P : Program} {ops : Array Oper} {rest : List Oper} {o : Oper} {a : Act} {Q : Exit → Act → World → Prop} {B : Nat} {w0 W : World} {L : List Item}
theorem own_loadV (H : Own B w0 W L) (k : Nat) (g : Nat) (cs : Array Value) (ty : TypeId) (hk : L[k]? = some (.blk g cs ty)) (hgd : o.guard = none) (x : Operand) (ho : o.op = .load ty x) (d : TypeDesc)
    (hx : a.eval x = .pointer (some ⟨g, 0, none⟩)) (hu : P.underlying ty = some d) (hd : isAggD d = true) (hi : (P.info? ty).map (·.size) = some cs.size)
    (h : wpList P ops Q rest (a.put o.dst (.agg cs)) W) : wpList P ops Q (o :: rest) a W :=
  wpList_load_row hgd ty x ho g hx ty cs (0, 0) d (H.get k hk) hu (by cases d <;> first | rfl | cases hd) hi h
end
theorem own_resultV_t {fn : Func} {p u : Tmp} {ty : TypeId} (h : fn.results = #[.cell p ty, .tmp u]) (tmps : Array Value) {B : Nat} {w0 W : World} {L : List Item} (H : Own B w0 W L) (k : Nat) (g : Nat) (cs : Array Value) (hk : L[k]? = some (.blk g cs ty))
    (hp : tmps.getD p undef = .pointer (some ⟨g, 0, none⟩)) {P : Program} (d : TypeDesc) (hu : P.underlying ty = some d) (hd : isAggD d = true) (hi : (P.info? ty).map (·.size) = some cs.size) (v : Value) (hv : tmps.getD u undef = v) :
    (results fn tmps).run P W = .ok (.tuple #[.agg cs, v]) W := by
  subst hv
  exact results_ct h tmps W g ty cs (0, 0) d hp (H.get k hk) hu (by cases d <;> first | rfl | cases hd) hi
theorem perm_front {α : Type} : ∀ (l : List α) (k : Nat) (x : α), l[k]? = some x → l.Perm (x :: l.eraseIdx k)
  | [], k, x, h => by simp at h
  | y :: l, 0, x, h => by
    obtain rfl : y = x := by simpa using h
    exact List.Perm.refl _
  | y :: l, k + 1, x, h => ((perm_front l k x (by simpa using h)).cons y).trans (List.Perm.swap x y _)
theorem Own.bring {B : Nat} {w0 W : World} {L : List Item} (h : Own B w0 W L) (k : Nat) {it : Item} (hk : L[k]? = some it) : Own B w0 W (it :: L.eraseIdx k) := h.perm (perm_front L k it hk)
theorem pow_all : (List.range 4097).all (fun n => (decide (1 ≤ n) && ((n &&& (n - 1)) == 0)) == sizeB n) = true := by decide +kernel
theorem and_pred (n : Nat) (h : n ≤ 4096) (h1 : 1 ≤ n) : bits .and .i64 (n : Int) ((n : Int) - 1) = ((n &&& (n - 1) : Nat) : Int) := by
  have e0 : ((n : Int) - 1) = ((n - 1 : Nat) : Int) := by omega
  rw [e0]
  have h1 : (BitVec.ofInt 64 (n : Int)).toNat = n := by
    rw [BitVec.ofInt_natCast, BitVec.toNat_ofNat]; exact Nat.mod_eq_of_lt (by omega)
  have h2 : (BitVec.ofInt 64 ((n - 1 : Nat) : Int)).toNat = n - 1 := by
    rw [BitVec.ofInt_natCast, BitVec.toNat_ofNat]; exact Nat.mod_eq_of_lt (by omega)
  show IntKind.i64.wrap ((BitVec.ofInt 64 (n : Int) &&& BitVec.ofInt 64 ((n - 1 : Nat) : Int)).toNat : Int) = _
  have h3 : n &&& (n - 1) ≤ n := Nat.and_le_left
  rw [BitVec.toNat_and, h1, h2, IntWalk.i64_in _ (by omega)]
theorem size_and (n : Nat) (h : n ≤ 4096) (h1 : 1 ≤ n) : (bits .and .i64 (n : Int) ((n : Int) - 1) == 0) = sizeB n := by
  have := List.all_eq_true.1 pow_all n (List.mem_range.2 (by omega))
  rw [and_pred n h h1, ← eq_of_beq this, decide_eq_true h1, Bool.true_and]
  rw [Bool.eq_iff_iff, beq_iff_eq, beq_iff_eq]
  omega
theorem size_and' (n : Nat) (h : n ≤ 4096) (h1 : 1 ≤ n) : (bits .and .i64 (n : Int) ((n : Int) - 1) != 0) = !sizeB n := by
  rw [← size_and n h h1]; rfl
abbrev leafF : Value := .func (.func 62) #[] #[]
theorem make_run (m : Nat) (hm : m ≤ 8192) : ∃ Z : Array Value, Aside0 (∀ W, Reps (kH.K W) 32 (List.replicate m zero32) Z.toList) ∧
    ∀ w, (Instr.makeSlice 26 (.int .i64 (m : Int)) (.int .i64 (m : Int))).run Try.prog w = .ok (.slice (some ⟨w.heap.size, 0, none⟩) m m) (w.alloc (.cells Z 25)) := by
  obtain ⟨ie, hie, hz⟩ := Option.map_eq_some_iff.1 infoH
  simp only [Prod.mk.injEq] at hz
  obtain ⟨hz0, hz1, hz2⟩ := hz
  refine ⟨madeCells (Array.replicate 32 (.int .u8 0)) (m * 32), ⟨fun W => ?_⟩, fun w => ?_⟩
  · exact Kd.reps_made (z := .agg (Array.replicate 32 (.int .u8 0))) (by simp [Value.cells]) (by decide) ⟨by simp [zero32], by simp [zero32, Value.cells]⟩ m
  · have hr := run_make (P := Try.prog) w 26 25 ie _ Try.underlying26 hie hz0 .i64 .i64 (m : Int) (m : Int) (by omega) (by omega) (by rw [hz2]; omega) (by omega)
    simp only [Int.toNat_natCast] at hr
    rw [hz1] at hr
    exact hr
theorem bcell {W w1 : World} (hb : Below W.heap.size W w1) : (∀ b o, b < W.heap.size → w1.cell? ⟨b, o, none⟩ = W.cell? ⟨b, o, none⟩) ∧ (∀ b o, b < W.heap.size → w1.frozen? ⟨b, o, none⟩ = W.frozen? ⟨b, o, none⟩) :=
  ⟨fun b o h => hb.cell (p := ⟨b, o, none⟩) h, fun b o h => hb.frozen (p := ⟨b, o, none⟩) h⟩
abbrev T0 : TypeId := 127
set_option maxHeartbeats 2000000 in
set_option maxRecDepth 100000 in
theorem grown_ok (D : Nat) (hD : D ≤ 12) (ws : List Int) (hl : ws.length = 2 ^ D) (hw : Wrd ws) (A : Option Addr) (c : Nat) (hc : ws.length ≤ c) (w : World) (hC : Kd.C kU w A ws.length ws) :
    Calls Try.prog 67 #[.slice A ws.length c, leafF] w fun e w' => ∃ v1 v2 ss, e = .returned (.tuple #[.agg #[v1, v2, leafF], .bool true]) ∧ Tree (2 ^ D) (leavesW ws) ss (fun _ => False) ∧ Hshs ss ∧
      Own w.heap.size w w' [.row kU 23 v1 ws, .row kH 25 v2 ss] := by
  have hn1 : 1 ≤ ws.length ∧ ws.length ≤ 4096 := by rw [hl]; exact ⟨Nat.one_le_two_pow, Nat.pow_le_pow_right (by decide) hD⟩
  have hand := size_and' ws.length hn1.2 hn1.1
  rw [hl, sizeB_of hD, ← hl] at hand
  have hand2 : (bits .and .i64 (ws.length : Int) ((ws.length : Int) - 1) != 0) = false := hand
  clear hand
  have H0 := Aside0.mk (Own.start w)
  have HCL := Aside0.mk (fun W h => cloneU_any ws (by omega) A c W h hc (by omega))
  have HC := Aside0.mk hC
  clear hC
  generalize hn : ws.length = n at *
  have HN := Aside0.mk hn
  clear hn
  obtain ⟨m, hm⟩ : ∃ m, m = 2 * n := ⟨_, rfl⟩
  obtain ⟨Z, HZ, hmk⟩ := make_run m (by omega)
  have hwm : IntKind.i64.wrap (2 * (n : Int)) = (m : Int) := by rw [IntWalk.i64_in _ (by omega)]; omega
  have HM := Aside0.mk hm
  clear hm
  have hd1 : decide ((n : Int) < 1) = false := decide_eq_false (by omega)
  have hd2 : decide (4096 < (n : Int)) = false := decide_eq_false (by omega)
  have HLL := Aside0.mk hl
  clear hl
  unfold leafF
  go_enter Try.func67, Try.ntmps67
  go_upto_region 4 with (first
    | fail
    | ((with_reducible refine gate_dst (N := 4) rfl ?_); refine own_alloc H0.out rfl (N := 4) rfl (t := T0) rfl (#[.slice none 0 0, .slice none 0 0, .nilFunc]) 3 (by kernel_rfl) ?_; intro g4 w1 H1 B1; replace H1 := Aside0.mk H1; replace B1 := Aside0.mk B1)
    )
  go_cut [7] (fun v7 wc => ∃ (g7 : Nat) (v1 v2 : Value), v7 = .pointer (some ⟨g7, 0, none⟩) ∧ Aside0 (Own w.heap.size w wc [.blk g7 #[v1, v2, leafF] T0, .row kU 23 v1 ws, .row kH 25 v2 (List.replicate m zero32), .blk g4 #[.slice none 0 0, .slice none 0 0, .nilFunc] T0]))
  case first =>
    go_region_held3 (fun _ => True) (trivial) (first
      | (go_at_call 69; refine (HCL.out _ ?hcl).mono ?_; (case hcl => first | exact Kd.C_below HC.out H1.out.drew.below | exact Kd.C_below HC.out (H1.out.drew.alloc _).below | exact Kd.C_below HC.out ((H1.out.drew.alloc _).alloc _).below); rintro e w5 ⟨v5, rfl, hO5⟩; obtain ⟨A5, c5, rfl, _, _⟩ := hO5.reads 0 rfl; obtain ⟨hbc, hbf⟩ := bcell hO5.below; have hbs := hO5.base; (try simp at hbs); (try replace hbs := Nat.lt_of_succ_le hbs); replace hO5 := Aside0.mk hO5))
    all_goals go_wp2_with fail
    all_goals go_meet
    all_goals
      have mkZ : ∀ (W : World) (L : List Item), Own w.heap.size w W L → Own w.heap.size w (W.alloc (.cells Z 25)) (.row kH 25 (.slice (some ⟨W.heap.size, 0, none⟩) m m) (List.replicate m zero32) :: L) := fun W L h => by
        have := h.lit kH Flat_H 25 (List.replicate m zero32) Z.toList (HZ.out W) (by rw [List.length_replicate]; have := HM.out; omega)
        rwa [List.length_replicate] at this
    all_goals
      first
        | exact ⟨_, .slice A5 ws.length c5, .slice (some ⟨w5.heap.size, 0, none⟩) m m, rfl, ⟨by have h1 := H1.out.drew.call hO5.out; have h2 := mkZ _ _ h1; have h3 := h2.new (#[.slice A5 ws.length c5, .slice (some ⟨w5.heap.size, 0, none⟩) m m, leafF]) T0; rw [World.size_alloc] at h3; exact (h3.bring 2 rfl).bring 1 rfl⟩⟩
        | exact ⟨_, .slice A5 ws.length c5, .slice (some ⟨w5.heap.size + 1, 0, none⟩) m m, rfl, ⟨by have h1 := H1.out.drew.call hO5.out; have h2 := h1.new (#[.slice A5 ws.length c5, .slice (some ⟨w5.heap.size + 1, 0, none⟩) m m, leafF]) T0; have h3 := mkZ _ _ h2; rw [World.size_alloc] at h3; exact (h3.bring 2 rfl).bring 2 rfl⟩⟩
        | exact ⟨_, .slice A5 ws.length c5, .slice (some ⟨w1.heap.size, 0, none⟩) m m, rfl, ⟨by have h1 := mkZ _ _ H1.out; have h2 := h1.drew.call hO5.out; have h3 := h2.new (#[.slice A5 ws.length c5, .slice (some ⟨w1.heap.size, 0, none⟩) m m, leafF]) T0; exact h3⟩⟩
        | exact ⟨_, .slice A5 ws.length c5, .slice (some ⟨w1.heap.size, 0, none⟩) m m, rfl, ⟨by have h1 := mkZ _ _ H1.out; have h2 := h1.new (#[.slice none 0 0, .slice none 0 0, .nilFunc]) T0; have h3 := h2.drew.call hO5.out; rw [World.size_alloc] at h3; have p1 := h3.put 1 rfl 0 (.slice A5 ws.length c5) rfl; have p2 := p1.put 1 rfl 1 (.slice (some ⟨w1.heap.size, 0, none⟩) m m) rfl; have p3 := p2.put 1 rfl 2 leafF rfl; exact p3.bring 1 rfl⟩⟩
        | exact ⟨_, .slice A5 ws.length c5, .slice (some ⟨w5.heap.size, 0, none⟩) m m, rfl, ⟨by have h1 := H1.out.new (#[.slice none 0 0, .slice none 0 0, .nilFunc]) T0; have h3 := h1.drew.call hO5.out; have p1 := h3.put 1 rfl 0 (.slice A5 ws.length c5) rfl; have p2 := p1.put 1 rfl 1 (.slice (some ⟨w5.heap.size, 0, none⟩) m m) rfl; have p3 := p2.put 1 rfl 2 leafF rfl; have h4 := mkZ _ _ p3; simp only [World.size_setCell] at h4; exact (h4.bring 1 rfl).bring 2 rfl⟩⟩
        | exact ⟨_, .slice A5 ws.length c5, .slice (some ⟨w1.heap.size + 1, 0, none⟩) m m, rfl, ⟨by have h1 := H1.out.new (#[.slice none 0 0, .slice none 0 0, .nilFunc]) T0; have h2 := mkZ _ _ h1; rw [World.size_alloc] at h2; have h3 := h2.drew.call hO5.out; have p1 := h3.put 2 rfl 0 (.slice A5 ws.length c5) rfl; have p2 := p1.put 2 rfl 1 (.slice (some ⟨w1.heap.size + 1, 0, none⟩) m m) rfl; have p3 := p2.put 2 rfl 2 leafF rfl; exact p3.bring 2 rfl⟩⟩
  case rest =>
    obtain ⟨g7, v1, v2, rfl, HC1⟩ := hcut
    obtain ⟨g6, cap, rfl, _⟩ := HC1.out.form 2 rfl (by rw [List.length_replicate]; have := HM.out; omega)
    rw [List.length_replicate] at HC1
    obtain ⟨A1, c1, rfl, _, _⟩ := HC1.out.reads 1 rfl
    obtain ⟨v1, hv1⟩ : ∃ v : Value, v = .slice A1 ws.length c1 := ⟨_, rfl⟩
    rw [← hv1] at HC1
    have HAG : Aside0 (Arr 3 #[v1, .slice (some ⟨g6, 0, none⟩) m cap, leafF]) := ⟨by rw [hv1]; exact ⟨rfl, by simp [Value.oneCell']⟩⟩
    have HA0 : Aside0 (Arr 3 #[.slice none 0 0, .slice none 0 0, .nilFunc]) := ⟨rfl, by simp [Value.oneCell']⟩
    clear hv1
    go_wp2_with fail
    go_loopw [36] (fun v36 wr => ∃ (i : Nat) (ss : List (List Int)), i ≤ n ∧ v36 = .int .i64 (i : Int) ∧ Aside0 (ss.length = m ∧ Hshs ss ∧ ∀ j, j < i → at0 ss (n + j) = at0 (leavesW ws) j) ∧ Aside0 (Own w.heap.size w wr [.blk g7 #[v1, .slice (some ⟨g6, 0, none⟩) m cap, leafF] T0, .row kU 23 v1 ws, .row kH 25 (.slice (some ⟨g6, 0, none⟩) m cap) ss, .blk g4 #[.slice none 0 0, .slice none 0 0, .nilFunc] T0])) (fun v36 _ => n - (intOf v36).toNat)
    case atStart => exact ⟨0, _, Nat.zero_le _, rfl, ⟨by simp, by intro x hx; rw [List.eq_of_mem_replicate hx]; exact Hsh_zero, fun j hj => by omega⟩, HC1⟩
    case round =>
      obtain ⟨i, ss, hi, rfl, HS, HI⟩ := hrel
      by_cases hlt : i < n
      · have hdl : decide (i < n) = true := decide_eq_true hlt
        have hil : i < ws.length := by have := HN.out; omega
        have HCi := Aside0.mk (Kd.C_below HC.out HI.out.below)
        obtain ⟨ad, rfl, hcell⟩ := Kd.at_int HCi.out (i : Int) (Int.natCast_nonneg i) (by omega)
        rw [Int.toNat_natCast, show rd ws (i : Int) = ws.getD i 0 by simp [rd]] at hcell
        obtain ⟨b1, b2⟩ := hw _ (show ws.getD i 0 ∈ ws by rw [List.getD_eq_getElem?_getD, List.getElem?_eq_getElem hil]; exact List.getElem_mem hil)
        have HTi : Aside0 (at0 (leavesW ws) i = leafW (ws.getD i 0).toNat) := ⟨by simp [leavesW, at0, hil]⟩
        generalize ws.getD i 0 = x at *
        obtain ⟨k, rfl⟩ := Int.eq_ofNat_of_zero_le b1
        rw [Int.toNat_natCast] at HTi
        have HLF := Aside0.mk (fun W => memleaf_any k (by omega) W)
        have HLH := Aside0.mk (Hsh_leaf k)
        generalize leafW k = lf at *
        obtain ⟨cs, hcs⟩ : ∃ cs : List Value, cs = lf.map (Value.int .u8) := ⟨_, rfl⟩
        have HCS : Aside0 (cellsB lf = cs.toArray) := ⟨by rw [hcs]; rfl⟩
        have HCT := Aside0.mk hcs
        have hcl : cs.length = 32 := by rw [hcs, List.length_map]; exact HLH.out.1
        have hc1 : ∀ v ∈ cs, v.oneCell' = true := by rw [hcs]; intro v hv; obtain ⟨z, _, rfl⟩ := List.mem_map.1 hv; rfl
        rw [HCS.out] at HLF
        clear hcs
        go_wp2_with fail
        clear hcell
        obtain ⟨q, hq⟩ : ∃ q, q = n + i := ⟨_, rfl⟩
        have hwq : IntKind.i64.wrap ((n : Int) + (i : Int)) = (q : Int) := by rw [IntWalk.i64_in _ (by omega)]; omega
        have hqm : q < m := by have := HM.out; omega
        have hq0 : (0 : Int) ≤ (q : Int) ∧ (q : Int) < (m : Int) := by omega
        have HQ := Aside0.mk hq
        clear hq
        have hcA := HI.out.cell 0 rfl 1 rfl
        have hth : wr.there g6 (q * 32) 32 := HI.out.there_row (d := kH) 2 rfl q hqm
        have hu := Try.underlying25
        have hif : (Try.prog.info? 25).map (·.size) = some cs.length := by rw [hcl]; kernel_rfl
        go_region_held3 (fun W => W.cell? ⟨g7, 1, none⟩ = some (.slice (some ⟨g6, 0, none⟩) m cap) ∧ W.there g6 (q * 32) 32) (first | exact ⟨hcA, hth⟩ | exact K8.out | exact K9.out | go_keep_ranges) (first
          | (go_at_call 62; refine (HLF.out _).mono ?_; rintro e w8 ⟨rfl, hB8⟩; have H8 := Aside0.mk (HI.out.drew.step hB8); clear hB8; have K8 := Aside0.mk (And.intro (H8.out.cell 0 rfl 1 rfl) (H8.out.there_row (d := kH) 2 rfl q hqm)); have K9 := Aside0.mk (And.intro ((H8.out.putC (d := kH) 2 rfl q hqm Flat_H (fun _ => ⟨HLH.out.1, HCT.out⟩)).cell 0 rfl 1 rfl) ((H8.out.putC (d := kH) 2 rfl q hqm Flat_H (fun _ => ⟨HLH.out.1, HCT.out⟩)).there_row (d := kH) 2 rfl q hqm))))
        have H9 := Aside0.mk (H8.out.putC (d := kH) 2 rfl q hqm Flat_H (fun _ => ⟨HLH.out.1, HCT.out⟩))
        clear hcA hth hq0 hwq hqm
        go_wp2_with fail
        go_roundw
        case rel =>
          refine ⟨i + 1, ss.set q lf, hlt, by go_num, ⟨by rw [List.length_set]; exact HS.out.1, ?_, fun j hj => ?_⟩, H9⟩
          · intro x hx
            rcases List.mem_or_eq_of_mem_set hx with h | h
            · exact HS.out.2.1 x h
            · rw [h]; exact HLH.out
          · have hsl := HS.out.1
            have := HQ.out
            have := HM.out
            rw [at0_set _ _ _ _ (by omega)]
            by_cases e : j = i
            · subst e; rw [if_pos (by omega)]; exact HTi.out.symm
            · rw [if_neg (by omega)]; exact HS.out.2.2 j (by omega)
        case measure => simp [intOf]; omega
      · have hdl : decide (i < n) = false := decide_eq_false hlt
        obtain rfl : i = n := by omega
        have HT0 : Aside0 (Tree i (leavesW ws) ss (fun k => k ≤ i - 1) ∧ Hshs ss) := ⟨⟨by rw [HS.out.1, HM.out], by rw [leavesW_len, HN.out], HS.out.2.2, fun k k1 k2 k3 => absurd (by omega) k3⟩, HS.out.2.1⟩
        clear HS
        go_wp2_with fail
        go_loopw [10] (fun v10 wr => ∃ (k : Nat) (ss : List (List Int)), k < i ∧ v10 = .int .i64 (k : Int) ∧ Aside0 (Tree i (leavesW ws) ss (fun j => j ≤ k) ∧ Hshs ss) ∧ Aside0 (Own w.heap.size w wr [.blk g7 #[v1, .slice (some ⟨g6, 0, none⟩) m cap, leafF] T0, .row kU 23 v1 ws, .row kH 25 (.slice (some ⟨g6, 0, none⟩) m cap) ss, .blk g4 #[.slice none 0 0, .slice none 0 0, .nilFunc] T0])) (fun v10 _ => (intOf v10).toNat)
        case atStart => exact ⟨i - 1, ss, by omega, by rw [show ((i : Int) - 1) = ((i - 1 : Nat) : Int) by omega], HT0, HI⟩
        case round =>
          clear ss HI HT0
          obtain ⟨k, ss, hk, rfl, HT, HI⟩ := hrel
          by_cases h1 : 1 ≤ k
          · have hdk : decide (1 ≤ (k : Int)) = true := decide_eq_true (by omega)
            have hsl := HT.out.1.len
            obtain ⟨p, hp⟩ : ∃ p, p = 2 * k := ⟨_, rfl⟩
            obtain ⟨q, hq⟩ : ∃ q, q = p + 1 := ⟨_, rfl⟩
            have hwp : IntKind.i64.wrap (2 * (k : Int)) = (p : Int) := by rw [IntWalk.i64_in _ (by omega)]; omega
            have hwq : IntKind.i64.wrap ((p : Int) + 1) = (q : Int) := by rw [IntWalk.i64_in _ (by omega)]; omega
            have hpm : p < m := by have := HM.out; omega
            have hqm : q < m := by have := HM.out; omega
            have hkm : k < m := by omega
            have hi0 : (0 : Int) ≤ (p : Int) ∧ (p : Int) < (m : Int) ∧ (0 : Int) ≤ (q : Int) ∧ (q : Int) < (m : Int) ∧ (0 : Int) ≤ (k : Int) ∧ (k : Int) < (m : Int) := by omega
            have HPN := Aside0.mk (HT.out.1.sum k h1 hk)
            rw [← hp, ← hq] at HPN
            have hml : ss.length = m := by rw [hsl, HM.out]
            have hat : ∀ j, j < m → Hsh (at0 ss j) := fun j hj => Hshs_at HT.out.2 j (by rw [hml]; exact hj)
            obtain ⟨x, hx⟩ : ∃ x, x = at0 ss p := ⟨_, rfl⟩
            obtain ⟨y, hy⟩ : ∃ y, y = at0 ss q := ⟨_, rfl⟩
            have hHx : Hsh x := by rw [hx]; exact hat p hpm
            have hHy : Hsh y := by rw [hy]; exact hat q hqm
            rw [← hx, ← hy] at HPN
            have HPR := Aside0.mk (fun W => pair_any x y hHx.1 hHy.1 hHx.2 hHy.2 W)
            have HRH := Aside0.mk (Hsh_pair x y)
            generalize pairI x y = r at *
            obtain ⟨cx, hcx⟩ : ∃ cs : List Value, cs = x.map (Value.int .u8) := ⟨_, rfl⟩
            obtain ⟨cy, hcy⟩ : ∃ cs : List Value, cs = y.map (Value.int .u8) := ⟨_, rfl⟩
            obtain ⟨cr, hcr⟩ : ∃ cs : List Value, cs = r.map (Value.int .u8) := ⟨_, rfl⟩
            have hlx : cx.length = 32 := by rw [hcx, List.length_map]; exact hHx.1
            have hly : cy.length = 32 := by rw [hcy, List.length_map]; exact hHy.1
            have hlr : cr.length = 32 := by rw [hcr, List.length_map]; exact HRH.out.1
            have hc1 : ∀ v ∈ cr, v.oneCell' = true := by rw [hcr]; intro v hv; obtain ⟨z, _, rfl⟩ := List.mem_map.1 hv; rfl
            rw [show cellsB x = cx.toArray by rw [hcx]; rfl, show cellsB y = cy.toArray by rw [hcy]; rfl, show cellsB r = cr.toArray by rw [hcr]; rfl] at HPR
            have HF : Aside0 (∀ W', Own w.heap.size w W' [.blk g7 #[v1, .slice (some ⟨g6, 0, none⟩) m cap, leafF] T0, .row kU 23 v1 ws, .row kH 25 (.slice (some ⟨g6, 0, none⟩) m cap) ss, .blk g4 #[.slice none 0 0, .slice none 0 0, .nilFunc] T0] →
                W'.cell? ⟨g7, 1, none⟩ = some (.slice (some ⟨g6, 0, none⟩) m cap) ∧ W'.rangeAt g6 (p * 32) cx ∧ W'.rangeAt g6 (q * 32) cy ∧ W'.there g6 (k * 32) 32) := ⟨fun W' h => ⟨h.cell 0 rfl 1 rfl, h.range_row 2 rfl p hpm hx.symm hcx, h.range_row 2 rfl q hqm hy.symm hcy, h.there_row (d := kH) 2 rfl k hkm⟩⟩
            have HG : Aside0 (∀ W', Own w.heap.size w W' [.blk g7 #[v1, .slice (some ⟨g6, 0, none⟩) m cap, leafF] T0, .row kU 23 v1 ws, .row kH 25 (.slice (some ⟨g6, 0, none⟩) m cap) (ss.set k r), .blk g4 #[.slice none 0 0, .slice none 0 0, .nilFunc] T0] →
                W'.cell? ⟨g7, 1, none⟩ = some (.slice (some ⟨g6, 0, none⟩) m cap) ∧ W'.rangeAt g6 (p * 32) cx ∧ W'.rangeAt g6 (q * 32) cy ∧ W'.there g6 (k * 32) 32) := ⟨fun W' h => ⟨h.cell 0 rfl 1 rfl, h.range_row 2 rfl p hpm (by have e := at0_set ss k p r (by omega); rw [if_neg (by omega)] at e; exact e.trans hx.symm) hcx, h.range_row 2 rfl q hqm (by have e := at0_set ss k q r (by omega); rw [if_neg (by omega)] at e; exact e.trans hy.symm) hcy, h.there_row (d := kH) 2 rfl k hkm⟩⟩
            have HCR := Aside0.mk hcr
            have hi1 : (Try.prog.info? 25).map (·.size) = some cx.length := by rw [hlx]; kernel_rfl
            have hi2 : (Try.prog.info? 25).map (·.size) = some cy.length := by rw [hly]; kernel_rfl
            have hi3 : (Try.prog.info? 25).map (·.size) = some cr.length := by rw [hlr]; kernel_rfl
            have hu := Try.underlying25
            clear hx hy hcx hcy hcr hsl hml hat hp hq
            have HF0 := HF.out _ HI.out
            go_wp2_with fail
            refine wp_region_held_drew (S := (fun W => W.cell? ⟨g7, 1, none⟩ = some (.slice (some ⟨g6, 0, none⟩) m cap) ∧ W.rangeAt g6 (p * 32) cx ∧ W.rangeAt g6 (q * 32) cy ∧ W.there g6 (k * 32) 32)) (by kernel_rfl) ?_ (fun hHeld => ?_)
            · exact HF0
            refine wpAnyH_take (i := 0) (oi := { dst := some 57, op := Go.Op.fieldAddr 127 (Go.Operand.tmp 7) 1, type := 0, pos := "mem.go:50", after := #[], guard := none }) (v := ?_) rfl (by kernel_rfl) (by kernel_rfl) (by kernel_rfl) (fun _ _ _ h => h) (Or.inl ⟨by rfl, ?_⟩) (by assumption) ?_
            rotate_left
            · intro wS hSw; (try dsimp only at hSw); go_simp; (try with_reducible rfl)
            try simp only [Act.put, List.setIfInBounds_toArray, List.set_cons_zero, List.set_cons_succ]
            refine wpAnyH_take (i := 1) (oi := { dst := some 58, op := Go.Op.load 26 (Go.Operand.tmp 57), type := 26, pos := "mem.go:50", after := #[{ on := 0, ground := Go.Ground.data }], guard := none }) (v := ?_) rfl (by kernel_rfl) (by kernel_rfl) (by kernel_rfl) (fun _ _ _ h => h) (Or.inl ⟨by rfl, ?_⟩) (by assumption) ?_
            rotate_left
            · intro wS hSw; (try dsimp only at hSw); go_simp; (try with_reducible rfl)
            try simp only [Act.put, List.setIfInBounds_toArray, List.set_cons_zero, List.set_cons_succ]
            refine wpAnyH_take (i := 2) (oi := { dst := some 59, op := Go.Op.move (Go.Operand.tmp 10), type := 3, pos := "mem.go:50", after := #[], guard := none }) (v := ?_) rfl (by kernel_rfl) (by kernel_rfl) (by kernel_rfl) (fun _ _ _ h => h) (Or.inl ⟨by rfl, ?_⟩) (by assumption) ?_
            rotate_left
            · intro wS hSw; (try dsimp only at hSw); go_simp; (try with_reducible rfl)
            try simp only [Act.put, List.setIfInBounds_toArray, List.set_cons_zero, List.set_cons_succ]
            refine wpAnyH_take (i := 3) (oi := { dst := some 60, op := Go.Op.fieldAddr 127 (Go.Operand.tmp 7) 1, type := 0, pos := "mem.go:50", after := #[], guard := none }) (v := ?_) rfl (by kernel_rfl) (by kernel_rfl) (by kernel_rfl) (fun _ _ _ h => h) (Or.inl ⟨by rfl, ?_⟩) (by assumption) ?_
            rotate_left
            · intro wS hSw; (try dsimp only at hSw); go_simp; (try with_reducible rfl)
            try simp only [Act.put, List.setIfInBounds_toArray, List.set_cons_zero, List.set_cons_succ]
            refine wpAnyH_take (i := 4) (oi := { dst := some 61, op := Go.Op.load 26 (Go.Operand.tmp 60), type := 26, pos := "mem.go:50", after := #[{ on := 3, ground := Go.Ground.data }], guard := none }) (v := ?_) rfl (by kernel_rfl) (by kernel_rfl) (by kernel_rfl) (fun _ _ _ h => h) (Or.inl ⟨by rfl, ?_⟩) (by assumption) ?_
            rotate_left
            · intro wS hSw; (try dsimp only at hSw); go_simp; (try with_reducible rfl)
            try simp only [Act.put, List.setIfInBounds_toArray, List.set_cons_zero, List.set_cons_succ]
            refine wpAnyH_take (i := 5) (oi := { dst := some 62, op := Go.Op.move (Go.Operand.tmp 10), type := 3, pos := "mem.go:50", after := #[], guard := none }) (v := ?_) rfl (by kernel_rfl) (by kernel_rfl) (by kernel_rfl) (fun _ _ _ h => h) (Or.inl ⟨by rfl, ?_⟩) (by assumption) ?_
            rotate_left
            · intro wS hSw; (try dsimp only at hSw); go_simp; (try with_reducible rfl)
            try simp only [Act.put, List.setIfInBounds_toArray, List.set_cons_zero, List.set_cons_succ]
            refine wpAnyH_take (i := 6) (oi := { dst := some 63, op := Go.Op.binOp Go.BinOp.mul 3 (Go.Operand.const (Go.Value.int Go.IntKind.i64 2)) (Go.Operand.tmp 62) 3, type := 3, pos := "mem.go:50", after := #[{ on := 5, ground := Go.Ground.data }], guard := none }) (v := ?_) rfl (by kernel_rfl) (by kernel_rfl) (by kernel_rfl) (fun _ _ _ h => h) (Or.inl ⟨by rfl, ?_⟩) (by assumption) ?_
            rotate_left
            · intro wS hSw; (try dsimp only at hSw); go_simp; (try with_reducible rfl)
            try simp only [Act.put, List.setIfInBounds_toArray, List.set_cons_zero, List.set_cons_succ]
            refine wpAnyH_take (i := 7) (oi := { dst := some 64, op := Go.Op.indexAddr 26 (Go.Operand.tmp 61) (Go.Operand.tmp 63), type := 0, pos := "mem.go:50", after := #[{ on := 4, ground := Go.Ground.data }, { on := 6, ground := Go.Ground.data }], guard := none }) (v := ?_) rfl (by kernel_rfl) (by kernel_rfl) (by kernel_rfl) (fun _ _ _ h => h) (Or.inl ⟨by rfl, ?_⟩) (by assumption) ?_
            rotate_left
            · intro wS hSw; (try dsimp only at hSw); go_simp; (try with_reducible rfl)
            try simp only [Act.put, List.setIfInBounds_toArray, List.set_cons_zero, List.set_cons_succ]
            refine wpAnyH_take (i := 8) (oi := { dst := some 65, op := Go.Op.load 25 (Go.Operand.tmp 64), type := 25, pos := "mem.go:50", after := #[{ on := 7, ground := Go.Ground.data }], guard := none }) (v := .agg (cx).toArray) rfl (by kernel_rfl) (by kernel_rfl) (by kernel_rfl) (fun _ _ _ h => h) (yieldsIf_load_mid (by rfl) _ _ rfl (g6) (p * 32) rfl (cx) _ (fun w h => h.2.1) (hu) rfl (hi1)) (by assumption) ?_
            try simp only [Act.put, List.setIfInBounds_toArray, List.set_cons_zero, List.set_cons_succ]
            refine wpAnyH_take (i := 9) (oi := { dst := some 66, op := Go.Op.fieldAddr 127 (Go.Operand.tmp 7) 1, type := 0, pos := "mem.go:50", after := #[], guard := none }) (v := ?_) rfl (by kernel_rfl) (by kernel_rfl) (by kernel_rfl) (fun _ _ _ h => h) (Or.inl ⟨by rfl, ?_⟩) (by assumption) ?_
            rotate_left
            · intro wS hSw; (try dsimp only at hSw); go_simp; (try with_reducible rfl)
            try simp only [Act.put, List.setIfInBounds_toArray, List.set_cons_zero, List.set_cons_succ]
            refine wpAnyH_take (i := 10) (oi := { dst := some 67, op := Go.Op.load 26 (Go.Operand.tmp 66), type := 26, pos := "mem.go:50", after := #[{ on := 9, ground := Go.Ground.data }], guard := none }) (v := ?_) rfl (by kernel_rfl) (by kernel_rfl) (by kernel_rfl) (fun _ _ _ h => h) (Or.inl ⟨by rfl, ?_⟩) (by assumption) ?_
            rotate_left
            · intro wS hSw; (try dsimp only at hSw); go_simp; (try with_reducible rfl)
            try simp only [Act.put, List.setIfInBounds_toArray, List.set_cons_zero, List.set_cons_succ]
            refine wpAnyH_take (i := 11) (oi := { dst := some 68, op := Go.Op.move (Go.Operand.tmp 10), type := 3, pos := "mem.go:50", after := #[], guard := none }) (v := ?_) rfl (by kernel_rfl) (by kernel_rfl) (by kernel_rfl) (fun _ _ _ h => h) (Or.inl ⟨by rfl, ?_⟩) (by assumption) ?_
            rotate_left
            · intro wS hSw; (try dsimp only at hSw); go_simp; (try with_reducible rfl)
            try simp only [Act.put, List.setIfInBounds_toArray, List.set_cons_zero, List.set_cons_succ]
            refine wpAnyH_take (i := 12) (oi := { dst := some 69, op := Go.Op.binOp Go.BinOp.mul 3 (Go.Operand.const (Go.Value.int Go.IntKind.i64 2)) (Go.Operand.tmp 68) 3, type := 3, pos := "mem.go:50", after := #[{ on := 11, ground := Go.Ground.data }], guard := none }) (v := ?_) rfl (by kernel_rfl) (by kernel_rfl) (by kernel_rfl) (fun _ _ _ h => h) (Or.inl ⟨by rfl, ?_⟩) (by assumption) ?_
            rotate_left
            · intro wS hSw; (try dsimp only at hSw); go_simp; (try with_reducible rfl)
            try simp only [Act.put, List.setIfInBounds_toArray, List.set_cons_zero, List.set_cons_succ]
            refine wpAnyH_take (i := 13) (oi := { dst := some 70, op := Go.Op.binOp Go.BinOp.add 3 (Go.Operand.tmp 69) (Go.Operand.const (Go.Value.int Go.IntKind.i64 1)) 3, type := 3, pos := "mem.go:50", after := #[{ on := 12, ground := Go.Ground.data }], guard := none }) (v := ?_) rfl (by kernel_rfl) (by kernel_rfl) (by kernel_rfl) (fun _ _ _ h => h) (Or.inl ⟨by rfl, ?_⟩) (by assumption) ?_
            rotate_left
            · intro wS hSw; (try dsimp only at hSw); go_simp; (try with_reducible rfl)
            try simp only [Act.put, List.setIfInBounds_toArray, List.set_cons_zero, List.set_cons_succ]
            refine wpAnyH_take (i := 14) (oi := { dst := some 71, op := Go.Op.indexAddr 26 (Go.Operand.tmp 67) (Go.Operand.tmp 70), type := 0, pos := "mem.go:50", after := #[{ on := 10, ground := Go.Ground.data }, { on := 13, ground := Go.Ground.data }], guard := none }) (v := ?_) rfl (by kernel_rfl) (by kernel_rfl) (by kernel_rfl) (fun _ _ _ h => h) (Or.inl ⟨by rfl, ?_⟩) (by assumption) ?_
            rotate_left
            · intro wS hSw; (try dsimp only at hSw); go_simp; (try with_reducible rfl)
            try simp only [Act.put, List.setIfInBounds_toArray, List.set_cons_zero, List.set_cons_succ]
            refine wpAnyH_take (i := 15) (oi := { dst := some 72, op := Go.Op.load 25 (Go.Operand.tmp 71), type := 25, pos := "mem.go:50", after := #[{ on := 14, ground := Go.Ground.data }], guard := none }) (v := .agg (cy).toArray) rfl (by kernel_rfl) (by kernel_rfl) (by kernel_rfl) (fun _ _ _ h => h) (yieldsIf_load_mid (by rfl) _ _ rfl (g6) (q * 32) rfl (cy) _ (fun w h => h.2.2.1) (hu) rfl (hi2)) (by assumption) ?_
            try simp only [Act.put, List.setIfInBounds_toArray, List.set_cons_zero, List.set_cons_succ]
            refine wpAnyH_ready (rs := [16]) (by kernel_rfl) (by simp) ?_
            refine AllReadyH.cons (o := { dst := some 73, op := Go.Op.call { callee := Go.Callee.value (Go.Operand.func 118), args := #[Go.Operand.tmp 65, Go.Operand.tmp 72], argTypes := #[25, 25] }, type := 25, pos := "mem.go:50", after := #[{ on := 8, ground := Go.Ground.data }, { on := 15, ground := Go.Ground.data }], guard := none }) rfl (fun K hK => ?_) AllReadyH.nil
            go_simp
            refine (HPR.out _).mono ?_
            rintro e w8 ⟨rfl, hB8⟩
            have H8 := Aside0.mk (HI.out.drew.step hB8)
            clear hB8
            have K8 := Aside0.mk (HF.out _ H8.out)
            go_wp2_with fail
            refine hK.out _ _ ?_ (fun hHeld => ?_)
            · exact K8.out
            clear hK K
            try simp only [Act.put, List.setIfInBounds_toArray, List.set_cons_zero, List.set_cons_succ]
            refine wpAnyH_take (i := 17) (oi := { dst := some 74, op := Go.Op.indexAddr 26 (Go.Operand.tmp 58) (Go.Operand.tmp 59), type := 0, pos := "mem.go:50", after := #[{ on := 1, ground := Go.Ground.data }, { on := 2, ground := Go.Ground.data }, { on := 0, ground := Go.Ground.phase }, { on := 1, ground := Go.Ground.phase }, { on := 2, ground := Go.Ground.phase }, { on := 3, ground := Go.Ground.phase }, { on := 4, ground := Go.Ground.phase }, { on := 5, ground := Go.Ground.phase }, { on := 6, ground := Go.Ground.phase }, { on := 7, ground := Go.Ground.phase }, { on := 8, ground := Go.Ground.phase }, { on := 9, ground := Go.Ground.phase }, { on := 10, ground := Go.Ground.phase }, { on := 11, ground := Go.Ground.phase }, { on := 12, ground := Go.Ground.phase }, { on := 13, ground := Go.Ground.phase }, { on := 14, ground := Go.Ground.phase }, { on := 15, ground := Go.Ground.phase }, { on := 16, ground := Go.Ground.phase }], guard := none }) (v := ?_) rfl (by kernel_rfl) (by kernel_rfl) (by kernel_rfl) (fun _ _ _ h => h) (Or.inl ⟨by rfl, ?_⟩) (by assumption) ?_
            rotate_left
            · intro wS hSw; (try dsimp only at hSw); go_simp; (try with_reducible rfl)
            try simp only [Act.put, List.setIfInBounds_toArray, List.set_cons_zero, List.set_cons_succ]
            have H9 := Aside0.mk (H8.out.putC (d := kH) 2 rfl k hkm Flat_H (fun _ => ⟨HRH.out.1, HCR.out⟩))
            have K9 := Aside0.mk (HG.out _ H9.out)
            refine wpAnyH_ready (rs := [18]) (by kernel_rfl) (by simp) ?_
            refine AllReadyH.cons (o := { dst := none, op := Go.Op.store 25 (Go.Operand.tmp 74) (Go.Operand.tmp 73), type := 0, pos := "mem.go:50", after := #[{ on := 17, ground := Go.Ground.data }, { on := 16, ground := Go.Ground.data }, { on := 16, ground := Go.Ground.chain }, { on := 0, ground := Go.Ground.phase }, { on := 1, ground := Go.Ground.phase }, { on := 2, ground := Go.Ground.phase }, { on := 3, ground := Go.Ground.phase }, { on := 4, ground := Go.Ground.phase }, { on := 5, ground := Go.Ground.phase }, { on := 6, ground := Go.Ground.phase }, { on := 7, ground := Go.Ground.phase }, { on := 8, ground := Go.Ground.phase }, { on := 9, ground := Go.Ground.phase }, { on := 10, ground := Go.Ground.phase }, { on := 11, ground := Go.Ground.phase }, { on := 12, ground := Go.Ground.phase }, { on := 13, ground := Go.Ground.phase }, { on := 14, ground := Go.Ground.phase }, { on := 15, ground := Go.Ground.phase }, { on := 16, ground := Go.Ground.phase }], guard := none }) rfl (fun K hK => ?_) AllReadyH.nil
            rw [if_pos (by rfl)]
            refine wp_store_mid _ _ _ rfl _ _ (List.toArray _) rfl rfl ?_ ?_ (all_oneCell_toArray hc1) ?_
            · (rw [List.size_toArray, hlr]; exact K8.out.2.2.2)
            · (rw [List.size_toArray]; exact hi3)
            simp only [Act.put, List.setIfInBounds_toArray, List.set_cons_zero, List.set_cons_succ, List.toList_toArray]
            refine hK.out _ _ ?_ (fun hHeld => ?_)
            · exact K9.out
            clear hK K
            try simp only [Act.put, List.setIfInBounds_toArray, List.set_cons_zero, List.set_cons_succ]
            refine wpAnyH_done (by kernel_rfl) ?_ _
            clear hi0 hwp hwq HF0 hHeld
            go_wp2_with fail
            go_roundw
            case rel =>
              refine ⟨k - 1, ss.set k r, by omega, by rw [show ((k : Int) - 1) = ((k - 1 : Nat) : Int) by omega], ⟨HPN.out.mono (fun j h1 h2 h3 => by omega), ?_⟩, H9⟩
              intro z hz
              rcases List.mem_or_eq_of_mem_set hz with h | h
              · exact HT.out.2 z h
              · rw [h]; exact HRH.out
            case measure => simp [intOf]; omega
          · have hdk : decide (1 ≤ (k : Int)) = false := decide_eq_false (by omega)
            have hk0 : k = 0 := by omega
            have HTF : Aside0 (Tree i (leavesW ws) ss (fun _ => False)) := ⟨HT.out.1.mono fun j h1 h2 h3 => by omega⟩
            clear hk0
            go_wp2_with (first
              | fail
              | ((with_reducible refine gate_dst (N := 75) rfl ?_); refine own_loadV HI.out 0 g7 _ T0 rfl rfl (.tmp 7) rfl _ rfl Try.underlying127 rfl (by kernel_rfl) ?_)
              | ((with_reducible refine own_store HI.out 3 g4 _ T0 rfl rfl (.tmp 4) (.tmp 75) rfl (#[v1, .slice (some ⟨g6, 0, none⟩) m cap, leafF]) ?_ ?_ 3 HA0.out HAG.out (by kernel_rfl) ?_); (case _ => rfl); (case _ => rfl); intro w9 H9; replace H9 := Aside0.mk H9)
              )
            refine bodyPost_ret (own_resultV_t rfl _ H9.out 3 g4 _ rfl rfl _ Try.underlying127 rfl (by kernel_rfl) (.bool true) rfl) rfl ?_
            exact ⟨v1, .slice (some ⟨g6, 0, none⟩) m cap, ss, rfl, by rw [← HLL.out]; exact HTF.out, HT.out.2, (H9.out.erase 3).erase 0⟩
end Go.Proofs.Ytocphkfkdadhaaa.H

namespace Go.Proofs.Ytocphkfkdadhaaa.H
open Go.RowKit Go.Proofs.YtocphkfkdadhaaaW.PrintWords Go.Proofs.YtocphkfkdadhaaaW.PrintLast Go.Proofs.YtocphkfkdadhaaaW.PrintMore
set_option linter.unusedVariables false
set_option linter.unusedSimpArgs false
abbrev tree0 : Array Value := #[.slice none 0 0, .slice none 0 0, .nilFunc]
theorem Arr_tree0 : Arr 3 tree0 := ⟨rfl, by simp [Value.oneCell']⟩
set_option maxHeartbeats 1000000 in
set_option maxRecDepth 100000 in
theorem grown_no (n : Nat) (hn : n ≤ 9223372036854775807) (hs : sizeB n = false) (A : Option Addr) (c : Nat) (w : World) :
    Calls Try.prog 67 #[.slice A n c, leafF] w fun e w' => e = .returned (.tuple #[.agg tree0, .bool false]) ∧ Below w.heap.size w w' := by
  have H0 := Aside0.mk (Own.start w)
  have HT := Aside0.mk Arr_tree0
  unfold leafF
  have HEND : Aside0 (∀ w9 (tmps : Array Value) (g4 : Nat), Own w.heap.size w w9 [.blk g4 tree0 T0] → tmps.getD 4 undef = .pointer (some ⟨g4, 0, none⟩) → tmps.getD 5 undef = .bool false → (results Try.f67 tmps).run Try.prog w9 = .ok (.tuple #[.agg tree0, .bool false]) w9) :=
    ⟨fun w9 tmps g4 h h4 h5 => own_resultV_t rfl tmps h 0 g4 _ rfl h4 _ Try.underlying127 rfl (by kernel_rfl) (.bool false) h5⟩
  by_cases h1 : 1 ≤ n
  · have hd1 : decide ((n : Int) < 1) = false := decide_eq_false (by omega)
    by_cases h2 : n ≤ 4096
    · have hd2 : decide (4096 < (n : Int)) = false := decide_eq_false (by omega)
      have hand := size_and' n h2 h1
      rw [hs, Bool.not_false] at hand
      go_enter Try.func67, Try.ntmps67
      go_wp2_with (first
        | fail
        | ((with_reducible refine gate_dst (N := 4) rfl ?_); refine own_alloc H0.out rfl (N := 4) rfl (t := T0) rfl (tree0) 3 (by kernel_rfl) ?_; intro g4 w1 H1 B1; replace H1 := Aside0.mk H1; replace B1 := Aside0.mk B1)
        | ((with_reducible refine own_store H1.out 0 g4 _ T0 rfl rfl (.tmp 4) (.tmp 26) rfl (tree0) ?_ ?_ 3 HT.out HT.out (by kernel_rfl) ?_); (case _ => rfl); (case _ => rfl); intro w2 H2; replace H2 := Aside0.mk H2)
        )
      refine bodyPost_ret (HEND.out _ _ g4 H2.out rfl rfl) rfl ?_
      exact ⟨rfl, H2.out.below⟩
    · have hd2 : decide (4096 < (n : Int)) = true := decide_eq_true (by omega)
      go_enter Try.func67, Try.ntmps67
      go_wp2_with (first
        | fail
        | ((with_reducible refine gate_dst (N := 4) rfl ?_); refine own_alloc H0.out rfl (N := 4) rfl (t := T0) rfl (tree0) 3 (by kernel_rfl) ?_; intro g4 w1 H1 B1; replace H1 := Aside0.mk H1; replace B1 := Aside0.mk B1)
        | ((with_reducible refine own_store H1.out 0 g4 _ T0 rfl rfl (.tmp 4) (.tmp 26) rfl (tree0) ?_ ?_ 3 HT.out HT.out (by kernel_rfl) ?_); (case _ => rfl); (case _ => rfl); intro w2 H2; replace H2 := Aside0.mk H2)
        )
      refine bodyPost_ret (HEND.out _ _ g4 H2.out rfl rfl) rfl ?_
      exact ⟨rfl, H2.out.below⟩
  · obtain rfl : n = 0 := by omega
    go_enter Try.func67, Try.ntmps67
    go_wp2_with (first
      | fail
      | ((with_reducible refine gate_dst (N := 4) rfl ?_); refine own_alloc H0.out rfl (N := 4) rfl (t := T0) rfl (tree0) 3 (by kernel_rfl) ?_; intro g4 w1 H1 B1; replace H1 := Aside0.mk H1; replace B1 := Aside0.mk B1)
      | ((with_reducible refine own_store H1.out 0 g4 _ T0 rfl rfl (.tmp 4) (.tmp 26) rfl (tree0) ?_ ?_ 3 HT.out HT.out (by kernel_rfl) ?_); (case _ => rfl); (case _ => rfl); intro w2 H2; replace H2 := Aside0.mk H2)
      )
    refine bodyPost_ret (HEND.out _ _ g4 H2.out rfl rfl) rfl ?_
    exact ⟨rfl, H2.out.below⟩
abbrev TM : TypeId := 131
def MemAt (D : Nat) (ws : List Int) (ss : List (List Int)) : Prop := Tree (2 ^ D) (leavesW ws) ss (fun _ => False) ∧ Hshs ss ∧ ws.length = 2 ^ D ∧ Wrd ws
abbrev memL (g : Nat) (v1 v2 : Value) (ws : List Int) (ss : List (List Int)) (L : List Item) : List Item := .blk g #[v1, v2, leafF] TM :: .row kU 23 v1 ws :: .row kH 25 v2 ss :: L
set_option maxHeartbeats 1000000 in
set_option maxRecDepth 100000 in
theorem new_ok (D : Nat) (hD : D ≤ 12) (ws : List Int) (hl : ws.length = 2 ^ D) (hw : Wrd ws) (A : Option Addr) (c : Nat) (hc : ws.length ≤ c) (w : World) (hC : Kd.C kU w A ws.length ws) :
    Calls Try.prog 19 #[.slice A ws.length c] w fun e w' => ∃ g v1 v2 ss, e = .returned (.tuple #[.pointer (some ⟨g, 0, none⟩), .int .i64 0]) ∧ MemAt D ws ss ∧ Own w.heap.size w w' (memL g v1 v2 ws ss []) := by
  have HG := Aside0.mk (grown_ok D hD ws hl hw A c hc w hC)
  have HX : Aside0 (∀ ss, Tree (2 ^ D) (leavesW ws) ss (fun _ => False) → Hshs ss → MemAt D ws ss) := ⟨fun ss h1 h2 => ⟨h1, h2, hl, hw⟩⟩
  have H0 := Aside0.mk (Own.start w)
  clear hC hl
  generalize ws.length = n at *
  unfold leafF at HG
  go_enter Try.func19, Try.ntmps19
  go_wp2_with fail
  refine HG.out.mono ?_
  rintro e w1 ⟨v1, v2, ss, rfl, hT, hS, hO⟩
  have HO := Aside0.mk (H0.out.call hO)
  have HT := Aside0.mk Arr_tree0
  have HTS := Aside0.mk (And.intro hT hS)
  obtain ⟨A1, c1, rfl, _, _⟩ := hO.reads 0 rfl
  obtain ⟨A2, c2, rfl, _, _⟩ := hO.reads 1 rfl
  clear hT hS hO
  generalize ss.length = m2 at *
  generalize ws.length = m1 at *
  have HAG : Aside0 (Arr 3 #[.slice A1 m1 c1, .slice A2 m2 c2, leafF]) := ⟨rfl, by simp [Value.oneCell']⟩
  go_wp2_with (first
    | fail
    | ((with_reducible refine gate_dst (N := 4) rfl ?_); refine own_alloc HO.out rfl (N := 4) rfl (t := T0) rfl (tree0) 3 (by kernel_rfl) ?_; intro g4 w2 H2 B2; replace H2 := Aside0.mk H2; replace B2 := Aside0.mk B2)
    | ((with_reducible refine own_store H2.out 0 g4 _ T0 rfl rfl (.tmp 4) (.tmp 9) rfl (#[.slice A1 m1 c1, .slice A2 m2 c2, leafF]) ?_ ?_ 3 HT.out HAG.out (by kernel_rfl) ?_); (case _ => rfl); (case _ => rfl); intro w3 H3; replace H3 := Aside0.mk H3)
    | ((with_reducible refine gate_dst (N := 13) rfl ?_); refine own_loadV H3.out 0 g4 _ T0 rfl rfl (.tmp 4) rfl _ rfl Try.underlying127 rfl (by kernel_rfl) ?_)
    | ((with_reducible refine gate_dst (N := 15) rfl ?_); refine own_box H3.out rfl (N := 15) rfl (t := TM) rfl (.agg #[.slice A1 m1 c1, .slice A2 m2 c2, leafF]) rfl ?_; intro g5 w4 H4 B4; replace H4 := Aside0.mk H4; replace B4 := Aside0.mk B4)
    )
  go_ret2
  refine ⟨g5, .slice A1 m1 c1, .slice A2 m2 c2, ss, rfl, HX.out ss HTS.out.1 HTS.out.2, H4.out.erase 1⟩
set_option maxHeartbeats 1000000 in
set_option maxRecDepth 100000 in
theorem new_no (n : Nat) (hn : n ≤ 9223372036854775807) (hs : sizeB n = false) (A : Option Addr) (c : Nat) (w : World) :
    Calls Try.prog 19 #[.slice A n c] w fun e w' => e = .returned (.tuple #[.pointer none, .int .i64 2]) ∧ Below w.heap.size w w' := by
  have HG := Aside0.mk (grown_no n hn hs A c w)
  have H0 := Aside0.mk (Own.start w)
  have HT := Aside0.mk Arr_tree0
  clear hs
  unfold leafF at HG
  go_enter Try.func19, Try.ntmps19
  go_wp2_with fail
  refine HG.out.mono ?_
  rintro e w1 ⟨rfl, hB⟩
  have H1 := Aside0.mk (H0.out.step hB)
  clear hB
  go_wp2_with (first
    | fail
    | ((with_reducible refine gate_dst (N := 4) rfl ?_); refine own_alloc H1.out rfl (N := 4) rfl (t := T0) rfl (tree0) 3 (by kernel_rfl) ?_; intro g4 w2 H2 B2; replace H2 := Aside0.mk H2; replace B2 := Aside0.mk B2)
    | ((with_reducible refine own_store H2.out 0 g4 _ T0 rfl rfl (.tmp 4) (.tmp 9) rfl (tree0) ?_ ?_ 3 HT.out HT.out (by kernel_rfl) ?_); (case _ => rfl); (case _ => rfl); intro w3 H3; replace H3 := Aside0.mk H3)
    )
  go_ret2
  exact ⟨rfl, H3.out.below⟩
section
variable {B : Nat} {w0 W : World} {L : List Item} {g : Nat} {v1 v2 : Value} {ws : List Int} {ss : List (List Int)}
theorem memc0 (h : Own B w0 W (memL g v1 v2 ws ss L)) : W.cell? ⟨g, 0, none⟩ = some v1 := h.cell 0 rfl 0 rfl
theorem memc1 (h : Own B w0 W (memL g v1 v2 ws ss L)) : W.cell? ⟨g, 1, none⟩ = some v2 := h.cell 0 rfl 1 rfl
theorem memc2 (h : Own B w0 W (memL g v1 v2 ws ss L)) : W.cell? ⟨g, 2, none⟩ = some leafF := h.cell 0 rfl 2 rfl
end
theorem none_mem {D : Nat} {B : Nat} {w0 W : World} {L : List Item} {g : Nat} {v1 v2 : Value} {ws : List Int} {ss : List (List Int)} (hM : MemAt D ws ss) (h : Own B w0 W (memL g v1 v2 ws ss L)) :
    Calls Try.prog 68 #[.pointer (some ⟨g, 0, none⟩)] W fun e w' => e = .returned (.bool false) ∧ w' = W := by
  obtain ⟨A1, c1, rfl, _, _⟩ := h.reads 1 rfl
  have hc0 := memc0 h
  have hp : 0 < ws.length := by rw [hM.2.2.1]; exact Nat.two_pow_pos D
  have hb : ((ws.length : Int) == 0) = false := by rw [beq_eq_false_iff_ne]; omega
  clear hM h
  generalize ws.length = n at *
  go_enter Try.func68, Try.ntmps68
  go_wp2_with fail
  go_ret
  exact ⟨rfl, rfl⟩
theorem asked_mem {D : Nat} {B : Nat} {w0 W : World} {L : List Item} {g : Nat} {v1 v2 : Value} {ws : List Int} {ss : List (List Int)} (hM : MemAt D ws ss) (h : Own B w0 W (memL g v1 v2 ws ss L)) (at_ : Nat) (ha : at_ ≤ 18446744073709551615) :
    Calls Try.prog 70 #[.pointer (some ⟨g, 0, none⟩), .int .u64 (at_ : Int)] W fun e w' => e = .returned (.int .i64 (if at_ < ws.length then 0 else 2)) ∧ w' = W := by
  have HN := Aside0.mk (none_mem hM h)
  obtain ⟨A1, c1, rfl, _, _⟩ := h.reads 1 rfl
  have hc0 := memc0 h
  have hle : ws.length ≤ 9223372036854775807 := (h.C_of 1 rfl).2.1
  have hw : IntKind.u64.wrap (ws.length : Int) = (ws.length : Int) := by rw [IntKind.wrap_u64]; omega
  obtain ⟨r, hr⟩ : ∃ r : Int, r = if at_ < ws.length then 0 else 2 := ⟨_, rfl⟩
  rw [← hr]
  have HR := Aside0.mk hr
  clear hM h hr
  generalize ws.length = n at *
  by_cases hlt : at_ < n
  · have hd : decide (n ≤ at_) = false := decide_eq_false (by omega)
    have HE : Aside0 (r = 0) := ⟨by rw [HR.out, if_pos hlt]⟩
    clear HR
    go_enter Try.func70, Try.ntmps70
    go_wp2_with fail
    refine HN.out.mono ?_
    rintro e w1 ⟨rfl, rfl⟩
    go_wp2_with fail
    go_ret
    exact ⟨by rw [HE.out]; rfl, rfl⟩
  · have hd : decide (n ≤ at_) = true := decide_eq_true (by omega)
    have HE : Aside0 (r = 2) := ⟨by rw [HR.out, if_neg hlt]⟩
    clear HR
    go_enter Try.func70, Try.ntmps70
    go_wp2_with fail
    refine HN.out.mono ?_
    rintro e w1 ⟨rfl, rfl⟩
    go_wp2_with fail
    go_ret
    exact ⟨by rw [HE.out]; rfl, rfl⟩
end Go.Proofs.Ytocphkfkdadhaaa.H

namespace Go.Proofs.Ytocphkfkdadhaaa.H
open Go.RowKit Go.Proofs.YtocphkfkdadhaaaW.PrintWords Go.Proofs.YtocphkfkdadhaaaW.PrintLast Go.Proofs.YtocphkfkdadhaaaW.PrintMore
set_option linter.unusedVariables false
set_option linter.unusedSimpArgs false
namespace Own
variable {B : Nat} {w0 W : World} {L : List Item} {α : Type} {d : Kd α}
theorem putS (h : Own B w0 W L) (k : Nat) {g n cap e : Nat} {xs : List α} (hk : L[k]? = some (.row d e (.slice (some ⟨g, 0, none⟩) n cap) xs)) (i : Nat) (hi : i < n) {x : α} {v : Value} (hF : Flat d) (hs : d.sz = 1) (hx : ∀ W, d.K W x [v]) :
    Own B w0 (W.setCell ⟨g, i, none⟩ v) (L.set k (.row d e (.slice (some ⟨g, 0, none⟩) n cap) (xs.set i x))) := by
  have := h.putC k hk i hi hF hx
  rw [hs, Nat.mul_one] at this
  exact this
theorem there1 (h : Own B w0 W L) (k : Nat) {g n cap e : Nat} {xs : List α} (hk : L[k]? = some (.row d e (.slice (some ⟨g, 0, none⟩) n cap) xs)) (i : Nat) (hi : i < n) (hs : d.sz = 1) : (W.cell? ⟨g, i, none⟩).isSome = true ∧ W.frozen? ⟨g, i, none⟩ = false := by
  have := h.there_row (d := d) k hk i hi
  rw [hs, Nat.mul_one] at this
  exact this 0 (by decide)
theorem apart {g : Nat} {cs : Array Value} {t : TypeId} (h : Own B w0 W (.blk g cs t :: L)) (k : Nat) {g1 o n cap e : Nat} {xs : List α} (hk : L[k]? = some (.row d e (.slice (some ⟨g1, o, none⟩) n cap) xs)) : ¬ g = g1 := by
  obtain ⟨S, h1, h2, h3⟩ := h.sep
  obtain ⟨S2, h4, h5, _⟩ := Sep.pick hk h3
  have hR : Kd.R d e W 0 S2 _ xs := h5
  intro he
  subst he
  exact (h4 g (hR.1 g rfl)).2 h2.1
end Own
def Anc (k j : Nat) : Prop := ∃ s, j = k / 2 ^ s
theorem Anc.up {k j : Nat} (h : Anc k j) (hn : j ≠ k) : Anc (k / 2) j := by
  obtain ⟨s, rfl⟩ := h
  cases s with
  | zero => exact absurd (by rw [Nat.pow_zero, Nat.div_one]) hn
  | succ s => exact ⟨s, by rw [Nat.pow_succ, Nat.div_div_eq_div_mul, Nat.mul_comm 2]⟩
theorem Anc.self (k : Nat) : Anc k k := ⟨0, by rw [Nat.pow_zero, Nat.div_one]⟩
theorem Anc.zero {j : Nat} (h : Anc 0 j) : j = 0 := by
  obtain ⟨s, rfl⟩ := h
  exact Nat.zero_div _
theorem leavesW_set (ws : List Int) (i m : Nat) : leavesW (ws.set i (m : Int)) = (leavesW ws).set i (leafW m) := by
  simp [leavesW, List.map_set]
theorem Wrd_set {ws : List Int} (h : Wrd ws) (i m : Nat) (hm : m ≤ 18446744073709551615) : Wrd (ws.set i (m : Int)) := by
  intro x hx
  rcases List.mem_or_eq_of_mem_set hx with h1 | h1
  · exact h x h1
  · rw [h1]; omega
theorem Hshs_set {ss : List (List Int)} (h : Hshs ss) (i : Nat) {x : List Int} (hx : Hsh x) : Hshs (ss.set i x) := by
  intro z hz
  rcases List.mem_or_eq_of_mem_set hz with h1 | h1
  · exact h z h1
  · rw [h1]; exact hx
set_option maxHeartbeats 2000000 in
set_option maxRecDepth 100000 in
theorem put_any (D : Nat) (hD : D ≤ 12) (ws : List Int) (x at_ : Nat) (hx : x ≤ 18446744073709551615) (ha : at_ < ws.length) {B : Nat} {w0 w : World} {L : List Item} {g : Nat} {v1 v2 : Value} {ss : List (List Int)} (hM : MemAt D ws ss) (HO : Own B w0 w (memL g v1 v2 ws ss L)) :
    Calls Try.prog 73 #[.pointer (some ⟨g, 0, none⟩), .int .i64 (at_ : Int), .int .u64 (x : Int)] w fun e w' => ∃ ss', e = .returned (.tuple #[]) ∧ MemAt D (ws.set at_ (x : Int)) ss' ∧ Own B w0 w' (memL g v1 v2 (ws.set at_ (x : Int)) ss' L) := by
  have hn4 : ws.length ≤ 4096 := by rw [hM.2.2.1]; exact Nat.pow_le_pow_right (by decide) hD
  obtain ⟨m, hm⟩ : ∃ m, m = 2 * ws.length := ⟨_, rfl⟩
  have hsl : ss.length = m := by rw [hM.1.len, hm, hM.2.2.1]
  obtain ⟨g1, c1, rfl, hc1⟩ := HO.form 1 rfl (by omega)
  obtain ⟨g2, c2, rfl, hc2⟩ := HO.form 2 rfl (by omega)
  have hg1 := HO.apart 0 rfl
  have hg2 := HO.apart 1 rfl
  have hg1' : ¬ g1 = g := fun e => hg1 e.symm
  have HM : Aside0 (∀ ss', Tree (2 ^ D) (leavesW (ws.set at_ (x : Int))) ss' (fun _ => False) → Hshs ss' → MemAt D (ws.set at_ (x : Int)) ss') := ⟨fun ss' h1 h2 => ⟨h1, h2, by rw [List.length_set]; exact hM.2.2.1, Wrd_set hM.2.2.2 _ _ hx⟩⟩
  have HT0 : Aside0 (Tree ws.length (leavesW (ws.set at_ (x : Int))) (ss.set (ws.length + at_) (leafW x)) (Anc ((ws.length + at_) / 2)) ∧ Hshs (ss.set (ws.length + at_) (leafW x))) := ⟨by
    have h := hM.1
    rw [← hM.2.2.1] at h
    refine ⟨?_, Hshs_set hM.2.1 _ (Hsh_leaf x)⟩
    rw [leavesW_set]
    exact (h.put at_ ha (leafW x)).mono fun j h1 h2 h3 => by
      rcases h3 with h3 | h3
      · exact h3.elim
      · rw [h3]; exact Anc.self _⟩
  have HD := Aside0.mk hM.2.2.1
  have HSS := Aside0.mk hM.2.1
  have hth := HO.there1 (d := kU) 1 rfl at_ ha rfl
  rw [hsl] at HO ⊢
  have H0 := Aside0.mk HO
  have H1 := Aside0.mk (HO.putS (d := kU) 1 rfl at_ ha (x := (x : Int)) (v := .int .u64 (x : Int)) Flat_U rfl (fun _ => rfl))
  have hcc0 : w.cell? ⟨g, 0, none⟩ = _ := memc0 HO
  clear HO hM hsl
  have HLS : Aside0 ((ws.set at_ (x : Int)).length = ws.length) := ⟨List.length_set⟩
  generalize ws.set at_ (x : Int) = ws' at *
  generalize ws.length = n at *
  obtain ⟨q, hq⟩ : ∃ q, q = n + at_ := ⟨_, rfl⟩
  have hwq : IntKind.i64.wrap ((n : Int) + (at_ : Int)) = (q : Int) := by rw [IntWalk.i64_in _ (by omega)]; omega
  rw [← hq] at HT0
  have hqm : q < m := by omega
  have hq0 : (0 : Int) ≤ (q : Int) ∧ (q : Int) < (m : Int) := by omega
  have HQ := Aside0.mk hq
  have HMM := Aside0.mk hm
  clear hq hm
  have HLH := Aside0.mk (Hsh_leaf x)
  have HLF := Aside0.mk (fun W => memleaf_any x hx W)
  generalize leafW x = lf at *
  obtain ⟨cs, hcs⟩ : ∃ cs : List Value, cs = lf.map (Value.int .u8) := ⟨_, rfl⟩
  have HCS : Aside0 (cellsB lf = cs.toArray) := ⟨by rw [hcs]; rfl⟩
  have HCT := Aside0.mk hcs
  have hcl : cs.length = 32 := by rw [hcs, List.length_map]; exact HLH.out.1
  have hone : ∀ v ∈ cs, v.oneCell' = true := by rw [hcs]; intro v hv; obtain ⟨z, _, rfl⟩ := List.mem_map.1 hv; rfl
  rw [HCS.out] at HLF
  clear hcs
  have hab : (0 : Int) ≤ (at_ : Int) ∧ (at_ : Int) < (n : Int) := by omega
  obtain ⟨vo, hvo⟩ := Option.isSome_iff_exists.1 hth.1
  have hfo := hth.2
  clear hth
  go_enter Try.func73, Try.ntmps73
  go_wp2_with fail
  clear hwq hcc0 hvo hfo hab
  generalize w.setCell ⟨g1, at_, none⟩ (.int .u64 (x : Int)) = w1 at *
  have hu := Try.underlying25
  have hif : (Try.prog.info? 25).map (·.size) = some cs.length := by rw [hcl]; kernel_rfl
  have HF : Aside0 (∀ W' ss, Own B w0 W' (memL g (.slice (some ⟨g1, 0, none⟩) n c1) (.slice (some ⟨g2, 0, none⟩) m c2) ws' ss L) → W'.cell? ⟨g, 1, none⟩ = some (.slice (some ⟨g2, 0, none⟩) m c2) ∧ W'.cell? ⟨g, 2, none⟩ = some (.func (.func 62) #[] #[]) ∧ W'.there g2 (q * 32) 32) := ⟨fun W' ss h => ⟨memc1 h, memc2 h, h.there_row (d := kH) 2 rfl q hqm⟩⟩
  have HF1 := HF.out _ _ H1.out
  refine wp_region_held_drew (S := (fun W => W.cell? ⟨g, 1, none⟩ = some (.slice (some ⟨g2, 0, none⟩) m c2) ∧ W.cell? ⟨g, 2, none⟩ = some (.func (.func 62) #[] #[]) ∧ W.there g2 (q * 32) 32)) (by kernel_rfl) ?_ (fun hHeld => ?_)
  · exact HF1
  refine wpAnyH_take (i := 0) (oi := { dst := some 21, op := Go.Op.move (Go.Operand.tmp 0), type := 180, pos := "mem.go:59", after := #[], guard := none }) (v := ?_) rfl (by kernel_rfl) (by kernel_rfl) (by kernel_rfl) (fun _ _ _ h => h) (Or.inl ⟨by rfl, ?_⟩) (by assumption) ?_
  rotate_left
  · intro wS hSw; (try dsimp only at hSw); go_simp; (try with_reducible rfl)
  try simp only [Act.put, List.setIfInBounds_toArray, List.set_cons_zero, List.set_cons_succ]
  refine wpAnyH_take (i := 1) (oi := { dst := some 22, op := Go.Op.nilCheck (Go.Operand.tmp 21), type := 0, pos := "mem.go:59", after := #[{ on := 0, ground := Go.Ground.data }], guard := none }) (v := ?_) rfl (by kernel_rfl) (by kernel_rfl) (by kernel_rfl) (fun _ _ _ h => h) (Or.inl ⟨by rfl, ?_⟩) (by assumption) ?_
  rotate_left
  · intro wS hSw; (try dsimp only at hSw); go_simp; (try with_reducible rfl)
  try simp only [Act.put, List.setIfInBounds_toArray, List.set_cons_zero, List.set_cons_succ]
  refine wpAnyH_take (i := 2) (oi := { dst := some 23, op := Go.Op.fieldAddr 127 (Go.Operand.tmp 22) 1, type := 0, pos := "mem.go:59", after := #[{ on := 1, ground := Go.Ground.data }], guard := none }) (v := ?_) rfl (by kernel_rfl) (by kernel_rfl) (by kernel_rfl) (fun _ _ _ h => h) (Or.inl ⟨by rfl, ?_⟩) (by assumption) ?_
  rotate_left
  · intro wS hSw; (try dsimp only at hSw); go_simp; (try with_reducible rfl)
  try simp only [Act.put, List.setIfInBounds_toArray, List.set_cons_zero, List.set_cons_succ]
  refine wpAnyH_take (i := 3) (oi := { dst := some 24, op := Go.Op.load 26 (Go.Operand.tmp 23), type := 26, pos := "mem.go:59", after := #[{ on := 2, ground := Go.Ground.data }], guard := none }) (v := ?_) rfl (by kernel_rfl) (by kernel_rfl) (by kernel_rfl) (fun _ _ _ h => h) (Or.inl ⟨by rfl, ?_⟩) (by assumption) ?_
  rotate_left
  · intro wS hSw; (try dsimp only at hSw); go_simp; (try with_reducible rfl)
  try simp only [Act.put, List.setIfInBounds_toArray, List.set_cons_zero, List.set_cons_succ]
  refine wpAnyH_take (i := 4) (oi := { dst := some 25, op := Go.Op.move (Go.Operand.tmp 6), type := 3, pos := "mem.go:59", after := #[], guard := none }) (v := ?_) rfl (by kernel_rfl) (by kernel_rfl) (by kernel_rfl) (fun _ _ _ h => h) (Or.inl ⟨by rfl, ?_⟩) (by assumption) ?_
  rotate_left
  · intro wS hSw; (try dsimp only at hSw); go_simp; (try with_reducible rfl)
  try simp only [Act.put, List.setIfInBounds_toArray, List.set_cons_zero, List.set_cons_succ]
  refine wpAnyH_take (i := 5) (oi := { dst := some 26, op := Go.Op.move (Go.Operand.tmp 0), type := 180, pos := "mem.go:59", after := #[], guard := none }) (v := ?_) rfl (by kernel_rfl) (by kernel_rfl) (by kernel_rfl) (fun _ _ _ h => h) (Or.inl ⟨by rfl, ?_⟩) (by assumption) ?_
  rotate_left
  · intro wS hSw; (try dsimp only at hSw); go_simp; (try with_reducible rfl)
  try simp only [Act.put, List.setIfInBounds_toArray, List.set_cons_zero, List.set_cons_succ]
  refine wpAnyH_take (i := 6) (oi := { dst := some 27, op := Go.Op.nilCheck (Go.Operand.tmp 26), type := 0, pos := "mem.go:59", after := #[{ on := 5, ground := Go.Ground.data }], guard := none }) (v := ?_) rfl (by kernel_rfl) (by kernel_rfl) (by kernel_rfl) (fun _ _ _ h => h) (Or.inl ⟨by rfl, ?_⟩) (by assumption) ?_
  rotate_left
  · intro wS hSw; (try dsimp only at hSw); go_simp; (try with_reducible rfl)
  try simp only [Act.put, List.setIfInBounds_toArray, List.set_cons_zero, List.set_cons_succ]
  refine wpAnyH_take (i := 7) (oi := { dst := some 28, op := Go.Op.fieldAddr 127 (Go.Operand.tmp 27) 2, type := 0, pos := "mem.go:59", after := #[{ on := 6, ground := Go.Ground.data }], guard := none }) (v := ?_) rfl (by kernel_rfl) (by kernel_rfl) (by kernel_rfl) (fun _ _ _ h => h) (Or.inl ⟨by rfl, ?_⟩) (by assumption) ?_
  rotate_left
  · intro wS hSw; (try dsimp only at hSw); go_simp; (try with_reducible rfl)
  try simp only [Act.put, List.setIfInBounds_toArray, List.set_cons_zero, List.set_cons_succ]
  refine wpAnyH_take (i := 8) (oi := { dst := some 29, op := Go.Op.load 121 (Go.Operand.tmp 28), type := 121, pos := "mem.go:59", after := #[{ on := 7, ground := Go.Ground.data }], guard := none }) (v := ?_) rfl (by kernel_rfl) (by kernel_rfl) (by kernel_rfl) (fun _ _ _ h => h) (Or.inl ⟨by rfl, ?_⟩) (by assumption) ?_
  rotate_left
  · intro wS hSw; (try dsimp only at hSw); go_simp; (try with_reducible rfl)
  try simp only [Act.put, List.setIfInBounds_toArray, List.set_cons_zero, List.set_cons_succ]
  refine wpAnyH_take (i := 9) (oi := { dst := some 30, op := Go.Op.move (Go.Operand.tmp 2), type := 23, pos := "mem.go:59", after := #[], guard := none }) (v := ?_) rfl (by kernel_rfl) (by kernel_rfl) (by kernel_rfl) (fun _ _ _ h => h) (Or.inl ⟨by rfl, ?_⟩) (by assumption) ?_
  rotate_left
  · intro wS hSw; (try dsimp only at hSw); go_simp; (try with_reducible rfl)
  try simp only [Act.put, List.setIfInBounds_toArray, List.set_cons_zero, List.set_cons_succ]
  refine wpAnyH_ready (rs := [10]) (by kernel_rfl) (by simp) ?_
  refine AllReadyH.cons (o := { dst := some 31, op := Go.Op.call { callee := Go.Callee.value (Go.Operand.tmp 29), args := #[Go.Operand.tmp 30], argTypes := #[23] }, type := 25, pos := "mem.go:59", after := #[{ on := 8, ground := Go.Ground.data }, { on := 9, ground := Go.Ground.data }], guard := none }) rfl (fun K hK => ?_) AllReadyH.nil
  go_simp
  refine (HLF.out _).mono ?_
  rintro e w2 ⟨rfl, hB2⟩
  have H2 := Aside0.mk (H1.out.drew.step hB2)
  clear hB2
  have K2 := Aside0.mk (HF.out _ _ H2.out)
  go_wp2_with fail
  refine hK.out _ _ ?_ (fun hHeld => ?_)
  · exact K2.out
  clear hK K
  try simp only [Act.put, List.setIfInBounds_toArray, List.set_cons_zero, List.set_cons_succ]
  refine wpAnyH_take (i := 11) (oi := { dst := some 32, op := Go.Op.indexAddr 26 (Go.Operand.tmp 24) (Go.Operand.tmp 25), type := 0, pos := "mem.go:59", after := #[{ on := 3, ground := Go.Ground.data }, { on := 4, ground := Go.Ground.data }, { on := 0, ground := Go.Ground.phase }, { on := 1, ground := Go.Ground.phase }, { on := 2, ground := Go.Ground.phase }, { on := 3, ground := Go.Ground.phase }, { on := 4, ground := Go.Ground.phase }, { on := 5, ground := Go.Ground.phase }, { on := 6, ground := Go.Ground.phase }, { on := 7, ground := Go.Ground.phase }, { on := 8, ground := Go.Ground.phase }, { on := 9, ground := Go.Ground.phase }, { on := 10, ground := Go.Ground.phase }], guard := none }) (v := ?_) rfl (by kernel_rfl) (by kernel_rfl) (by kernel_rfl) (fun _ _ _ h => h) (Or.inl ⟨by rfl, ?_⟩) (by assumption) ?_
  rotate_left
  · intro wS hSw; (try dsimp only at hSw); go_simp; (try with_reducible rfl)
  try simp only [Act.put, List.setIfInBounds_toArray, List.set_cons_zero, List.set_cons_succ]
  have H3 : Aside0 (Own B w0 (w2.setCells g2 (q * 32) cs) (memL g (.slice (some ⟨g1, 0, none⟩) n c1) (.slice (some ⟨g2, 0, none⟩) m c2) ws' (ss.set q lf) L)) := ⟨H2.out.putC (d := kH) 2 rfl q hqm Flat_H (fun _ => ⟨HLH.out.1, HCT.out⟩)⟩
  have K3 := Aside0.mk (HF.out _ _ H3.out)
  refine wpAnyH_ready (rs := [12]) (by kernel_rfl) (by simp) ?_
  refine AllReadyH.cons (o := { dst := none, op := Go.Op.store 25 (Go.Operand.tmp 32) (Go.Operand.tmp 31), type := 0, pos := "mem.go:59", after := #[{ on := 11, ground := Go.Ground.data }, { on := 10, ground := Go.Ground.data }, { on := 10, ground := Go.Ground.chain }, { on := 0, ground := Go.Ground.phase }, { on := 1, ground := Go.Ground.phase }, { on := 2, ground := Go.Ground.phase }, { on := 3, ground := Go.Ground.phase }, { on := 4, ground := Go.Ground.phase }, { on := 5, ground := Go.Ground.phase }, { on := 6, ground := Go.Ground.phase }, { on := 7, ground := Go.Ground.phase }, { on := 8, ground := Go.Ground.phase }, { on := 9, ground := Go.Ground.phase }, { on := 10, ground := Go.Ground.phase }], guard := none }) rfl (fun K hK => ?_) AllReadyH.nil
  rw [if_pos (by rfl)]
  refine wp_store_mid _ _ _ rfl _ _ (List.toArray _) rfl rfl ?_ ?_ (all_oneCell_toArray hone) ?_
  · (rw [List.size_toArray, hcl]; exact K2.out.2.2)
  · (rw [List.size_toArray]; exact hif)
  simp only [Act.put, List.setIfInBounds_toArray, List.set_cons_zero, List.set_cons_succ, List.toList_toArray]
  refine hK.out _ _ ?_ (fun hHeld => ?_)
  · exact K3.out
  clear hK K
  try simp only [Act.put, List.setIfInBounds_toArray, List.set_cons_zero, List.set_cons_succ]
  refine wpAnyH_done (by kernel_rfl) ?_ _
  clear hHeld HF1 hq0
  generalize w2.setCells g2 (q * 32) cs = w3 at *
  have hql : q < 2 * n := by have := HMM.out; omega
  go_wp2_with fail
  go_loopw [6] (fun v6 wr => ∃ (k : Nat) (ss : List (List Int)), k < n ∧ v6 = .int .i64 (k : Int) ∧ Aside0 (Tree n (leavesW ws') ss (Anc k) ∧ Hshs ss) ∧ Aside0 (Own B w0 wr (memL g (.slice (some ⟨g1, 0, none⟩) n c1) (.slice (some ⟨g2, 0, none⟩) m c2) ws' ss L))) (fun v6 _ => (intOf v6).toNat)
  case atStart => exact ⟨q / 2, _, by omega, by rw [Int.natCast_ediv]; rfl, HT0, H3⟩
  case round =>
    clear H0 H1 H2 H3 HT0 K2 K3 HSS hc2
    obtain ⟨k, ss, hk, rfl, HT, HI⟩ := hrel
    by_cases h1 : 1 ≤ k
    · have hdk : decide (1 ≤ (k : Int)) = true := decide_eq_true (by omega)
      have hsl := HT.out.1.len
      obtain ⟨p, hp⟩ : ∃ p, p = 2 * k := ⟨_, rfl⟩
      obtain ⟨r, hr⟩ : ∃ q, q = p + 1 := ⟨_, rfl⟩
      have hwp : IntKind.i64.wrap (2 * (k : Int)) = (p : Int) := by rw [IntWalk.i64_in _ (by omega)]; omega
      have hwr : IntKind.i64.wrap ((p : Int) + 1) = (r : Int) := by rw [IntWalk.i64_in _ (by omega)]; omega
      have hpm : p < m := by have := HMM.out; omega
      have hrm : r < m := by have := HMM.out; omega
      have hkm : k < m := by omega
      have hi0 : (0 : Int) ≤ (p : Int) ∧ (p : Int) < (m : Int) ∧ (0 : Int) ≤ (r : Int) ∧ (r : Int) < (m : Int) ∧ (0 : Int) ≤ (k : Int) ∧ (k : Int) < (m : Int) := by omega
      have HPN := Aside0.mk (HT.out.1.sum k h1 hk)
      rw [← hp, ← hr] at HPN
      have hml : ss.length = m := by rw [hsl, HMM.out]
      have hat : ∀ j, j < m → Hsh (at0 ss j) := fun j hj => Hshs_at HT.out.2 j (by rw [hml]; exact hj)
      obtain ⟨y, hy⟩ : ∃ x, x = at0 ss p := ⟨_, rfl⟩
      obtain ⟨z, hz⟩ : ∃ y, y = at0 ss r := ⟨_, rfl⟩
      have hHy : Hsh y := by rw [hy]; exact hat p hpm
      have hHz : Hsh z := by rw [hz]; exact hat r hrm
      rw [← hy, ← hz] at HPN
      have HPR := Aside0.mk (fun W => pair_any y z hHy.1 hHz.1 hHy.2 hHz.2 W)
      have HRH := Aside0.mk (Hsh_pair y z)
      generalize pairI y z = s at *
      obtain ⟨cy, hcy⟩ : ∃ cs : List Value, cs = y.map (Value.int .u8) := ⟨_, rfl⟩
      obtain ⟨cz, hcz⟩ : ∃ cs : List Value, cs = z.map (Value.int .u8) := ⟨_, rfl⟩
      obtain ⟨cr, hcr⟩ : ∃ cs : List Value, cs = s.map (Value.int .u8) := ⟨_, rfl⟩
      have hly : cy.length = 32 := by rw [hcy, List.length_map]; exact hHy.1
      have hlz : cz.length = 32 := by rw [hcz, List.length_map]; exact hHz.1
      have hlr : cr.length = 32 := by rw [hcr, List.length_map]; exact HRH.out.1
      have hor : ∀ v ∈ cr, v.oneCell' = true := by rw [hcr]; intro v hv; obtain ⟨z, _, rfl⟩ := List.mem_map.1 hv; rfl
      rw [show cellsB y = cy.toArray by rw [hcy]; rfl, show cellsB z = cz.toArray by rw [hcz]; rfl, show cellsB s = cr.toArray by rw [hcr]; rfl] at HPR
      have HF2 : Aside0 (∀ W', Own B w0 W' (memL g (.slice (some ⟨g1, 0, none⟩) n c1) (.slice (some ⟨g2, 0, none⟩) m c2) ws' ss L) →
          W'.cell? ⟨g, 1, none⟩ = some (.slice (some ⟨g2, 0, none⟩) m c2) ∧ W'.rangeAt g2 (p * 32) cy ∧ W'.rangeAt g2 (r * 32) cz ∧ W'.there g2 (k * 32) 32) := ⟨fun W' h => ⟨memc1 h, h.range_row 2 rfl p hpm hy.symm hcy, h.range_row 2 rfl r hrm hz.symm hcz, h.there_row (d := kH) 2 rfl k hkm⟩⟩
      have HG2 : Aside0 (∀ W', Own B w0 W' (memL g (.slice (some ⟨g1, 0, none⟩) n c1) (.slice (some ⟨g2, 0, none⟩) m c2) ws' (ss.set k s) L) →
          W'.cell? ⟨g, 1, none⟩ = some (.slice (some ⟨g2, 0, none⟩) m c2) ∧ W'.rangeAt g2 (p * 32) cy ∧ W'.rangeAt g2 (r * 32) cz ∧ W'.there g2 (k * 32) 32) := ⟨fun W' h => ⟨memc1 h, h.range_row 2 rfl p hpm (by have e := at0_set ss k p s (by omega); rw [if_neg (by omega)] at e; exact e.trans hy.symm) hcy, h.range_row 2 rfl r hrm (by have e := at0_set ss k r s (by omega); rw [if_neg (by omega)] at e; exact e.trans hz.symm) hcz, h.there_row (d := kH) 2 rfl k hkm⟩⟩
      have HCR := Aside0.mk hcr
      have hi1 : (Try.prog.info? 25).map (·.size) = some cy.length := by rw [hly]; kernel_rfl
      have hi2 : (Try.prog.info? 25).map (·.size) = some cz.length := by rw [hlz]; kernel_rfl
      have hi3 : (Try.prog.info? 25).map (·.size) = some cr.length := by rw [hlr]; kernel_rfl
      clear hy hz hcy hcz hcr hsl hml hat hp hr
      have HF0 := HF2.out _ HI.out
      go_wp2_with fail
      refine wp_region_held_drew (S := (fun W => W.cell? ⟨g, 1, none⟩ = some (.slice (some ⟨g2, 0, none⟩) m c2) ∧ W.rangeAt g2 (p * 32) cy ∧ W.rangeAt g2 (r * 32) cz ∧ W.there g2 (k * 32) 32)) (by kernel_rfl) ?_ (fun hHeld => ?_)
      · exact HF0
      refine wpAnyH_take (i := 0) (oi := { dst := some 39, op := Go.Op.move (Go.Operand.tmp 0), type := 180, pos := "mem.go:61", after := #[], guard := none }) (v := ?_) rfl (by kernel_rfl) (by kernel_rfl) (by kernel_rfl) (fun _ _ _ h => h) (Or.inl ⟨by rfl, ?_⟩) (by assumption) ?_
      rotate_left
      · intro wS hSw; (try dsimp only at hSw); go_simp; (try with_reducible rfl)
      try simp only [Act.put, List.setIfInBounds_toArray, List.set_cons_zero, List.set_cons_succ]
      refine wpAnyH_take (i := 1) (oi := { dst := some 40, op := Go.Op.nilCheck (Go.Operand.tmp 39), type := 0, pos := "mem.go:61", after := #[{ on := 0, ground := Go.Ground.data }], guard := none }) (v := ?_) rfl (by kernel_rfl) (by kernel_rfl) (by kernel_rfl) (fun _ _ _ h => h) (Or.inl ⟨by rfl, ?_⟩) (by assumption) ?_
      rotate_left
      · intro wS hSw; (try dsimp only at hSw); go_simp; (try with_reducible rfl)
      try simp only [Act.put, List.setIfInBounds_toArray, List.set_cons_zero, List.set_cons_succ]
      refine wpAnyH_take (i := 2) (oi := { dst := some 41, op := Go.Op.fieldAddr 127 (Go.Operand.tmp 40) 1, type := 0, pos := "mem.go:61", after := #[{ on := 1, ground := Go.Ground.data }], guard := none }) (v := ?_) rfl (by kernel_rfl) (by kernel_rfl) (by kernel_rfl) (fun _ _ _ h => h) (Or.inl ⟨by rfl, ?_⟩) (by assumption) ?_
      rotate_left
      · intro wS hSw; (try dsimp only at hSw); go_simp; (try with_reducible rfl)
      try simp only [Act.put, List.setIfInBounds_toArray, List.set_cons_zero, List.set_cons_succ]
      refine wpAnyH_take (i := 3) (oi := { dst := some 42, op := Go.Op.load 26 (Go.Operand.tmp 41), type := 26, pos := "mem.go:61", after := #[{ on := 2, ground := Go.Ground.data }], guard := none }) (v := ?_) rfl (by kernel_rfl) (by kernel_rfl) (by kernel_rfl) (fun _ _ _ h => h) (Or.inl ⟨by rfl, ?_⟩) (by assumption) ?_
      rotate_left
      · intro wS hSw; (try dsimp only at hSw); go_simp; (try with_reducible rfl)
      try simp only [Act.put, List.setIfInBounds_toArray, List.set_cons_zero, List.set_cons_succ]
      refine wpAnyH_take (i := 4) (oi := { dst := some 43, op := Go.Op.move (Go.Operand.tmp 6), type := 3, pos := "mem.go:61", after := #[], guard := none }) (v := ?_) rfl (by kernel_rfl) (by kernel_rfl) (by kernel_rfl) (fun _ _ _ h => h) (Or.inl ⟨by rfl, ?_⟩) (by assumption) ?_
      rotate_left
      · intro wS hSw; (try dsimp only at hSw); go_simp; (try with_reducible rfl)
      try simp only [Act.put, List.setIfInBounds_toArray, List.set_cons_zero, List.set_cons_succ]
      refine wpAnyH_take (i := 5) (oi := { dst := some 44, op := Go.Op.move (Go.Operand.tmp 0), type := 180, pos := "mem.go:61", after := #[], guard := none }) (v := ?_) rfl (by kernel_rfl) (by kernel_rfl) (by kernel_rfl) (fun _ _ _ h => h) (Or.inl ⟨by rfl, ?_⟩) (by assumption) ?_
      rotate_left
      · intro wS hSw; (try dsimp only at hSw); go_simp; (try with_reducible rfl)
      try simp only [Act.put, List.setIfInBounds_toArray, List.set_cons_zero, List.set_cons_succ]
      refine wpAnyH_take (i := 6) (oi := { dst := some 45, op := Go.Op.nilCheck (Go.Operand.tmp 44), type := 0, pos := "mem.go:61", after := #[{ on := 5, ground := Go.Ground.data }], guard := none }) (v := ?_) rfl (by kernel_rfl) (by kernel_rfl) (by kernel_rfl) (fun _ _ _ h => h) (Or.inl ⟨by rfl, ?_⟩) (by assumption) ?_
      rotate_left
      · intro wS hSw; (try dsimp only at hSw); go_simp; (try with_reducible rfl)
      try simp only [Act.put, List.setIfInBounds_toArray, List.set_cons_zero, List.set_cons_succ]
      refine wpAnyH_take (i := 7) (oi := { dst := some 46, op := Go.Op.fieldAddr 127 (Go.Operand.tmp 45) 1, type := 0, pos := "mem.go:61", after := #[{ on := 6, ground := Go.Ground.data }], guard := none }) (v := ?_) rfl (by kernel_rfl) (by kernel_rfl) (by kernel_rfl) (fun _ _ _ h => h) (Or.inl ⟨by rfl, ?_⟩) (by assumption) ?_
      rotate_left
      · intro wS hSw; (try dsimp only at hSw); go_simp; (try with_reducible rfl)
      try simp only [Act.put, List.setIfInBounds_toArray, List.set_cons_zero, List.set_cons_succ]
      refine wpAnyH_take (i := 8) (oi := { dst := some 47, op := Go.Op.load 26 (Go.Operand.tmp 46), type := 26, pos := "mem.go:61", after := #[{ on := 7, ground := Go.Ground.data }], guard := none }) (v := ?_) rfl (by kernel_rfl) (by kernel_rfl) (by kernel_rfl) (fun _ _ _ h => h) (Or.inl ⟨by rfl, ?_⟩) (by assumption) ?_
      rotate_left
      · intro wS hSw; (try dsimp only at hSw); go_simp; (try with_reducible rfl)
      try simp only [Act.put, List.setIfInBounds_toArray, List.set_cons_zero, List.set_cons_succ]
      refine wpAnyH_take (i := 9) (oi := { dst := some 48, op := Go.Op.move (Go.Operand.tmp 6), type := 3, pos := "mem.go:61", after := #[], guard := none }) (v := ?_) rfl (by kernel_rfl) (by kernel_rfl) (by kernel_rfl) (fun _ _ _ h => h) (Or.inl ⟨by rfl, ?_⟩) (by assumption) ?_
      rotate_left
      · intro wS hSw; (try dsimp only at hSw); go_simp; (try with_reducible rfl)
      try simp only [Act.put, List.setIfInBounds_toArray, List.set_cons_zero, List.set_cons_succ]
      refine wpAnyH_take (i := 10) (oi := { dst := some 49, op := Go.Op.binOp Go.BinOp.mul 3 (Go.Operand.const (Go.Value.int Go.IntKind.i64 2)) (Go.Operand.tmp 48) 3, type := 3, pos := "mem.go:61", after := #[{ on := 9, ground := Go.Ground.data }], guard := none }) (v := ?_) rfl (by kernel_rfl) (by kernel_rfl) (by kernel_rfl) (fun _ _ _ h => h) (Or.inl ⟨by rfl, ?_⟩) (by assumption) ?_
      rotate_left
      · intro wS hSw; (try dsimp only at hSw); go_simp; (try with_reducible rfl)
      try simp only [Act.put, List.setIfInBounds_toArray, List.set_cons_zero, List.set_cons_succ]
      refine wpAnyH_take (i := 11) (oi := { dst := some 50, op := Go.Op.indexAddr 26 (Go.Operand.tmp 47) (Go.Operand.tmp 49), type := 0, pos := "mem.go:61", after := #[{ on := 8, ground := Go.Ground.data }, { on := 10, ground := Go.Ground.data }], guard := none }) (v := ?_) rfl (by kernel_rfl) (by kernel_rfl) (by kernel_rfl) (fun _ _ _ h => h) (Or.inl ⟨by rfl, ?_⟩) (by assumption) ?_
      rotate_left
      · intro wS hSw; (try dsimp only at hSw); go_simp; (try with_reducible rfl)
      try simp only [Act.put, List.setIfInBounds_toArray, List.set_cons_zero, List.set_cons_succ]
      refine wpAnyH_take (i := 12) (oi := { dst := some 51, op := Go.Op.load 25 (Go.Operand.tmp 50), type := 25, pos := "mem.go:61", after := #[{ on := 11, ground := Go.Ground.data }], guard := none }) (v := .agg (cy).toArray) rfl (by kernel_rfl) (by kernel_rfl) (by kernel_rfl) (fun _ _ _ h => h) (yieldsIf_load_mid (by rfl) _ _ rfl (g2) (p * 32) rfl (cy) _ (fun w h => h.2.1) (hu) rfl (hi1)) (by assumption) ?_
      try simp only [Act.put, List.setIfInBounds_toArray, List.set_cons_zero, List.set_cons_succ]
      refine wpAnyH_take (i := 13) (oi := { dst := some 52, op := Go.Op.move (Go.Operand.tmp 0), type := 180, pos := "mem.go:61", after := #[], guard := none }) (v := ?_) rfl (by kernel_rfl) (by kernel_rfl) (by kernel_rfl) (fun _ _ _ h => h) (Or.inl ⟨by rfl, ?_⟩) (by assumption) ?_
      rotate_left
      · intro wS hSw; (try dsimp only at hSw); go_simp; (try with_reducible rfl)
      try simp only [Act.put, List.setIfInBounds_toArray, List.set_cons_zero, List.set_cons_succ]
      refine wpAnyH_take (i := 14) (oi := { dst := some 53, op := Go.Op.nilCheck (Go.Operand.tmp 52), type := 0, pos := "mem.go:61", after := #[{ on := 13, ground := Go.Ground.data }], guard := none }) (v := ?_) rfl (by kernel_rfl) (by kernel_rfl) (by kernel_rfl) (fun _ _ _ h => h) (Or.inl ⟨by rfl, ?_⟩) (by assumption) ?_
      rotate_left
      · intro wS hSw; (try dsimp only at hSw); go_simp; (try with_reducible rfl)
      try simp only [Act.put, List.setIfInBounds_toArray, List.set_cons_zero, List.set_cons_succ]
      refine wpAnyH_take (i := 15) (oi := { dst := some 54, op := Go.Op.fieldAddr 127 (Go.Operand.tmp 53) 1, type := 0, pos := "mem.go:61", after := #[{ on := 14, ground := Go.Ground.data }], guard := none }) (v := ?_) rfl (by kernel_rfl) (by kernel_rfl) (by kernel_rfl) (fun _ _ _ h => h) (Or.inl ⟨by rfl, ?_⟩) (by assumption) ?_
      rotate_left
      · intro wS hSw; (try dsimp only at hSw); go_simp; (try with_reducible rfl)
      try simp only [Act.put, List.setIfInBounds_toArray, List.set_cons_zero, List.set_cons_succ]
      refine wpAnyH_take (i := 16) (oi := { dst := some 55, op := Go.Op.load 26 (Go.Operand.tmp 54), type := 26, pos := "mem.go:61", after := #[{ on := 15, ground := Go.Ground.data }], guard := none }) (v := ?_) rfl (by kernel_rfl) (by kernel_rfl) (by kernel_rfl) (fun _ _ _ h => h) (Or.inl ⟨by rfl, ?_⟩) (by assumption) ?_
      rotate_left
      · intro wS hSw; (try dsimp only at hSw); go_simp; (try with_reducible rfl)
      try simp only [Act.put, List.setIfInBounds_toArray, List.set_cons_zero, List.set_cons_succ]
      refine wpAnyH_take (i := 17) (oi := { dst := some 56, op := Go.Op.move (Go.Operand.tmp 6), type := 3, pos := "mem.go:61", after := #[], guard := none }) (v := ?_) rfl (by kernel_rfl) (by kernel_rfl) (by kernel_rfl) (fun _ _ _ h => h) (Or.inl ⟨by rfl, ?_⟩) (by assumption) ?_
      rotate_left
      · intro wS hSw; (try dsimp only at hSw); go_simp; (try with_reducible rfl)
      try simp only [Act.put, List.setIfInBounds_toArray, List.set_cons_zero, List.set_cons_succ]
      refine wpAnyH_take (i := 18) (oi := { dst := some 57, op := Go.Op.binOp Go.BinOp.mul 3 (Go.Operand.const (Go.Value.int Go.IntKind.i64 2)) (Go.Operand.tmp 56) 3, type := 3, pos := "mem.go:61", after := #[{ on := 17, ground := Go.Ground.data }], guard := none }) (v := ?_) rfl (by kernel_rfl) (by kernel_rfl) (by kernel_rfl) (fun _ _ _ h => h) (Or.inl ⟨by rfl, ?_⟩) (by assumption) ?_
      rotate_left
      · intro wS hSw; (try dsimp only at hSw); go_simp; (try with_reducible rfl)
      try simp only [Act.put, List.setIfInBounds_toArray, List.set_cons_zero, List.set_cons_succ]
      refine wpAnyH_take (i := 19) (oi := { dst := some 58, op := Go.Op.binOp Go.BinOp.add 3 (Go.Operand.tmp 57) (Go.Operand.const (Go.Value.int Go.IntKind.i64 1)) 3, type := 3, pos := "mem.go:61", after := #[{ on := 18, ground := Go.Ground.data }], guard := none }) (v := ?_) rfl (by kernel_rfl) (by kernel_rfl) (by kernel_rfl) (fun _ _ _ h => h) (Or.inl ⟨by rfl, ?_⟩) (by assumption) ?_
      rotate_left
      · intro wS hSw; (try dsimp only at hSw); go_simp; (try with_reducible rfl)
      try simp only [Act.put, List.setIfInBounds_toArray, List.set_cons_zero, List.set_cons_succ]
      refine wpAnyH_take (i := 20) (oi := { dst := some 59, op := Go.Op.indexAddr 26 (Go.Operand.tmp 55) (Go.Operand.tmp 58), type := 0, pos := "mem.go:61", after := #[{ on := 16, ground := Go.Ground.data }, { on := 19, ground := Go.Ground.data }], guard := none }) (v := ?_) rfl (by kernel_rfl) (by kernel_rfl) (by kernel_rfl) (fun _ _ _ h => h) (Or.inl ⟨by rfl, ?_⟩) (by assumption) ?_
      rotate_left
      · intro wS hSw; (try dsimp only at hSw); go_simp; (try with_reducible rfl)
      try simp only [Act.put, List.setIfInBounds_toArray, List.set_cons_zero, List.set_cons_succ]
      refine wpAnyH_take (i := 21) (oi := { dst := some 60, op := Go.Op.load 25 (Go.Operand.tmp 59), type := 25, pos := "mem.go:61", after := #[{ on := 20, ground := Go.Ground.data }], guard := none }) (v := .agg (cz).toArray) rfl (by kernel_rfl) (by kernel_rfl) (by kernel_rfl) (fun _ _ _ h => h) (yieldsIf_load_mid (by rfl) _ _ rfl (g2) (r * 32) rfl (cz) _ (fun w h => h.2.2.1) (hu) rfl (hi2)) (by assumption) ?_
      try simp only [Act.put, List.setIfInBounds_toArray, List.set_cons_zero, List.set_cons_succ]
      refine wpAnyH_ready (rs := [22]) (by kernel_rfl) (by simp) ?_
      refine AllReadyH.cons (o := { dst := some 61, op := Go.Op.call { callee := Go.Callee.value (Go.Operand.func 118), args := #[Go.Operand.tmp 51, Go.Operand.tmp 60], argTypes := #[25, 25] }, type := 25, pos := "mem.go:61", after := #[{ on := 12, ground := Go.Ground.data }, { on := 21, ground := Go.Ground.data }], guard := none }) rfl (fun K hK => ?_) AllReadyH.nil
      go_simp
      refine (HPR.out _).mono ?_
      rintro e w8 ⟨rfl, hB8⟩
      have H8 := Aside0.mk (HI.out.drew.step hB8)
      clear hB8
      have K8 := Aside0.mk (HF2.out _ H8.out)
      go_wp2_with fail
      refine hK.out _ _ ?_ (fun hHeld => ?_)
      · exact K8.out
      clear hK K
      try simp only [Act.put, List.setIfInBounds_toArray, List.set_cons_zero, List.set_cons_succ]
      refine wpAnyH_take (i := 23) (oi := { dst := some 62, op := Go.Op.indexAddr 26 (Go.Operand.tmp 42) (Go.Operand.tmp 43), type := 0, pos := "mem.go:61", after := #[{ on := 3, ground := Go.Ground.data }, { on := 4, ground := Go.Ground.data }, { on := 0, ground := Go.Ground.phase }, { on := 1, ground := Go.Ground.phase }, { on := 2, ground := Go.Ground.phase }, { on := 3, ground := Go.Ground.phase }, { on := 4, ground := Go.Ground.phase }, { on := 5, ground := Go.Ground.phase }, { on := 6, ground := Go.Ground.phase }, { on := 7, ground := Go.Ground.phase }, { on := 8, ground := Go.Ground.phase }, { on := 9, ground := Go.Ground.phase }, { on := 10, ground := Go.Ground.phase }, { on := 11, ground := Go.Ground.phase }, { on := 12, ground := Go.Ground.phase }, { on := 13, ground := Go.Ground.phase }, { on := 14, ground := Go.Ground.phase }, { on := 15, ground := Go.Ground.phase }, { on := 16, ground := Go.Ground.phase }, { on := 17, ground := Go.Ground.phase }, { on := 18, ground := Go.Ground.phase }, { on := 19, ground := Go.Ground.phase }, { on := 20, ground := Go.Ground.phase }, { on := 21, ground := Go.Ground.phase }, { on := 22, ground := Go.Ground.phase }], guard := none }) (v := ?_) rfl (by kernel_rfl) (by kernel_rfl) (by kernel_rfl) (fun _ _ _ h => h) (Or.inl ⟨by rfl, ?_⟩) (by assumption) ?_
      rotate_left
      · intro wS hSw; (try dsimp only at hSw); go_simp; (try with_reducible rfl)
      try simp only [Act.put, List.setIfInBounds_toArray, List.set_cons_zero, List.set_cons_succ]
      have H9 := Aside0.mk (H8.out.putC (d := kH) 2 rfl k hkm Flat_H (fun _ => ⟨HRH.out.1, HCR.out⟩))
      have K9 := Aside0.mk (HG2.out _ H9.out)
      refine wpAnyH_ready (rs := [24]) (by kernel_rfl) (by simp) ?_
      refine AllReadyH.cons (o := { dst := none, op := Go.Op.store 25 (Go.Operand.tmp 62) (Go.Operand.tmp 61), type := 0, pos := "mem.go:61", after := #[{ on := 23, ground := Go.Ground.data }, { on := 22, ground := Go.Ground.data }, { on := 22, ground := Go.Ground.chain }, { on := 0, ground := Go.Ground.phase }, { on := 1, ground := Go.Ground.phase }, { on := 2, ground := Go.Ground.phase }, { on := 3, ground := Go.Ground.phase }, { on := 4, ground := Go.Ground.phase }, { on := 5, ground := Go.Ground.phase }, { on := 6, ground := Go.Ground.phase }, { on := 7, ground := Go.Ground.phase }, { on := 8, ground := Go.Ground.phase }, { on := 9, ground := Go.Ground.phase }, { on := 10, ground := Go.Ground.phase }, { on := 11, ground := Go.Ground.phase }, { on := 12, ground := Go.Ground.phase }, { on := 13, ground := Go.Ground.phase }, { on := 14, ground := Go.Ground.phase }, { on := 15, ground := Go.Ground.phase }, { on := 16, ground := Go.Ground.phase }, { on := 17, ground := Go.Ground.phase }, { on := 18, ground := Go.Ground.phase }, { on := 19, ground := Go.Ground.phase }, { on := 20, ground := Go.Ground.phase }, { on := 21, ground := Go.Ground.phase }, { on := 22, ground := Go.Ground.phase }], guard := none }) rfl (fun K hK => ?_) AllReadyH.nil
      rw [if_pos (by rfl)]
      refine wp_store_mid _ _ _ rfl _ _ (List.toArray _) rfl rfl ?_ ?_ (all_oneCell_toArray hor) ?_
      · (rw [List.size_toArray, hlr]; exact K8.out.2.2.2)
      · (rw [List.size_toArray]; exact hi3)
      simp only [Act.put, List.setIfInBounds_toArray, List.set_cons_zero, List.set_cons_succ, List.toList_toArray]
      refine hK.out _ _ ?_ (fun hHeld => ?_)
      · exact K9.out
      clear hK K
      try simp only [Act.put, List.setIfInBounds_toArray, List.set_cons_zero, List.set_cons_succ]
      refine wpAnyH_done (by kernel_rfl) ?_ _
      clear hi0 hwp hwr HF0 hHeld
      go_wp2_with fail
      go_roundw
      case rel =>
        refine ⟨k / 2, ss.set k s, by omega, by rw [Int.natCast_ediv]; rfl, ⟨HPN.out.mono (fun j h1 h2 h3 => ?_), Hshs_set HT.out.2 _ HRH.out⟩, H9⟩
        rcases h3 with h3 | h3
        · exact h3.1.up h3.2
        · rw [h3]; exact Anc.self _
      case measure => simp [intOf]; omega
    · have hdk : decide (1 ≤ (k : Int)) = false := decide_eq_false (by omega)
      obtain rfl : k = 0 := by omega
      have HTF : Aside0 (Tree n (leavesW ws') ss (fun _ => False)) := ⟨HT.out.1.mono fun j h1 h2 h3 => by have := h3.zero; omega⟩
      go_wp2_with fail
      refine bodyPost_end (results_none rfl _ _ _) rfl ?_
      exact ⟨ss, rfl, HM.out ss (by rw [← HD.out]; exact HTF.out) HT.out.2, HI.out⟩
end Go.Proofs.Ytocphkfkdadhaaa.H

