import Derived.Test.YtocphkfkdadhaaaZPk6
import Derived.Deep.DeepCutAuto
import Derived.Laws.EntriesVeiled
import Derived.Test.YtocphkfkdadhaaaZPk2
import Derived.Test.YtocphkfkdadhaaaZPk0
import Derived.Lib.SmallJoins
import Derived.ChangeSlices
import Derived.ChangeArms
import Derived.OpenShut
import Derived.SizedLaws
import Derived.ProofKit
namespace Go.Proofs.Ytocphkfkdadhaaa.H
open Go.RowKit Go.Proofs.YtocphkfkdadhaaaW.PrintWords Go.Proofs.YtocphkfkdadhaaaW.PrintLast Go.Proofs.YtocphkfkdadhaaaW.PrintMore
set_option linter.unusedVariables false
set_option linter.unusedSimpArgs false
def isAggD : TypeDesc → Bool
  | .struct _ => true
  | .array _ _ => true
  | _ => false
section
variable {P : Program} {ops : Array Oper} {rest : List Oper} {o : Oper} {a : Act} {Q : Exit → Act → World → Prop} {B : Nat} {w0 W : World} {L : List Item}
theorem own_loadV (H : Own B w0 W L) (k : Nat) (g : Nat) (cs : Array Value) (ty : TypeId) (hk : L[k]? = some (.blk g cs ty)) (hgd : o.guard = none) (x : Operand) (ho : o.op = .load ty x) (d : TypeDesc)
    (hx : a.eval x = .pointer (some ⟨g, 0, none⟩)) (hu : P.underlying ty = some d) (hd : isAggD d = true) (hi : (P.info? ty).map (·.size) = some cs.size)
    (h : wpList P ops Q rest (a.put o.dst (.agg cs)) W) : wpList P ops Q (o :: rest) a W :=
  wpList_load_row hgd ty x ho g hx ty cs (0, 0) d (H.get k hk) hu (by cases d <;> first | rfl | cases hd) hi h
end
theorem own_resultV_t {fn : Func} {p u : Tmp} {ty : TypeId} (h : fn.results = #[.cell p ty, .tmp u]) (tmps : Array Value) {B : Nat} {w0 W : World} {L : List Item} (H : Own B w0 W L) (k : Nat) (g : Nat) (cs : Array Value) (hk : L[k]? = some (.blk g cs ty))
    (hp : tmps.getD p undef = .pointer (some ⟨g, 0, none⟩)) {P : Program} (d : TypeDesc) (hu : P.underlying ty = some d) (hd : isAggD d = true) (hi : (P.info? ty).map (·.size) = some cs.size) (v : Value) (hv : tmps.getD u undef = v) :
    (results fn tmps).run P W = .ok (.tuple #[.agg cs, v]) W := by
  subst hv
  exact results_ct h tmps W g ty cs (0, 0) d hp (H.get k hk) hu (by cases d <;> first | rfl | cases hd) hi
theorem perm_front {α : Type} : ∀ (l : List α) (k : Nat) (x : α), l[k]? = some x → l.Perm (x :: l.eraseIdx k)
  | [], k, x, h => by simp at h
  | y :: l, 0, x, h => by
    obtain rfl : y = x := by simpa using h
    exact List.Perm.refl _
  | y :: l, k + 1, x, h => ((perm_front l k x (by simpa using h)).cons y).trans (List.Perm.swap x y _)
theorem Own.bring {B : Nat} {w0 W : World} {L : List Item} (h : Own B w0 W L) (k : Nat) {it : Item} (hk : L[k]? = some it) : Own B w0 W (it :: L.eraseIdx k) := h.perm (perm_front L k it hk)
theorem pow_all : (List.range 4097).all (fun n => (decide (1 ≤ n) && ((n &&& (n - 1)) == 0)) == sizeB n) = true := by decide +kernel
theorem and_pred (n : Nat) (h : n ≤ 4096) (h1 : 1 ≤ n) : bits .and .i64 (n : Int) ((n : Int) - 1) = ((n &&& (n - 1) : Nat) : Int) := by
  have e0 : ((n : Int) - 1) = ((n - 1 : Nat) : Int) := by omega
  rw [e0]
  have h1 : (BitVec.ofInt 64 (n : Int)).toNat = n := by
    rw [BitVec.ofInt_natCast, BitVec.toNat_ofNat]; exact Nat.mod_eq_of_lt (by omega)
  have h2 : (BitVec.ofInt 64 ((n - 1 : Nat) : Int)).toNat = n - 1 := by
    rw [BitVec.ofInt_natCast, BitVec.toNat_ofNat]; exact Nat.mod_eq_of_lt (by omega)
  show IntKind.i64.wrap ((BitVec.ofInt 64 (n : Int) &&& BitVec.ofInt 64 ((n - 1 : Nat) : Int)).toNat : Int) = _
  have h3 : n &&& (n - 1) ≤ n := Nat.and_le_left
  rw [BitVec.toNat_and, h1, h2, IntWalk.i64_in _ (by omega)]
theorem size_and (n : Nat) (h : n ≤ 4096) (h1 : 1 ≤ n) : (bits .and .i64 (n : Int) ((n : Int) - 1) == 0) = sizeB n := by
  have := List.all_eq_true.1 pow_all n (List.mem_range.2 (by omega))
  rw [and_pred n h h1, ← eq_of_beq this, decide_eq_true h1, Bool.true_and]
  rw [Bool.eq_iff_iff, beq_iff_eq, beq_iff_eq]
  omega
theorem size_and' (n : Nat) (h : n ≤ 4096) (h1 : 1 ≤ n) : (bits .and .i64 (n : Int) ((n : Int) - 1) != 0) = !sizeB n := by
  rw [← size_and n h h1]; rfl
theorem sizeB_le {n : Nat} (h : sizeB n = true) : 1 ≤ n ∧ n ≤ 4096 := by
  obtain ⟨d, hd, rfl⟩ := sizeB_yes h
  exact ⟨Nat.one_le_two_pow, Nat.pow_le_pow_right (by decide) hd⟩
abbrev leafF : Value := .func (.func 62) #[] #[]
theorem make_run (m : Nat) (hm : m ≤ 8192) : ∃ Z : Array Value, Aside0 (∀ W, Reps (kH.K W) 32 (List.replicate m zero32) Z.toList) ∧
    ∀ w, (Instr.makeSlice 26 (.int .i64 (m : Int)) (.int .i64 (m : Int))).run Try.prog w = .ok (.slice (some ⟨w.heap.size, 0, none⟩) m m) (w.alloc (.cells Z 25)) := by
  obtain ⟨ie, hie, hz⟩ := Option.map_eq_some_iff.1 infoH
  simp only [Prod.mk.injEq] at hz
  obtain ⟨hz0, hz1, hz2⟩ := hz
  refine ⟨madeCells (Array.replicate 32 (.int .u8 0)) (m * 32), ⟨fun W => ?_⟩, fun w => ?_⟩
  · exact Kd.reps_made (z := .agg (Array.replicate 32 (.int .u8 0))) (by simp [Value.cells]) (by decide) ⟨by simp [zero32], by simp [zero32, Value.cells]⟩ m
  · have hr := run_make (P := Try.prog) w 26 25 ie _ Try.underlying26 hie hz0 .i64 .i64 (m : Int) (m : Int) (by omega) (by omega) (by rw [hz2]; omega) (by omega)
    simp only [Int.toNat_natCast] at hr
    rw [hz1] at hr
    exact hr
theorem bcell {W w1 : World} (hb : Below W.heap.size W w1) : (∀ b o, b < W.heap.size → w1.cell? ⟨b, o, none⟩ = W.cell? ⟨b, o, none⟩) ∧ (∀ b o, b < W.heap.size → w1.frozen? ⟨b, o, none⟩ = W.frozen? ⟨b, o, none⟩) :=
  ⟨fun b o h => hb.cell (p := ⟨b, o, none⟩) h, fun b o h => hb.frozen (p := ⟨b, o, none⟩) h⟩
abbrev T0 : TypeId := 127
set_option maxHeartbeats 2000000 in
set_option maxRecDepth 100000 in
theorem grown_ok (D : Nat) (hD : D ≤ 12) (ws : List Int) (hl : ws.length = 2 ^ D) (hw : Wrd ws) (A : Option Addr) (c : Nat) (hc : ws.length ≤ c) (w : World) (hC : Kd.C kU w A ws.length ws) :
    Calls Try.prog 67 #[.slice A ws.length c, leafF] w fun e w' => ∃ v1 v2 ss, e = .returned (.tuple #[.agg #[v1, v2, leafF], .bool true]) ∧ Tree (2 ^ D) (leavesW ws) ss (fun _ => False) ∧ Hshs ss ∧
      Own w.heap.size w w' [.row kU 23 v1 ws, .row kH 25 v2 ss] := by
  have hn1 : 1 ≤ ws.length ∧ ws.length ≤ 4096 := by rw [hl]; exact ⟨Nat.one_le_two_pow, Nat.pow_le_pow_right (by decide) hD⟩
  have hand := size_and' ws.length hn1.2 hn1.1
  rw [hl, sizeB_of hD, ← hl] at hand
  have hand2 : (bits .and .i64 (ws.length : Int) ((ws.length : Int) - 1) != 0) = false := hand
  clear hand
  have H0 := Aside0.mk (Own.start w)
  have HCL := Aside0.mk (fun W h => cloneU_any ws (by omega) A c W h hc (by omega))
  have HC := Aside0.mk hC
  clear hC
  generalize hn : ws.length = n at *
  have HN := Aside0.mk hn
  clear hn
  obtain ⟨m, hm⟩ : ∃ m, m = 2 * n := ⟨_, rfl⟩
  obtain ⟨Z, HZ, hmk⟩ := make_run m (by omega)
  have hwm : IntKind.i64.wrap (2 * (n : Int)) = (m : Int) := by rw [IntWalk.i64_in _ (by omega)]; omega
  have HM := Aside0.mk hm
  clear hm
  have hd1 : decide ((n : Int) < 1) = false := decide_eq_false (by omega)
  have hd2 : decide (4096 < (n : Int)) = false := decide_eq_false (by omega)
  have HLL := Aside0.mk hl
  clear hl
  unfold leafF
  go_enter Try.func67, Try.ntmps67
  go_upto_region 4 with (first
    | fail
    | ((with_reducible refine gate_dst (N := 4) rfl ?_); refine own_alloc H0.out rfl (N := 4) rfl (t := T0) rfl (#[.slice none 0 0, .slice none 0 0, .nilFunc]) 3 (by kernel_rfl) ?_; intro g4 w1 H1 B1; replace H1 := Aside0.mk H1; replace B1 := Aside0.mk B1)
    )
  go_cut [7] (fun v7 wc => ∃ (g7 : Nat) (v1 v2 : Value), v7 = .pointer (some ⟨g7, 0, none⟩) ∧ Aside0 (Own w.heap.size w wc [.blk g7 #[v1, v2, leafF] T0, .row kU 23 v1 ws, .row kH 25 v2 (List.replicate m zero32), .blk g4 #[.slice none 0 0, .slice none 0 0, .nilFunc] T0]))
  case first =>
    go_region_held3 (fun _ => True) (trivial) (first
      | (go_at_call 69; refine (HCL.out _ ?hcl).mono ?_; (case hcl => first | exact Kd.C_below HC.out H1.out.drew.below | exact Kd.C_below HC.out (H1.out.drew.alloc _).below | exact Kd.C_below HC.out ((H1.out.drew.alloc _).alloc _).below); rintro e w5 ⟨v5, rfl, hO5⟩; obtain ⟨A5, c5, rfl, _, _⟩ := hO5.reads 0 rfl; obtain ⟨hbc, hbf⟩ := bcell hO5.below; have hbs := hO5.base; (try simp at hbs); (try replace hbs := Nat.lt_of_succ_le hbs); replace hO5 := Aside0.mk hO5))
    all_goals go_wp2_with fail
    all_goals go_meet
    all_goals
      have mkZ : ∀ (W : World) (L : List Item), Own w.heap.size w W L → Own w.heap.size w (W.alloc (.cells Z 25)) (.row kH 25 (.slice (some ⟨W.heap.size, 0, none⟩) m m) (List.replicate m zero32) :: L) := fun W L h => by
        have := h.lit kH Flat_H 25 (List.replicate m zero32) Z.toList (HZ.out W) (by rw [List.length_replicate]; have := HM.out; omega)
        rwa [List.length_replicate] at this
    all_goals
      first
        | exact ⟨_, .slice A5 ws.length c5, .slice (some ⟨w5.heap.size, 0, none⟩) m m, rfl, ⟨by have h1 := H1.out.drew.call hO5.out; have h2 := mkZ _ _ h1; have h3 := h2.new (#[.slice A5 ws.length c5, .slice (some ⟨w5.heap.size, 0, none⟩) m m, leafF]) T0; rw [World.size_alloc] at h3; exact (h3.bring 2 rfl).bring 1 rfl⟩⟩
        | exact ⟨_, .slice A5 ws.length c5, .slice (some ⟨w5.heap.size + 1, 0, none⟩) m m, rfl, ⟨by have h1 := H1.out.drew.call hO5.out; have h2 := h1.new (#[.slice A5 ws.length c5, .slice (some ⟨w5.heap.size + 1, 0, none⟩) m m, leafF]) T0; have h3 := mkZ _ _ h2; rw [World.size_alloc] at h3; exact (h3.bring 2 rfl).bring 2 rfl⟩⟩
        | exact ⟨_, .slice A5 ws.length c5, .slice (some ⟨w1.heap.size, 0, none⟩) m m, rfl, ⟨by have h1 := mkZ _ _ H1.out; have h2 := h1.drew.call hO5.out; have h3 := h2.new (#[.slice A5 ws.length c5, .slice (some ⟨w1.heap.size, 0, none⟩) m m, leafF]) T0; exact h3⟩⟩
        | exact ⟨_, .slice A5 ws.length c5, .slice (some ⟨w1.heap.size, 0, none⟩) m m, rfl, ⟨by have h1 := mkZ _ _ H1.out; have h2 := h1.new (#[.slice none 0 0, .slice none 0 0, .nilFunc]) T0; have h3 := h2.drew.call hO5.out; rw [World.size_alloc] at h3; have p1 := h3.put 1 rfl 0 (.slice A5 ws.length c5) rfl; have p2 := p1.put 1 rfl 1 (.slice (some ⟨w1.heap.size, 0, none⟩) m m) rfl; have p3 := p2.put 1 rfl 2 leafF rfl; exact p3.bring 1 rfl⟩⟩
        | exact ⟨_, .slice A5 ws.length c5, .slice (some ⟨w5.heap.size, 0, none⟩) m m, rfl, ⟨by have h1 := H1.out.new (#[.slice none 0 0, .slice none 0 0, .nilFunc]) T0; have h3 := h1.drew.call hO5.out; have p1 := h3.put 1 rfl 0 (.slice A5 ws.length c5) rfl; have p2 := p1.put 1 rfl 1 (.slice (some ⟨w5.heap.size, 0, none⟩) m m) rfl; have p3 := p2.put 1 rfl 2 leafF rfl; have h4 := mkZ _ _ p3; simp only [World.size_setCell] at h4; exact (h4.bring 1 rfl).bring 2 rfl⟩⟩
        | exact ⟨_, .slice A5 ws.length c5, .slice (some ⟨w1.heap.size + 1, 0, none⟩) m m, rfl, ⟨by have h1 := H1.out.new (#[.slice none 0 0, .slice none 0 0, .nilFunc]) T0; have h2 := mkZ _ _ h1; rw [World.size_alloc] at h2; have h3 := h2.drew.call hO5.out; have p1 := h3.put 2 rfl 0 (.slice A5 ws.length c5) rfl; have p2 := p1.put 2 rfl 1 (.slice (some ⟨w1.heap.size + 1, 0, none⟩) m m) rfl; have p3 := p2.put 2 rfl 2 leafF rfl; exact p3.bring 2 rfl⟩⟩
  case rest =>
    obtain ⟨g7, v1, v2, rfl, HC1⟩ := hcut
    obtain ⟨g6, cap, rfl, _⟩ := HC1.out.form 2 rfl (by rw [List.length_replicate]; have := HM.out; omega)
    rw [List.length_replicate] at HC1
    obtain ⟨A1, c1, rfl, _, _⟩ := HC1.out.reads 1 rfl
    obtain ⟨v1, hv1⟩ : ∃ v : Value, v = .slice A1 ws.length c1 := ⟨_, rfl⟩
    rw [← hv1] at HC1
    have HAG : Aside0 (Arr 3 #[v1, .slice (some ⟨g6, 0, none⟩) m cap, leafF]) := ⟨by rw [hv1]; exact ⟨rfl, by simp [Value.oneCell']⟩⟩
    have HA0 : Aside0 (Arr 3 #[.slice none 0 0, .slice none 0 0, .nilFunc]) := ⟨rfl, by simp [Value.oneCell']⟩
    clear hv1
    go_wp2_with fail
    go_loopw [36] (fun v36 wr => ∃ (i : Nat) (ss : List (List Int)), i ≤ n ∧ v36 = .int .i64 (i : Int) ∧ Aside0 (ss.length = m ∧ Hshs ss ∧ ∀ j, j < i → at0 ss (n + j) = at0 (leavesW ws) j) ∧ Aside0 (Own w.heap.size w wr [.blk g7 #[v1, .slice (some ⟨g6, 0, none⟩) m cap, leafF] T0, .row kU 23 v1 ws, .row kH 25 (.slice (some ⟨g6, 0, none⟩) m cap) ss, .blk g4 #[.slice none 0 0, .slice none 0 0, .nilFunc] T0])) (fun v36 _ => n - (intOf v36).toNat)
    case atStart => exact ⟨0, _, Nat.zero_le _, rfl, ⟨by simp, by intro x hx; rw [List.eq_of_mem_replicate hx]; exact Hsh_zero, fun j hj => by omega⟩, HC1⟩
    case round =>
      obtain ⟨i, ss, hi, rfl, HS, HI⟩ := hrel
      by_cases hlt : i < n
      · have hdl : decide (i < n) = true := decide_eq_true hlt
        have hil : i < ws.length := by have := HN.out; omega
        have HCi := Aside0.mk (Kd.C_below HC.out HI.out.below)
        obtain ⟨ad, rfl, hcell⟩ := Kd.at_int HCi.out (i : Int) (Int.natCast_nonneg i) (by omega)
        rw [Int.toNat_natCast, show rd ws (i : Int) = ws.getD i 0 by simp [rd]] at hcell
        obtain ⟨b1, b2⟩ := hw _ (show ws.getD i 0 ∈ ws by rw [List.getD_eq_getElem?_getD, List.getElem?_eq_getElem hil]; exact List.getElem_mem hil)
        have HTi : Aside0 (at0 (leavesW ws) i = leafW (ws.getD i 0).toNat) := ⟨by simp [leavesW, at0, hil]⟩
        generalize ws.getD i 0 = x at *
        obtain ⟨k, rfl⟩ := Int.eq_ofNat_of_zero_le b1
        rw [Int.toNat_natCast] at HTi
        have HLF := Aside0.mk (fun W => memleaf_any k (by omega) W)
        have HLH := Aside0.mk (Hsh_leaf k)
        generalize leafW k = lf at *
        obtain ⟨cs, hcs⟩ : ∃ cs : List Value, cs = lf.map (Value.int .u8) := ⟨_, rfl⟩
        have HCS : Aside0 (cellsB lf = cs.toArray) := ⟨by rw [hcs]; rfl⟩
        have HCT := Aside0.mk hcs
        have hcl : cs.length = 32 := by rw [hcs, List.length_map]; exact HLH.out.1
        have hc1 : ∀ v ∈ cs, v.oneCell' = true := by rw [hcs]; intro v hv; obtain ⟨z, _, rfl⟩ := List.mem_map.1 hv; rfl
        rw [HCS.out] at HLF
        clear hcs
        go_wp2_with fail
        clear hcell
        obtain ⟨q, hq⟩ : ∃ q, q = n + i := ⟨_, rfl⟩
        have hwq : IntKind.i64.wrap ((n : Int) + (i : Int)) = (q : Int) := by rw [IntWalk.i64_in _ (by omega)]; omega
        have hqm : q < m := by have := HM.out; omega
        have hq0 : (0 : Int) ≤ (q : Int) ∧ (q : Int) < (m : Int) := by omega
        have HQ := Aside0.mk hq
        clear hq
        have hcA := HI.out.cell 0 rfl 1 rfl
        have hth : wr.there g6 (q * 32) 32 := HI.out.there_row (d := kH) 2 rfl q hqm
        have hu := Try.underlying25
        have hif : (Try.prog.info? 25).map (·.size) = some cs.length := by rw [hcl]; kernel_rfl
        go_region_held3 (fun W => W.cell? ⟨g7, 1, none⟩ = some (.slice (some ⟨g6, 0, none⟩) m cap) ∧ W.there g6 (q * 32) 32) (first | exact ⟨hcA, hth⟩ | exact K8.out | exact K9.out | go_keep_ranges) (first
          | (go_at_call 62; refine (HLF.out _).mono ?_; rintro e w8 ⟨rfl, hB8⟩; have H8 := Aside0.mk (HI.out.drew.step hB8); clear hB8; have K8 := Aside0.mk (And.intro (H8.out.cell 0 rfl 1 rfl) (H8.out.there_row (d := kH) 2 rfl q hqm)); have K9 := Aside0.mk (And.intro ((H8.out.putC (d := kH) 2 rfl q hqm Flat_H (fun _ => ⟨HLH.out.1, HCT.out⟩)).cell 0 rfl 1 rfl) ((H8.out.putC (d := kH) 2 rfl q hqm Flat_H (fun _ => ⟨HLH.out.1, HCT.out⟩)).there_row (d := kH) 2 rfl q hqm))))
        have H9 := Aside0.mk (H8.out.putC (d := kH) 2 rfl q hqm Flat_H (fun _ => ⟨HLH.out.1, HCT.out⟩))
        clear hcA hth hq0 hwq hqm
        go_wp2_with fail
        go_roundw
        case rel =>
          refine ⟨i + 1, ss.set q lf, hlt, by go_num, ⟨by rw [List.length_set]; exact HS.out.1, ?_, fun j hj => ?_⟩, H9⟩
          · intro x hx
            rcases List.mem_or_eq_of_mem_set hx with h | h
            · exact HS.out.2.1 x h
            · rw [h]; exact HLH.out
          · have hsl := HS.out.1
            have := HQ.out
            have := HM.out
            rw [at0_set _ _ _ _ (by omega)]
            by_cases e : j = i
            · subst e; rw [if_pos (by omega)]; exact HTi.out.symm
            · rw [if_neg (by omega)]; exact HS.out.2.2 j (by omega)
        case measure => simp [intOf]; omega
      · have hdl : decide (i < n) = false := decide_eq_false hlt
        obtain rfl : i = n := by omega
        have HT0 : Aside0 (Tree i (leavesW ws) ss (fun k => k ≤ i - 1) ∧ Hshs ss) := ⟨⟨by rw [HS.out.1, HM.out], by rw [leavesW_len, HN.out], HS.out.2.2, fun k k1 k2 k3 => absurd (by omega) k3⟩, HS.out.2.1⟩
        clear HS
        go_wp2_with fail
        go_loopw [10] (fun v10 wr => ∃ (k : Nat) (ss : List (List Int)), k < i ∧ v10 = .int .i64 (k : Int) ∧ Aside0 (Tree i (leavesW ws) ss (fun j => j ≤ k) ∧ Hshs ss) ∧ Aside0 (Own w.heap.size w wr [.blk g7 #[v1, .slice (some ⟨g6, 0, none⟩) m cap, leafF] T0, .row kU 23 v1 ws, .row kH 25 (.slice (some ⟨g6, 0, none⟩) m cap) ss, .blk g4 #[.slice none 0 0, .slice none 0 0, .nilFunc] T0])) (fun v10 _ => (intOf v10).toNat)
        case atStart => exact ⟨i - 1, ss, by omega, by rw [show ((i : Int) - 1) = ((i - 1 : Nat) : Int) by omega], HT0, HI⟩
        case round =>
          clear ss HI HT0
          obtain ⟨k, ss, hk, rfl, HT, HI⟩ := hrel
          by_cases h1 : 1 ≤ k
          · have hdk : decide (1 ≤ (k : Int)) = true := decide_eq_true (by omega)
            have hsl := HT.out.1.len
            obtain ⟨p, hp⟩ : ∃ p, p = 2 * k := ⟨_, rfl⟩
            obtain ⟨q, hq⟩ : ∃ q, q = p + 1 := ⟨_, rfl⟩
            have hwp : IntKind.i64.wrap (2 * (k : Int)) = (p : Int) := by rw [IntWalk.i64_in _ (by omega)]; omega
            have hwq : IntKind.i64.wrap ((p : Int) + 1) = (q : Int) := by rw [IntWalk.i64_in _ (by omega)]; omega
            have hpm : p < m := by have := HM.out; omega
            have hqm : q < m := by have := HM.out; omega
            have hkm : k < m := by omega
            have hi0 : (0 : Int) ≤ (p : Int) ∧ (p : Int) < (m : Int) ∧ (0 : Int) ≤ (q : Int) ∧ (q : Int) < (m : Int) ∧ (0 : Int) ≤ (k : Int) ∧ (k : Int) < (m : Int) := by omega
            have HPN := Aside0.mk (HT.out.1.sum k h1 hk)
            rw [← hp, ← hq] at HPN
            have hml : ss.length = m := by rw [hsl, HM.out]
            have hat : ∀ j, j < m → Hsh (at0 ss j) := fun j hj => Hshs_at HT.out.2 j (by rw [hml]; exact hj)
            obtain ⟨x, hx⟩ : ∃ x, x = at0 ss p := ⟨_, rfl⟩
            obtain ⟨y, hy⟩ : ∃ y, y = at0 ss q := ⟨_, rfl⟩
            have hHx : Hsh x := by rw [hx]; exact hat p hpm
            have hHy : Hsh y := by rw [hy]; exact hat q hqm
            rw [← hx, ← hy] at HPN
            have HPR := Aside0.mk (fun W => pair_any x y hHx.1 hHy.1 hHx.2 hHy.2 W)
            have HRH := Aside0.mk (Hsh_pair x y)
            generalize pairI x y = r at *
            obtain ⟨cx, hcx⟩ : ∃ cs : List Value, cs = x.map (Value.int .u8) := ⟨_, rfl⟩
            obtain ⟨cy, hcy⟩ : ∃ cs : List Value, cs = y.map (Value.int .u8) := ⟨_, rfl⟩
            obtain ⟨cr, hcr⟩ : ∃ cs : List Value, cs = r.map (Value.int .u8) := ⟨_, rfl⟩
            have hlx : cx.length = 32 := by rw [hcx, List.length_map]; exact hHx.1
            have hly : cy.length = 32 := by rw [hcy, List.length_map]; exact hHy.1
            have hlr : cr.length = 32 := by rw [hcr, List.length_map]; exact HRH.out.1
            have hc1 : ∀ v ∈ cr, v.oneCell' = true := by rw [hcr]; intro v hv; obtain ⟨z, _, rfl⟩ := List.mem_map.1 hv; rfl
            rw [show cellsB x = cx.toArray by rw [hcx]; rfl, show cellsB y = cy.toArray by rw [hcy]; rfl, show cellsB r = cr.toArray by rw [hcr]; rfl] at HPR
            have HF : Aside0 (∀ W', Own w.heap.size w W' [.blk g7 #[v1, .slice (some ⟨g6, 0, none⟩) m cap, leafF] T0, .row kU 23 v1 ws, .row kH 25 (.slice (some ⟨g6, 0, none⟩) m cap) ss, .blk g4 #[.slice none 0 0, .slice none 0 0, .nilFunc] T0] →
                W'.cell? ⟨g7, 1, none⟩ = some (.slice (some ⟨g6, 0, none⟩) m cap) ∧ W'.rangeAt g6 (p * 32) cx ∧ W'.rangeAt g6 (q * 32) cy ∧ W'.there g6 (k * 32) 32) := ⟨fun W' h => ⟨h.cell 0 rfl 1 rfl, h.range_row 2 rfl p hpm hx.symm hcx, h.range_row 2 rfl q hqm hy.symm hcy, h.there_row (d := kH) 2 rfl k hkm⟩⟩
            have HG : Aside0 (∀ W', Own w.heap.size w W' [.blk g7 #[v1, .slice (some ⟨g6, 0, none⟩) m cap, leafF] T0, .row kU 23 v1 ws, .row kH 25 (.slice (some ⟨g6, 0, none⟩) m cap) (ss.set k r), .blk g4 #[.slice none 0 0, .slice none 0 0, .nilFunc] T0] →
                W'.cell? ⟨g7, 1, none⟩ = some (.slice (some ⟨g6, 0, none⟩) m cap) ∧ W'.rangeAt g6 (p * 32) cx ∧ W'.rangeAt g6 (q * 32) cy ∧ W'.there g6 (k * 32) 32) := ⟨fun W' h => ⟨h.cell 0 rfl 1 rfl, h.range_row 2 rfl p hpm (by have e := at0_set ss k p r (by omega); rw [if_neg (by omega)] at e; exact e.trans hx.symm) hcx, h.range_row 2 rfl q hqm (by have e := at0_set ss k q r (by omega); rw [if_neg (by omega)] at e; exact e.trans hy.symm) hcy, h.there_row (d := kH) 2 rfl k hkm⟩⟩
            have HCR := Aside0.mk hcr
            have hi1 : (Try.prog.info? 25).map (·.size) = some cx.length := by rw [hlx]; kernel_rfl
            have hi2 : (Try.prog.info? 25).map (·.size) = some cy.length := by rw [hly]; kernel_rfl
            have hi3 : (Try.prog.info? 25).map (·.size) = some cr.length := by rw [hlr]; kernel_rfl
            have hu := Try.underlying25
            clear hx hy hcx hcy hcr hsl hml hat hp hq
            have HF0 := HF.out _ HI.out
            go_wp2_with fail
            refine wp_region_held_drew (S := (fun W => W.cell? ⟨g7, 1, none⟩ = some (.slice (some ⟨g6, 0, none⟩) m cap) ∧ W.rangeAt g6 (p * 32) cx ∧ W.rangeAt g6 (q * 32) cy ∧ W.there g6 (k * 32) 32)) (by kernel_rfl) ?_ (fun hHeld => ?_)
            · exact HF0
            refine wpAnyH_take (i := 0) (oi := { dst := some 57, op := Go.Op.fieldAddr 127 (Go.Operand.tmp 7) 1, type := 0, pos := "mem.go:50", after := #[], guard := none }) (v := ?_) rfl (by kernel_rfl) (by kernel_rfl) (by kernel_rfl) (fun _ _ _ h => h) (Or.inl ⟨by rfl, ?_⟩) (by assumption) ?_
            rotate_left
            · intro wS hSw; (try dsimp only at hSw); go_simp; (try with_reducible rfl)
            try simp only [Act.put, List.setIfInBounds_toArray, List.set_cons_zero, List.set_cons_succ]
            refine wpAnyH_take (i := 1) (oi := { dst := some 58, op := Go.Op.load 26 (Go.Operand.tmp 57), type := 26, pos := "mem.go:50", after := #[{ on := 0, ground := Go.Ground.data }], guard := none }) (v := ?_) rfl (by kernel_rfl) (by kernel_rfl) (by kernel_rfl) (fun _ _ _ h => h) (Or.inl ⟨by rfl, ?_⟩) (by assumption) ?_
            rotate_left
            · intro wS hSw; (try dsimp only at hSw); go_simp; (try with_reducible rfl)
            try simp only [Act.put, List.setIfInBounds_toArray, List.set_cons_zero, List.set_cons_succ]
            refine wpAnyH_take (i := 2) (oi := { dst := some 59, op := Go.Op.move (Go.Operand.tmp 10), type := 3, pos := "mem.go:50", after := #[], guard := none }) (v := ?_) rfl (by kernel_rfl) (by kernel_rfl) (by kernel_rfl) (fun _ _ _ h => h) (Or.inl ⟨by rfl, ?_⟩) (by assumption) ?_
            rotate_left
            · intro wS hSw; (try dsimp only at hSw); go_simp; (try with_reducible rfl)
            try simp only [Act.put, List.setIfInBounds_toArray, List.set_cons_zero, List.set_cons_succ]
            refine wpAnyH_take (i := 3) (oi := { dst := some 60, op := Go.Op.fieldAddr 127 (Go.Operand.tmp 7) 1, type := 0, pos := "mem.go:50", after := #[], guard := none }) (v := ?_) rfl (by kernel_rfl) (by kernel_rfl) (by kernel_rfl) (fun _ _ _ h => h) (Or.inl ⟨by rfl, ?_⟩) (by assumption) ?_
            rotate_left
            · intro wS hSw; (try dsimp only at hSw); go_simp; (try with_reducible rfl)
            try simp only [Act.put, List.setIfInBounds_toArray, List.set_cons_zero, List.set_cons_succ]
            refine wpAnyH_take (i := 4) (oi := { dst := some 61, op := Go.Op.load 26 (Go.Operand.tmp 60), type := 26, pos := "mem.go:50", after := #[{ on := 3, ground := Go.Ground.data }], guard := none }) (v := ?_) rfl (by kernel_rfl) (by kernel_rfl) (by kernel_rfl) (fun _ _ _ h => h) (Or.inl ⟨by rfl, ?_⟩) (by assumption) ?_
            rotate_left
            · intro wS hSw; (try dsimp only at hSw); go_simp; (try with_reducible rfl)
            try simp only [Act.put, List.setIfInBounds_toArray, List.set_cons_zero, List.set_cons_succ]
            refine wpAnyH_take (i := 5) (oi := { dst := some 62, op := Go.Op.move (Go.Operand.tmp 10), type := 3, pos := "mem.go:50", after := #[], guard := none }) (v := ?_) rfl (by kernel_rfl) (by kernel_rfl) (by kernel_rfl) (fun _ _ _ h => h) (Or.inl ⟨by rfl, ?_⟩) (by assumption) ?_
            rotate_left
            · intro wS hSw; (try dsimp only at hSw); go_simp; (try with_reducible rfl)
            try simp only [Act.put, List.setIfInBounds_toArray, List.set_cons_zero, List.set_cons_succ]
            refine wpAnyH_take (i := 6) (oi := { dst := some 63, op := Go.Op.binOp Go.BinOp.mul 3 (Go.Operand.const (Go.Value.int Go.IntKind.i64 2)) (Go.Operand.tmp 62) 3, type := 3, pos := "mem.go:50", after := #[{ on := 5, ground := Go.Ground.data }], guard := none }) (v := ?_) rfl (by kernel_rfl) (by kernel_rfl) (by kernel_rfl) (fun _ _ _ h => h) (Or.inl ⟨by rfl, ?_⟩) (by assumption) ?_
            rotate_left
            · intro wS hSw; (try dsimp only at hSw); go_simp; (try with_reducible rfl)
            try simp only [Act.put, List.setIfInBounds_toArray, List.set_cons_zero, List.set_cons_succ]
            refine wpAnyH_take (i := 7) (oi := { dst := some 64, op := Go.Op.indexAddr 26 (Go.Operand.tmp 61) (Go.Operand.tmp 63), type := 0, pos := "mem.go:50", after := #[{ on := 4, ground := Go.Ground.data }, { on := 6, ground := Go.Ground.data }], guard := none }) (v := ?_) rfl (by kernel_rfl) (by kernel_rfl) (by kernel_rfl) (fun _ _ _ h => h) (Or.inl ⟨by rfl, ?_⟩) (by assumption) ?_
            rotate_left
            · intro wS hSw; (try dsimp only at hSw); go_simp; (try with_reducible rfl)
            try simp only [Act.put, List.setIfInBounds_toArray, List.set_cons_zero, List.set_cons_succ]
            refine wpAnyH_take (i := 8) (oi := { dst := some 65, op := Go.Op.load 25 (Go.Operand.tmp 64), type := 25, pos := "mem.go:50", after := #[{ on := 7, ground := Go.Ground.data }], guard := none }) (v := .agg (cx).toArray) rfl (by kernel_rfl) (by kernel_rfl) (by kernel_rfl) (fun _ _ _ h => h) (yieldsIf_load_mid (by rfl) _ _ rfl (g6) (p * 32) rfl (cx) _ (fun w h => h.2.1) (hu) rfl (hi1)) (by assumption) ?_
            try simp only [Act.put, List.setIfInBounds_toArray, List.set_cons_zero, List.set_cons_succ]
            refine wpAnyH_take (i := 9) (oi := { dst := some 66, op := Go.Op.fieldAddr 127 (Go.Operand.tmp 7) 1, type := 0, pos := "mem.go:50", after := #[], guard := none }) (v := ?_) rfl (by kernel_rfl) (by kernel_rfl) (by kernel_rfl) (fun _ _ _ h => h) (Or.inl ⟨by rfl, ?_⟩) (by assumption) ?_
            rotate_left
            · intro wS hSw; (try dsimp only at hSw); go_simp; (try with_reducible rfl)
            try simp only [Act.put, List.setIfInBounds_toArray, List.set_cons_zero, List.set_cons_succ]
            refine wpAnyH_take (i := 10) (oi := { dst := some 67, op := Go.Op.load 26 (Go.Operand.tmp 66), type := 26, pos := "mem.go:50", after := #[{ on := 9, ground := Go.Ground.data }], guard := none }) (v := ?_) rfl (by kernel_rfl) (by kernel_rfl) (by kernel_rfl) (fun _ _ _ h => h) (Or.inl ⟨by rfl, ?_⟩) (by assumption) ?_
            rotate_left
            · intro wS hSw; (try dsimp only at hSw); go_simp; (try with_reducible rfl)
            try simp only [Act.put, List.setIfInBounds_toArray, List.set_cons_zero, List.set_cons_succ]
            refine wpAnyH_take (i := 11) (oi := { dst := some 68, op := Go.Op.move (Go.Operand.tmp 10), type := 3, pos := "mem.go:50", after := #[], guard := none }) (v := ?_) rfl (by kernel_rfl) (by kernel_rfl) (by kernel_rfl) (fun _ _ _ h => h) (Or.inl ⟨by rfl, ?_⟩) (by assumption) ?_
            rotate_left
            · intro wS hSw; (try dsimp only at hSw); go_simp; (try with_reducible rfl)
            try simp only [Act.put, List.setIfInBounds_toArray, List.set_cons_zero, List.set_cons_succ]
            refine wpAnyH_take (i := 12) (oi := { dst := some 69, op := Go.Op.binOp Go.BinOp.mul 3 (Go.Operand.const (Go.Value.int Go.IntKind.i64 2)) (Go.Operand.tmp 68) 3, type := 3, pos := "mem.go:50", after := #[{ on := 11, ground := Go.Ground.data }], guard := none }) (v := ?_) rfl (by kernel_rfl) (by kernel_rfl) (by kernel_rfl) (fun _ _ _ h => h) (Or.inl ⟨by rfl, ?_⟩) (by assumption) ?_
            rotate_left
            · intro wS hSw; (try dsimp only at hSw); go_simp; (try with_reducible rfl)
            try simp only [Act.put, List.setIfInBounds_toArray, List.set_cons_zero, List.set_cons_succ]
            refine wpAnyH_take (i := 13) (oi := { dst := some 70, op := Go.Op.binOp Go.BinOp.add 3 (Go.Operand.tmp 69) (Go.Operand.const (Go.Value.int Go.IntKind.i64 1)) 3, type := 3, pos := "mem.go:50", after := #[{ on := 12, ground := Go.Ground.data }], guard := none }) (v := ?_) rfl (by kernel_rfl) (by kernel_rfl) (by kernel_rfl) (fun _ _ _ h => h) (Or.inl ⟨by rfl, ?_⟩) (by assumption) ?_
            rotate_left
            · intro wS hSw; (try dsimp only at hSw); go_simp; (try with_reducible rfl)
            try simp only [Act.put, List.setIfInBounds_toArray, List.set_cons_zero, List.set_cons_succ]
            refine wpAnyH_take (i := 14) (oi := { dst := some 71, op := Go.Op.indexAddr 26 (Go.Operand.tmp 67) (Go.Operand.tmp 70), type := 0, pos := "mem.go:50", after := #[{ on := 10, ground := Go.Ground.data }, { on := 13, ground := Go.Ground.data }], guard := none }) (v := ?_) rfl (by kernel_rfl) (by kernel_rfl) (by kernel_rfl) (fun _ _ _ h => h) (Or.inl ⟨by rfl, ?_⟩) (by assumption) ?_
            rotate_left
            · intro wS hSw; (try dsimp only at hSw); go_simp; (try with_reducible rfl)
            try simp only [Act.put, List.setIfInBounds_toArray, List.set_cons_zero, List.set_cons_succ]
            refine wpAnyH_take (i := 15) (oi := { dst := some 72, op := Go.Op.load 25 (Go.Operand.tmp 71), type := 25, pos := "mem.go:50", after := #[{ on := 14, ground := Go.Ground.data }], guard := none }) (v := .agg (cy).toArray) rfl (by kernel_rfl) (by kernel_rfl) (by kernel_rfl) (fun _ _ _ h => h) (yieldsIf_load_mid (by rfl) _ _ rfl (g6) (q * 32) rfl (cy) _ (fun w h => h.2.2.1) (hu) rfl (hi2)) (by assumption) ?_
            try simp only [Act.put, List.setIfInBounds_toArray, List.set_cons_zero, List.set_cons_succ]
            refine wpAnyH_ready (rs := [16]) (by kernel_rfl) (by simp) ?_
            refine AllReadyH.cons (o := { dst := some 73, op := Go.Op.call { callee := Go.Callee.value (Go.Operand.func 118), args := #[Go.Operand.tmp 65, Go.Operand.tmp 72], argTypes := #[25, 25] }, type := 25, pos := "mem.go:50", after := #[{ on := 8, ground := Go.Ground.data }, { on := 15, ground := Go.Ground.data }], guard := none }) rfl (fun K hK => ?_) AllReadyH.nil
            go_simp
            refine (HPR.out _).mono ?_
            rintro e w8 ⟨rfl, hB8⟩
            have H8 := Aside0.mk (HI.out.drew.step hB8)
            clear hB8
            have K8 := Aside0.mk (HF.out _ H8.out)
            go_wp2_with fail
            refine hK.out _ _ ?_ (fun hHeld => ?_)
            · exact K8.out
            clear hK K
            try simp only [Act.put, List.setIfInBounds_toArray, List.set_cons_zero, List.set_cons_succ]
            refine wpAnyH_take (i := 17) (oi := { dst := some 74, op := Go.Op.indexAddr 26 (Go.Operand.tmp 58) (Go.Operand.tmp 59), type := 0, pos := "mem.go:50", after := #[{ on := 1, ground := Go.Ground.data }, { on := 2, ground := Go.Ground.data }, { on := 0, ground := Go.Ground.phase }, { on := 1, ground := Go.Ground.phase }, { on := 2, ground := Go.Ground.phase }, { on := 3, ground := Go.Ground.phase }, { on := 4, ground := Go.Ground.phase }, { on := 5, ground := Go.Ground.phase }, { on := 6, ground := Go.Ground.phase }, { on := 7, ground := Go.Ground.phase }, { on := 8, ground := Go.Ground.phase }, { on := 9, ground := Go.Ground.phase }, { on := 10, ground := Go.Ground.phase }, { on := 11, ground := Go.Ground.phase }, { on := 12, ground := Go.Ground.phase }, { on := 13, ground := Go.Ground.phase }, { on := 14, ground := Go.Ground.phase }, { on := 15, ground := Go.Ground.phase }, { on := 16, ground := Go.Ground.phase }], guard := none }) (v := ?_) rfl (by kernel_rfl) (by kernel_rfl) (by kernel_rfl) (fun _ _ _ h => h) (Or.inl ⟨by rfl, ?_⟩) (by assumption) ?_
            rotate_left
            · intro wS hSw; (try dsimp only at hSw); go_simp; (try with_reducible rfl)
            try simp only [Act.put, List.setIfInBounds_toArray, List.set_cons_zero, List.set_cons_succ]
            have H9 := Aside0.mk (H8.out.putC (d := kH) 2 rfl k hkm Flat_H (fun _ => ⟨HRH.out.1, HCR.out⟩))
            have K9 := Aside0.mk (HG.out _ H9.out)
            refine wpAnyH_ready (rs := [18]) (by kernel_rfl) (by simp) ?_
            refine AllReadyH.cons (o := { dst := none, op := Go.Op.store 25 (Go.Operand.tmp 74) (Go.Operand.tmp 73), type := 0, pos := "mem.go:50", after := #[{ on := 17, ground := Go.Ground.data }, { on := 16, ground := Go.Ground.data }, { on := 16, ground := Go.Ground.chain }, { on := 0, ground := Go.Ground.phase }, { on := 1, ground := Go.Ground.phase }, { on := 2, ground := Go.Ground.phase }, { on := 3, ground := Go.Ground.phase }, { on := 4, ground := Go.Ground.phase }, { on := 5, ground := Go.Ground.phase }, { on := 6, ground := Go.Ground.phase }, { on := 7, ground := Go.Ground.phase }, { on := 8, ground := Go.Ground.phase }, { on := 9, ground := Go.Ground.phase }, { on := 10, ground := Go.Ground.phase }, { on := 11, ground := Go.Ground.phase }, { on := 12, ground := Go.Ground.phase }, { on := 13, ground := Go.Ground.phase }, { on := 14, ground := Go.Ground.phase }, { on := 15, ground := Go.Ground.phase }, { on := 16, ground := Go.Ground.phase }], guard := none }) rfl (fun K hK => ?_) AllReadyH.nil
            rw [if_pos (by rfl)]
            refine wp_store_mid _ _ _ rfl _ _ (List.toArray _) rfl rfl ?_ ?_ (all_oneCell_toArray hc1) ?_
            · (rw [List.size_toArray, hlr]; exact K8.out.2.2.2)
            · (rw [List.size_toArray]; exact hi3)
            simp only [Act.put, List.setIfInBounds_toArray, List.set_cons_zero, List.set_cons_succ, List.toList_toArray]
            refine hK.out _ _ ?_ (fun hHeld => ?_)
            · exact K9.out
            clear hK K
            try simp only [Act.put, List.setIfInBounds_toArray, List.set_cons_zero, List.set_cons_succ]
            refine wpAnyH_done (by kernel_rfl) ?_ _
            clear hi0 hwp hwq HF0 hHeld
            go_wp2_with fail
            go_roundw
            case rel =>
              refine ⟨k - 1, ss.set k r, by omega, by rw [show ((k : Int) - 1) = ((k - 1 : Nat) : Int) by omega], ⟨HPN.out.mono (fun j h1 h2 h3 => by omega), ?_⟩, H9⟩
              intro z hz
              rcases List.mem_or_eq_of_mem_set hz with h | h
              · exact HT.out.2 z h
              · rw [h]; exact HRH.out
            case measure => simp [intOf]; omega
          · have hdk : decide (1 ≤ (k : Int)) = false := decide_eq_false (by omega)
            have hk0 : k = 0 := by omega
            have HTF : Aside0 (Tree i (leavesW ws) ss (fun _ => False)) := ⟨HT.out.1.mono fun j h1 h2 h3 => by omega⟩
            clear hk0
            go_wp2_with (first
              | fail
              | ((with_reducible refine gate_dst (N := 75) rfl ?_); refine own_loadV HI.out 0 g7 _ T0 rfl rfl (.tmp 7) rfl _ rfl Try.underlying127 rfl (by kernel_rfl) ?_)
              | ((with_reducible refine own_store HI.out 3 g4 _ T0 rfl rfl (.tmp 4) (.tmp 75) rfl (#[v1, .slice (some ⟨g6, 0, none⟩) m cap, leafF]) ?_ ?_ 3 HA0.out HAG.out (by kernel_rfl) ?_); (case _ => rfl); (case _ => rfl); intro w9 H9; replace H9 := Aside0.mk H9)
              )
            refine bodyPost_ret (own_resultV_t rfl _ H9.out 3 g4 _ rfl rfl _ Try.underlying127 rfl (by kernel_rfl) (.bool true) rfl) rfl ?_
            exact ⟨v1, .slice (some ⟨g6, 0, none⟩) m cap, ss, rfl, by rw [← HLL.out]; exact HTF.out, HT.out.2, (H9.out.erase 3).erase 0⟩
end Go.Proofs.Ytocphkfkdadhaaa.H

namespace Go.Proofs.Ytocphkfkdadhaaa.H
open Go.RowKit Go.Proofs.YtocphkfkdadhaaaW.PrintWords Go.Proofs.YtocphkfkdadhaaaW.PrintLast Go.Proofs.YtocphkfkdadhaaaW.PrintMore
set_option linter.unusedVariables false
set_option linter.unusedSimpArgs false
abbrev tree0 : Array Value := #[.slice none 0 0, .slice none 0 0, .nilFunc]
theorem Arr_tree0 : Arr 3 tree0 := ⟨rfl, by simp [Value.oneCell']⟩
abbrev TM : TypeId := 131
def MemAt (D : Nat) (ws : List Int) (ss : List (List Int)) : Prop := Tree (2 ^ D) (leavesW ws) ss (fun _ => False) ∧ Hshs ss ∧ ws.length = 2 ^ D ∧ Wrd ws
abbrev memL (g : Nat) (v1 v2 : Value) (ws : List Int) (ss : List (List Int)) (L : List Item) : List Item := .blk g #[v1, v2, leafF] TM :: .row kU 23 v1 ws :: .row kH 25 v2 ss :: L
set_option maxHeartbeats 1000000 in
set_option maxRecDepth 100000 in
theorem new_ok (D : Nat) (hD : D ≤ 12) (ws : List Int) (hl : ws.length = 2 ^ D) (hw : Wrd ws) (A : Option Addr) (c : Nat) (hc : ws.length ≤ c) (w : World) (hC : Kd.C kU w A ws.length ws) :
    Calls Try.prog 19 #[.slice A ws.length c] w fun e w' => ∃ g v1 v2 ss, e = .returned (.tuple #[.pointer (some ⟨g, 0, none⟩), .int .i64 0]) ∧ MemAt D ws ss ∧ Own w.heap.size w w' (memL g v1 v2 ws ss []) := by
  have HG := Aside0.mk (grown_ok D hD ws hl hw A c hc w hC)
  have HX : Aside0 (∀ ss, Tree (2 ^ D) (leavesW ws) ss (fun _ => False) → Hshs ss → MemAt D ws ss) := ⟨fun ss h1 h2 => ⟨h1, h2, hl, hw⟩⟩
  have H0 := Aside0.mk (Own.start w)
  clear hC hl
  generalize ws.length = n at *
  unfold leafF at HG
  go_enter Try.func19, Try.ntmps19
  go_wp2_with fail
  refine HG.out.mono ?_
  rintro e w1 ⟨v1, v2, ss, rfl, hT, hS, hO⟩
  have HO := Aside0.mk (H0.out.call hO)
  have HT := Aside0.mk Arr_tree0
  have HTS := Aside0.mk (And.intro hT hS)
  obtain ⟨A1, c1, rfl, _, _⟩ := hO.reads 0 rfl
  obtain ⟨A2, c2, rfl, _, _⟩ := hO.reads 1 rfl
  clear hT hS hO
  generalize ss.length = m2 at *
  generalize ws.length = m1 at *
  have HAG : Aside0 (Arr 3 #[.slice A1 m1 c1, .slice A2 m2 c2, leafF]) := ⟨rfl, by simp [Value.oneCell']⟩
  go_wp2_with (first
    | fail
    | ((with_reducible refine gate_dst (N := 4) rfl ?_); refine own_alloc HO.out rfl (N := 4) rfl (t := T0) rfl (tree0) 3 (by kernel_rfl) ?_; intro g4 w2 H2 B2; replace H2 := Aside0.mk H2; replace B2 := Aside0.mk B2)
    | ((with_reducible refine own_store H2.out 0 g4 _ T0 rfl rfl (.tmp 4) (.tmp 9) rfl (#[.slice A1 m1 c1, .slice A2 m2 c2, leafF]) ?_ ?_ 3 HT.out HAG.out (by kernel_rfl) ?_); (case _ => rfl); (case _ => rfl); intro w3 H3; replace H3 := Aside0.mk H3)
    | ((with_reducible refine gate_dst (N := 13) rfl ?_); refine own_loadV H3.out 0 g4 _ T0 rfl rfl (.tmp 4) rfl _ rfl Try.underlying127 rfl (by kernel_rfl) ?_)
    | ((with_reducible refine gate_dst (N := 15) rfl ?_); refine own_box H3.out rfl (N := 15) rfl (t := TM) rfl (.agg #[.slice A1 m1 c1, .slice A2 m2 c2, leafF]) rfl ?_; intro g5 w4 H4 B4; replace H4 := Aside0.mk H4; replace B4 := Aside0.mk B4)
    )
  go_ret2
  refine ⟨g5, .slice A1 m1 c1, .slice A2 m2 c2, ss, rfl, HX.out ss HTS.out.1 HTS.out.2, H4.out.erase 1⟩
section
variable {B : Nat} {w0 W : World} {L : List Item} {g : Nat} {v1 v2 : Value} {ws : List Int} {ss : List (List Int)}
theorem memc0 (h : Own B w0 W (memL g v1 v2 ws ss L)) : W.cell? ⟨g, 0, none⟩ = some v1 := h.cell 0 rfl 0 rfl
theorem memc1 (h : Own B w0 W (memL g v1 v2 ws ss L)) : W.cell? ⟨g, 1, none⟩ = some v2 := h.cell 0 rfl 1 rfl
end
theorem none_mem {D : Nat} {B : Nat} {w0 W : World} {L : List Item} {g : Nat} {v1 v2 : Value} {ws : List Int} {ss : List (List Int)} (hM : MemAt D ws ss) (h : Own B w0 W (memL g v1 v2 ws ss L)) :
    Calls Try.prog 68 #[.pointer (some ⟨g, 0, none⟩)] W fun e w' => e = .returned (.bool false) ∧ w' = W := by
  obtain ⟨A1, c1, rfl, _, _⟩ := h.reads 1 rfl
  have hc0 := memc0 h
  have hp : 0 < ws.length := by rw [hM.2.2.1]; exact Nat.two_pow_pos D
  have hb : ((ws.length : Int) == 0) = false := by rw [beq_eq_false_iff_ne]; omega
  clear hM h
  generalize ws.length = n at *
  go_enter Try.func68, Try.ntmps68
  go_wp2_with fail
  go_ret
  exact ⟨rfl, rfl⟩
end Go.Proofs.Ytocphkfkdadhaaa.H

namespace Go.Proofs.Ytocphkfkdadhaaa.H
open Go.RowKit Go.Proofs.YtocphkfkdadhaaaW.PrintWords Go.Proofs.YtocphkfkdadhaaaW.PrintLast Go.Proofs.YtocphkfkdadhaaaW.PrintMore
set_option linter.unusedVariables false
set_option linter.unusedSimpArgs false
namespace Own
variable {B : Nat} {w0 W : World} {L : List Item} {α : Type} {d : Kd α}
end Own
def Anc (k j : Nat) : Prop := ∃ s, j = k / 2 ^ s
theorem Anc.zero {j : Nat} (h : Anc 0 j) : j = 0 := by
  obtain ⟨s, rfl⟩ := h
  exact Nat.zero_div _
end Go.Proofs.Ytocphkfkdadhaaa.H

namespace Go.Proofs.Ytocphkfkdadhaaa.H
open Go.RowKit Go.Proofs.YtocphkfkdadhaaaW.PrintWords Go.Proofs.YtocphkfkdadhaaaW.PrintLast Go.Proofs.YtocphkfkdadhaaaW.PrintMore
set_option linter.unusedVariables false
set_option linter.unusedSimpArgs false
set_option maxHeartbeats 1000000 in
set_option maxRecDepth 100000 in
theorem mroot_mem {D : Nat} (hD : D ≤ 12) {B : Nat} {w0 W : World} {L : List Item} {g : Nat} {v1 v2 : Value} {ws : List Int} {ss : List (List Int)} (hM : MemAt D ws ss) (h : Own B w0 W (memL g v1 v2 ws ss L)) :
    Calls Try.prog 25 #[.pointer (some ⟨g, 0, none⟩)] W fun e w' => e = .returned (.agg (cellsB (memroot D ws))) ∧ Below W.heap.size W w' := by
  have HN := Aside0.mk (fun W1 (hb : Below W.heap.size W W1) => none_mem hM (h.step hb))
  have hn4 : 1 ≤ ws.length := by rw [hM.2.2.1]; exact Nat.two_pow_pos D
  have hsl : ss.length = 2 * ws.length := by rw [hM.1.len, hM.2.2.1]
  obtain ⟨g2, c2, rfl, _⟩ := h.form 2 rfl (by omega)
  have HX : Aside0 (ss.getD 1 [] = memroot D ws) := ⟨hM.1.root⟩
  have HH := Aside0.mk (Hsh_memroot D ws)
  have H := Aside0.mk h
  have H0 := Aside0.mk (Own.start W)
  have HCC := Aside0.mk (fun W1 (hb : Below W.heap.size W W1) => ((h.step hb).cells_row 2 rfl 1 (by omega)).2)
  rw [HX.out] at HCC
  have hA := Aside0.mk (fun W1 (hb : Below W.heap.size W W1) => memc1 (h.step hb))
  have hm2 : (1 : Int) < (ss.length : Int) := by omega
  clear h hM HX
  generalize memroot D ws = r at *
  generalize ss.length = m at *
  have R32 : Aside0 (Arr 32 (Array.replicate 32 (.int .u8 0))) := ⟨Arr_rep _ _ rfl⟩
  have HA : Aside0 (Arr 32 (cellsB r)) := ⟨Arr_B HH.out.1⟩
  go_enter Try.func25, Try.ntmps25
  go_wp2_with (first
    | fail
    | ((with_reducible refine gate_dst (N := 2) rfl ?_); refine own_alloc H0.out rfl (N := 2) rfl (t := 25) rfl (Array.replicate 32 (.int .u8 0)) 32 (by kernel_rfl) ?_; intro g3 w1 H1 B1; replace H1 := Aside0.mk H1; replace B1 := Aside0.mk B1)
    )
  refine (HN.out _ H1.out.below).mono ?_
  rintro e w2 ⟨rfl, rfl⟩
  have hcA := hA.out _ H1.out.below
  have hcC := Aside0.mk (HCC.out _ H1.out.below)
  go_wp2_with (first
    | fail
    | ((with_reducible refine gate_dst (N := 12) rfl ?_); refine load_H rfl 25 (.tmp 11) rfl ⟨g2, 32, none⟩ r rfl hcC.out Try.underlying25 (by rw [HH.out.1]; kernel_rfl) ?_)
    | ((with_reducible refine own_store H1.out 0 g3 _ 25 rfl rfl (.tmp 2) (.tmp 12) rfl (cellsB r) ?_ ?_ 32 R32.out HA.out (by kernel_rfl) ?_); (case _ => rfl); (case _ => rfl); intro w3 H3; replace H3 := Aside0.mk H3)
    )
  refine bodyPost_ret (own_result rfl _ H3.out 0 g3 (cellsB r) rfl rfl Try.underlying25 32 HA.out (by kernel_rfl)) rfl ?_
  exact ⟨rfl, H3.out.below⟩
set_option maxHeartbeats 1000000 in
set_option maxRecDepth 100000 in
theorem memroot_yes (D : Nat) (hD : D ≤ 12) (ws : List Int) (hl : ws.length = 2 ^ D) (hw : Wrd ws) (A : Option Addr) (c : Nat) (hc : ws.length ≤ c) (w : World) (hC : Kd.C kU w A ws.length ws) :
    Calls Try.prog 14 #[.slice A ws.length c] w fun e w' => e = .returned (.tuple #[.agg (cellsB (memroot D ws)), .int .i64 0]) ∧ Below w.heap.size w w' := by
  have H0 := Aside0.mk (Own.start w)
  have HN := Aside0.mk (fun W h => new_ok D hD ws hl hw A c hc W h)
  have HC := Aside0.mk hC
  have R32 : Aside0 (Arr 32 (Array.replicate 32 (.int .u8 0))) := ⟨Arr_rep _ _ rfl⟩
  have HA : Aside0 (Arr 32 (cellsB (memroot D ws))) := ⟨Arr_B (Hsh_memroot D ws).1⟩
  have HRT := Aside0.mk (fun B w0 W g v1 v2 ss L (hM : MemAt D ws ss) (h : Own B w0 W (memL g v1 v2 ws ss L)) => mroot_mem hD hM h)
  generalize memroot D ws = r at *
  clear hC hl
  generalize ws.length = n at *
  go_enter Try.func14, Try.ntmps14
  go_wp2_with (first
    | fail
    | ((with_reducible refine gate_dst (N := 2) rfl ?_); refine own_alloc H0.out rfl (N := 2) rfl (t := 25) rfl (Array.replicate 32 (.int .u8 0)) 32 (by kernel_rfl) ?_; intro g3 w1 H1 B1; replace H1 := Aside0.mk H1; replace B1 := Aside0.mk B1)
    )
  refine (HN.out _ (Kd.C_below HC.out H1.out.below)).mono ?_
  rintro e w2 ⟨g, v1, v2, ss, rfl, hM, hO⟩
  have HR2 := Aside0.mk (HRT.out _ _ _ _ _ _ _ _ hM hO)
  have H2 := Aside0.mk (H1.out.call hO)
  clear hM hO
  go_wp2_with fail
  refine HR2.out.mono ?_
  rintro e w3 ⟨rfl, hB3⟩
  have H3 := Aside0.mk (H2.out.step hB3)
  clear hB3
  go_wp2_with (first
    | fail
    | ((with_reducible refine own_store H3.out 3 g3 _ 25 rfl rfl (.tmp 2) (.tmp 12) rfl (cellsB r) ?_ ?_ 32 R32.out HA.out (by kernel_rfl) ?_); (case _ => rfl); (case _ => rfl); intro w4 H4; replace H4 := Aside0.mk H4)
    )
  refine bodyPost_ret (own_result_ct rfl _ H4.out 3 g3 (cellsB r) rfl rfl Try.underlying25 32 HA.out (by kernel_rfl) (.int .i64 0) rfl) rfl ?_
  exact ⟨rfl, H4.out.below⟩
end Go.Proofs.Ytocphkfkdadhaaa.H

namespace Go.Proofs.Ytocphkfkdadhaaa.H
open Go.RowKit Go.Proofs.YtocphkfkdadhaaaW.PrintWords Go.Proofs.YtocphkfkdadhaaaW.PrintLast Go.Proofs.YtocphkfkdadhaaaW.PrintMore
set_option linter.unusedVariables false
set_option linter.unusedSimpArgs false
section
variable {P : Program} {ops : Array Oper} {S : World → Prop} {o : Oper} {a : Act}
theorem yif_loadV (hw : Region.wanted o (yielded ops a.tmps) = true) (ty : TypeId) (x : Operand) (ho : o.op = .load ty x) (g : Nat) (cs : Array Value) (hx : a.eval x = .pointer (some ⟨g, 0, none⟩))
    (hS : ∀ w, S w → w.heap[g]? = some (.cells cs ty (0, 0))) (d : TypeDesc) (hu : P.underlying ty = some d) (hd : isAggD d = true) (hi : (P.info? ty).map (·.size) = some cs.size) : YieldsIf P ops S o (.agg cs) a :=
  .inl ⟨hw, fun w h => by
    unfold execOp
    simp only [ho, hx, Instr.loadAt, Instr.sureAddr, Sem.run_bind, Sem.run_pure, Result.andThen_ok, run_loadVar_row w g ty ty cs (0, 0) d (hS w h) hu (by cases d <;> first | rfl | cases hd) hi]⟩
theorem yif_eq_H (hw : Region.wanted o (yielded ops a.tmps) = true) (t u : TypeId) (x y : Operand) (ho : o.op = .binOp .eql t x y u) (xs ys : List Int) (hx : a.eval x = .agg (cellsB xs)) (hy : a.eval y = .agg (cellsB ys)) {n : Nat} {e : TypeId} (ht : P.underlying t = some (.array n e)) (he : P.underlying e = some (.int .u8)) (hs : (P.info? e).map (·.size) = some 1) (hg : P.eqGuardType P.depth t = false) (lx : xs.length = n) (ly : ys.length = n) :
    YieldsIf P ops S o (.bool (xs == ys)) a :=
  .inl ⟨hw, fun w _ => by
    unfold execOp
    have := (run_eqH (P := P) 0 t e n ht he hs hg xs ys lx ly x y w).1
    simp only [Sem.run_bind] at this
    simp only [ho, hx, hy, Sem.run_bind, Sem.run_pure]
    rw [this]
    rfl⟩
end
theorem yif_eqb {P : Program} {ops : Array Oper} {S : World → Prop} {o : Oper} {a : Act} (b : Bool) (hw : Region.wanted o (yielded ops a.tmps) = true) (t u : TypeId) (x y : Operand) (ho : o.op = .binOp .eql t x y u) (xs ys : List Int) (hx : a.eval x = .agg (cellsB xs)) (hy : a.eval y = .agg (cellsB ys)) {n : Nat} {e : TypeId} (ht : P.underlying t = some (.array n e)) (he : P.underlying e = some (.int .u8)) (hs : (P.info? e).map (·.size) = some 1) (hg : P.eqGuardType P.depth t = false) (lx : xs.length = n) (ly : ys.length = n) (hb : (xs == ys) = b) :
    YieldsIf P ops S o (.bool b) a := by
  rw [← hb]
  exact yif_eq_H hw t u x y ho xs ys hx hy ht he hs hg lx ly
theorem reps_H1 (W : World) (x : List Int) (hx : x.length = 32) : Reps (kH.K W) kH.sz [x] (x.map (Value.int .u8)) := by
  refine ⟨by simp [hx, kH], fun j p hj => ?_⟩
  have hj0 : j = 0 := by
    have := (List.getElem?_eq_some_iff.1 hj).1
    simpa using this
  subst hj0
  obtain rfl : x = p := by simpa using hj
  refine ⟨hx, ?_⟩
  rw [Nat.zero_mul, List.drop_zero]
  exact List.take_of_length_le (by rw [List.length_map, hx]; exact Nat.le_refl _)
end Go.Proofs.Ytocphkfkdadhaaa.H

namespace Go.Proofs.Ytocphkfkdadhaaa.H
open Go.RowKit Go.Proofs.YtocphkfkdadhaaaW.PrintWords Go.Proofs.YtocphkfkdadhaaaW.PrintLast Go.Proofs.YtocphkfkdadhaaaW.PrintMore
set_option linter.unusedVariables false
set_option linter.unusedSimpArgs false
theorem step_of_run {P : Program} {ops : Array Oper} {o : Oper} {a : Act} {Q : Exit → Act → World → Prop} {Kc : Act → World → Prop} {W W1 : World} {v : Value} (hw : Region.wanted o (yielded ops a.tmps) = true) (hrun : (execOp a.eval o).run P W = .ok (.value v) W1) (h : Kc (a.put o.dst v) W1) :
    if Region.wanted o (yielded ops a.tmps) = true then Oper.wp P o a W Kc Q else Kc (a.put o.dst undef) W := by
  rw [if_pos hw]
  unfold Oper.wp
  rw [hrun]
  exact h
theorem be8I_1 : be8I 1 = [0, 0, 0, 0, 0, 0, 0, 1] := by decide
theorem be8I_2 : be8I 2 = [0, 0, 0, 0, 0, 0, 0, 2] := by decide
theorem anch_root : memroot 1 [1, 2] = pairI (leafW 1) (leafW 2) := by
  show rootP 1 (leavesW [1, 2]) = _
  simp [rootP, leavesW]
theorem anch_yes : chkI (pairI (leafW 1) (leafW 2)) 1 2 [leafW 1] = true := by
  unfold chkI
  have : foldI 1 (leafW 2) [leafW 1] = pairI (leafW 1) (leafW 2) := rfl
  rw [this]; simp
theorem anch_no : chkI (pairI (leafW 1) (leafW 2)) 1 3 [leafW 1] = false := by
  decide +kernel
set_option maxHeartbeats 2000000 in
set_option maxRecDepth 100000 in
theorem anchored11 (w : World) : Calls Try.prog 18 #[] w fun e w' => e = .returned (.bool true) ∧ Below w.heap.size w w' := by
  have H0 := Aside0.mk (Own.start w)
  have R32 : Aside0 (Arr 32 (Array.replicate 32 (.int .u8 0))) := ⟨Arr_rep _ _ rfl⟩
  have HL1 := Aside0.mk (fun A c W hC hc => rleaf_any A c [0, 0, 0, 0, 0, 0, 0, 1] W (by unfold Byt; decide) hC hc (by decide))
  have HL2 := Aside0.mk (fun A c W hC hc => rleaf_any A c [0, 0, 0, 0, 0, 0, 0, 2] W (by unfold Byt; decide) hC hc (by decide))
  rw [← be8I_1] at HL1
  rw [← be8I_2] at HL2
  have e1 : leafI (be8I 1) = leafW 1 := rfl
  have e2 : leafI (be8I 2) = leafW 2 := rfl
  rw [e1] at HL1
  rw [e2] at HL2
  have HR : Aside0 (∀ A c W, Kd.C kU W A 2 [1, 2] → 2 ≤ c → Calls Try.prog 14 #[.slice A 2 c] W fun e w' => e = .returned (.tuple #[.agg (cellsB (pairI (leafW 1) (leafW 2))), .int .i64 0]) ∧ Below W.heap.size W w') := ⟨fun A c W hC hc => by
    have h := memroot_yes 1 (by decide) [1, 2] rfl (by unfold Wrd; decide) A c hc W hC
    rw [anch_root] at h
    exact h⟩
  have ha : Hsh (leafW 1) := Hsh_leaf 1
  have hb : Hsh (leafW 2) := Hsh_leaf 2
  have hr : Hsh (pairI (leafW 1) (leafW 2)) := Hsh_pair _ _
  have hps : Hshs [leafW 1] := by intro x hx; rw [List.mem_singleton.1 hx]; exact ha
  have HP := Aside0.mk (fun W => rpair_any (leafW 1) (leafW 2) ha.1 hb.1 ha.2 hb.2 W)
  have HY : Aside0 (∀ A c W, Kd.C kH W A 1 [leafW 1] → 1 ≤ c → Calls Try.prog 16 #[.agg (cellsB (pairI (leafW 1) (leafW 2))), .int .u64 1, .int .u64 2, .slice A 1 c] W fun e w' => e = .returned (.bool true) ∧ Below W.heap.size W w') := ⟨fun A c W hC hc => by
    have h := memcheck_any (pairI (leafW 1) (leafW 2)) 1 2 [leafW 1] (by decide) (by decide) hr hps A c hc W hC
    rw [anch_yes] at h
    exact h⟩
  have HN : Aside0 (∀ A c W, Kd.C kH W A 1 [leafW 1] → 1 ≤ c → Calls Try.prog 16 #[.agg (cellsB (pairI (leafW 1) (leafW 2))), .int .u64 1, .int .u64 3, .slice A 1 c] W fun e w' => e = .returned (.bool false) ∧ Below W.heap.size W w') := ⟨fun A c W hC hc => by
    have h := memcheck_any (pairI (leafW 1) (leafW 2)) 1 3 [leafW 1] (by decide) (by decide) hr hps A c hc W hC
    rw [anch_no] at h
    exact h⟩
  have HH := Aside0.mk (And.intro ha (And.intro hb hr))
  have HA := Aside0.mk (Arr_B ha.1)
  have HB := Aside0.mk (Arr_B hb.1)
  have HRA := Aside0.mk (Arr_B hr.1)
  have hl8 : (be8I 1).length = 8 := rfl
  have hl9 : (be8I 2).length = 8 := rfl
  rw [hl8] at HL1
  rw [hl9] at HL2
  rw [be8I_1] at HL1
  rw [be8I_2] at HL2
  clear e1 e2 ha hb hr hps hl8 hl9
  generalize leafW 1 = la at *
  generalize leafW 2 = lb at *
  generalize pairI la lb = r at *
  go_enter Try.func18, Try.ntmps18
  go_wp2_with (first
    | fail
    | ((with_reducible refine gate_dst (N := 5) rfl ?_); refine own_lit kB Flat_B H0.out 5 rfl (N := 5) rfl (xs := [0, 0, 0, 0, 0, 0, 0, 1]) (inner := ([0, 0, 0, 0, 0, 0, 0, 1]).map (Value.int .u8)) ?hr5 (Kd.reps_scalar _) (by simp) ?_; (case hr5 => first | (go_simp; done) | (go_simp; rfl)); intro A5 c5 w5 H5 B5; replace H5 := Aside0.mk H5; replace B5 := Aside0.mk B5)
    )
  refine (HL1.out A5 c5 w5 (H5.out.C_of 0 rfl) (by obtain ⟨A', c', he, hc', _⟩ := H5.out.reads 0 rfl; injection he with e1 e2 e3; subst e3; exact hc')).mono ?_
  rintro e w6 ⟨rfl, hB6⟩
  have H6 := Aside0.mk (H5.out.step hB6)
  clear hB6
  go_wp2_with (first
    | fail
    | ((with_reducible refine gate_dst (N := 7) rfl ?_); refine own_lit kB Flat_B H6.out 5 rfl (N := 7) rfl (xs := [0, 0, 0, 0, 0, 0, 0, 2]) (inner := ([0, 0, 0, 0, 0, 0, 0, 2]).map (Value.int .u8)) ?hr7 (Kd.reps_scalar _) (by simp) ?_; (case hr7 => first | (go_simp; done) | (go_simp; rfl)); intro A7 c7 w7 H7 B7; replace H7 := Aside0.mk H7; replace B7 := Aside0.mk B7)
    )
  refine (HL2.out A7 c7 w7 (H7.out.C_of 0 rfl) (by obtain ⟨A', c', he, hc', _⟩ := H7.out.reads 0 rfl; injection he with e1 e2 e3; subst e3; exact hc')).mono ?_
  rintro e w8 ⟨rfl, hB8⟩
  have H8 := Aside0.mk ((H7.out.step hB8).erase 0)
  clear hB8
  go_wp2_with (first
    | fail
    | ((with_reducible refine gate_dst (N := 1) rfl ?_); refine own_alloc H8.out rfl (N := 1) rfl (t := 25) rfl (Array.replicate 32 (.int .u8 0)) 32 (by kernel_rfl) ?_; intro g1 w9 H9 B9; replace H9 := Aside0.mk H9; replace B9 := Aside0.mk B9)
    | ((with_reducible refine gate_dst (N := 2) rfl ?_); refine own_alloc H9.out rfl (N := 2) rfl (t := 25) rfl (Array.replicate 32 (.int .u8 0)) 32 (by kernel_rfl) ?_; intro g2 w10 H10 B10; replace H10 := Aside0.mk H10; replace B10 := Aside0.mk B10)
    | ((with_reducible refine own_store H10.out 1 g1 _ 25 rfl rfl (.tmp 1) (.tmp 6) rfl (cellsB la) ?_ ?_ 32 R32.out HA.out (by kernel_rfl) ?_); (case _ => rfl); (case _ => rfl); intro w11 H11; replace H11 := Aside0.mk H11)
    | ((with_reducible refine own_store H11.out 0 g2 _ 25 rfl rfl (.tmp 2) (.tmp 8) rfl (cellsB lb) ?_ ?_ 32 R32.out HB.out (by kernel_rfl) ?_); (case _ => rfl); (case _ => rfl); intro w12 H12; replace H12 := Aside0.mk H12)
    | ((with_reducible refine gate_dst (N := 10) rfl ?_); refine own_lit kU Flat_U H12.out 23 rfl (N := 10) rfl (xs := ([1, 2] : List Int)) (inner := (([1, 2] : List Int)).map (Value.int .u64)) ?hr10 (Kd.reps_scalar _) (by simp) ?_; (case hr10 => first | (go_simp; done) | (go_simp; rfl)); intro A13 c13 w13 H13 B13; replace H13 := Aside0.mk H13; replace B13 := Aside0.mk B13)
    )
  refine (HR.out A13 c13 w13 (H13.out.C_of 0 rfl) (by obtain ⟨A', c', he, hc', _⟩ := H13.out.reads 0 rfl; injection he with e1 e2 e3; subst e3; exact hc')).mono ?_
  rintro e w14 ⟨rfl, hB14⟩
  have H14 := Aside0.mk ((H13.out.step hB14).erase 0)
  clear hB14
  go_wp2_with (first
    | fail
    | ((with_reducible refine gate_dst (N := 3) rfl ?_); refine own_alloc H14.out rfl (N := 3) rfl (t := 25) rfl (Array.replicate 32 (.int .u8 0)) 32 (by kernel_rfl) ?_; intro g3 w15 H15 B15; replace H15 := Aside0.mk H15; replace B15 := Aside0.mk B15)
    | ((with_reducible refine own_store H15.out 0 g3 _ 25 rfl rfl (.tmp 3) (.tmp 12) rfl (cellsB r) ?_ ?_ 32 R32.out HRA.out (by kernel_rfl) ?_); (case _ => rfl); (case _ => rfl); intro w16 H16; replace H16 := Aside0.mk H16)
    )
  have hhp := Try.underlying25
  have HS : Aside0 (∀ W L, Own w.heap.size w W (.blk g3 (cellsB r) 25 :: .blk g2 (cellsB lb) 25 :: .blk g1 (cellsB la) 25 :: L) → W.heap[g3]? = some (.cells (cellsB r) 25 (0, 0)) ∧ W.heap[g2]? = some (.cells (cellsB lb) 25 (0, 0)) ∧ W.heap[g1]? = some (.cells (cellsB la) 25 (0, 0))) := ⟨fun W L h => ⟨h.get 0 rfl, h.get 1 rfl, h.get 2 rfl⟩⟩
  have HZ : Aside0 (∀ xs : List Int, Hsh xs → (Try.prog.info? 25).map (·.size) = some (cellsB xs).size) := ⟨fun xs h => by rw [(Arr_B h.1).1]; kernel_rfl⟩
  refine wp_region_held_drew (S := (fun W => W.heap[g3]? = some (.cells (cellsB r) 25 (0, 0)) ∧ W.heap[g2]? = some (.cells (cellsB lb) 25 (0, 0)) ∧ W.heap[g1]? = some (.cells (cellsB la) 25 (0, 0)))) (by kernel_rfl) ?_ (fun hHeld => ?_)
  · exact HS.out _ _ H16.out.drew
  refine wpAnyH_take (i := 0) (oi := { dst := some 14, op := Go.Op.move (Go.Operand.tmp 4), type := 29, pos := "law.go:17", after := #[], guard := none }) (v := ?_) rfl (by kernel_rfl) (by kernel_rfl) (by kernel_rfl) (fun _ _ _ h => h) (Or.inl ⟨by rfl, ?_⟩) (by assumption) ?_
  rotate_left
  · intro wS hSw; (try dsimp only at hSw); go_simp; (try with_reducible rfl)
  try simp only [Act.put, List.setIfInBounds_toArray, List.set_cons_zero, List.set_cons_succ]
  refine wpAnyH_take (i := 1) (oi := { dst := some 15, op := Go.Op.binOp Go.BinOp.eql 29 (Go.Operand.tmp 14) (Go.Operand.const (Go.Value.int Go.IntKind.i64 0)) 29, type := 4, pos := "law.go:17", after := #[{ on := 0, ground := Go.Ground.data }], guard := none }) (v := ?_) rfl (by kernel_rfl) (by kernel_rfl) (by kernel_rfl) (fun _ _ _ h => h) (Or.inl ⟨by rfl, ?_⟩) (by assumption) ?_
  rotate_left
  · intro wS hSw; (try dsimp only at hSw); go_simp; (try with_reducible rfl)
  try simp only [Act.put, List.setIfInBounds_toArray, List.set_cons_zero, List.set_cons_succ]
  refine wpAnyH_take (i := 2) (oi := { dst := some 16, op := Go.Op.move (Go.Operand.tmp 15), type := 4, pos := "law.go:17", after := #[{ on := 1, ground := Go.Ground.data }], guard := none }) (v := ?_) rfl (by kernel_rfl) (by kernel_rfl) (by kernel_rfl) (fun _ _ _ h => h) (Or.inl ⟨by rfl, ?_⟩) (by assumption) ?_
  rotate_left
  · intro wS hSw; (try dsimp only at hSw); go_simp; (try with_reducible rfl)
  try simp only [Act.put, List.setIfInBounds_toArray, List.set_cons_zero, List.set_cons_succ]
  refine wpAnyH_take (i := 3) (oi := { dst := some 17, op := Go.Op.load 25 (Go.Operand.tmp 3), type := 25, pos := "law.go:17", after := #[{ on := 2, ground := Go.Ground.guard }], guard := some (2, true) }) (v := .agg (cellsB r)) rfl (by kernel_rfl) (by kernel_rfl) (by kernel_rfl) (fun _ _ _ h => h) (yif_loadV (by rfl) 25 (.tmp 3) rfl g3 _ rfl (fun W h => h.1) _ hhp rfl (HZ.out r HH.out.2.2)) (by assumption) ?_
  try simp only [Act.put, List.setIfInBounds_toArray, List.set_cons_zero, List.set_cons_succ]
  refine wpAnyH_take (i := 4) (oi := { dst := some 18, op := Go.Op.load 25 (Go.Operand.tmp 1), type := 25, pos := "law.go:17", after := #[{ on := 2, ground := Go.Ground.guard }], guard := some (2, true) }) (v := .agg (cellsB la)) rfl (by kernel_rfl) (by kernel_rfl) (by kernel_rfl) (fun _ _ _ h => h) (yif_loadV (by rfl) 25 (.tmp 1) rfl g1 _ rfl (fun W h => h.2.2) _ hhp rfl (HZ.out la HH.out.1)) (by assumption) ?_
  try simp only [Act.put, List.setIfInBounds_toArray, List.set_cons_zero, List.set_cons_succ]
  refine wpAnyH_take (i := 5) (oi := { dst := some 19, op := Go.Op.load 25 (Go.Operand.tmp 2), type := 25, pos := "law.go:17", after := #[{ on := 2, ground := Go.Ground.guard }], guard := some (2, true) }) (v := .agg (cellsB lb)) rfl (by kernel_rfl) (by kernel_rfl) (by kernel_rfl) (fun _ _ _ h => h) (yif_loadV (by rfl) 25 (.tmp 2) rfl g2 _ rfl (fun W h => h.2.1) _ hhp rfl (HZ.out lb HH.out.2.1)) (by assumption) ?_
  try simp only [Act.put, List.setIfInBounds_toArray, List.set_cons_zero, List.set_cons_succ]
  refine wpAnyH_ready (rs := [6]) (by kernel_rfl) (by simp) ?_
  refine AllReadyH.cons (o := { dst := some 20, op := Go.Op.call { callee := Go.Callee.value (Go.Operand.func 66), args := #[Go.Operand.tmp 18, Go.Operand.tmp 19], argTypes := #[25, 25] }, type := 25, pos := "law.go:17", after := #[{ on := 4, ground := Go.Ground.data }, { on := 5, ground := Go.Ground.data }, { on := 2, ground := Go.Ground.chain }, { on := 2, ground := Go.Ground.guard }], guard := some (2, true) }) rfl (fun K hK => ?_) AllReadyH.nil
  go_simp
  refine (HP.out _).mono ?_
  rintro e w20 ⟨rfl, hB20⟩
  have H20 := Aside0.mk (H16.out.drew.step hB20)
  clear hB20
  go_wp2_with fail
  refine hK.out _ _ ?_ (fun hHeld => ?_)
  · exact HS.out _ _ H20.out
  clear hK K
  try simp only [Act.put, List.setIfInBounds_toArray, List.set_cons_zero, List.set_cons_succ]
  refine wpAnyH_take (i := 7) (oi := { dst := some 21, op := Go.Op.binOp Go.BinOp.eql 25 (Go.Operand.tmp 17) (Go.Operand.tmp 20) 25, type := 4, pos := "law.go:17", after := #[{ on := 3, ground := Go.Ground.data }, { on := 6, ground := Go.Ground.data }, { on := 2, ground := Go.Ground.guard }], guard := some (2, true) }) (v := .bool true) rfl (by kernel_rfl) (by kernel_rfl) (by kernel_rfl) (fun _ _ _ h => h) (yif_eqb true (by rfl) 25 _ (.tmp 17) (.tmp 20) rfl r r rfl rfl Try.underlying25 Try.underlying5 size1B guardH HH.out.2.2.1 HH.out.2.2.1 (beq_self_eq_true r)) (by assumption) ?_
  try simp only [Act.put, List.setIfInBounds_toArray, List.set_cons_zero, List.set_cons_succ]
  refine wpAnyH_take (i := 8) (oi := { dst := some 22, op := Go.Op.pick (Go.Operand.tmp 16) (Go.Operand.tmp 21) (Go.Operand.const (Go.Value.bool false)), type := 4, pos := "law.go:17", after := #[{ on := 2, ground := Go.Ground.data }, { on := 7, ground := Go.Ground.data }], guard := none }) (v := ?_) rfl (by kernel_rfl) (by kernel_rfl) (by kernel_rfl) (fun _ _ _ h => h) (Or.inl ⟨by rfl, ?_⟩) (by assumption) ?_
  rotate_left
  · intro wS hSw; (try dsimp only at hSw); go_simp; (try with_reducible rfl)
  try simp only [Act.put, List.setIfInBounds_toArray, List.set_cons_zero, List.set_cons_succ]
  refine wpAnyH_take (i := 9) (oi := { dst := some 23, op := Go.Op.move (Go.Operand.tmp 22), type := 4, pos := "law.go:17", after := #[{ on := 8, ground := Go.Ground.data }, { on := 6, ground := Go.Ground.chain }], guard := none }) (v := ?_) rfl (by kernel_rfl) (by kernel_rfl) (by kernel_rfl) (fun _ _ _ h => h) (Or.inl ⟨by rfl, ?_⟩) (by assumption) ?_
  rotate_left
  · intro wS hSw; (try dsimp only at hSw); go_simp; (try with_reducible rfl)
  try simp only [Act.put, List.setIfInBounds_toArray, List.set_cons_zero, List.set_cons_succ]
  refine wpAnyH_take (i := 10) (oi := { dst := some 24, op := Go.Op.load 25 (Go.Operand.tmp 3), type := 25, pos := "law.go:17", after := #[{ on := 9, ground := Go.Ground.guard }], guard := some (9, true) }) (v := .agg (cellsB r)) rfl (by kernel_rfl) (by kernel_rfl) (by kernel_rfl) (fun _ _ _ h => h) (yif_loadV (by rfl) 25 (.tmp 3) rfl g3 _ rfl (fun W h => h.1) _ hhp rfl (HZ.out r HH.out.2.2)) (by assumption) ?_
  try simp only [Act.put, List.setIfInBounds_toArray, List.set_cons_zero, List.set_cons_succ]
  refine wpAnyH_take (i := 11) (oi := { dst := some 25, op := Go.Op.load 25 (Go.Operand.tmp 1), type := 25, pos := "law.go:17", after := #[{ on := 9, ground := Go.Ground.guard }], guard := some (9, true) }) (v := .agg (cellsB la)) rfl (by kernel_rfl) (by kernel_rfl) (by kernel_rfl) (fun _ _ _ h => h) (yif_loadV (by rfl) 25 (.tmp 1) rfl g1 _ rfl (fun W h => h.2.2) _ hhp rfl (HZ.out la HH.out.1)) (by assumption) ?_
  try simp only [Act.put, List.setIfInBounds_toArray, List.set_cons_zero, List.set_cons_succ]
  refine wpAnyH_ready (rs := [12]) (by kernel_rfl) (by simp) ?_
  refine AllReadyH.cons (o := { dst := some 26, op := Go.Op.buildSlice 26 1 #[(0, Go.Operand.tmp 25)], type := 26, pos := "law.go:17", after := #[{ on := 11, ground := Go.Ground.data }, { on := 9, ground := Go.Ground.guard }], guard := some (9, true) }) rfl (fun K hK => ?_) AllReadyH.nil
  refine step_of_run (by rfl) (lit_H_run (.tmp 25) rfl la rfl HH.out.1.1) ?_
  have H22 := Aside0.mk ((H20.out.lit kH Flat_H 25 [la] (la.map (Value.int .u8)) (reps_H1 _ la HH.out.1.1) (by simp)))
  have K22 := Aside0.mk (And.intro (H22.out.get 1 rfl) (And.intro (H22.out.get 2 rfl) (H22.out.get 3 rfl)))
  refine hK.out _ _ ?_ (fun hHeld => ?_)
  · exact K22.out
  clear hK K
  try simp only [Act.put, List.setIfInBounds_toArray, List.set_cons_zero, List.set_cons_succ]
  refine wpAnyH_ready (rs := [13]) (by kernel_rfl) (by simp) ?_
  refine AllReadyH.cons (o := { dst := some 27, op := Go.Op.call { callee := Go.Callee.value (Go.Operand.func 16), args := #[Go.Operand.tmp 24, Go.Operand.const (Go.Value.int Go.IntKind.u64 1), Go.Operand.const (Go.Value.int Go.IntKind.u64 2), Go.Operand.tmp 26], argTypes := #[25, 23, 23, 26] }, type := 4, pos := "law.go:17", after := #[{ on := 10, ground := Go.Ground.data }, { on := 12, ground := Go.Ground.data }, { on := 9, ground := Go.Ground.chain }, { on := 9, ground := Go.Ground.guard }], guard := some (9, true) }) rfl (fun K hK => ?_) AllReadyH.nil
  go_simp
  refine (HY.out _ _ _ (H22.out.C_of 0 rfl) (Nat.le_refl _)).mono ?_
  rintro e w23 ⟨rfl, hB23⟩
  have H23 := Aside0.mk ((H22.out.step hB23).erase 0)
  clear hB23
  go_wp2_with fail
  refine hK.out _ _ ?_ (fun hHeld => ?_)
  · exact HS.out _ _ H23.out
  clear hK K
  try simp only [Act.put, List.setIfInBounds_toArray, List.set_cons_zero, List.set_cons_succ]
  refine wpAnyH_take (i := 14) (oi := { dst := some 28, op := Go.Op.pick (Go.Operand.tmp 23) (Go.Operand.tmp 27) (Go.Operand.const (Go.Value.bool false)), type := 4, pos := "law.go:17", after := #[{ on := 9, ground := Go.Ground.data }, { on := 13, ground := Go.Ground.data }], guard := none }) (v := ?_) rfl (by kernel_rfl) (by kernel_rfl) (by kernel_rfl) (fun _ _ _ h => h) (Or.inl ⟨by rfl, ?_⟩) (by assumption) ?_
  rotate_left
  · intro wS hSw; (try dsimp only at hSw); go_simp; (try with_reducible rfl)
  try simp only [Act.put, List.setIfInBounds_toArray, List.set_cons_zero, List.set_cons_succ]
  refine wpAnyH_take (i := 15) (oi := { dst := some 29, op := Go.Op.move (Go.Operand.tmp 28), type := 4, pos := "law.go:17", after := #[{ on := 14, ground := Go.Ground.data }, { on := 13, ground := Go.Ground.chain }], guard := none }) (v := ?_) rfl (by kernel_rfl) (by kernel_rfl) (by kernel_rfl) (fun _ _ _ h => h) (Or.inl ⟨by rfl, ?_⟩) (by assumption) ?_
  rotate_left
  · intro wS hSw; (try dsimp only at hSw); go_simp; (try with_reducible rfl)
  try simp only [Act.put, List.setIfInBounds_toArray, List.set_cons_zero, List.set_cons_succ]
  refine wpAnyH_take (i := 16) (oi := { dst := some 30, op := Go.Op.load 25 (Go.Operand.tmp 3), type := 25, pos := "law.go:17", after := #[{ on := 15, ground := Go.Ground.guard }], guard := some (15, true) }) (v := .agg (cellsB r)) rfl (by kernel_rfl) (by kernel_rfl) (by kernel_rfl) (fun _ _ _ h => h) (yif_loadV (by rfl) 25 (.tmp 3) rfl g3 _ rfl (fun W h => h.1) _ hhp rfl (HZ.out r HH.out.2.2)) (by assumption) ?_
  try simp only [Act.put, List.setIfInBounds_toArray, List.set_cons_zero, List.set_cons_succ]
  refine wpAnyH_take (i := 17) (oi := { dst := some 31, op := Go.Op.load 25 (Go.Operand.tmp 1), type := 25, pos := "law.go:17", after := #[{ on := 15, ground := Go.Ground.guard }], guard := some (15, true) }) (v := .agg (cellsB la)) rfl (by kernel_rfl) (by kernel_rfl) (by kernel_rfl) (fun _ _ _ h => h) (yif_loadV (by rfl) 25 (.tmp 1) rfl g1 _ rfl (fun W h => h.2.2) _ hhp rfl (HZ.out la HH.out.1)) (by assumption) ?_
  try simp only [Act.put, List.setIfInBounds_toArray, List.set_cons_zero, List.set_cons_succ]
  refine wpAnyH_ready (rs := [18]) (by kernel_rfl) (by simp) ?_
  refine AllReadyH.cons (o := { dst := some 32, op := Go.Op.buildSlice 26 1 #[(0, Go.Operand.tmp 31)], type := 26, pos := "law.go:17", after := #[{ on := 17, ground := Go.Ground.data }, { on := 15, ground := Go.Ground.guard }], guard := some (15, true) }) rfl (fun K hK => ?_) AllReadyH.nil
  refine step_of_run (by rfl) (lit_H_run (.tmp 31) rfl la rfl HH.out.1.1) ?_
  have H32 := Aside0.mk ((H23.out.lit kH Flat_H 25 [la] (la.map (Value.int .u8)) (reps_H1 _ la HH.out.1.1) (by simp)))
  have K32 := Aside0.mk (And.intro (H32.out.get 1 rfl) (And.intro (H32.out.get 2 rfl) (H32.out.get 3 rfl)))
  refine hK.out _ _ ?_ (fun hHeld => ?_)
  · exact K32.out
  clear hK K
  try simp only [Act.put, List.setIfInBounds_toArray, List.set_cons_zero, List.set_cons_succ]
  refine wpAnyH_ready (rs := [19]) (by kernel_rfl) (by simp) ?_
  refine AllReadyH.cons (o := { dst := some 33, op := Go.Op.call { callee := Go.Callee.value (Go.Operand.func 16), args := #[Go.Operand.tmp 30, Go.Operand.const (Go.Value.int Go.IntKind.u64 1), Go.Operand.const (Go.Value.int Go.IntKind.u64 3), Go.Operand.tmp 32], argTypes := #[25, 23, 23, 26] }, type := 4, pos := "law.go:17", after := #[{ on := 16, ground := Go.Ground.data }, { on := 18, ground := Go.Ground.data }, { on := 15, ground := Go.Ground.chain }, { on := 15, ground := Go.Ground.guard }], guard := some (15, true) }) rfl (fun K hK => ?_) AllReadyH.nil
  go_simp
  refine (HN.out _ _ _ (H32.out.C_of 0 rfl) (Nat.le_refl _)).mono ?_
  rintro e w33 ⟨rfl, hB33⟩
  have H33 := Aside0.mk ((H32.out.step hB33).erase 0)
  clear hB33
  go_wp2_with fail
  refine hK.out _ _ ?_ (fun hHeld => ?_)
  · exact HS.out _ _ H33.out
  clear hK K
  try simp only [Act.put, List.setIfInBounds_toArray, List.set_cons_zero, List.set_cons_succ]
  refine wpAnyH_take (i := 20) (oi := { dst := some 34, op := Go.Op.unOp Go.UnOp.not 4 (Go.Operand.tmp 33), type := 4, pos := "law.go:17", after := #[{ on := 19, ground := Go.Ground.data }, { on := 15, ground := Go.Ground.guard }], guard := some (15, true) }) (v := ?_) rfl (by kernel_rfl) (by kernel_rfl) (by kernel_rfl) (fun _ _ _ h => h) (Or.inl ⟨by rfl, ?_⟩) (by assumption) ?_
  rotate_left
  · intro wS hSw; (try dsimp only at hSw); go_simp; (try with_reducible rfl)
  try simp only [Act.put, List.setIfInBounds_toArray, List.set_cons_zero, List.set_cons_succ]
  refine wpAnyH_take (i := 21) (oi := { dst := some 35, op := Go.Op.pick (Go.Operand.tmp 29) (Go.Operand.tmp 34) (Go.Operand.const (Go.Value.bool false)), type := 4, pos := "law.go:17", after := #[{ on := 15, ground := Go.Ground.data }, { on := 20, ground := Go.Ground.data }], guard := none }) (v := ?_) rfl (by kernel_rfl) (by kernel_rfl) (by kernel_rfl) (fun _ _ _ h => h) (Or.inl ⟨by rfl, ?_⟩) (by assumption) ?_
  rotate_left
  · intro wS hSw; (try dsimp only at hSw); go_simp; (try with_reducible rfl)
  try simp only [Act.put, List.setIfInBounds_toArray, List.set_cons_zero, List.set_cons_succ]
  refine wpAnyH_take (i := 22) (oi := { dst := some 0, op := Go.Op.assign (Go.Operand.tmp 35), type := 4, pos := "law.go:17", after := #[{ on := 21, ground := Go.Ground.data }, { on := 19, ground := Go.Ground.chain }, { on := 0, ground := Go.Ground.phase }, { on := 1, ground := Go.Ground.phase }, { on := 2, ground := Go.Ground.phase }, { on := 3, ground := Go.Ground.phase }, { on := 4, ground := Go.Ground.phase }, { on := 5, ground := Go.Ground.phase }, { on := 6, ground := Go.Ground.phase }, { on := 7, ground := Go.Ground.phase }, { on := 8, ground := Go.Ground.phase }, { on := 9, ground := Go.Ground.phase }, { on := 10, ground := Go.Ground.phase }, { on := 11, ground := Go.Ground.phase }, { on := 12, ground := Go.Ground.phase }, { on := 13, ground := Go.Ground.phase }, { on := 14, ground := Go.Ground.phase }, { on := 15, ground := Go.Ground.phase }, { on := 16, ground := Go.Ground.phase }, { on := 17, ground := Go.Ground.phase }, { on := 18, ground := Go.Ground.phase }, { on := 19, ground := Go.Ground.phase }, { on := 20, ground := Go.Ground.phase }, { on := 21, ground := Go.Ground.phase }], guard := none }) (v := ?_) rfl (by kernel_rfl) (by kernel_rfl) (by kernel_rfl) (fun _ _ _ h => h) (Or.inl ⟨by rfl, ?_⟩) (by assumption) ?_
  rotate_left
  · intro wS hSw; (try dsimp only at hSw); go_simp; (try with_reducible rfl)
  try simp only [Act.put, List.setIfInBounds_toArray, List.set_cons_zero, List.set_cons_succ]
  refine wpAnyH_done (by kernel_rfl) ?_ _
  clear hHeld
  go_wp2_with fail
  go_ret
  exact ⟨rfl, H33.out.below⟩
end Go.Proofs.Ytocphkfkdadhaaa.H

namespace Go.Proofs.Ytocphkfkdadhaaa.H
open Go.RowKit Go.Proofs.YtocphkfkdadhaaaW.PrintWords Go.Proofs.YtocphkfkdadhaaaW.PrintLast Go.Proofs.YtocphkfkdadhaaaW.PrintMore
open Go.ChangeShapes Go.WideShapes Go.ChangeAt
set_option linter.unusedVariables false
set_option linter.unusedSimpArgs false
theorem choose_list {α : Type} (Q : Nat → α → Prop) : ∀ n : Nat, (∀ i, i < n → ∃ y, Q i y) → ∃ xs : List α, xs.length = n ∧ ∀ i p, xs[i]? = some p → Q i p
  | 0, _ => ⟨[], rfl, fun i p h => by simp at h⟩
  | n + 1, h => by
    obtain ⟨xs, hl, hx⟩ := choose_list Q n (fun i hi => h i (by omega))
    obtain ⟨y, hy⟩ := h n (by omega)
    refine ⟨xs ++ [y], by rw [List.length_append, hl]; rfl, fun i p hp => ?_⟩
    by_cases hi : i < xs.length
    · rw [List.getElem?_append_left hi] at hp
      exact hx i p hp
    · rw [List.getElem?_append_right (by omega)] at hp
      by_cases h0 : i - xs.length = 0
      · rw [h0] at hp
        simp at hp
        subst hp
        rw [show i = n by omega]
        exact hy
      · rw [List.getElem?_eq_none (by simp; omega)] at hp
        cases hp
def Opens {α : Type} (T : TypeId) (d : Kd α) (ok : α → Prop) : Prop :=
  ∀ {H : Type} {enc : TypeId × Value → H} {W : World} {fuel : Nat} {cs : List Value} {x : DataW H × List MemPlace}, DataW.trod enc Try.prog W 0 (fun _ => true) true fuel T cs = some x → ∃ y, d.K W y cs ∧ ok y
theorem opens_int {T : TypeId} {k : IntKind} (hT : Try.prog.underlying T = some (.int k)) : Opens T (Kd.int k) (fun n => (Lit.int k n).wf = true) := by
  intro H enc W fuel cs x h
  obtain ⟨n, e, _, w⟩ := DataW.trod_int hT h
  exact ⟨n, e, w⟩
theorem opens_row {α : Type} {T e : TypeId} {d : Kd α} {ok : α → Prop} (hT : Try.prog.underlying T = some (.slice e)) (hs : Try.prog.cellsOf e = d.sz) (he : Opens e d ok)
    {H : Type} {enc : TypeId × Value → H} {W : World} {fuel : Nat} {cs : List Value} {x : DataW H × List MemPlace} (h : DataW.trod enc Try.prog W 0 (fun _ => true) true fuel T cs = some x) :
    ∃ A l c, cs = [.slice A l.length c] ∧ l.length ≤ c ∧ d.C W A l.length l ∧ (∀ y ∈ l, ok y) ∧ ((l = [] ∧ x.1 = .nil) ∨ ∃ es rs : List (DataW H), x.1 = .slice es rs ∧ es.length = l.length) := by
  rcases DataW.trod_slice hT h with ⟨hc2, hx⟩ | ⟨a, len, cap, elems, rest, m, hm, hc2, hx, _, hlc, hcm, hle, hel, _, _⟩
  · exact ⟨none, [], 0, hc2, Nat.le_refl _, Kd.C_nil _ _, by simp, .inl ⟨rfl, by rw [hx]⟩⟩
  · rw [hs] at hel
    have each : ∀ i, i < len → ∃ y : α, (∃ c, c.length = d.sz ∧ d.K W y c ∧ ∀ j u, c[j]? = some u → W.cell? (a.add (i * d.sz + j)) = some u) ∧ ok y := by
      intro i hi
      have h3 := hel i hi
      rw [List.getElem?_eq_getElem (by omega), Option.bind_eq_some_iff] at h3
      obtain ⟨c, hc, ht⟩ := h3
      obtain ⟨y, hK, hBy⟩ := he ht
      obtain ⟨_, hcl, hcc⟩ := World.cells?_some hc
      refine ⟨y, ⟨c, hcl, hK, fun j u hj => ?_⟩, hBy⟩
      have hj3 : j < d.sz := by have := (List.getElem?_eq_some_iff.1 hj).1; omega
      rw [← hj, ← hcc j hj3, Addr.add_add]
    obtain ⟨ys, hyl, hys⟩ := choose_list _ len each
    subst hyl
    refine ⟨some a, ys, cap, hc2, hlc, ⟨rfl, ?_, fun _ => ⟨a, rfl, fun j p hj => (hys j p hj).1⟩⟩, ?_, .inr ⟨elems.map (·.1), rest.map (·.1), by rw [hx], by rw [List.length_map]; exact hle⟩⟩
    · have : maxLen ≤ 9223372036854775807 := by decide
      show ys.length ≤ 9223372036854775807
      omega
    · intro y hy
      obtain ⟨i, hi⟩ := List.getElem?_of_mem hy
      exact (hys i y hi).2
theorem opens_slice {α : Type} {T e : TypeId} {d : Kd α} {ok : α → Prop} (hT : Try.prog.underlying T = some (.slice e)) (hs : Try.prog.cellsOf e = d.sz) (he : Opens e d ok) : Opens T (Kd.slice e d) (fun l => ∀ y ∈ l, ok y) := by
  intro H enc W fuel cs x h
  obtain ⟨A, l, c, h1, h2, h3, h4, _⟩ := opens_row hT hs he h
  exact ⟨l, ⟨A, c, h1, h2, h3⟩, h4⟩
def kA (n : Nat) (k : IntKind) : Kd (List Int) where
  sz := n
  E := []
  K := fun _ x cs => x.length = n ∧ cs = x.map (Value.int k)
  M := fun _ _ _ x cs => x.length = n ∧ cs = x.map (Value.int k)
  K_len := fun h => by rw [h.2, List.length_map, h.1]
  K_one := fun h u hu => by
    rw [h.2] at hu
    obtain ⟨x, _, rfl⟩ := List.mem_map.1 hu
    rfl
  K_below := fun _ h => h
  K_of_M := fun h => h
  M_mono := fun _ h => h
  M_bound := fun h => h
  M_move := fun _ h => h
  M_lower := fun _ h => h
theorem opens_arr {T e : TypeId} {n : Nat} {k : IntKind} (hT : Try.prog.underlying T = some (.array n e)) (he : Try.prog.underlying e = some (.int k)) (hs : Try.prog.cellsOf e = 1) (hn : Try.prog.cellsOf T = n) : Opens T (kA n k) (fun l => l.length = n ∧ ∀ y ∈ l, (Lit.int k y).wf = true) := by
  intro H enc W fuel cs x h
  obtain ⟨xs, m, _, _, hl, hlen, hel⟩ := DataW.trod_array hT h
  rw [hn] at hl
  rw [hs] at hel
  have each : ∀ i, i < n → ∃ y : Int, cs[i]? = some (.int k y) ∧ (Lit.int k y).wf = true := by
    intro i hi
    have h3 := hel i hi
    rw [List.getElem?_eq_getElem (by omega), Nat.mul_one] at h3
    obtain ⟨y, e1, _, w⟩ := DataW.trod_int he h3
    refine ⟨y, ?_, w⟩
    have h4 : ((cs.drop i).take 1)[0]? = some (.int k y) := by rw [e1]; rfl
    rw [List.getElem?_take, if_pos (by decide), List.getElem?_drop, Nat.add_zero] at h4
    exact h4
  obtain ⟨ys, hyl, hys⟩ := choose_list _ n each
  refine ⟨ys, ⟨hyl, ?_⟩, hyl, fun y hy => ?_⟩
  · refine List.ext_getElem? fun i => ?_
    by_cases hi : i < n
    · have h5 : ys[i]? = some ys[i] := List.getElem?_eq_getElem (by omega)
      rw [(hys i _ h5).1, List.getElem?_map, h5]
      rfl
    · rw [List.getElem?_eq_none (by omega), List.getElem?_eq_none (by rw [List.length_map]; omega)]
  · obtain ⟨i, hi⟩ := List.getElem?_of_mem hy
    exact (hys i y hi).2
theorem opens_H {T : TypeId} {e : TypeId} (hT : Try.prog.underlying T = some (.array 32 e)) (he : Try.prog.underlying e = some (.int .u8)) (hs : Try.prog.cellsOf e = 1) (hn : Try.prog.cellsOf T = 32) : Opens T kH (fun l => l.length = 32 ∧ ∀ y ∈ l, (Lit.int .u8 y).wf = true) :=
  fun h => opens_arr hT he hs hn h
noncomputable def offs : List TypeId → Nat → Nat
  | [] => fun _ => 0
  | t :: ts => fun i => match i with
    | 0 => 0
    | i + 1 => Try.prog.cellsOf t + offs ts i
def Many {α : Type} (ts : List TypeId) (d : Kd α) (ok : α → Prop) : Prop :=
  ∀ {H : Type} {enc : TypeId × Value → H} {W : World} {n : Nat} {cs : List Value}, cs.length = d.sz → (∀ i t, ts[i]? = some t → ∃ x : DataW H × List MemPlace, DataW.trod enc Try.prog W 0 (fun _ => true) true n t ((cs.drop (offs ts i)).take (Try.prog.cellsOf t)) = some x) → ∃ y, d.K W y cs ∧ ok y
theorem many_one {α : Type} {T : TypeId} {d : Kd α} {ok : α → Prop} (h : Opens T d ok) (hs : Try.prog.cellsOf T = d.sz) : Many [T] d ok := by
  intro H enc W n cs hl hf
  obtain ⟨x, hx⟩ := hf 0 T rfl
  rw [show offs [T] 0 = 0 from rfl, List.drop_zero, List.take_of_length_le (by omega)] at hx
  exact h hx
theorem many_cons {α β : Type} {T : TypeId} {ts : List TypeId} {a : Kd α} {b : Kd β} {ok1 : α → Prop} {ok2 : β → Prop} (h : Opens T a ok1) (hs : Try.prog.cellsOf T = a.sz) (hm : Many ts b ok2) : Many (T :: ts) (Kd.pair a b) (fun y => ok1 y.1 ∧ ok2 y.2) := by
  intro H enc W n cs hl hf
  have hl' : cs.length = a.sz + b.sz := hl
  obtain ⟨x, hx⟩ := hf 0 T rfl
  rw [show offs (T :: ts) 0 = 0 from rfl, List.drop_zero, hs] at hx
  obtain ⟨y1, hK1, ho1⟩ := h hx
  obtain ⟨y2, hK2, ho2⟩ := hm (cs := cs.drop a.sz) (by rw [List.length_drop]; omega) (fun i t ht => by
    obtain ⟨x, hx⟩ := hf (i + 1) t (by simpa using ht)
    refine ⟨x, ?_⟩
    rw [show offs (T :: ts) (i + 1) = Try.prog.cellsOf T + offs ts i from rfl, hs, ← List.drop_drop] at hx
    exact hx)
  exact ⟨(y1, y2), ⟨cs.take a.sz, cs.drop a.sz, (List.take_append_drop _ _).symm, hK1, hK2⟩, ho1, ho2⟩
theorem opens_struct {α : Type} {T : TypeId} {fs : Array Field} {ts : List TypeId} {d : Kd α} {ok : α → Prop} (hT : Try.prog.underlying T = some (.struct fs)) (hm : Many ts d ok) (hsz : Try.prog.cellsOf T = d.sz)
    (hts : (List.range ts.length).map (fun i => (fs[i]?).map fun f => (f.type, f.offset)) = (List.range ts.length).map (fun i => (ts[i]?).map fun t => (t, offs ts i))) : Opens T d ok := by
  intro H enc W fuel cs x h
  obtain ⟨xs, n, hfu, _, hl, hlen, hf⟩ := DataW.trod_struct hT h
  refine hm (H := H) (enc := enc) (W := W) (n := n) (by rw [hl, hsz]) (fun i t ht => ?_)
  have hi := (List.getElem?_eq_some_iff.1 ht).1
  have h1 := congrArg (fun l => l[i]?) hts
  simp only [List.getElem?_map, List.getElem?_range hi, Option.map_some, ht] at h1
  have h2 := Option.some.inj h1
  obtain ⟨f, hfe, hfo⟩ := Option.map_eq_some_iff.1 h2
  simp only [Prod.mk.injEq] at hfo
  have h3 := hf i f hfe
  have hfi : i < fs.size := by
    have := (Array.getElem?_eq_some_iff.1 hfe).1
    exact this
  rw [List.getElem?_eq_getElem (by omega)] at h3
  rw [hfo.1, hfo.2] at h3
  exact ⟨_, h3⟩
theorem okWide_array' {P : Program} {w : World} {r : Reach} {base n : Nat} {t e : TypeId} {v : Value} (ht : P.underlying t = some (.array n e)) (h : Value.okWide P w r base t v) : ∃ cs, v = .agg cs ∧ cs.size = P.cellsOf t := by
  simp only [Value.okWide, ht] at h
  obtain ⟨cs, h1, h2, _⟩ := h
  exact ⟨cs, h1, h2⟩
set_option maxRecDepth 100000 in
theorem open_agg {α : Type} {T : TypeId} {fs : Array Field} {d : Kd α} {ok : α → Prop} (hT : Try.prog.underlying T = some (.struct fs)) (ho : Opens T d ok) {H : Type} {enc : TypeId × Value → H} {W : World} {r : Reach} {b0 : Nat} {v : Value} {x : DataW H} {p : List MemPlace}
    (hv : Value.okWide Try.prog W r b0 T v) (h : DataW.Trod enc Try.prog W 0 (fun _ => true) true T v x p) : ∃ (cs : Array Value) (y : α), v = .agg cs ∧ d.K W y cs.toList ∧ ok y := by
  obtain ⟨cs, rfl, hsz⟩ := okWide_struct hT hv
  obtain ⟨fuel, hf⟩ := h
  obtain ⟨y, hK, hB⟩ := ho hf
  exact ⟨cs, y, rfl, hK, hB⟩
set_option maxRecDepth 100000 in
theorem open_aggA {α : Type} {T e : TypeId} {n : Nat} {d : Kd α} {ok : α → Prop} (hT : Try.prog.underlying T = some (.array n e)) (ho : Opens T d ok) {H : Type} {enc : TypeId × Value → H} {W : World} {r : Reach} {b0 : Nat} {v : Value} {x : DataW H} {p : List MemPlace}
    (hv : Value.okWide Try.prog W r b0 T v) (h : DataW.Trod enc Try.prog W 0 (fun _ => true) true T v x p) : ∃ (cs : Array Value) (y : α), v = .agg cs ∧ d.K W y cs.toList ∧ ok y := by
  obtain ⟨cs, rfl, hsz⟩ := okWide_array' hT hv
  obtain ⟨fuel, hf⟩ := h
  obtain ⟨y, hK, hB⟩ := ho hf
  exact ⟨cs, y, rfl, hK, hB⟩
end Go.Proofs.Ytocphkfkdadhaaa.H

namespace Go.Proofs.Ytocphkfkdadhaaa.H
open Go.RowKit Go.Proofs.YtocphkfkdadhaaaW.PrintWords Go.Proofs.YtocphkfkdadhaaaW.PrintLast Go.Proofs.YtocphkfkdadhaaaW.PrintMore
set_option linter.unusedVariables false
set_option linter.unusedSimpArgs false
theorem wf_u64 {n : Int} (h : (Lit.int .u64 n).wf = true) : 0 ≤ n ∧ n ≤ 18446744073709551615 := by
  simp [Lit.wf, IntKind.min, IntKind.max, IntKind.signed, IntKind.bits] at h
  omega
theorem wf_u8 {n : Int} (h : (Lit.int .u8 n).wf = true) : 0 ≤ n ∧ n ≤ 255 := by
  simp [Lit.wf, IntKind.min, IntKind.max, IntKind.signed, IntKind.bits] at h
  omega
end Go.Proofs.Ytocphkfkdadhaaa.H

