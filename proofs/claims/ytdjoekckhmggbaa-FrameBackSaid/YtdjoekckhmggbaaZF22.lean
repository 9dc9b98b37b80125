import Derived.Test.YtdjoekckhmggbaaZF21
import Derived.BigRegion
import Derived.Deep.QuietTactic
import Derived.BigQuiet
import Derived.IntWalk
namespace Go.Proofs.Ytdjoekckhmggbaa.H
open Go.RowKit Go.Proofs.YtdjoekckhmggbaaW.PrintWords Go.Proofs.YtdjoekckhmggbaaW.PrintLast Go.Proofs.YtdjoekckhmggbaaW.PrintMore Go.Proofs.Ytdjoekckhmggbaa.PRF
attribute [local go_sem] max2_int min2_int max_two min_two max_three min_three max_four min_four
set_option linter.unusedVariables false
set_option linter.unusedSimpArgs false
section
variable {ops : Array Oper} {rest : List Oper} {o : Oper} {a : Act} {Q : Exit → Act → World → Prop}
theorem app_frames {W : World} (base : Nat) (hgd : o.guard = none) (s x : Operand)
    (ho : o.op = .call { callee := .builtin .append, args := #[s, x], argTypes := #[22, 22] })
    (v : Value) (xs ys : List FV) (g c : Nat) (hs : a.eval s = v) (hx : a.eval x = .slice (some ⟨g, 0, none⟩) ys.length c)
    (HO : Aside0 (W.ownsRow base 40 4 v xs.length (flatF xs))) (HR : Aside0 (∀ i (h : i < ys.length), RowAt W (some ⟨g, 0, none⟩) i ys[i])) (hb : base ≤ W.heap.size) (hl : xs.length + ys.length ≤ 1000000)
    (h : ∀ v1 w1, Aside0 (w1.ownsRow base 40 4 v1 (xs ++ ys).length (flatF (xs ++ ys))) → Aside0 (W.grownBy w1 v.ownBlock) → wpList Try.prog ops Q rest (a.put o.dst v1) w1) :
    wpList Try.prog ops Q (o :: rest) a W := by
  obtain ⟨i0, hi, hz0, hz1, hz2⟩ := info_parts info40
  refine wpList_append_own W hgd s x 22 ho base 40 i0 _ 4 48 Try.underlying22 hi hz0 hz1 hz2 rfl (by decide) v xs.length (flatF xs) hs HO.out ⟨g, 0, none⟩ ys.length c (flatF ys) hx (flatF_len ys) (flatF_news HR.out) (flatF_one ys) (by unfold maxLen; omega) (by omega) hb ?_
  intro v1 w1 h1 h2 _
  refine h v1 w1 ⟨?_⟩ ⟨h2⟩
  rw [flatF_app, List.length_append]
  exact h1
end
theorem owns_open {w : World} {base : Nat} {v : Value} {vs : List FV} (h : w.ownsRow base 40 4 v vs.length (flatF vs)) (hne : 0 < vs.length) : ∃ g cap cur, v = .slice (some ⟨g, 0, none⟩) vs.length cap ∧ vs.length ≤ cap ∧ base ≤ g ∧ w.heap[g]? = some (.cells cur 40 (0, 0)) ∧ RowsIn cur vs := by
  rcases h.2 with ⟨_, h0⟩ | ⟨g, cap, cur, h1, h2, h3, h4, _, _, h7⟩
  · omega
  · exact ⟨g, cap, cur, h1, h4, h2, h3, rowsIn_of h7⟩
theorem rowAt_move {base g i : Nat} {W W' : World} {p : FV} (hb : Below base W W') (hg : g < base) (h : RowAt W (some ⟨g, 0, none⟩) i p) : RowAt W' (some ⟨g, 0, none⟩) i p := by
  obtain ⟨ad, e, h0, h1, h2, h3⟩ := h
  injection e with e
  subst e
  rw [addr0] at h0 h1 h2 h3
  refine ⟨_, rfl, ?_⟩
  rw [addr0]
  exact ⟨(hb.cell (p := ⟨g, i * 4, none⟩) hg).trans h0, (hb.cell (p := ⟨g, i * 4 + 1, none⟩) hg).trans h1, (hb.cell (p := ⟨g, i * 4 + 2, none⟩) hg).trans h2, (hb.cell (p := ⟨g, i * 4 + 3, none⟩) hg).trans h3⟩
theorem below_owns {base : Nat} {w W W' : World} {v : Value} {n : Nat} {xs : List Value} (hB : Below base w W) (hbase : base ≤ W.heap.size) (ho : W.ownsRow base 40 4 v n xs) (hg : W.grownBy W' v.ownBlock) : Below base w W' :=
  hB.grown hg hbase (fun k e => own_base ho k e)
theorem other_row {W : World} {g : Nat} {p : FV} {cur : Array Value} (h : W.heap[g]? = some (.cells cur 40 (0, 0))) (hr : RowIn cur 0 p) : ∀ i (h : i < [p].length), RowAt W (some ⟨g, 0, none⟩) i [p][i] := by
  intro i hi
  obtain rfl : i = 0 := by simp at hi; exact hi
  refine ⟨_, rfl, ?_⟩
  rw [addr0]
  exact ⟨(blk_cell h _).trans hr.1, (blk_cell h _).trans hr.2.1, (blk_cell h _).trans hr.2.2.1, (blk_cell h _).trans hr.2.2.2⟩
def otherV (w : World) : FV := ⟨⟨4, 0, true, [9]⟩, some ⟨w.heap.size, 0, none⟩, 1⟩
theorem byte_at {w : World} {T : Option Addr} {l : List Int} (h : Kd.C (Kd.int .u8) w T l.length l) (i : Nat) (hi : i < l.length) : ∃ ad, T = some ad ∧ w.cell? (ad.add i) = some (.int .u8 l[i]) := by
  obtain ⟨ad, c, e, hcl, hK, hc⟩ := Kd.C_get h 0 (i : Int) (by omega) (by omega)
  have hK' : c = [.int .u8 (l.getD (i : Int).toNat 0)] := hK
  subst hK'
  refine ⟨ad, e, ?_⟩
  have := hc 0 _ rfl
  rw [Int.toNat_natCast, show (Kd.int .u8).sz = 1 from rfl, Nat.mul_one, Nat.add_zero] at this
  rw [this]
  simp [List.getD_eq_getElem?_getD, List.getElem?_eq_getElem hi]
theorem cell_some_set {w : World} {p q : Addr} {x : Value} (h : ∃ v, w.cell? q = some v) : ∃ v', (w.setCell p x).cell? q = some v' := by
  obtain ⟨v, h⟩ := h
  by_cases e : p = q
  · subst e; exact ⟨x, World.cell?_setCell_same w p x h⟩
  · exact ⟨v, (World.cell?_setCell_other w p q x e).trans h⟩
structure TurnsOk (B M g : Nat) (vs0 : List FV) (W2 wr : World) : Prop where
  ex : ∃ cur vs, wr.heap[g]? = some (.cells cur 40 (0, 0)) ∧ RowsIn cur vs ∧ vs.Perm vs0
  below : Below B W2 wr
theorem TurnsOk.swap {B M g : Nat} {vs0 : List FV} {W2 wq : World} {cur : Array Value} {vs : List FV} (hb : Below B W2 wq) (hg : B ≤ g) (hB : B ≤ wq.heap.size) (hc : wq.heap[g]? = some (.cells cur 40 (0, 0))) (hr : RowsIn cur vs) (hp : vs.Perm vs0) {a b : Nat} (ha : a < vs.length) (hb2 : b < vs.length) {pa pb : FV} (hpa : pa = vs[a]) (hpb : pb = vs[b]) :
    TurnsOk B M g vs0 W2 (((((((((wq.setCell ⟨g, a * 4, none⟩ (.int .u64 pb.x.f0)).setCell ⟨g, a * 4 + 1, none⟩ (.int .i64 pb.x.f1)).setCell ⟨g, a * 4 + 2, none⟩ (.bool pb.x.f2)).setCell ⟨g, a * 4 + 3, none⟩ (.slice pb.A pb.x.f3.length pb.c)).setCell
      ⟨g, b * 4, none⟩ (.int .u64 pa.x.f0)).setCell ⟨g, b * 4 + 1, none⟩ (.int .i64 pa.x.f1)).setCell ⟨g, b * 4 + 2, none⟩ (.bool pa.x.f2)).setCell ⟨g, b * 4 + 3, none⟩ (.slice pa.A pa.x.f3.length pa.c)).drew) := by
  have hd : ∀ W : World, W.drew.heap = W.heap := fun _ => rfl
  have hx := setRow_put (setRow_put hc a pb) b pa
  refine ⟨⟨setRow (setRow cur a pb) b pa, (vs.set a pb).set b pa, ?_, setRow_rows (setRow_rows hr ha pb) (by simpa using hb2) pa, ?_⟩, ?_⟩
  · rw [hd]
    exact hx
  · subst hpa hpb
    exact (List.set_set_perm ha hb2).trans hp
  · have h : ∀ (W : World) (o : Nat) (v : Value), Below B W2 W → Below B W2 (W.setCell ⟨g, o, none⟩ v) := fun W o v h => h.setCell (p := ⟨g, o, none⟩) hg v
    exact below_drew (h _ _ _ (h _ _ _ (h _ _ _ (h _ _ _ (h _ _ _ (h _ _ _ (h _ _ _ (h _ _ _ hb))))))))
def outF (out : Nat) (p : FV) : Bool := (p.x.f0 != 3) || (p.x.f1 != (out : Int))
theorem outF_snoc {out : Nat} {vs : List FV} {k : Nat} (hk : k < vs.length) : (vs.take (k + 1)).filter (outF out) = (vs.take k).filter (outF out) ++ (if outF out vs[k] = true then [vs[k]] else []) := by
  rw [List.take_succ_eq_append_getElem hk, List.filter_append]
  congr 1
  by_cases h : outF out vs[k] = true
  · simp [h]
  · simp [h]
theorem outF_none {out : Nat} {vs : List FV} : cntF 3 ((vs.filter (outF out)).map (·.x)) out = none := by
  refine cnt_none fun x hx => ?_
  obtain ⟨p, hp, rfl⟩ := List.mem_map.1 hx
  have h := (List.mem_filter.1 hp).2
  unfold outF at h
  unfold isF
  cases h1 : (p.x.f0 == 3) with
  | false => simp
  | true =>
    cases h2 : (p.x.f1 == (out : Int)) with
    | false => simp
    | true =>
      simp only [beq_iff_eq] at h1 h2
      rw [h1, h2] at h
      simp at h
set_option maxHeartbeats 4000000 in
set_option maxRecDepth 100000 in
theorem back_law3 (data turns : List Int) (D T : Option Addr) (d t : Nat) (b0 b1 b2 : Nat) (hb0 : b0 < 256) (hb1 : b1 < 256) (w : World) (hD : Kd.C (Kd.int .u8) w D data.length data) (hd : data.length ≤ d) (hl : data.length ≤ 140737488351232)
    (hT : Kd.C (Kd.int .u8) w T turns.length turns) (ht : turns.length ≤ t) (hBT : Byt turns) (htl : turns.length ≤ 140737488351232) :
    Calls Try.prog 4 #[.slice D data.length d, .agg #[.int .u8 b0, .int .u8 b1, .int .u8 b2], .slice T turns.length t] w fun e w' => e = .returned (.bool true) ∧ Below w.heap.size w w' := by
  have HB := Aside0.mk (Below.refl w.heap.size w)
  have HD := Aside0.mk hD
  have Hd := Aside0.mk hd
  have HT := Aside0.mk hT
  have Ht := Aside0.mk ht
  have HBT := Aside0.mk hBT
  obtain ⟨n, hn⟩ : ∃ n, n = data.length := ⟨_, rfl⟩
  have HN := Aside0.mk hn
  obtain ⟨q, hq⟩ : ∃ q, q = turns.length := ⟨_, rfl⟩
  have HQ := Aside0.mk hq
  rw [← hn] at hl
  rw [← hq] at htl
  rw [← hn, ← hq]
  clear hn hq hD hd hT ht hBT
  by_cases hbig : 500 < n
  · have hd1 : decide ((500 : Int) < n) = true := decide_eq_true (by omega)
    have hd2 : decide (500 < n) = true := decide_eq_true hbig
    go_enter Try.func4, Try.ntmps4
    go_wp2_with fail
    refine (anchored3 _).mono ?_
    rintro e w2 ⟨rfl, hE2⟩
    have HB2 := Aside0.mk (below_step (below_alloc HB.out _) hE2)
    clear hE2
    go_wp2
    go_ret
    exact ⟨rfl, HB2.out⟩
  · have hd1 : decide ((500 : Int) < n) = false := decide_eq_false (by omega)
    have hd2 : decide (500 < n) = false := decide_eq_false hbig
    go_enter Try.func4, Try.ntmps4
    go_wp2_with fail
    have HB1 := Aside0.mk (below_alloc HB.out (Obj.cells #[.int .u8 b0, .int .u8 b1, .int .u8 b2] 38))
    have HG1 := Aside0.mk (blk_new w (Obj.cells #[.int .u8 b0, .int .u8 b1, .int .u8 b2] 38) _ rfl)
    obtain ⟨g1, hg1⟩ : ∃ g, g = w.heap.size := ⟨_, rfl⟩
    generalize (w.alloc (Obj.cells #[.int .u8 b0, .int .u8 b1, .int .u8 b2] 38)) = w1 at *
    rw [← hg1] at HG1 ⊢
    have HGE1 := Aside0.mk hg1
    clear hg1
    obtain ⟨size, hsize⟩ : ∃ s : Nat, s = b0 % 40 + 1 := ⟨_, rfl⟩
    have HSZ : Aside0 (1 ≤ size ∧ size ≤ 40) := ⟨by omega, by omega⟩
    rw [show ((b0 : Int) % 40 + 1) = (size : Int) by omega]
    clear hsize
    rw [HN.out]
    refine (split_good 3 size data D d w1 (by have := HSZ.out; omega) (by have := HSZ.out; omega) (Kd.C_below HD.out HB1.out) Hd.out (by rw [← HN.out]; exact hl)).mono ?_
    rw [← HN.out]
    obtain ⟨N, hN⟩ : ∃ N, N = cntS data.length size := ⟨_, rfl⟩
    have hNb := cntS_mul (len := data.length) HSZ.out.1
    have hNle := (cntS_le (len := data.length) (size := size) HSZ.out.1).2 (by have := HSZ.out; have := HN.out; omega)
    have hsp : splitP 3 data size = some ((List.range N).map (frameS 3 data size N)) := by
      unfold splitP
      rw [if_neg (by have := HSZ.out; have := HN.out; omega), Int.toNat_natCast, ← hN]
    rw [← hN] at hNb hNle
    rw [hsp]
    have HCN := Aside0.mk hN
    have hN1 := hNb.2.2
    clear hN hNb hsp
    rintro e w3 ⟨hE3, v3, rfl, hR3⟩
    have HL : Aside0 (((List.range N).map (frameS 3 data size N)).length = N) := ⟨by simp⟩
    have HMEM : Aside0 (∀ x ∈ (List.range N).map (frameS 3 data size N), ∃ i, i < N ∧ x = frameS 3 data size N i) := ⟨fun x hx => by
      simp only [List.mem_map, List.mem_range] at hx
      obtain ⟨i, hi, rfl⟩ := hx
      exact ⟨i, hi, rfl⟩⟩
    have HIN : Aside0 (∀ i, i < N → frameS 3 data size N i ∈ (List.range N).map (frameS 3 data size N)) := ⟨fun i hi => by
      simp only [List.mem_map, List.mem_range]
      exact ⟨i, hi, rfl⟩⟩
    generalize (List.range N).map (frameS 3 data size N) = L at *
    obtain ⟨g2, cap2, rfl, hcap, hC3, _⟩ := rows40 hR3 (by rw [HL.out]; omega)
    obtain ⟨V, hVx, hV⟩ := frames_of hC3 (fun x hx => by obtain ⟨i, hi, rfl⟩ := HMEM.out x hx; exact wfS (by omega))
    have HVL : Aside0 (V.length = N) := ⟨by rw [← HL.out, ← hVx]; simp⟩
    have HVX := Aside0.mk hVx
    have HV := Aside0.mk hV
    have HB3 := Aside0.mk (below_step HB1.out hE3)
    have HG3 := Aside0.mk (blk_below HG1.out hE3)
    have HG2 : Aside0 (g2 < w3.heap.size) := ⟨by
      obtain ⟨ad, e, h0, _⟩ := (hV 0 (by rw [HVL.out]; omega)).1
      injection e with e
      subst e
      rw [addr0] at h0
      exact World.block_lt_of_cell? w3 ⟨g2, _, none⟩ h0⟩
    rw [HL.out] at hcap ⊢
    clear hE3 hR3 hC3 hVx hV
    have HVR := Aside0.mk (fun i (h : i < V.length) => (HV.out i h).1)
    have HO0 : Aside0 (((w3.alloc (Obj.cells #[.int .u8 9] 5)).alloc (Obj.cells #[.int .u64 4, .int .i64 0, .bool true, .slice (some ⟨w3.heap.size, 0, none⟩) 1 1] 40)).ownsRow (w3.heap.size + 1 + 1) 40 4 (.slice none 0 0) ([] : List FV).length (flatF [])) := ⟨⟨rfl, .inl ⟨rfl, rfl⟩⟩⟩
    have HR0 := Aside0.mk (other_row (p := otherV w3) (blk_new (w3.alloc (Obj.cells #[.int .u8 9] 5)) (Obj.cells #[.int .u64 4, .int .i64 0, .bool true, .slice (some ⟨w3.heap.size, 0, none⟩) 1 1] 40) (w3.heap.size + 1) (by simp)) ⟨rfl, rfl, rfl, rfl⟩)
    have HW2 := Aside0.mk (below_alloc (below_alloc (Below.refl w3.heap.size w3) (Obj.cells #[.int .u8 9] 5)) (Obj.cells #[.int .u64 4, .int .i64 0, .bool true, .slice (some ⟨w3.heap.size, 0, none⟩) 1 1] 40))
    have HS2 : Aside0 (((w3.alloc (Obj.cells #[.int .u8 9] 5)).alloc (Obj.cells #[.int .u64 4, .int .i64 0, .bool true, .slice (some ⟨w3.heap.size, 0, none⟩) 1 1] 40)).heap.size = w3.heap.size + 1 + 1) := ⟨by simp⟩
    have hcf1 := cf1 ⟨blk_new w3 (Obj.cells #[.int .u8 9] 5) _ rfl⟩
    go_wp2_with (first
      | ((with_reducible refine gate_builtin (b := .append) (xs := #[.tmp 43, .tmp 46]) rfl ?_); refine app_frames (w3.heap.size + 1 + 1) rfl (.tmp 43) (.tmp 46) rfl (.slice none 0 0) [] [otherV w3] (w3.heap.size + 1) 1 rfl rfl HO0 HR0 (Nat.le_of_eq HS2.out.symm) (by simp) ?_; intro v5 w5 HO5 HG5; have HL5 := Aside0.mk (below_owns (Below.refl _ _) (Nat.le_of_eq HS2.out.symm) HO0.out HG5.out); have HZ5 : Aside0 (w3.heap.size + 1 + 1 ≤ w5.heap.size) := ⟨Nat.le_trans (Nat.le_of_eq HS2.out.symm) HG5.out.size⟩)
      | ((with_reducible refine gate_builtin (b := .append) (xs := #[.tmp 48, .tmp 49]) rfl ?_); refine app_frames (w3.heap.size + 1 + 1) rfl (.tmp 48) (.tmp 49) rfl v5 _ V g2 cap2 rfl (by rw [HVL.out]; rfl) HO5 ⟨fun i h => rowAt_move HL5.out (by have := HG2.out; omega) (rowAt_move HW2.out HG2.out (HVR.out i h))⟩ HZ5.out (by have := HVL.out; simp; omega) ?_; intro v6 w6 HO6 HG6; have HL6 := Aside0.mk (below_owns HL5.out HZ5.out HO5.out HG6.out); have HZ6 := Aside0.mk (Nat.le_trans HZ5.out HG6.out.size))
      | ((with_reducible refine gate_builtin (b := .append) (xs := #[.tmp 51, .tmp 52]) rfl ?_); refine app_frames (w3.heap.size + 1 + 1) rfl (.tmp 51) (.tmp 52) rfl v6 _ V g2 cap2 rfl (by rw [HVL.out]; rfl) HO6 ⟨fun i h => rowAt_move HL6.out (by have := HG2.out; omega) (rowAt_move HW2.out HG2.out (HVR.out i h))⟩ HZ6.out (by have := HVL.out; simp; omega) ?_; intro v7 w7 HO7 HG7; have HL7 := Aside0.mk (below_owns HL6.out HZ6.out HO6.out HG7.out); have HZ7 := Aside0.mk (Nat.le_trans HZ6.out HG7.out.size); obtain ⟨g7, cap7, cur7, rfl, hcap7, hg7, hh7, hr7⟩ := owns_open HO7.out (by simp); have HN7 := Aside0.mk (show ([] ++ [otherV w3] ++ V ++ V).length = 1 + 2 * N by have := HVL.out; simp; omega); have HG7' := Aside0.mk hg7; have HH7 := Aside0.mk hh7; have HR7 := Aside0.mk hr7; clear hg7 hh7 hr7; rw [HN7.out] at hcap7 ⊢))
    obtain ⟨M, hM⟩ : ∃ M, M = 1 + 2 * N := ⟨_, rfl⟩
    have hM1 : 1 ≤ M := by omega
    have hM2 : M ≤ 2049 := by omega
    rw [← hM] at hcap7 HN7 ⊢
    have HBOD : Aside0 (∀ p ∈ ([] ++ [otherV w3] ++ V ++ V), p.x.f3.length ≤ p.c ∧ Kd.C (Kd.int .u8) ((w3.alloc (Obj.cells #[.int .u8 9] 5)).alloc (Obj.cells #[.int .u64 4, .int .i64 0, .bool true, .slice (some ⟨w3.heap.size, 0, none⟩) 1 1] 40)) p.A p.x.f3.length p.x.f3) := ⟨fun p hp => by
      have hpV : p ∈ V → p.x.f3.length ≤ p.c ∧ Kd.C (Kd.int .u8) ((w3.alloc (Obj.cells #[.int .u8 9] 5)).alloc (Obj.cells #[.int .u64 4, .int .i64 0, .bool true, .slice (some ⟨w3.heap.size, 0, none⟩) 1 1] 40)) p.A p.x.f3.length p.x.f3 := fun h => by
        obtain ⟨i, hi, rfl⟩ := List.mem_iff_getElem.1 h
        exact ⟨(HV.out i hi).2.2.1, Kd.C_below (HV.out i hi).2.2.2 HW2.out⟩
      simp only [List.nil_append, List.mem_append, List.mem_singleton] at hp
      rcases hp with (rfl | hp) | hp
      · exact ⟨Nat.le_refl _, bytes_C (t := 5) (fr := (0, 0)) [9] (by simp) (blk_alloc (blk_new w3 (Obj.cells #[.int .u8 9] 5) _ rfl) _)⟩
      · exact hpV hp
      · exact hpV hp⟩
    have HKND : Aside0 (∀ p ∈ ([] ++ [otherV w3] ++ V ++ V), p.x = ⟨4, 0, true, [9]⟩ ∨ p.x ∈ L) := ⟨fun p hp => by
      have hpV : p ∈ V → p.x ∈ L := fun h => by rw [← HVX.out]; exact List.mem_map_of_mem h
      simp only [List.nil_append, List.mem_append, List.mem_singleton] at hp
      rcases hp with (rfl | hp) | hp
      · exact .inl rfl
      · exact .inr (hpV hp)
      · exact .inr (hpV hp)⟩
    have HALL : Aside0 (∀ x ∈ L, ∃ p ∈ ([] ++ [otherV w3] ++ V ++ V), p.x = x) := ⟨fun x hx => by
      rw [← HVX.out] at hx
      obtain ⟨p, hp, rfl⟩ := List.mem_map.1 hx
      exact ⟨p, by simp [hp], rfl⟩⟩
    have HBW2 := Aside0.mk (below_step HB3.out HW2.out)
    have HG12 := Aside0.mk (blk_below HG3.out HW2.out)
    clear hcf1 hM HV HVR HR0 HO0 HO5 HG5 HL5 HZ5 HO6 HG6 HL6 HZ6 HG7 HO7
    generalize [] ++ [otherV w3] ++ V ++ V = vs0 at *
    generalize ((w3.alloc (Obj.cells #[.int .u8 9] 5)).alloc (Obj.cells #[.int .u64 4, .int .i64 0, .bool true, .slice (some ⟨w3.heap.size, 0, none⟩) 1 1] 40)) = W2 at *
    have HTO : Aside0 (TurnsOk (w3.heap.size + 1 + 1) M g7 vs0 W2 w7) := ⟨⟨⟨cur7, vs0, HH7.out, HR7.out, List.Perm.refl _⟩, HL7.out⟩⟩
    clear HH7 HR7 HL7
    go_loopw [11] (fun v11 wr => ∃ i : Nat, i ≤ q + 1 ∧ v11 = .int .i64 (i : Int) ∧ Aside0 (TurnsOk (w3.heap.size + 1 + 1) M g7 vs0 W2 wr)) (fun v11 _ => q + 2 - (intOf v11).toNat)
    case atStart => exact ⟨0, Nat.zero_le _, rfl, HTO⟩
    case round =>
      obtain ⟨i, hi, rfl, HTR⟩ := hrel
      have HBr : Aside0 (Below w.heap.size w wr) := ⟨HBW2.out.trans (HTR.out.below.mono (by have := HS2.out; have := HBW2.out.size; omega))⟩
      have HTC := Aside0.mk (Kd.C_below HT.out HBr.out)
      by_cases hlt : i + 1 < q
      · have hdl : decide ((i : Int) + 1 < (q : Int)) = true := decide_eq_true (by omega)
        have hdl2 : decide (i + 1 < q) = true := decide_eq_true hlt
        obtain ⟨ad, hT1, k1⟩ := byte_at HTC.out i (by have := HQ.out; omega)
        obtain ⟨ad', hT2, k2⟩ := byte_at HTC.out (i + 1) (by have := HQ.out; omega)
        rw [hT1] at hT2
        injection hT2 with hT2
        subst hT2
        obtain ⟨xa, hxa⟩ := Int.eq_ofNat_of_zero_le (HBT.out (turns[i]'(by have := HQ.out; omega)) (List.getElem_mem _)).1
        obtain ⟨xb, hxb⟩ := Int.eq_ofNat_of_zero_le (HBT.out (turns[i + 1]'(by have := HQ.out; omega)) (List.getElem_mem _)).1
        have hxa2 := (HBT.out (turns[i]'(by have := HQ.out; omega)) (List.getElem_mem _)).2
        have hxb2 := (HBT.out (turns[i + 1]'(by have := HQ.out; omega)) (List.getElem_mem _)).2
        rw [hxa] at hxa2
        rw [hxb] at hxb2
        rw [hxa] at k1
        rw [hxb] at k2
        have HTA := Aside0.mk hT1
        clear hxa hxb hT1
        have k2 : wr.cell? ⟨ad.block, ad.off + (i + 1), none⟩ = some (.int .u8 xb) := by rw [← k2]; unfold Addr.add; rw [if_neg (by omega)]
        obtain rfl := HTA.out
        have h0i : (0 : Int) ≤ (i : Int) := by omega
        have h1i : (i : Int) < (q : Int) := by omega
        have h0j : (0 : Int) ≤ (i : Int) + 1 := by omega
        have hM0 : ((M : Int) == 0) = false := by simp; omega
        obtain ⟨am, ham⟩ : ∃ am, am = xa % M := ⟨_, rfl⟩
        obtain ⟨bm, hbm⟩ : ∃ bm, bm = xb % M := ⟨_, rfl⟩
        have ham1 : am < M := by rw [ham]; exact Nat.mod_lt _ hM1
        have hbm1 : bm < M := by rw [hbm]; exact Nat.mod_lt _ hM1
        have HTA1 : Aside0 ((xa : Int) % (M : Int) = (am : Int)) := ⟨by rw [ham]; simp⟩
        have HTB1 : Aside0 ((xb : Int) % (M : Int) = (bm : Int)) := ⟨by rw [hbm]; simp⟩
        have hwi : IntKind.i64.wrap ((i : Int) + 1) = (i : Int) + 1 := IntWalk.i64_in _ (by omega)
        have htn : ((i : Int) + 1).toNat = i + 1 := by omega
        clear ham hbm
        have hMz : ¬ M = 0 := by omega
        have hMzi : ¬ (M : Int) = 0 := by omega
        have hwa : IntKind.i64.wrap (am : Int) = am := IntWalk.i64_in _ (by omega)
        have hwb : IntKind.i64.wrap (bm : Int) = bm := IntWalk.i64_in _ (by omega)
        go_wp2
        refine wp_region_quiet_lit (by kernel_rfl) (by kernel_rfl) ?_
        repeat (first | go_big_quiet_step (fail) | quiet_step (fail) | (refine wpQuiet_step (fun K hK => ?_); go_simp; refine hK _ ?_; clear hK K))
        refine wpQuiet_nil ?_
        intro wq hw'
        obtain ⟨nq, hw''⟩ := hw'
        subst hw''
        rw [HTA1.out, HTB1.out]
        obtain ⟨cur, vs, hcur, hrows, hperm⟩ := HTR.out.ex
        have HLV : Aside0 (vs.length = M) := ⟨by rw [hperm.length_eq, HN7.out]⟩
        obtain ⟨a0, a1, a2, a3⟩ := hrows am (by rw [HLV.out]; exact ham1)
        obtain ⟨e0, e1, e2, e3⟩ := hrows bm (by rw [HLV.out]; exact hbm1)
        obtain ⟨pa, hpa⟩ : ∃ p, p = vs[am]'(by rw [HLV.out]; exact ham1) := ⟨_, rfl⟩
        obtain ⟨pb, hpb⟩ : ∃ p, p = vs[bm]'(by rw [HLV.out]; exact hbm1) := ⟨_, rfl⟩
        rw [← hpa] at a0 a1 a2 a3
        rw [← hpb] at e0 e1 e2 e3
        have HPA := Aside0.mk hpa
        have HPB := Aside0.mk hpb
        have HCU := Aside0.mk hcur
        have hcw := fun k => blk_cell hcur k
        rw [← hcw] at a0 a1 a2 a3 e0 e1 e2 e3
        have HRW := Aside0.mk hrows
        have HPM := Aside0.mk hperm
        clear hpa hpb hcur hrows hperm hcw k1 k2 hwi htn hwa hwb h0i h1i h0j hM0 hMz hMzi hxa2 hxb2
        obtain ⟨⟨f0, f1, f2, f3⟩, Af, cf⟩ := pa
        obtain ⟨⟨h0, h1, h2, h3⟩, Ah, ch⟩ := pb
        dsimp only at a0 a1 a2 a3 e0 e1 e2 e3
        have ha0i : (0 : Int) ≤ (am : Int) := by omega
        have ha1i : (am : Int) < (M : Int) := by omega
        have hb0i : (0 : Int) ≤ (bm : Int) := by omega
        have hb1i : (bm : Int) < (M : Int) := by omega
        go_wp2_with fail
        generalize hwq : wr.drewN nq = wq
        have HWQ := Aside0.mk hwq
        have HCQ : Aside0 (wq.heap[g7]? = some (.cells cur 40 (0, 0))) := ⟨by rw [← hwq]; exact HCU.out⟩
        have z : ∀ k, wq.cell? ⟨g7, k, none⟩ = wr.cell? ⟨g7, k, none⟩ := fun k => by rw [← hwq]; rfl
        rw [← z] at a0 a1 a2 a3 e0 e1 e2 e3
        have zf := fun k => blk_frozen HCQ.out k
        have fa0 := zf (am * 4)
        have fa1 := zf (am * 4 + 1)
        have fa2 := zf (am * 4 + 2)
        have fa3 := zf (am * 4 + 3)
        have fb0 := zf (bm * 4)
        have fb1 := zf (bm * 4 + 1)
        have fb2 := zf (bm * 4 + 2)
        have fb3 := zf (bm * 4 + 3)
        clear z zf hwq
        obtain ⟨z0, hz0⟩ := cell_some_set (p := ⟨g7, am * 4 + 3, none⟩) (x := .slice Ah h3.length ch) (cell_some_set (p := ⟨g7, am * 4 + 2, none⟩) (x := .bool h2) (cell_some_set (p := ⟨g7, am * 4 + 1, none⟩) (x := .int .i64 h1) (cell_some_set (p := ⟨g7, am * 4, none⟩) (x := .int .u64 h0) ⟨_, e0⟩)))
        obtain ⟨z1, hz1⟩ := cell_some_set (p := ⟨g7, bm * 4, none⟩) (x := .int .u64 f0) (cell_some_set (p := ⟨g7, am * 4 + 3, none⟩) (x := .slice Ah h3.length ch) (cell_some_set (p := ⟨g7, am * 4 + 2, none⟩) (x := .bool h2) (cell_some_set (p := ⟨g7, am * 4 + 1, none⟩) (x := .int .i64 h1) (cell_some_set (p := ⟨g7, am * 4, none⟩) (x := .int .u64 h0) ⟨_, e1⟩))))
        obtain ⟨z2, hz2⟩ := cell_some_set (p := ⟨g7, bm * 4 + 1, none⟩) (x := .int .i64 f1) (cell_some_set (p := ⟨g7, bm * 4, none⟩) (x := .int .u64 f0) (cell_some_set (p := ⟨g7, am * 4 + 3, none⟩) (x := .slice Ah h3.length ch) (cell_some_set (p := ⟨g7, am * 4 + 2, none⟩) (x := .bool h2) (cell_some_set (p := ⟨g7, am * 4 + 1, none⟩) (x := .int .i64 h1) (cell_some_set (p := ⟨g7, am * 4, none⟩) (x := .int .u64 h0) ⟨_, e2⟩)))))
        obtain ⟨z3, hz3⟩ := cell_some_set (p := ⟨g7, bm * 4 + 2, none⟩) (x := .bool f2) (cell_some_set (p := ⟨g7, bm * 4 + 1, none⟩) (x := .int .i64 f1) (cell_some_set (p := ⟨g7, bm * 4, none⟩) (x := .int .u64 f0) (cell_some_set (p := ⟨g7, am * 4 + 3, none⟩) (x := .slice Ah h3.length ch) (cell_some_set (p := ⟨g7, am * 4 + 2, none⟩) (x := .bool h2) (cell_some_set (p := ⟨g7, am * 4 + 1, none⟩) (x := .int .i64 h1) (cell_some_set (p := ⟨g7, am * 4, none⟩) (x := .int .u64 h0) ⟨_, e3⟩))))))
        go_region
        clear hz0 hz1 hz2 hz3 a0 a1 a2 a3 e0 e1 e2 e3 fa0 fa1 fa2 fa3 fb0 fb1 fb2 fb3
        have HT2 := Aside0.mk (TurnsOk.swap (M := M) (vs0 := vs0) (W2 := W2) (B := w3.heap.size + 1 + 1) (by rw [← HWQ.out]; exact pw_below_drewN HTR.out.below nq) HG7'.out (by rw [← HWQ.out]; exact Nat.le_trans (Nat.le_of_eq HS2.out.symm) HTR.out.below.size) HCQ.out HRW.out HPM.out (by rw [HLV.out]; exact ham1) (by rw [HLV.out]; exact hbm1) HPA.out HPB.out)
        dsimp only at HT2
        go_wp2_with fail
        go_roundw
        case rel => exact ⟨i + 2, by omega, by go_num, HT2⟩
        case measure => simp [intOf]; omega
      · have hdl : decide ((i : Int) + 1 < (q : Int)) = false := decide_eq_false (by omega)
        have hdl2 : decide (i + 1 < q) = false := decide_eq_false hlt
        obtain ⟨cur, vs, hcur, hrows, hperm⟩ := HTR.out.ex
        have hbelow : Below W2.heap.size W2 wr := by rw [HS2.out]; exact HTR.out.below
        have HLV : Aside0 (vs.length = M) := ⟨by rw [hperm.length_eq, HN7.out]⟩
        have HBD : Aside0 (∀ p ∈ vs, p.x.f3.length ≤ p.c ∧ Kd.C (Kd.int .u8) wr p.A p.x.f3.length p.x.f3) := ⟨fun p hp => by
          have h1 := HBOD.out p (hperm.mem_iff.1 hp)
          exact ⟨h1.1, Kd.C_below h1.2 hbelow⟩⟩
        have HX : Aside0 (∀ p ∈ vs, p.x = ⟨4, 0, true, [9]⟩ ∨ ∃ i, i < N ∧ p.x = frameS 3 data size N i) := ⟨fun p hp => (HKND.out p (hperm.mem_iff.1 hp)).imp id (fun h => HMEM.out _ h)⟩
        have HHO : Aside0 (Holds 3 data size N (vs.map (·.x))) := ⟨by
          refine ⟨fun x hx _ hch => ?_, fun i hi => ?_⟩
          · obtain ⟨p, hp, rfl⟩ := List.mem_map.1 hx
            rcases HX.out p hp with h | h
            · rw [h] at hch; simp at hch
            · exact h
          · obtain ⟨p, hp, e⟩ := HALL.out _ (HIN.out i hi)
            rw [← e]
            exact List.mem_map_of_mem (hperm.mem_iff.2 hp)⟩
        have HJN : Aside0 (joinP 3 (vs.map (·.x)) = some data) := ⟨by
          have h1 := HHO.out
          have h2 := HCN.out
          subst h2
          exact h1.join HSZ.out.1 (by have := HSZ.out; omega) hNle⟩
        have HWF : Aside0 (∀ p ∈ vs, (Lit.int .i64 p.x.f1).wf = true) := ⟨fun p hp => by
          rcases HX.out p hp with h | ⟨i, hi, h⟩
          · rw [h]; decide
          · rw [h]; exact wfS (by omega)⟩
        have HCV := Aside0.mk (rows_C hcur hrows HBD.out (by have := HLV.out; omega))
        have HG1r := Aside0.mk (blk_below HG12.out hbelow)
        have HGW := Aside0.mk hcur
        have HRW := Aside0.mk hrows
        clear hcur hrows hperm hbelow HTR HALL HKND HBOD HIN HTO HL HMEM HVX HVL HBT HTC
        have HJ1 : Aside0 (Calls Try.prog 14 #[.int .u64 3, .slice (some ⟨g7, 0, none⟩) M cap7] wr fun e w' => Below wr.heap.size wr w' ∧ ∃ v, e = .returned (.tuple #[v, .bool true]) ∧ Kd.R (Kd.int .u8) 5 w' wr.heap.size (fun _ => True) v data) := ⟨by
          have h := join_any 3 (vs.map (·.x)) (some ⟨g7, 0, none⟩) cap7 wr (by rw [List.length_map]; exact HCV.out) (by rw [List.length_map, HLV.out]; exact hcap7) (fun x hx => by obtain ⟨p, hp, rfl⟩ := List.mem_map.1 hx; exact HWF.out p hp)
          rw [List.length_map, HLV.out, HJN.out] at h
          exact h.mono fun e w'' h => join_post h⟩
        go_wp2_with fail
        refine HJ1.out.mono ?_
        rintro e w8 ⟨hE8, v8, rfl, hR8⟩
        obtain ⟨A8, n8, c8, rfl, hn8⟩ := R_shape hR8
        have HR8 := Aside0.mk (Kd.R_reads' hR8)
        have HN8 := Aside0.mk hn8
        have HE8 := Aside0.mk hE8
        have HB8 := Aside0.mk (below_step HBr.out hE8)
        have HG18 := Aside0.mk (blk_below HG1r.out hE8)
        clear hE8 hR8 hn8
        have HC8 : Aside0 (n8 ≤ c8 ∧ n8 = data.length) := ⟨HR8.out.2.1, HR8.out.1⟩
        go_wp2_with fail
        rw [HC8.out.2, HN.out]
        refine (proctorref01_Same.calls A8 c8 data D d data true _ HR8.out.2.2 (by have := HC8.out; omega) (Kd.C_below HD.out HB8.out) Hd.out (same01_self data)).mono ?_
        rintro e w9 ⟨rfl, hd9⟩
        have HB9 := Aside0.mk (below_step HB8.out hd9.below)
        have HG19 := Aside0.mk (blk_below HG18.out hd9.below)
        have HE9 := Aside0.mk (HE8.out.trans (hd9.below.mono HE8.out.size))
        rw [← HC8.out.2]
        clear hd9
        have hcg := cf3 HG19
        have hNz : ¬ N = 0 := by omega
        have hNzi : ¬ (N : Int) = 0 := by omega
        obtain ⟨out, hout⟩ : ∃ o, o = b1 % N := ⟨_, rfl⟩
        have hout1 : out < N := by rw [hout]; exact Nat.mod_lt _ hN1
        have HOT : Aside0 ((b1 : Int) % (N : Int) = (out : Int)) := ⟨by rw [hout]; simp⟩
        clear hout
        go_wp2_with fail
        rw [HOT.out]
        clear HOT hcg
        go_loopw [17, 18] (fun v17 v18 wk => ∃ k : Nat, k ≤ M ∧ v18 = .int .i64 (k : Int) ∧ Aside0 (wk.ownsRow w9.heap.size 40 4 v17 ((vs.take k).filter (outF out)).length (flatF ((vs.take k).filter (outF out)))) ∧ Aside0 (Below w9.heap.size w9 wk)) (fun _ v18 _ => M - (intOf v18).toNat)
        case atStart => exact ⟨0, Nat.zero_le _, rfl, ⟨⟨rfl, .inl ⟨rfl, rfl⟩⟩⟩, ⟨Below.refl _ _⟩⟩
        case round =>
          obtain ⟨k, hk, rfl, HOk, HEk⟩ := hrel
          have HZk := Aside0.mk HEk.out.size
          by_cases hlt3 : k < M
          · have hdk : decide (k < M) = true := decide_eq_true hlt3
            have hdk2 : decide ((k : Int) < (M : Int)) = true := decide_eq_true (by omega)
            have hkv : k < vs.length := by rw [HLV.out]; exact hlt3
            obtain ⟨a0, a1, a2, a3⟩ := HRW.out k hkv
            have hsn := outF_snoc (out := out) hkv
            have HSN := Aside0.mk hsn
            have HFL : Aside0 (((vs.take k).filter (outF out)).length ≤ 2049) := ⟨by
              have h1 := List.length_filter_le (outF out) (vs.take k)
              rw [List.length_take] at h1
              omega⟩
            clear hsn
            obtain ⟨p, hp⟩ : ∃ p, p = vs[k] := ⟨_, rfl⟩
            rw [← hp] at a0 a1 a2 a3 HSN
            clear hp
            have hgk := blk_below (blk_below HGW.out HE9.out) HEk.out
            rw [← blk_cell hgk] at a0 a1 a2 a3
            have HOF : Aside0 (outF out p = ((p.x.f0 != 3) || (p.x.f1 != (out : Int)))) := ⟨rfl⟩
            generalize outF out p = keepP at *
            generalize (vs.take k).filter (outF out) = pre at *
            obtain ⟨⟨f0, f1, f2, f3⟩, Af, cf⟩ := p
            dsimp only at a0 a1 a2 a3 HOF
            clear hgk
            have hk0 : (0 : Int) ≤ (k : Int) := by omega
            have HOa : Aside0 ((wr.alloc (Obj.cells #[.int .u64 f0, .int .i64 f1, .bool f2, .slice Af f3.length cf] 40)).ownsRow w9.heap.size 40 4 u17 pre.length (flatF pre)) := ⟨HOk.out.alloc _⟩
            have HRa := Aside0.mk (other_row (p := ⟨⟨f0, f1, f2, f3⟩, Af, cf⟩) (blk_new wr (Obj.cells #[.int .u64 f0, .int .i64 f1, .bool f2, .slice Af f3.length cf] 40) wr.heap.size rfl) ⟨rfl, rfl, rfl, rfl⟩)
            have HEa := Aside0.mk (HEk.out.alloc HZk.out (Obj.cells #[.int .u64 f0, .int .i64 f1, .bool f2, .slice Af f3.length cf] 40))
            by_cases h0 : f0 = 3
            · have hb0 : (f0 != 3) = false := by simp [h0]
              by_cases h1 : f1 = (out : Int)
              · have hb1 : (f1 != (out : Int)) = false := by simp [h1]
                have hkp : keepP = false := by rw [HOF.out, hb0, hb1]; rfl
                have HS2 := Aside0.mk (show (vs.take (k + 1)).filter (outF out) = pre by rw [HSN.out, hkp]; simp)
                clear h0 h1 hkp
                go_wp2_with fail
                go_roundw
                case rel => exact ⟨k + 1, hlt3, by go_num, ⟨by rw [HS2.out]; exact HOk.out⟩, HEk⟩
                case measure => simp [intOf]; omega
              · have hb1 : (f1 != (out : Int)) = true := by simp [h1]
                have hkp : keepP = true := by rw [HOF.out, hb0, hb1]; rfl
                have HS2 := Aside0.mk (show (vs.take (k + 1)).filter (outF out) = pre ++ [⟨⟨f0, f1, f2, f3⟩, Af, cf⟩] by rw [HSN.out, hkp]; simp)
                clear h0 h1 hkp
                go_wp2_with (first
              | ((with_reducible refine gate_builtin (b := .append) (xs := #[.tmp 132, .tmp 137]) rfl ?_); refine app_frames w9.heap.size rfl (.tmp 132) (.tmp 137) rfl u17 pre [⟨⟨f0, f1, f2, f3⟩, Af, cf⟩] wr.heap.size 1 rfl rfl HOa HRa (by have := HZk.out; simp; omega) (by have := HFL.out; simp; omega) ?_; intro v10 w10 HO10 HG10; have HE10 := Aside0.mk (below_owns HEa.out (by have := HZk.out; simp; omega) HOa.out HG10.out)))
                go_roundw
                case rel => exact ⟨k + 1, hlt3, by go_num, ⟨by rw [HS2.out]; exact HO10.out⟩, HE10⟩
                case measure => simp [intOf]; omega
            · have hb0 : (f0 != 3) = true := by simp [h0]
              have hkp : keepP = true := by rw [HOF.out, hb0]; rfl
              have HS2 := Aside0.mk (show (vs.take (k + 1)).filter (outF out) = pre ++ [⟨⟨f0, f1, f2, f3⟩, Af, cf⟩] by rw [HSN.out, hkp]; simp)
              clear h0 hkp
              go_wp2_with (first
              | ((with_reducible refine gate_builtin (b := .append) (xs := #[.tmp 132, .tmp 137]) rfl ?_); refine app_frames w9.heap.size rfl (.tmp 132) (.tmp 137) rfl u17 pre [⟨⟨f0, f1, f2, f3⟩, Af, cf⟩] wr.heap.size 1 rfl rfl HOa HRa (by have := HZk.out; simp; omega) (by have := HFL.out; simp; omega) ?_; intro v10 w10 HO10 HG10; have HE10 := Aside0.mk (below_owns HEa.out (by have := HZk.out; simp; omega) HOa.out HG10.out)))
              go_roundw
              case rel => exact ⟨k + 1, hlt3, by go_num, ⟨by rw [HS2.out]; exact HO10.out⟩, HE10⟩
              case measure => simp [intOf]; omega
          · have hdk : decide (k < M) = false := decide_eq_false hlt3
            have hdk2 : decide ((k : Int) < (M : Int)) = false := decide_eq_false (by omega)
            obtain rfl : k = M := by omega
            have hfu : (vs.take k).filter (outF out) = vs.filter (outF out) := by rw [List.take_of_length_le (by have := HLV.out; omega)]
            rw [hfu] at HOk
            have HJ2 : Aside0 (joinP 3 ((vs.filter (outF out)).map (·.x)) = none) := ⟨by
              refine join_without (n := N) (data := data) (size := size) (fun x hx hm hch => ?_) hout1 outF_none
              obtain ⟨p, hp, rfl⟩ := List.mem_map.1 hx
              exact HHO.out.1 _ (List.mem_map_of_mem (List.mem_filter.1 hp).1) hm hch⟩
            have hbd2 : ∀ p ∈ vs.filter (outF out), p.x.f3.length ≤ p.c ∧ Kd.C (Kd.int .u8) wr p.A p.x.f3.length p.x.f3 := fun p hp => by
              have h1 := HBD.out p (List.mem_filter.1 hp).1
              exact ⟨h1.1, Kd.C_below (Kd.C_below h1.2 HE9.out) HEk.out⟩
            have hlen2 : (vs.filter (outF out)).length ≤ 2049 := by
              have h1 := List.length_filter_le (outF out) vs
              have := HLV.out
              omega
            obtain ⟨A17, c17, rfl, hc17, hC17⟩ : ∃ A c, u17 = .slice A ((vs.filter (outF out)).map (·.x)).length c ∧ ((vs.filter (outF out)).map (·.x)).length ≤ c ∧ Kd.C k40 wr A ((vs.filter (outF out)).map (·.x)).length ((vs.filter (outF out)).map (·.x)) := by
              rw [List.length_map]
              by_cases hz : (vs.filter (outF out)).length = 0
              · rcases HOk.out.2 with ⟨h1, h2⟩ | ⟨g, cap, cur, h1, h2, h3, h4, _⟩
                · refine ⟨none, 0, by rw [h1, h2], by omega, ?_⟩
                  rw [List.length_eq_zero_iff.1 hz]
                  exact Kd.C_nil _ _
                · refine ⟨_, cap, h1, h4, ?_⟩
                  rw [List.length_eq_zero_iff.1 hz]
                  exact ⟨rfl, by simp, fun h => absurd h (by simp)⟩
              · obtain ⟨g, cap, cur, h1, h2, _, h4, h5⟩ := owns_open HOk.out (by omega)
                exact ⟨_, cap, h1, h2, rows_C h4 h5 hbd2 (by omega)⟩
            have HJ3 : Aside0 (Calls Try.prog 14 #[.int .u64 3, .slice A17 ((vs.filter (outF out)).map (·.x)).length c17] wr fun e w' => Below wr.heap.size wr w' ∧ ∃ v, e = .returned (.tuple #[v, .bool false]) ∧ Kd.R (Kd.int .u8) 5 w' wr.heap.size (fun _ => True) v []) := ⟨by
              have h := join_any 3 ((vs.filter (outF out)).map (·.x)) A17 c17 wr hC17 hc17 (fun x hx => by obtain ⟨p, hp, rfl⟩ := List.mem_map.1 hx; exact HWF.out p (List.mem_filter.1 hp).1)
              rw [HJ2.out] at h
              exact h.mono fun e w'' h => join_post h⟩
            generalize ((vs.filter (outF out)).map (·.x)).length = n17 at *
            clear hfu hbd2 hlen2 hc17 hC17 HOk
            go_wp2_with fail
            refine HJ3.out.mono ?_
            rintro e w11 ⟨hE11, v11, rfl, hR11⟩
            obtain ⟨A11, c11, rfl⟩ := Kd.R_slice hR11
            have HB11 := Aside0.mk (below_step (below_step HB9.out HEk.out) hE11)
            clear hE11 hR11
            go_wp2_with fail
            refine (anchored3 _).mono ?_
            rintro e w12 ⟨rfl, hE12⟩
            have HB12 := Aside0.mk (below_step HB11.out hE12)
            clear hE12
            go_wp2
            go_ret
            exact ⟨rfl, HB12.out⟩
end Go.Proofs.Ytdjoekckhmggbaa.H
