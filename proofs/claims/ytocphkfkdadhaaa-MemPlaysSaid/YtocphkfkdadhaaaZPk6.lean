import Derived.Test.YtocphkfkdadhaaaZPk5
import Derived.Test.YtocphkfkdadhaaaZPk3
import Derived.Deep.RegionHeld3
import Derived.Deep.MidRow
import Derived.BigQuiet
import Derived.Test.YtocphkfkdadhaaaZPk0
namespace Go.Proofs.Ytocphkfkdadhaaa.H
open Go.RowKit Go.Proofs.YtocphkfkdadhaaaW.PrintWords Go.Proofs.YtocphkfkdadhaaaW.PrintLast Go.Proofs.YtocphkfkdadhaaaW.PrintMore
set_option linter.unusedVariables false
set_option linter.unusedSimpArgs false
def leafW (m : Nat) : List Int := leafI (be8I m)
theorem leafW_len (m : Nat) : (leafW m).length = 32 := shaI_len _
theorem leafW_byt (m : Nat) : Byt (leafW m) := shaI_byt _
theorem pairI_len (x y : List Int) : (pairI x y).length = 32 := shaI_len _
theorem pairI_byt (x y : List Int) : Byt (pairI x y) := shaI_byt _
set_option maxHeartbeats 1000000 in
set_option maxRecDepth 100000 in
theorem memleaf_any (m : Nat) (hm : m ≤ 18446744073709551615) (w : World) :
    Calls Try.prog 62 #[.int .u64 (m : Int)] w fun e w' => e = .returned (.agg (cellsB (leafW m))) ∧ Below w.heap.size w w' := by
  have H0 := Aside0.mk (Own.start w)
  have R32 : Aside0 (Arr 32 (Array.replicate 32 (.int .u8 0))) := ⟨Arr_rep _ _ rfl⟩
  have HA : Aside0 (Arr 32 (cellsB (leafW m))) := ⟨Arr_B (leafW_len m)⟩
  have HE : Aside0 (([] : List Int) ++ bigI [(m : Int)] = be8I m) := ⟨by simp [bigI]⟩
  have HWR : Aside0 (Wrd [(m : Int)]) := ⟨by intro x hx; rw [List.mem_singleton.1 hx]; omega⟩
  have HLF := Aside0.mk (fun A c W hC hc => leaf_any A c (be8I m) W (be8I_byt m) hC hc (by rw [be8I_len]; decide))
  have HL8 := Aside0.mk (be8I_len m)
  have HRES : Aside0 (leafI (be8I m) = leafW m) := ⟨rfl⟩
  rw [HRES.out] at HLF
  generalize leafW m = res at *
  generalize be8I m = b8 at *
  go_enter Try.func62, Try.ntmps62
  go_wp2_with (first
    | fail
    | ((with_reducible refine gate_dst (N := 2) rfl ?_); refine own_alloc H0.out rfl (N := 2) rfl (t := 25) rfl (Array.replicate 32 (.int .u8 0)) 32 (by kernel_rfl) ?_; intro g2 w1 H1 B1; replace H1 := Aside0.mk H1; replace B1 := Aside0.mk B1)
    | ((with_reducible refine gate_dst (N := 4) rfl ?_); refine own_lit kU Flat_U H1.out 23 rfl (N := 4) rfl (xs := ([(m : Int)] : List Int)) (inner := (([(m : Int)] : List Int)).map (Value.int .u64)) ?hr4 (Kd.reps_scalar _) (by simp) ?_; (case hr4 => first | (go_simp; done) | (go_simp; rfl)); intro A4 c4 w4 H4 B4; replace H4 := Aside0.mk H4; replace B4 := Aside0.mk B4)
    )
  obtain ⟨A', c', he, hc4, _⟩ := H4.out.reads 0 rfl
  injection he with e1 e2 e3
  subst e1; subst e3
  refine (big_any (.slice none 0 0) [] [(m : Int)] A4 c4 w.heap.size w w4 _ (H4.out.null kB 5) HWR.out hc4 (fun v' xs' W' h => h.C_of 1 rfl) (by simp)).mono ?_
  rintro e w5 ⟨v5, rfl, H5⟩
  rw [HE.out] at H5
  replace H5 := Aside0.mk H5
  obtain ⟨A5, c5, rfl, hc5, hC5⟩ := H5.out.reads 0 rfl
  go_wp2_with fail
  refine (HLF.out A5 c5 w5 hC5 hc5).mono ?_
  rintro e w6 ⟨rfl, hB6⟩
  have H6 := Aside0.mk (H5.out.step hB6)
  clear hB6 hC5 hc5
  go_wp2_with (first
    | fail
    | ((with_reducible refine own_store H6.out 2 g2 _ 25 rfl rfl (.tmp 2) (.tmp 6) rfl (cellsB res) ?_ ?_ 32 R32.out HA.out (by kernel_rfl) ?_); (case _ => rfl); (case _ => rfl); intro w30 H30; replace H30 := Aside0.mk H30)
    )
  refine bodyPost_ret (own_result rfl _ H30.out 2 g2 (cellsB res) rfl rfl Try.underlying25 32 HA.out (by kernel_rfl)) rfl ?_
  exact ⟨rfl, H30.out.below⟩
set_option maxHeartbeats 1000000 in
set_option maxRecDepth 100000 in
theorem rwleaf_any (m : Nat) (hm : m ≤ 18446744073709551615) (w : World) :
    Calls Try.prog 64 #[.int .u64 (m : Int)] w fun e w' => e = .returned (.agg (cellsB (leafW m))) ∧ Below w.heap.size w w' := by
  have H0 := Aside0.mk (Own.start w)
  have R32 : Aside0 (Arr 32 (Array.replicate 32 (.int .u8 0))) := ⟨Arr_rep _ _ rfl⟩
  have HA : Aside0 (Arr 32 (cellsB (leafW m))) := ⟨Arr_B (leafW_len m)⟩
  have HLF := Aside0.mk (fun A c W hC hc => rleaf_any A c (be8I m) W (be8I_byt m) hC hc (by rw [be8I_len]; decide))
  have HEI := Aside0.mk (fun W => eight_any m hm W)
  have HRES : Aside0 (leafI (be8I m) = leafW m) := ⟨rfl⟩
  rw [HRES.out] at HLF
  generalize leafW m = res at *
  generalize be8I m = b8 at *
  go_enter Try.func64, Try.ntmps64
  go_wp2_with (first
    | fail
    | ((with_reducible refine gate_dst (N := 2) rfl ?_); refine own_alloc H0.out rfl (N := 2) rfl (t := 25) rfl (Array.replicate 32 (.int .u8 0)) 32 (by kernel_rfl) ?_; intro g2 w1 H1 B1; replace H1 := Aside0.mk H1; replace B1 := Aside0.mk B1)
    )
  refine (HEI.out w1).mono ?_
  rintro e w5 ⟨v5, rfl, H5'⟩
  have H5 := Aside0.mk (H1.out.call H5')
  clear H5'
  obtain ⟨A5, c5, rfl, hc5, hC5⟩ := H5.out.reads 0 rfl
  go_wp2_with fail
  refine (HLF.out A5 c5 w5 hC5 hc5).mono ?_
  rintro e w6 ⟨rfl, hB6⟩
  have H6 := Aside0.mk (H5.out.step hB6)
  clear hB6 hC5 hc5
  go_wp2_with (first
    | fail
    | ((with_reducible refine own_store H6.out 1 g2 _ 25 rfl rfl (.tmp 2) (.tmp 5) rfl (cellsB res) ?_ ?_ 32 R32.out HA.out (by kernel_rfl) ?_); (case _ => rfl); (case _ => rfl); intro w30 H30; replace H30 := Aside0.mk H30)
    )
  refine bodyPost_ret (own_result rfl _ H30.out 1 g2 (cellsB res) rfl rfl Try.underlying25 32 HA.out (by kernel_rfl)) rfl ?_
  exact ⟨rfl, H30.out.below⟩
theorem lit_H_run {a : Act} {o : Oper} {W : World} (x : Operand) (ho : o.op = .buildSlice 26 1 #[(0, x)]) (xs : List Int) (hx : a.eval x = .agg (cellsB xs)) (hl : xs.length = 32) :
    (execOp a.eval o).run Try.prog W = .ok (.value (.slice (some ⟨W.heap.size, 0, none⟩) 1 1)) (W.alloc (.cells (cellsB xs) 25)) := by
  obtain ⟨ie, hie, hz⟩ := Option.map_eq_some_iff.1 infoH
  simp only [Prod.mk.injEq] at hz
  have := run_lit_H (P := Try.prog) W 26 25 xs hl ie _ Try.underlying26 hie hz.1 hz.2.1
  unfold execOp
  simp only [ho, Sem.run_bind, Sem.run_pure, List.map_toArray, List.map_cons, List.map_nil, hx, this, Result.andThen_ok]
def leavesW (ws : List Int) : List (List Int) := ws.map fun w => leafW w.toNat
theorem leavesW_take (ws : List Int) (i : Nat) (h : i < ws.length) : leavesW (ws.take (i + 1)) = leavesW (ws.take i) ++ [leafW (ws.getD i 0).toNat] := by
  unfold leavesW
  rw [List.take_succ_eq_append_getElem h, List.map_append]
  simp [h]
set_option maxHeartbeats 1000000 in
set_option maxRecDepth 100000 in
theorem leaves_any (ws : List Int) (hw : Wrd ws) (A : Option Addr) (c : Nat) (w : World) (hC : Kd.C kU w A ws.length ws) (hc : ws.length ≤ c) (hl : ws.length * 32 ≤ 140737488355328) :
    Calls Try.prog 60 #[.slice A ws.length c] w fun e w' => ∃ v, e = .returned v ∧ Own w.heap.size w w' [.row kH 25 v (leavesW ws)] := by
  have HC := Aside0.mk hC
  have Hm := hC.2.1
  have HT := Aside0.mk (fun i h => leavesW_take ws i h)
  have HW := Aside0.mk hw
  have Hl := Aside0.mk hl
  clear hC hw hl
  obtain ⟨n, hn⟩ : ∃ n, n = ws.length := ⟨_, rfl⟩
  have HN := Aside0.mk hn
  rw [← hn] at HC hc Hm Hl ⊢
  clear hn
  have H0 := Aside0.mk ((Own.start w).null kH 25)
  go_enter Try.func60, Try.ntmps60
  go_wp2_with fail
  go_loopw [3, 4] (fun v3 v4 wr => ∃ i : Nat, i ≤ n ∧ v4 = .int .i64 (i : Int) ∧ Aside0 (Own w.heap.size w wr [.row kH 25 v3 (leavesW (ws.take i))])) (fun _ v4 _ => n - (intOf v4).toNat)
  case atStart => exact ⟨0, Nat.zero_le _, rfl, H0⟩
  case round =>
    obtain ⟨i, hi, rfl, HR⟩ := hrel
    by_cases hlt : i < n
    · have hdl : decide (i < n) = true := decide_eq_true hlt
      have hil : i < ws.length := by have := HN.out; omega
      obtain ⟨ad, rfl, hcell⟩ := Kd.at_int (Kd.C_below HC.out HR.out.below) (i : Int) (Int.natCast_nonneg i) (by omega)
      rw [Int.toNat_natCast, show rd ws (i : Int) = ws.getD i 0 by simp [rd]] at hcell
      obtain ⟨b1, b2⟩ := HW.out _ (show ws.getD i 0 ∈ ws by rw [List.getD_eq_getElem?_getD, List.getElem?_eq_getElem hil]; exact List.getElem_mem hil)
      have HTi := Aside0.mk (HT.out i hil)
      generalize ws.getD i 0 = x at *
      obtain ⟨m, rfl⟩ := Int.eq_ofNat_of_zero_le b1
      rw [Int.toNat_natCast] at HTi
      have HLF := Aside0.mk (fun W => rwleaf_any m (by omega) W)
      have HLL := Aside0.mk (leafW_len m)
      have HBD : Aside0 (((leavesW (ws.take i)).length + 1) * 32 ≤ 140737488355328) := ⟨by simp only [leavesW, List.length_map, List.length_take]; have := HN.out; have := Hl.out; omega⟩
      generalize leafW m = lf at *
      go_wp2_with fail
      refine (HLF.out _).mono ?_
      rintro e w2 ⟨rfl, hB2⟩
      have H2 := Aside0.mk (HR.out.step hB2)
      clear hB2 hcell
      go_wp2_with (first
        | fail
        | ((with_reducible refine gate_dst (N := 17) rfl ?_); refine Kd.event_run rfl (lit_H_run (.tmp 16) rfl lf rfl HLL.out) ?_)
        | ((with_reducible refine gate_dst (N := 18) rfl ?_); refine own_append kH Flat_H H2.out 0 rfl rfl (.tmp 11) (.tmp 17) 26 (.agg (Array.replicate 32 (.int .u8 0))) 32 rfl Try.underlying26 infoH (by simp [Value.cells, kH]) (by decide) (by decide) lf (lf.map (Value.int .u8)) (fun _ => ⟨HLL.out, rfl⟩) rfl rfl HBD.out ?_; intro v3 w3 H3; replace H3 := Aside0.mk H3)
        )
      rw [← HTi.out] at H3
      go_roundw
      case rel => exact ⟨i + 1, hlt, by go_num, H3⟩
      case measure => simp [intOf]; omega
    · have hdl : decide (i < n) = false := decide_eq_false hlt
      have hie : i = n := by omega
      subst hie
      go_wp2_with fail
      go_ret
      exact ⟨_, rfl, by have h := HR.out; rw [List.take_of_length_le (by rw [← HN.out]; exact Nat.le_refl _)] at h; exact h⟩
end Go.Proofs.Ytocphkfkdadhaaa.H

namespace Go.Proofs.Ytocphkfkdadhaaa.H
open Go.RowKit Go.Proofs.YtocphkfkdadhaaaW.PrintWords Go.Proofs.YtocphkfkdadhaaaW.PrintLast Go.Proofs.YtocphkfkdadhaaaW.PrintMore
set_option linter.unusedVariables false
set_option linter.unusedSimpArgs false
def Hsh (x : List Int) : Prop := x.length = 32 ∧ Byt x
def Hshs (l : List (List Int)) : Prop := ∀ x ∈ l, Hsh x
theorem Hsh_pair (x y : List Int) : Hsh (pairI x y) := ⟨pairI_len x y, pairI_byt x y⟩
theorem Hsh_leaf (m : Nat) : Hsh (leafW m) := ⟨leafW_len m, leafW_byt m⟩
theorem Hshs_at {l : List (List Int)} (h : Hshs l) (i : Nat) (hi : i < l.length) : Hsh (l.getD i []) := by
  rw [List.getD_eq_getElem?_getD, List.getElem?_eq_getElem hi]
  exact h _ (List.getElem_mem hi)
def foldStep (b : Nat) (l h : List Int) : List Int := if b % 2 = 0 then pairI l h else pairI h l
def foldI : Nat → List Int → List (List Int) → List Int
  | _, l, [] => l
  | i, l, h :: ps => foldI (i / 2) (foldStep i l h) ps
theorem foldI_snoc : ∀ (ps : List (List Int)) (i : Nat) (l h : List Int), foldI i l (ps ++ [h]) = foldStep (i / 2 ^ ps.length) (foldI i l ps) h
  | [], i, l, h => by simp [foldI]
  | p :: ps, i, l, h => by
    show foldI (i / 2) _ (ps ++ [h]) = foldStep _ (foldI (i / 2) _ ps) h
    rw [foldI_snoc ps, Nat.div_div_eq_div_mul, List.length_cons, Nat.pow_succ, Nat.mul_comm 2]
theorem foldI_take (ps : List (List Int)) (i : Nat) (l : List Int) (k : Nat) (h : k < ps.length) : foldI i l (ps.take (k + 1)) = foldStep (i / 2 ^ k) (foldI i l (ps.take k)) (ps.getD k []) := by
  rw [List.take_succ_eq_append_getElem h, foldI_snoc, List.length_take, Nat.min_eq_left (by omega)]
  simp [h]
theorem Hsh_step {b : Nat} {l h : List Int} : Hsh (foldStep b l h) := by
  unfold foldStep; split <;> exact Hsh_pair _ _
theorem Hsh_foldI : ∀ (ps : List (List Int)) (i : Nat) (l : List Int), Hsh l → Hsh (foldI i l ps)
  | [], _, _, h => h
  | _ :: ps, _, _, _ => Hsh_foldI ps _ _ Hsh_step
theorem spot_of_cell {W : World} {a : Addr} {v : Value} (h : W.cell? a = some v) : a.spot = none := by
  unfold World.cell? at h
  split at h
  · split at h
    · cases h
    · rename_i hs; simpa using hs
  · cases h
theorem elem_H {W : World} {A : Option Addr} {n : Nat} {xs : List (List Int)} (h : Kd.C kH W A n xs) (hn : 0 < n) :
    ∃ b o, A = some ⟨b, o, none⟩ ∧ ∀ (W' : World), Kd.C kH W' A n xs → ∀ i, i < n → (xs.getD i []).length = 32 ∧ ∀ j u, ((xs.getD i []).map (Value.int .u8))[j]? = some u → W'.cell? ((⟨b, o + i * 32, none⟩ : Addr).add j) = some u := by
  obtain ⟨⟨b, o, s⟩, rfl, hl, hc⟩ := cells_H h 0 hn
  have hs : s = none := by
    have h0 := hc 0 (.int .u8 ((xs.getD 0 [])[0]'(by omega))) (by simp [show 0 < (xs.getD 0 []).length by omega])
    have := spot_of_cell h0
    simpa [Addr.add] using this
  subst hs
  refine ⟨b, o, rfl, fun W' hW i hi => ?_⟩
  obtain ⟨ad, he, hl', hc'⟩ := cells_H hW i hi
  injection he with he
  subst he
  refine ⟨hl', fun j u hu => ?_⟩
  have := hc' j u hu
  rw [add_at] at this
  exact this
theorem wrap_pow (n p : Nat) (hn : n ≤ 16) (hp : 2 ^ n = p) : wrap64 ((2 : Int) ^ n) = (p : Int) := by
  have h16 : 2 ^ n ≤ 65536 := Nat.pow_le_pow_right (by decide : 0 < 2) hn
  have e : (2 : Int) ^ n = ((2 ^ n : Nat) : Int) := (Int.natCast_pow 2 n).symm
  rw [e, hp]
  unfold wrap64
  omega
set_option maxHeartbeats 2000000 in
set_option maxRecDepth 100000 in
theorem asked_ok (n i : Nat) (hn : n ≤ 16) (hi : i < 2 ^ n) (w : World) :
    Calls Try.prog 150 #[.int .i64 (n : Int), .int .i64 (i : Int), .int .i64 0] w fun e w' => e = .returned (.int .i64 0) ∧ w' = w := by
  have h16 : 2 ^ n ≤ 65536 := Nat.pow_le_pow_right (by decide : 0 < 2) hn
  generalize hP : 2 ^ n = p at *
  have hsh := wrap_pow n p hn hP
  have HP := Aside0.mk hP
  clear hP
  have hd1 : decide (n ≤ 16) = true := decide_eq_true hn
  have hd2 : decide (p ≤ i) = false := decide_eq_false (by omega)
  have hd3 : decide (p < 0) = false := decide_eq_false (by omega)
  go_enter Try.func150, Try.ntmps150
  go_wp2
  go_ret
  exact ⟨rfl, rfl⟩
end Go.Proofs.Ytocphkfkdadhaaa.H

namespace Go.Proofs.Ytocphkfkdadhaaa.H
open Go.RowKit Go.Proofs.YtocphkfkdadhaaaW.PrintWords Go.Proofs.YtocphkfkdadhaaaW.PrintLast Go.Proofs.YtocphkfkdadhaaaW.PrintMore
set_option linter.unusedVariables false
set_option linter.unusedSimpArgs false
theorem own_result_ct {fn : Func} {p u : Tmp} {ty : TypeId} (h : fn.results = #[.cell p ty, .tmp u]) (tmps : Array Value) {B : Nat} {w0 W : World} {L : List Item} (H : Own B w0 W L) (k : Nat) (g : Nat) (cs : Array Value) (hk : L[k]? = some (.blk g cs ty))
    (hp : tmps.getD p undef = .pointer (some ⟨g, 0, none⟩)) {P : Program} {m : Nat} {el : TypeId} (hu : P.underlying ty = some (.array m el)) (n : Nat) (hn : Arr n cs) (hi : (P.info? ty).map (·.size) = some n) (v : Value) (hv : tmps.getD u undef = v) :
    (results fn tmps).run P W = .ok (.tuple #[.agg cs, v]) W := by
  subst hv
  exact results_ct h tmps W g ty cs (0, 0) _ hp (H.get k hk) hu rfl (by rw [hn.1]; exact hi)
theorem and_one (x : Nat) (hx : x < 65536) : bits .and .i64 (x : Int) 1 = ((x % 2 : Nat) : Int) := by
  have h1 : (BitVec.ofInt 64 (x : Int)).toNat = x := by
    rw [BitVec.ofInt_natCast, BitVec.toNat_ofNat]; exact Nat.mod_eq_of_lt (by omega)
  have h2 : (BitVec.ofInt 64 (1 : Int)).toNat = 1 := rfl
  show IntKind.i64.wrap ((BitVec.ofInt 64 (x : Int) &&& BitVec.ofInt 64 1).toNat : Int) = _
  rw [BitVec.toNat_and, h1, h2, Nat.and_one_is_mod, IntWalk.i64_in _ (by omega)]
theorem cast_div2 (i k : Nat) : ((i / 2 ^ k : Nat) : Int) = (i : Int) / 2 ^ k := by
  simp only [Int.natCast_ediv, Int.natCast_pow]; rfl
theorem foldStep_yes {b : Nat} {l h : List Int} (e : b % 2 = 0) : foldStep b l h = pairI l h := by unfold foldStep; rw [if_pos e]
theorem foldStep_no {b : Nat} {l h : List Int} (e : ¬ b % 2 = 0) : foldStep b l h = pairI h l := by unfold foldStep; rw [if_neg e]
set_option maxHeartbeats 2000000 in
set_option maxRecDepth 100000 in
theorem fold_ok (i : Nat) (lf : List Int) (ps : List (List Int)) (hl : ps.length ≤ 16) (hi : i < 2 ^ ps.length) (hlf : Hsh lf) (hps : Hshs ps) (A : Option Addr) (c : Nat) (hc : ps.length ≤ c) (w : World) (hC : Kd.C kH w A ps.length ps) :
    Calls Try.prog 115 #[.int .i64 (i : Int), .agg (cellsB lf), .slice A ps.length c] w fun e w' => e = .returned (.tuple #[.agg (cellsB (foldI i lf ps)), .int .i64 0]) ∧ Below w.heap.size w w' := by
  have h16 : 2 ^ ps.length ≤ 65536 := Nat.pow_le_pow_right (by decide : 0 < 2) hl
  have HI := Aside0.mk hi
  have HAS := Aside0.mk (fun W => asked_ok ps.length i hl hi W)
  have HPS := Aside0.mk (fun k h => Hshs_at hps k h)
  have HFT := Aside0.mk (fun k h => foldI_take ps i lf k h)
  have HFH := Aside0.mk (fun k => Hsh_foldI (ps.take k) i lf hlf)
  have HC := Aside0.mk hC
  have hbig : i < 65536 := by omega
  clear hi h16
  have H0 := Aside0.mk (Own.start w)
  have R32 : Aside0 (Arr 32 (Array.replicate 32 (.int .u8 0))) := ⟨Arr_rep _ _ rfl⟩
  have HLF := Aside0.mk (Arr_B hlf.1)
  obtain ⟨n, hn⟩ : ∃ n, n = ps.length := ⟨_, rfl⟩
  have HN := Aside0.mk hn
  rw [← hn] at hl hc HAS HC ⊢
  clear hn
  have hgt : decide (16 < n) = false := decide_eq_false (by omega)
  go_enter Try.func115, Try.ntmps115
  go_wp2_with (first
    | fail
    | ((with_reducible refine gate_dst (N := 4) rfl ?_); refine own_box H0.out rfl (N := 4) rfl (t := 25) rfl (.agg (cellsB lf)) rfl ?_; intro g4 w1 H1 B1; replace H1 := Aside0.mk H1; replace B1 := Aside0.mk B1)
    | ((with_reducible refine gate_dst (N := 6) rfl ?_); refine own_alloc H1.out rfl (N := 6) rfl (t := 25) rfl (Array.replicate 32 (.int .u8 0)) 32 (by kernel_rfl) ?_; intro g6 w2 H2 B2; replace H2 := Aside0.mk H2; replace B2 := Aside0.mk B2)
    | (go_at_call 150; refine (HAS.out _).mono ?_; rintro e w3 ⟨rfl, rfl⟩)
    )
  have H3 : Aside0 (Own w.heap.size w w3 [.blk g4 (cellsB (foldI i lf (ps.take 0))) 25, .blk g6 (Array.replicate 32 (.int .u8 0)) 25]) := ⟨H2.out.perm (List.Perm.swap _ _ _)⟩
  clear H1 H2 HLF
  go_loopw [23] (fun v23 wr => ∃ k : Nat, k ≤ n ∧ v23 = .int .i64 (k : Int) ∧ Aside0 (Own w.heap.size w wr [.blk g4 (cellsB (foldI i lf (ps.take k))) 25, .blk g6 (Array.replicate 32 (.int .u8 0)) 25])) (fun v23 _ => n - (intOf v23).toNat)
  case atStart => exact ⟨0, Nat.zero_le _, rfl, H3⟩
  case round =>
    obtain ⟨k, hk, rfl, HR⟩ := hrel
    by_cases hlt : k < n
    · have hdl : decide (k < n) = true := decide_eq_true hlt
      have hil : k < ps.length := by have := HN.out; omega
      have HCr := Aside0.mk (Kd.C_below HC.out HR.out.below)
      obtain ⟨b, o, rfl, hel⟩ := elem_H HCr.out (by omega)
      obtain ⟨hel1, hel2⟩ := hel wr HCr.out k hlt
      have HEL := Aside0.mk hel2
      have HS := Aside0.mk (HFT.out k hil)
      have HHP := Aside0.mk (HPS.out k hil)
      have HHF := Aside0.mk (HFH.out k)
      have HHN := Aside0.mk (HFH.out (k + 1))
      have hq : i / 2 ^ k < 65536 := Nat.lt_of_le_of_lt (Nat.div_le_self _ _) hbig
      have hand := and_one (i / 2 ^ k) hq
      rw [cast_div2] at hand
      have HLEN := Aside0.mk hel1
      clear hel hel1 hel2
      generalize ps.getD k [] = h at *
      generalize foldI i lf (ps.take k) = s at *
      have HAs := Aside0.mk (Arr_B HHF.out.1)
      have HAh := Aside0.mk (Arr_B HLEN.out)
      have hk64 : (k : Int) ≤ 64 := by omega
      by_cases hbit : i / 2 ^ k % 2 = 0
      · rw [hbit] at hand
        have HPR := Aside0.mk (fun W => pair_any s h HHF.out.1 HHP.out.1 HHF.out.2 HHP.out.2 W)
        rw [foldStep_yes hbit] at HS
        rw [HS.out] at HHN
        have HAn := Aside0.mk (Arr_B HHN.out.1)
        clear hbit
        generalize pairI s h = r at *
        go_wp2_with (first
          | fail
          | ((with_reducible refine gate_dst (N := 27) rfl ?_); refine load_H rfl 25 (.tmp 26) rfl (⟨b, o + k * 32, none⟩) (h) rfl (HEL.out) Try.underlying25 (by rw [HLEN.out]; kernel_rfl) ?_)
          | ((with_reducible refine gate_dst (N := 9) rfl ?_); refine own_alloc HR.out rfl (N := 9) rfl (t := 25) rfl (Array.replicate 32 (.int .u8 0)) 32 (by kernel_rfl) ?_; intro g9 w4 H4 B4; replace H4 := Aside0.mk H4; replace B4 := Aside0.mk B4)
          | ((with_reducible refine own_store H4.out 0 g9 _ 25 rfl rfl (.tmp 9) (.tmp 27) rfl (cellsB h) ?_ ?_ 32 R32.out HAh.out (by kernel_rfl) ?_); (case _ => rfl); (case _ => rfl); intro w5 H5; replace H5 := Aside0.mk H5)
          | ((with_reducible refine gate_dst (N := 33) rfl ?_); refine own_load H5.out 1 g4 _ 25 rfl rfl (.tmp 4) rfl (by rfl) Try.underlying25 32 HAs.out (by kernel_rfl) ?_)
          | ((with_reducible refine gate_dst (N := 34) rfl ?_); refine own_load H5.out 0 g9 _ 25 rfl rfl (.tmp 9) rfl (by rfl) Try.underlying25 32 HAh.out (by kernel_rfl) ?_)
          | (go_at_call 118; refine (HPR.out _).mono ?_; rintro e w6 ⟨rfl, hB6⟩; have H6 := Aside0.mk (H5.out.step hB6); clear hB6)
          | ((with_reducible refine own_store H6.out 1 g4 _ 25 rfl rfl (.tmp 4) (.tmp 35) rfl (cellsB r) ?_ ?_ 32 HAs.out HAn.out (by kernel_rfl) ?_); (case _ => rfl); (case _ => rfl); intro w7 H7; replace H7 := Aside0.mk H7)
          )
        go_roundw
        case rel => exact ⟨k + 1, hlt, by go_num, ⟨by rw [HS.out]; exact H7.out.erase 0⟩⟩
        case measure => simp [intOf]; omega
      · rw [show i / 2 ^ k % 2 = 1 by omega] at hand
        have HPR := Aside0.mk (fun W => pair_any h s HHP.out.1 HHF.out.1 HHP.out.2 HHF.out.2 W)
        rw [foldStep_no hbit] at HS
        rw [HS.out] at HHN
        have HAn := Aside0.mk (Arr_B HHN.out.1)
        clear hbit
        generalize pairI h s = r at *
        go_wp2_with (first
          | fail
          | ((with_reducible refine gate_dst (N := 27) rfl ?_); refine load_H rfl 25 (.tmp 26) rfl (⟨b, o + k * 32, none⟩) (h) rfl (HEL.out) Try.underlying25 (by rw [HLEN.out]; kernel_rfl) ?_)
          | ((with_reducible refine gate_dst (N := 9) rfl ?_); refine own_alloc HR.out rfl (N := 9) rfl (t := 25) rfl (Array.replicate 32 (.int .u8 0)) 32 (by kernel_rfl) ?_; intro g9 w4 H4 B4; replace H4 := Aside0.mk H4; replace B4 := Aside0.mk B4)
          | ((with_reducible refine own_store H4.out 0 g9 _ 25 rfl rfl (.tmp 9) (.tmp 27) rfl (cellsB h) ?_ ?_ 32 R32.out HAh.out (by kernel_rfl) ?_); (case _ => rfl); (case _ => rfl); intro w5 H5; replace H5 := Aside0.mk H5)
          | ((with_reducible refine gate_dst (N := 37) rfl ?_); refine own_load H5.out 1 g4 _ 25 rfl rfl (.tmp 4) rfl (by rfl) Try.underlying25 32 HAs.out (by kernel_rfl) ?_)
          | ((with_reducible refine gate_dst (N := 36) rfl ?_); refine own_load H5.out 0 g9 _ 25 rfl rfl (.tmp 9) rfl (by rfl) Try.underlying25 32 HAh.out (by kernel_rfl) ?_)
          | (go_at_call 118; refine (HPR.out _).mono ?_; rintro e w6 ⟨rfl, hB6⟩; have H6 := Aside0.mk (H5.out.step hB6); clear hB6)
          | ((with_reducible refine own_store H6.out 1 g4 _ 25 rfl rfl (.tmp 4) (.tmp 38) rfl (cellsB r) ?_ ?_ 32 HAs.out HAn.out (by kernel_rfl) ?_); (case _ => rfl); (case _ => rfl); intro w7 H7; replace H7 := Aside0.mk H7)
          )
        go_roundw
        case rel => exact ⟨k + 1, hlt, by go_num, ⟨by rw [HS.out]; exact H7.out.erase 0⟩⟩
        case measure => simp [intOf]; omega
    · have hdl : decide (k < n) = false := decide_eq_false hlt
      have hke : k = n := by omega
      subst hke
      clear hlt
      have HHF := Aside0.mk (HFH.out k)
      have HE : Aside0 (foldI i lf (ps.take k) = foldI i lf ps) := ⟨by rw [List.take_of_length_le (by rw [← HN.out]; exact Nat.le_refl _)]⟩
      rw [HE.out] at HR HHF
      obtain ⟨s, hs⟩ : ∃ s, s = foldI i lf ps := ⟨_, rfl⟩
      rw [← hs] at HR HHF
      have HSE := Aside0.mk hs
      clear hs HE
      have HAs := Aside0.mk (Arr_B HHF.out.1)
      go_wp2_with (first
        | fail
        | ((with_reducible refine gate_dst (N := 40) rfl ?_); refine own_load HR.out 0 g4 _ 25 rfl rfl (.tmp 4) rfl (by rfl) Try.underlying25 32 HAs.out (by kernel_rfl) ?_)
        | ((with_reducible refine own_store HR.out 1 g6 _ 25 rfl rfl (.tmp 6) (.tmp 40) rfl (cellsB s) ?_ ?_ 32 R32.out HAs.out (by kernel_rfl) ?_); (case _ => rfl); (case _ => rfl); intro w7 H7; replace H7 := Aside0.mk H7)
        )
      refine bodyPost_ret (own_result_ct rfl _ H7.out 1 g6 (cellsB s) rfl rfl Try.underlying25 32 HAs.out (by kernel_rfl) (.int .i64 0) rfl) rfl ?_
      exact ⟨by rw [HSE.out], H7.out.below⟩
end Go.Proofs.Ytocphkfkdadhaaa.H

namespace Go.Proofs.Ytocphkfkdadhaaa.H
open Go.RowKit Go.Proofs.YtocphkfkdadhaaaW.PrintWords Go.Proofs.YtocphkfkdadhaaaW.PrintLast Go.Proofs.YtocphkfkdadhaaaW.PrintMore
set_option linter.unusedVariables false
set_option linter.unusedSimpArgs false
theorem loadAt_H {P : Program} {W : World} (ty : TypeId) (p : Addr) (xs : List Int) {n : Nat} {el : TypeId} (hc : ∀ j v, (xs.map (Value.int .u8))[j]? = some v → W.cell? (p.add j) = some v) (hu : P.underlying ty = some (.array n el)) (hi : (P.info? ty).map (·.size) = some xs.length) :
    (Instr.loadAt ty (.pointer (some p))).run P W = .ok (.agg (cellsB xs)) W := by
  simp only [Instr.loadAt, Instr.sureAddr, Sem.run_bind, Sem.run_pure, Result.andThen_ok, run_loadVar_at (P := P) (W := W) p ty (xs.map (Value.int .u8)) _ hc hu rfl (by rw [List.length_map]; exact hi)]
  rfl
theorem cells_blkB {W : World} {g : Nat} {t : TypeId} {xs : List Int} (h : W.heap[g]? = some (.cells (cellsB xs) t (0, 0))) : ∀ j v, (xs.map (Value.int .u8))[j]? = some v → W.cell? ((⟨g, 0, none⟩ : Addr).add j) = some v := fun j v hv => by
  rw [add_plain, blk_cell h j]
  simpa [cellsB] using hv
end Go.Proofs.Ytocphkfkdadhaaa.H

namespace Go.Proofs.Ytocphkfkdadhaaa.H
open Go.RowKit Go.Proofs.YtocphkfkdadhaaaW.PrintWords Go.Proofs.YtocphkfkdadhaaaW.PrintLast Go.Proofs.YtocphkfkdadhaaaW.PrintMore
set_option linter.unusedVariables false
set_option linter.unusedSimpArgs false
section
variable {P : Program} {ops : Array Oper} {rest : List Oper} {o : Oper} {a : Act} {Q : Exit → Act → World → Prop} {W : World}
theorem wpList_wanted (hw : Region.wanted o (yielded ops a.tmps) = true) (h : ∀ K : Act → World → Prop, (∀ a w, wpList P ops Q rest a w → K a w) → o.wp P a W K Q) : wpList P ops Q (o :: rest) a W :=
  wpList_step fun K hK => by rw [if_pos hw]; exact h K hK
theorem gload_H (hw : Region.wanted o (yielded ops a.tmps) = true) (ty : TypeId) (x : Operand) (ho : o.op = .load ty x) (p : Addr) (xs : List Int) {n : Nat} {el : TypeId} (hx : a.eval x = .pointer (some p)) (hc : ∀ j v, (xs.map (Value.int .u8))[j]? = some v → W.cell? (p.add j) = some v) (hu : P.underlying ty = some (.array n el))
    (hi : (P.info? ty).map (·.size) = some xs.length) (h : wpList P ops Q rest (a.put o.dst (.agg (cellsB xs))) W) : wpList P ops Q (o :: rest) a W :=
  wpList_wanted hw fun _ hK => by
    unfold Oper.wp execOp
    simp only [ho, hx, Sem.run_bind, Sem.run_pure, Result.andThen_ok, loadAt_H (P := P) (W := W) ty p xs hc hu hi]
    exact hK _ _ h
theorem geq_H (hw : Region.wanted o (yielded ops a.tmps) = true) (t u : TypeId) (x y : Operand) (ho : o.op = .binOp .eql t x y u) (xs ys : List Int) (hx : a.eval x = .agg (cellsB xs)) (hy : a.eval y = .agg (cellsB ys)) {n : Nat} {e : TypeId} (ht : P.underlying t = some (.array n e)) (he : P.underlying e = some (.int .u8)) (hs : (P.info? e).map (·.size) = some 1) (hg : P.eqGuardType P.depth t = false) (lx : xs.length = n) (ly : ys.length = n)
    (h : wpList P ops Q rest (a.put o.dst (.bool (xs == ys))) W) : wpList P ops Q (o :: rest) a W :=
  wpList_wanted hw fun _ hK => by
    unfold Oper.wp execOp
    have := (run_eqH (P := P) 0 t e n ht he hs hg xs ys lx ly x y W).1
    simp only [Sem.run_bind] at this
    simp only [ho, hx, hy, Sem.run_bind, Sem.run_pure]
    rw [this]
    exact hK _ _ h
end
set_option maxHeartbeats 1000000 in
set_option maxRecDepth 100000 in
theorem mcheck_ok (i : Nat) (root lf : List Int) (ps : List (List Int)) (hl : ps.length ≤ 16) (hi : i < 2 ^ ps.length) (hr : Hsh root) (hlf : Hsh lf) (hps : Hshs ps) (A : Option Addr) (c : Nat) (hc : ps.length ≤ c) (w : World) (hC : Kd.C kH w A ps.length ps) :
    Calls Try.prog 61 #[.agg (cellsB root), .int .i64 (i : Int), .agg (cellsB lf), .slice A ps.length c] w fun e w' => e = .returned (.bool (foldI i lf ps == root)) ∧ Below w.heap.size w w' := by
  have HF := Aside0.mk (fun W h => fold_ok i lf ps hl hi hlf hps A c hc W h)
  have HC := Aside0.mk hC
  have H0 := Aside0.mk (Own.start w)
  have R32 : Aside0 (Arr 32 (Array.replicate 32 (.int .u8 0))) := ⟨Arr_rep _ _ rfl⟩
  have HAl := Aside0.mk (Arr_B hlf.1)
  have Hr := Aside0.mk hr
  have HS := Aside0.mk (Hsh_foldI ps i lf hlf)
  generalize foldI i lf ps = s at *
  have HAs := Aside0.mk (Arr_B HS.out.1)
  clear hC hl hi hr hlf hps hc
  generalize ps.length = n at *
  go_enter Try.func61, Try.ntmps61
  go_wp2_with (first
    | fail
    | ((with_reducible refine gate_dst (N := 4) rfl ?_); refine own_box H0.out rfl (N := 4) rfl (t := 25) rfl (.agg (cellsB root)) rfl ?_; intro g4 w1 H1 B1; replace H1 := Aside0.mk H1; replace B1 := Aside0.mk B1)
    | ((with_reducible refine gate_dst (N := 6) rfl ?_); refine own_box H1.out rfl (N := 6) rfl (t := 25) rfl (.agg (cellsB lf)) rfl ?_; intro g6 w2 H2 B2; replace H2 := Aside0.mk H2; replace B2 := Aside0.mk B2)
    | ((with_reducible refine gate_dst (N := 13) rfl ?_); refine own_load H2.out 0 g6 _ 25 rfl rfl (.tmp 6) rfl (by rfl) Try.underlying25 32 HAl.out (by kernel_rfl) ?_)
    | (go_at_call 115; refine (HF.out _ (Kd.C_below HC.out H2.out.below)).mono ?_; rintro e w3 ⟨rfl, hB3⟩; have H3 := Aside0.mk (H2.out.step hB3); clear hB3)
    | ((with_reducible refine gate_dst (N := 9) rfl ?_); refine own_alloc H3.out rfl (N := 9) rfl (t := 25) rfl (Array.replicate 32 (.int .u8 0)) 32 (by kernel_rfl) ?_; intro g9 w4 H4 B4; replace H4 := Aside0.mk H4; replace B4 := Aside0.mk B4)
    | ((with_reducible refine own_store H4.out 0 g9 _ 25 rfl rfl (.tmp 9) (.tmp 16) rfl (cellsB s) ?_ ?_ 32 R32.out HAs.out (by kernel_rfl) ?_); (case _ => rfl); (case _ => rfl); intro w5 H5; replace H5 := Aside0.mk H5)
    | ((with_reducible refine gate_dst (N := 21) rfl ?_); refine gload_H (by rfl) 25 (.tmp 9) rfl ⟨g9, 0, none⟩ s rfl (cells_blkB (H5.out.get 0 rfl)) Try.underlying25 (by rw [HS.out.1]; kernel_rfl) ?_)
    | ((with_reducible refine gate_dst (N := 22) rfl ?_); refine gload_H (by rfl) 25 (.tmp 4) rfl ⟨g4, 0, none⟩ root rfl (cells_blkB (H5.out.get 2 rfl)) Try.underlying25 (by rw [Hr.out.1]; kernel_rfl) ?_)
    | ((with_reducible refine gate_dst (N := 23) rfl ?_); refine geq_H (by rfl) 25 _ (.tmp 21) (.tmp 22) rfl s root rfl rfl Try.underlying25 Try.underlying5 size1B guardH HS.out.1 Hr.out.1 ?_)
    )
  go_ret
  exact ⟨rfl, H5.out.below⟩
end Go.Proofs.Ytocphkfkdadhaaa.H

namespace Go.Proofs.Ytocphkfkdadhaaa.H
open Go.RowKit Go.Proofs.YtocphkfkdadhaaaW.PrintWords Go.Proofs.YtocphkfkdadhaaaW.PrintLast Go.Proofs.YtocphkfkdadhaaaW.PrintMore
set_option linter.unusedVariables false
set_option linter.unusedSimpArgs false
def chkI (root : List Int) (at_ m : Nat) (ps : List (List Int)) : Bool := decide (ps.length ≤ 12) && (decide (at_ < 2 ^ ps.length) && (foldI at_ (leafW m) ps == root))
theorem wrapu_pow (n p : Nat) (hn : n ≤ 16) (hp : 2 ^ n = p) : IntKind.u64.wrap ((2 : Int) ^ n) = (p : Int) := by
  have h16 : 2 ^ n ≤ 65536 := Nat.pow_le_pow_right (by decide : 0 < 2) hn
  have e : (2 : Int) ^ n = ((2 ^ n : Nat) : Int) := (Int.natCast_pow 2 n).symm
  rw [e, hp, IntKind.wrap_u64]
  omega
theorem wrapu_pow' (n p : Nat) (hn : n ≤ 16) (hp : 2 ^ n = p) : (2 : Int) ^ n % 18446744073709551616 = (p : Int) := by
  have := wrapu_pow n p hn hp
  rwa [IntKind.wrap_u64] at this
set_option maxHeartbeats 2000000 in
set_option maxRecDepth 100000 in
theorem memcheck_any (root : List Int) (at_ m : Nat) (ps : List (List Int)) (ha : at_ ≤ 18446744073709551615) (hm : m ≤ 18446744073709551615) (hr : Hsh root) (hps : Hshs ps) (A : Option Addr) (c : Nat) (hc : ps.length ≤ c) (w : World) (hC : Kd.C kH w A ps.length ps) :
    Calls Try.prog 16 #[.agg (cellsB root), .int .u64 (at_ : Int), .int .u64 (m : Int), .slice A ps.length c] w fun e w' => e = .returned (.bool (chkI root at_ m ps)) ∧ Below w.heap.size w w' := by
  have hlm := hC.2.1
  have H0 := Aside0.mk (Own.start w)
  have HRES : Aside0 (chkI root at_ m ps = (decide (ps.length ≤ 12) && (decide (at_ < 2 ^ ps.length) && (foldI at_ (leafW m) ps == root)))) := ⟨rfl⟩
  by_cases h12 : ps.length ≤ 12
  · obtain ⟨p, hp⟩ : ∃ p, 2 ^ ps.length = p := ⟨_, rfl⟩
    have hw1 := wrapu_pow ps.length p (by omega) hp
    have hw2 := wrapu_pow' ps.length p (by omega) hp
    have hp4 : p ≤ 4096 := by rw [← hp]; exact Nat.pow_le_pow_right (by decide : 0 < 2) h12
    by_cases hat : at_ < p
    · have HCK := Aside0.mk (fun W h => mcheck_ok at_ root (leafW m) ps (by omega) (by rw [hp]; exact hat) hr (Hsh_leaf m) hps A c hc W h)
      have HLF := Aside0.mk (fun W => memleaf_any m hm W)
      have HE : Aside0 (chkI root at_ m ps = (foldI at_ (leafW m) ps == root)) := ⟨by rw [HRES.out, hp, decide_eq_true h12, decide_eq_true hat]; rfl⟩
      rw [HE.out]
      have HC := Aside0.mk hC
      have HR := Aside0.mk hr
      generalize (foldI at_ (leafW m) ps == root) = res at *
      generalize leafW m = lf at *
      clear HRES HE hC hr hps hp
      generalize ps.length = n at *
      have hd1 : decide ((n : Int) ≤ 12) = true := decide_eq_true (by omega)
      have hwa : IntKind.i64.wrap (at_ : Int) = (at_ : Int) := IntWalk.i64_in _ (by omega)
      have hd2 : decide (at_ < p) = true := decide_eq_true hat
      go_enter Try.func16, Try.ntmps16
      go_wp2_with (first
        | fail
        | ((with_reducible refine gate_dst (N := 4) rfl ?_); refine own_box H0.out rfl (N := 4) rfl (t := 25) rfl (.agg (cellsB root)) rfl ?_; intro g4 w1 H1 B1; replace H1 := Aside0.mk H1; replace B1 := Aside0.mk B1)
        )
      have hu := Try.underlying25
      obtain ⟨cs, hcs⟩ : ∃ cs : List Value, cs = root.map (Value.int .u8) := ⟨_, rfl⟩
      have HCS : Aside0 (cs.toArray = cellsB root) := ⟨by rw [hcs]; rfl⟩
      have hcl : cs.length = 32 := by rw [hcs, List.length_map]; exact HR.out.1
      have hi : (Try.prog.info? 25).map (·.size) = some cs.length := by rw [hcl]; kernel_rfl
      have hra : w1.rangeAt g4 0 cs := fun j v hv => by rw [Nat.zero_add]; have := cells_blkB (H1.out.get 0 rfl) j v (by rw [← hcs]; exact hv); rwa [add_plain] at this
      clear hcs
      rw [← HCS.out] at HCK
      go_region_held3 (fun W => W.rangeAt g4 0 cs) (first | exact K9.out | exact K10.out | go_keep_ranges) (first
        | (go_at_call 62; refine (HLF.out _).mono ?_; rintro e w9 ⟨rfl, hB9⟩; have H9 := Aside0.mk (H1.out.drew.step hB9); have K9 : Aside0 (w9.rangeAt g4 0 cs) := ⟨fun j v hv => pw_cell_below hB9 (hra j v hv)⟩; clear hB9)
        | (go_at_call 61; refine (HCK.out _ (Kd.C_below HC.out H9.out.below)).mono ?_; rintro e w10 ⟨rfl, hB10⟩; have H10 := Aside0.mk (H9.out.step hB10); have K10 : Aside0 (w10.rangeAt g4 0 cs) := ⟨fun j v hv => pw_cell_below hB10 (K9.out j v hv)⟩; clear hB10))
      go_wp2_with fail
      go_ret
      exact ⟨rfl, H10.out.below⟩
    · have HE : Aside0 (chkI root at_ m ps = false) := ⟨by rw [HRES.out, hp, decide_eq_true h12, decide_eq_false hat]; rfl⟩
      rw [HE.out]
      clear HRES HE hC hp
      generalize ps.length = n at *
      have hd1 : decide ((n : Int) ≤ 12) = true := decide_eq_true (by omega)
      have hd2 : decide (at_ < p) = false := decide_eq_false hat
      go_enter Try.func16, Try.ntmps16
      go_wp2_with (first
        | fail
        | ((with_reducible refine gate_dst (N := 4) rfl ?_); refine own_box H0.out rfl (N := 4) rfl (t := 25) rfl (.agg (cellsB root)) rfl ?_; intro g4 w1 H1 B1; replace H1 := Aside0.mk H1; replace B1 := Aside0.mk B1)
        )
      go_quiet (fail)
      go_wp2_with fail
      go_ret
      exact ⟨rfl, (H1.out.drewN nq).below⟩
  · have HE : Aside0 (chkI root at_ m ps = false) := ⟨by rw [HRES.out, decide_eq_false h12]; rfl⟩
    rw [HE.out]
    clear HRES HE hC
    generalize ps.length = n at *
    have hd1 : decide ((n : Int) ≤ 12) = false := decide_eq_false (by omega)
    go_enter Try.func16, Try.ntmps16
    go_wp2_with (first
      | fail
      | ((with_reducible refine gate_dst (N := 4) rfl ?_); refine own_box H0.out rfl (N := 4) rfl (t := 25) rfl (.agg (cellsB root)) rfl ?_; intro g4 w1 H1 B1; replace H1 := Aside0.mk H1; replace B1 := Aside0.mk B1)
      )
    go_quiet (fail)
    go_wp2_with fail
    go_ret
    exact ⟨rfl, (H1.out.drewN nq).below⟩
end Go.Proofs.Ytocphkfkdadhaaa.H

namespace Go.Proofs.Ytocphkfkdadhaaa.H
open Go.RowKit Go.Proofs.YtocphkfkdadhaaaW.PrintWords Go.Proofs.YtocphkfkdadhaaaW.PrintLast Go.Proofs.YtocphkfkdadhaaaW.PrintMore
set_option linter.unusedVariables false
set_option linter.unusedSimpArgs false
def zero32 : List Int := List.replicate 32 0
theorem Hsh_zero : Hsh zero32 := ⟨by simp [zero32], fun x hx => by have := List.eq_of_mem_replicate hx; omega⟩
def rootP : Nat → List (List Int) → List Int
  | 0, ls => ls.getD 0 zero32
  | d + 1, ls => if ls.length = 0 then pairI (rootP d []) (rootP d []) else if ls.length ≤ 2 ^ d then pairI (rootP d ls) (rootP d []) else pairI (rootP d (ls.take (2 ^ d))) (rootP d (ls.drop (2 ^ d)))
theorem Hsh_root (d : Nat) (ls : List (List Int)) (h : Hshs ls) : Hsh (rootP d ls) := by
  cases d with
  | zero =>
    show Hsh (ls.getD 0 zero32)
    by_cases hl : 0 < ls.length
    · rw [List.getD_eq_getElem?_getD, List.getElem?_eq_getElem hl]; exact h _ (List.getElem_mem hl)
    · rw [List.getD_eq_getElem?_getD, List.getElem?_eq_none (by omega)]; exact Hsh_zero
  | succ d =>
    unfold rootP
    split
    · exact Hsh_pair _ _
    · split <;> exact Hsh_pair _ _
theorem Hshs_take {l : List (List Int)} (h : Hshs l) (k : Nat) : Hshs (l.take k) := fun x hx => h x (List.mem_of_mem_take hx)
theorem Hshs_drop {l : List (List Int)} (h : Hshs l) (k : Nat) : Hshs (l.drop k) := fun x hx => h x (List.mem_of_mem_drop hx)
theorem C_takeH {W : World} {A : Option Addr} {n : Nat} {xs : List (List Int)} (h : Kd.C kH W A n xs) (k : Nat) (hk : k ≤ n) : Kd.C kH W A k (xs.take k) := by
  obtain ⟨h1, h2, h3⟩ := h
  refine ⟨by rw [List.length_take]; omega, by omega, fun hp => ?_⟩
  obtain ⟨ad, rfl, hc⟩ := h3 (by omega)
  refine ⟨ad, rfl, fun j p hj => hc j p ?_⟩
  rw [List.getElem?_take] at hj
  split at hj
  · exact hj
  · cases hj
theorem C_dropH {W : World} {b o : Nat} {n : Nat} {xs : List (List Int)} (h : Kd.C kH W (some ⟨b, o, none⟩) n xs) (k : Nat) (hk : k ≤ n) : Kd.C kH W (some ⟨b, o + k * 32, none⟩) (n - k) (xs.drop k) := by
  obtain ⟨h1, h2, h3⟩ := h
  refine ⟨by rw [List.length_drop]; omega, by omega, fun hp => ⟨_, rfl, fun j p hj => ?_⟩⟩
  obtain ⟨ad, he, hc⟩ := h3 (by omega)
  injection he with he
  subst he
  rw [List.getElem?_drop] at hj
  obtain ⟨c, h4, h5, h6⟩ := hc (k + j) p hj
  refine ⟨c, h4, h5, fun i u hu => ?_⟩
  have := h6 i u hu
  rw [add_at] at this ⊢
  rw [← this]
  congr 2
  show o + k * 32 + (j * 32 + i) = o + ((k + j) * 32 + i)
  omega
set_option maxHeartbeats 4000000 in
set_option maxRecDepth 100000 in
theorem root_any (d : Nat) : ∀ (hd : d ≤ 16) (ls : List (List Int)) (A : Option Addr) (c : Nat) (w : World), Hshs ls → Kd.C kH w A ls.length ls → ls.length ≤ c →
    Calls Try.prog 114 #[.int .i64 (d : Int), .slice A ls.length c] w fun e w' => e = .returned (.agg (cellsB (rootP d ls))) ∧ Below w.heap.size w w' := by
  induction d with
  | zero =>
    intro hd ls A c w hls hC hc
    have H0 := Aside0.mk (Own.start w)
    have R32 : Aside0 (Arr 32 (Array.replicate 32 (.int .u8 0))) := ⟨Arr_rep _ _ rfl⟩
    have HH := Aside0.mk (Hsh_root 0 ls hls)
    have HA := Aside0.mk (Arr_B HH.out.1)
    by_cases hl : 0 < ls.length
    · obtain ⟨b, o, rfl, hel⟩ := elem_H hC hl
      have HC := Aside0.mk hC
      have HEL := Aside0.mk hel
      have HE : Aside0 (ls.getD 0 [] = rootP 0 ls) := ⟨by show _ = ls.getD 0 zero32; simp [hl]⟩
      obtain ⟨r, hr⟩ : ∃ r, r = rootP 0 ls := ⟨_, rfl⟩
      have HRR := Aside0.mk hr
      rw [← hr] at HE HA HH ⊢
      clear hel hC hr
      generalize hn : ls.length = n at *
      have HN := Aside0.mk hn
      clear hn
      have hdl : decide (0 < n) = true := decide_eq_true hl
      go_enter Try.func114, Try.ntmps114
      go_wp2_with (first
        | fail
        | ((with_reducible refine gate_dst (N := 4) rfl ?_); refine own_alloc H0.out rfl (N := 4) rfl (t := 25) rfl (Array.replicate 32 (.int .u8 0)) 32 (by kernel_rfl) ?_; intro g4 w1 H1 B1; replace H1 := Aside0.mk H1; replace B1 := Aside0.mk B1)
        | ((with_reducible refine gate_dst (N := 14) rfl ?_); refine load_H rfl 25 (.tmp 13) rfl ⟨b, o, none⟩ r rfl (by have h := (HEL.out w1 (Kd.C_below HC.out B1.out) 0 hl).2; rw [HE.out] at h; simpa using h) Try.underlying25 (by rw [HH.out.1]; kernel_rfl) ?_)
        | ((with_reducible refine own_store H1.out 0 g4 _ 25 rfl rfl (.tmp 4) (.tmp 14) rfl (cellsB r) ?_ ?_ 32 R32.out HA.out (by kernel_rfl) ?_); (case _ => rfl); (case _ => rfl); intro w2 H2; replace H2 := Aside0.mk H2)
        )
      refine bodyPost_ret (own_result rfl _ H2.out 0 g4 (cellsB r) rfl rfl Try.underlying25 32 HA.out (by kernel_rfl)) rfl ?_
      exact ⟨rfl, H2.out.below⟩
    · obtain rfl : ls = [] := List.eq_nil_of_length_eq_zero (by omega)
      have HZ : Aside0 (Arr 32 (cellsB zero32)) := ⟨Arr_B Hsh_zero.1⟩
      go_enter Try.func114, Try.ntmps114
      go_wp2_with (first
        | fail
        | ((with_reducible refine gate_dst (N := 4) rfl ?_); refine own_alloc H0.out rfl (N := 4) rfl (t := 25) rfl (Array.replicate 32 (.int .u8 0)) 32 (by kernel_rfl) ?_; intro g4 w1 H1 B1; replace H1 := Aside0.mk H1; replace B1 := Aside0.mk B1)
        | ((with_reducible refine own_store H1.out 0 g4 _ 25 rfl rfl (.tmp 4) (.tmp 15) rfl (cellsB zero32) ?_ ?_ 32 R32.out HZ.out (by kernel_rfl) ?_); (case _ => rfl); (case _ => rfl); intro w2 H2; replace H2 := Aside0.mk H2)
        )
      refine bodyPost_ret (own_result rfl _ H2.out 0 g4 (cellsB zero32) rfl rfl Try.underlying25 32 HZ.out (by kernel_rfl)) rfl ?_
      exact ⟨rfl, H2.out.below⟩
  | succ d ih =>
    intro hd ls A c w hls hC hc
    have H0 := Aside0.mk (Own.start w)
    have R32 : Aside0 (Arr 32 (Array.replicate 32 (.int .u8 0))) := ⟨Arr_rep _ _ rfl⟩
    have HH := Aside0.mk (Hsh_root (d + 1) ls hls)
    have HA := Aside0.mk (Arr_B HH.out.1)
    have HE0 : Aside0 (rootP (d + 1) ls = if ls.length = 0 then pairI (rootP d []) (rootP d []) else if ls.length ≤ 2 ^ d then pairI (rootP d ls) (rootP d []) else pairI (rootP d (ls.take (2 ^ d))) (rootP d (ls.drop (2 ^ d)))) := ⟨rfl⟩
    have HNIL := Aside0.mk (fun W => ih (by omega) [] none 0 W (by intro x hx; cases hx) ⟨rfl, by simp, fun h => absurd h (Nat.lt_irrefl 0)⟩ (Nat.le_refl _))
    have HHN := Aside0.mk (Hsh_root d [] (by intro x hx; cases hx))
    have HIL := Aside0.mk (fun W h => ih (by omega) ls A c W hls h hc)
    have HHL := Aside0.mk (Hsh_root d ls hls)
    have HIT := Aside0.mk (fun W c' h hc' => ih (by omega) (ls.take (2 ^ d)) A c' W (Hshs_take hls _) h hc')
    have HHT := Aside0.mk (Hsh_root d (ls.take (2 ^ d)) (Hshs_take hls _))
    have HID := Aside0.mk (fun W A' c' h hc' => ih (by omega) (ls.drop (2 ^ d)) A' c' W (Hshs_drop hls _) h hc')
    have HHD := Aside0.mk (Hsh_root d (ls.drop (2 ^ d)) (Hshs_drop hls _))
    have HC := Aside0.mk hC
    have hlm := hC.2.1
    obtain ⟨r, hr⟩ : ∃ r, r = rootP (d + 1) ls := ⟨_, rfl⟩
    rw [← hr] at HE0 HA HH ⊢
    clear ih hC hr
    obtain ⟨p, hp⟩ : ∃ p, 2 ^ d = p := ⟨_, rfl⟩
    have hwp := wrap_pow d p (by omega) hp
    have hp2 : p ≤ 32768 ∧ 1 ≤ p := by rw [← hp]; exact ⟨Nat.pow_le_pow_right (by decide : 0 < 2) (by omega : d ≤ 15), Nat.one_le_two_pow⟩
    rw [hp] at HE0 HIT HHT HID HHD
    have hwd : IntKind.u64.wrap (d : Int) = (d : Int) := by rw [IntKind.wrap_u64]; omega
    have hmd : min d 64 = d := Nat.min_eq_left (by omega)
    have hz1 : ((d : Int) + 1 == 0) = false := by rw [beq_eq_false_iff_ne]; omega
    clear hp
    simp only [List.length_nil] at HNIL
    have HTL : Aside0 (p ≤ ls.length → (ls.take p).length = p) := ⟨fun h => by rw [List.length_take]; omega⟩
    have HDL : Aside0 ((ls.drop p).length = ls.length - p) := ⟨List.length_drop⟩
    obtain ⟨n, hn⟩ : ∃ n, n = ls.length := ⟨_, rfl⟩
    have HN := Aside0.mk hn
    rw [← hn] at HC HIL HTL HDL HE0 hc hlm ⊢
    clear hn
    generalize rootP d [] = z at *
    have HAz := Aside0.mk (Arr_B HHN.out.1)
    by_cases h0 : n = 0
    · have hb0 : ((n : Int) == 0) = true := by rw [beq_iff_eq]; omega
      rw [if_pos h0] at HE0
      have HPR := Aside0.mk (fun W => rpair_any z z HHN.out.1 HHN.out.1 HHN.out.2 HHN.out.2 W)
      rw [← HE0.out] at HPR
      go_enter Try.func114, Try.ntmps114
      go_wp2_with (first
        | fail
        | ((with_reducible refine gate_dst (N := 4) rfl ?_); refine own_alloc H0.out rfl (N := 4) rfl (t := 25) rfl (Array.replicate 32 (.int .u8 0)) 32 (by kernel_rfl) ?_; intro g4 w1 H1 B1; replace H1 := Aside0.mk H1; replace B1 := Aside0.mk B1)
        | (go_at_call 114; refine (HNIL.out _).mono ?_; rintro e w2 ⟨rfl, hB2⟩; have H2 := Aside0.mk (H1.out.step hB2); clear hB2)
        | ((with_reducible refine gate_dst (N := 6) rfl ?_); refine own_alloc H2.out rfl (N := 6) rfl (t := 25) rfl (Array.replicate 32 (.int .u8 0)) 32 (by kernel_rfl) ?_; intro g6 w3 H3 B3; replace H3 := Aside0.mk H3; replace B3 := Aside0.mk B3)
        | ((with_reducible refine own_store H3.out 0 g6 _ 25 rfl rfl (.tmp 6) (.tmp 25) rfl (cellsB z) ?_ ?_ 32 R32.out HAz.out (by kernel_rfl) ?_); (case _ => rfl); (case _ => rfl); intro w4 H4; replace H4 := Aside0.mk H4)
        | ((with_reducible refine gate_dst (N := 26) rfl ?_); refine own_load H4.out 0 g6 _ 25 rfl rfl (.tmp 6) rfl (by rfl) Try.underlying25 32 HAz.out (by kernel_rfl) ?_)
        | ((with_reducible refine gate_dst (N := 27) rfl ?_); refine own_load H4.out 0 g6 _ 25 rfl rfl (.tmp 6) rfl (by rfl) Try.underlying25 32 HAz.out (by kernel_rfl) ?_)
        | (go_at_call 66; refine (HPR.out _).mono ?_; rintro e w5 ⟨rfl, hB5⟩; have H5 := Aside0.mk (H4.out.step hB5); clear hB5)
        | ((with_reducible refine own_store H5.out 1 g4 _ 25 rfl rfl (.tmp 4) (.tmp 28) rfl (cellsB r) ?_ ?_ 32 R32.out HA.out (by kernel_rfl) ?_); (case _ => rfl); (case _ => rfl); intro w6 H6; replace H6 := Aside0.mk H6)
        )
      refine bodyPost_ret (own_result rfl _ H6.out 1 g4 (cellsB r) rfl rfl Try.underlying25 32 HA.out (by kernel_rfl)) rfl ?_
      exact ⟨rfl, H6.out.below⟩
    · have hb0 : ((n : Int) == 0) = false := by rw [beq_eq_false_iff_ne]; omega
      rw [if_neg h0] at HE0
      by_cases hle : n ≤ p
      · have hdl : decide (n ≤ p) = true := decide_eq_true hle
        rw [if_pos hle] at HE0
        generalize rootP d ls = y at *
        have HPR := Aside0.mk (fun W => rpair_any y z HHL.out.1 HHN.out.1 HHL.out.2 HHN.out.2 W)
        rw [← HE0.out] at HPR
        have tok1 : True := trivial
        go_enter Try.func114, Try.ntmps114
        go_wp2_with (first
          | fail
          | ((with_reducible refine gate_dst (N := 4) rfl ?_); refine own_alloc H0.out rfl (N := 4) rfl (t := 25) rfl (Array.replicate 32 (.int .u8 0)) 32 (by kernel_rfl) ?_; intro g4 w1 H1 B1; replace H1 := Aside0.mk H1; replace B1 := Aside0.mk B1)
          | (go_at_call 114; have _t := tok1; refine (HIL.out _ (Kd.C_below HC.out H1.out.below)).mono ?_; rintro e w2 ⟨rfl, hB2⟩; have H2 := Aside0.mk (H1.out.step hB2); clear hB2 tok1)
          | (go_at_call 114; refine (HNIL.out _).mono ?_; rintro e w3 ⟨rfl, hB3⟩; have H3 := Aside0.mk (H2.out.step hB3); clear hB3)
          | (go_at_call 66; refine (HPR.out _).mono ?_; rintro e w5 ⟨rfl, hB5⟩; have H5 := Aside0.mk (H3.out.step hB5); clear hB5)
          | ((with_reducible refine own_store H5.out 0 g4 _ 25 rfl rfl (.tmp 4) (.tmp 40) rfl (cellsB r) ?_ ?_ 32 R32.out HA.out (by kernel_rfl) ?_); (case _ => rfl); (case _ => rfl); intro w6 H6; replace H6 := Aside0.mk H6)
          )
        refine bodyPost_ret (own_result rfl _ H6.out 0 g4 (cellsB r) rfl rfl Try.underlying25 32 HA.out (by kernel_rfl)) rfl ?_
        exact ⟨rfl, H6.out.below⟩
      · have hdl : decide (n ≤ p) = false := decide_eq_false hle
        rw [if_neg hle] at HE0
        obtain ⟨b, o, rfl, _⟩ := elem_H HC.out (by omega)
        have HCT := Aside0.mk (fun (W : World) (h : Kd.C kH W (some ⟨b, o, none⟩) n ls) => C_takeH h p (by omega))
        have HCD := Aside0.mk (fun (W : World) (h : Kd.C kH W (some ⟨b, o, none⟩) n ls) => C_dropH h p (by omega))
        have HTL' := HTL.out (by omega)
        rw [HTL'] at HIT
        rw [HDL.out] at HID
        clear HTL'
        generalize rootP d (ls.take p) = x at *
        generalize rootP d (ls.drop p) = y at *
        generalize ls.take p = lt at *
        generalize ls.drop p = ld at *
        have HPR := Aside0.mk (fun W => rpair_any x y HHT.out.1 HHD.out.1 HHT.out.2 HHD.out.2 W)
        rw [← HE0.out] at HPR
        obtain ⟨cs, hcs⟩ : ∃ cs : List Value, cs = r.map (Value.int .u8) := ⟨_, rfl⟩
        have HCS : Aside0 (cellsB r = cs.toArray) := ⟨by rw [hcs]; rfl⟩
        have hcl : cs.length = 32 := by rw [hcs, List.length_map]; exact HH.out.1
        have hc1 : ∀ v ∈ cs, v.oneCell' = true := by rw [hcs]; intro v hv; obtain ⟨z, _, rfl⟩ := List.mem_map.1 hv; rfl
        rw [HCS.out] at HPR HA ⊢
        clear hcs HE0
        go_enter Try.func114, Try.ntmps114
        go_wp2_with (first
          | fail
          | ((with_reducible refine gate_dst (N := 4) rfl ?_); refine own_alloc H0.out rfl (N := 4) rfl (t := 25) rfl (Array.replicate 32 (.int .u8 0)) 32 (by kernel_rfl) ?_; intro g4 w1 H1 B1; replace H1 := Aside0.mk H1; replace B1 := Aside0.mk B1)
          )
        have ht : w1.there g4 0 32 := there_blk (H1.out.get 0 rfl) 32 (by simp)
        have hu := Try.underlying25
        have hi : (Try.prog.info? 25).map (·.size) = some cs.length := by rw [hcl]; kernel_rfl
        have hb1 : (0 : Int) ≤ (p : Int) ∧ (p : Int) ≤ (n : Int) ∧ (n : Int) ≤ (c : Int) ∧ (p : Int) ≤ (c : Int) := by omega
        have hnc : ¬ c = p := by omega
        have hwi : IntKind.i64.wrap (d : Int) = (d : Int) := IntWalk.i64_in _ (by omega)
        go_region_held3 (fun W => W.there g4 0 32) (first | exact Ka.out | exact Kb.out | exact Kp.out | exact World.there_setCells Kp.out _ _ _ | go_keep_ranges) (first
          | (go_at_call 114; (with_reducible refine (HIT.out wb c (HCT.out _ (Kd.C_below HC.out Hb.out.below)) (by omega)).mono ?_); rintro e wa ⟨rfl, hBa⟩; have Ha := Aside0.mk (Hb.out.step hBa); clear hBa; have Ka := Aside0.mk (there_blk (Ha.out.get 0 rfl) 32 (by simp)))
          | (go_at_call 114; (with_reducible refine (HID.out wa _ (c - p) (HCD.out _ (Kd.C_below HC.out Ha.out.below)) (by omega)).mono ?_); rintro e wb ⟨rfl, hBb⟩; have Hb := Aside0.mk (Ha.out.step hBb); clear hBb; have Kb := Aside0.mk (there_blk (Hb.out.get 0 rfl) 32 (by simp)))
          | (go_at_call 114; (with_reducible refine (HIT.out w1.drew c (HCT.out _ (Kd.C_below HC.out H1.out.drew.below)) (by omega)).mono ?_); rintro e wa ⟨rfl, hBa⟩; have Ha := Aside0.mk (H1.out.drew.step hBa); clear hBa; have Ka := Aside0.mk (there_blk (Ha.out.get 0 rfl) 32 (by simp)))
          | (go_at_call 114; (with_reducible refine (HID.out w1.drew _ (c - p) (HCD.out _ (Kd.C_below HC.out H1.out.drew.below)) (by omega)).mono ?_); rintro e wb ⟨rfl, hBb⟩; have Hb := Aside0.mk (H1.out.drew.step hBb); clear hBb; have Kb := Aside0.mk (there_blk (Hb.out.get 0 rfl) 32 (by simp)))
          | (go_at_call 66; refine (HPR.out _).mono ?_; rintro e wp ⟨rfl, hBp⟩; have Hp : Aside0 (Own w.heap.size w wp [.blk g4 (Array.replicate 32 (.int .u8 0)) 25]) := (by first | exact ⟨Ha.out.step hBp⟩ | exact ⟨Hb.out.step hBp⟩); clear hBp; have Kp := Aside0.mk (there_blk (Hp.out.get 0 rfl) 32 (by simp))))
        all_goals
          have H11 := Aside0.mk (Hp.out.setCells 0 rfl cs (by rw [hcl]; simp))
          go_wp2_with fail
          refine bodyPost_ret (own_result rfl _ H11.out 0 g4 cs.toArray rfl rfl Try.underlying25 32 HA.out (by kernel_rfl)) rfl ?_
          exact ⟨rfl, H11.out.below⟩
end Go.Proofs.Ytocphkfkdadhaaa.H

namespace Go.Proofs.Ytocphkfkdadhaaa.H
open Go.RowKit Go.Proofs.YtocphkfkdadhaaaW.PrintWords Go.Proofs.YtocphkfkdadhaaaW.PrintLast Go.Proofs.YtocphkfkdadhaaaW.PrintMore
set_option linter.unusedVariables false
set_option linter.unusedSimpArgs false
def sizeB (n : Nat) : Bool := (List.range 13).any fun d => n == 2 ^ d
theorem sizeB_yes {n : Nat} (h : sizeB n = true) : ∃ d, d ≤ 12 ∧ n = 2 ^ d := by
  obtain ⟨d, hd, he⟩ := List.any_eq_true.1 h
  exact ⟨d, by have := List.mem_range.1 hd; omega, by simpa using he⟩
theorem sizeB_of {d : Nat} (h : d ≤ 12) : sizeB (2 ^ d) = true := List.any_eq_true.2 ⟨d, List.mem_range.2 (by omega), by simp⟩
theorem sizeB_no {n : Nat} (h : ∀ d, d ≤ 12 → n ≠ 2 ^ d) : sizeB n = false := by
  cases hs : sizeB n with
  | false => rfl
  | true =>
    obtain ⟨d, hd, he⟩ := sizeB_yes hs
    exact absurd he (h d hd)
set_option maxHeartbeats 1000000 in
theorem size_any (n : Nat) (hn : n ≤ 9223372036854775807) (w : World) :
    Calls Try.prog 20 #[.int .i64 (n : Int)] w fun e w' => e = .returned (.bool (sizeB n)) ∧ w' = w := by
  obtain ⟨b, HS⟩ : ∃ b, Aside0 (sizeB n = b) := ⟨_, ⟨rfl⟩⟩
  rw [HS.out]
  go_enter Try.func20, Try.ntmps20
  go_wp2
  go_loop [3] (fun v3 => ∃ d : Nat, d ≤ 13 ∧ v3 = .int .i64 (d : Int) ∧ Aside0 (∀ k, k < d → n ≠ 2 ^ k)) (fun v3 => 13 - (intOf v3).toNat)
  case atStart => exact ⟨0, by decide, rfl, ⟨fun k hk => by omega⟩⟩
  case round =>
    obtain ⟨d, hd, rfl, HK⟩ := hrel
    by_cases hlt : d ≤ 12
    · have hdl : decide ((d : Int) ≤ 12) = true := decide_eq_true (by omega)
      obtain ⟨p, hp⟩ : ∃ p, 2 ^ d = p := ⟨_, rfl⟩
      have hwp := wrap_pow d p (by omega) hp
      have hwd : IntKind.u64.wrap (d : Int) = (d : Int) := by rw [IntKind.wrap_u64]; omega
      have hmd : min d 64 = d := Nat.min_eq_left (by omega)
      by_cases he : n = p
      · have hb : ((n : Int) == (p : Int)) = true := by rw [beq_iff_eq]; omega
        obtain rfl : b = true := by rw [← HS.out, he, ← hp]; exact sizeB_of hlt
        clear HS
        clear hp
        go_wp2
        go_ret
        exact ⟨rfl, rfl⟩
      · have hb : ((n : Int) == (p : Int)) = false := by rw [beq_eq_false_iff_ne]; omega
        have HK2 : Aside0 (∀ k, k < d + 1 → n ≠ 2 ^ k) := ⟨fun k hk => by
          by_cases hkd : k = d
          · subst hkd; rw [hp]; exact he
          · exact HK.out k (by omega)⟩
        clear hp
        go_wp2
        go_round
        case rel => exact ⟨d + 1, by omega, by go_num, HK2⟩
        case measure => simp [intOf]; omega
    · have hdl : decide ((d : Int) ≤ 12) = false := decide_eq_false (by omega)
      obtain rfl : b = false := by rw [← HS.out]; exact sizeB_no fun k hk => HK.out k (by omega)
      clear HS
      go_wp2
      go_ret
      exact ⟨rfl, rfl⟩
set_option maxHeartbeats 1000000 in
theorem depth_any (D n : Nat) (hD : D ≤ 12) (hn : 2 ^ D = n) (w : World) :
    Calls Try.prog 59 #[.int .i64 (n : Int)] w fun e w' => e = .returned (.int .i64 (D : Int)) ∧ w' = w := by
  have hn4 : n ≤ 4096 := by rw [← hn]; exact Nat.pow_le_pow_right (by decide : 0 < 2) hD
  have HN := Aside0.mk hn
  clear hn
  go_enter Try.func59, Try.ntmps59
  go_wp2
  go_loop [3] (fun v3 => ∃ d : Nat, d ≤ D ∧ v3 = .int .i64 (d : Int)) (fun v3 => D - (intOf v3).toNat)
  case atStart => exact ⟨0, Nat.zero_le _, rfl⟩
  case round =>
    obtain ⟨d, hd, rfl⟩ := hrel
    obtain ⟨p, hp⟩ : ∃ p, 2 ^ d = p := ⟨_, rfl⟩
    have hwp := wrap_pow d p (by omega) hp
    have hwd : IntKind.u64.wrap (d : Int) = (d : Int) := by rw [IntKind.wrap_u64]; omega
    have hmd : min d 64 = d := Nat.min_eq_left (by omega)
    by_cases hlt : d < D
    · have hpn : p < n := by rw [← hp, ← HN.out]; exact Nat.pow_lt_pow_right (by decide) hlt
      have hdl : decide (p < n) = true := decide_eq_true hpn
      clear hp
      go_wp2
      go_round
      case rel => exact ⟨d + 1, hlt, by go_num⟩
      case measure => simp [intOf]; omega
    · obtain rfl : d = D := by omega
      obtain rfl : p = n := by rw [← hp, HN.out]
      have hdl : decide (p < p) = false := decide_eq_false (Nat.lt_irrefl _)
      clear hp
      go_wp2
      go_ret
      exact ⟨rfl, rfl⟩
set_option maxHeartbeats 1000000 in
theorem bad_ok (D n : Nat) (hD : D ≤ 16) (hn : n ≤ 2 ^ D) (w : World) :
    Calls Try.prog 113 #[.int .i64 (D : Int), .int .i64 (n : Int)] w fun e w' => e = .returned (.int .i64 0) ∧ w' = w := by
  obtain ⟨p, hp⟩ : ∃ p, 2 ^ D = p := ⟨_, rfl⟩
  have hwp := wrap_pow D p hD hp
  have hwd : IntKind.u64.wrap (D : Int) = (D : Int) := by rw [IntKind.wrap_u64]; omega
  have hmd : min D 64 = D := Nat.min_eq_left (by omega)
  rw [hp] at hn
  have hdl : decide (p < n) = false := decide_eq_false (by omega)
  have hd2 : decide (16 < (D : Int)) = false := decide_eq_false (by omega)
  clear hp
  go_enter Try.func113, Try.ntmps113
  go_wp2
  go_ret
  exact ⟨rfl, rfl⟩
set_option maxHeartbeats 1000000 in
set_option maxRecDepth 100000 in
theorem root04_ok (D : Nat) (hD : D ≤ 16) (ls : List (List Int)) (hl : ls.length ≤ 2 ^ D) (hls : Hshs ls) (A : Option Addr) (c : Nat) (hc : ls.length ≤ c) (w : World) (hC : Kd.C kH w A ls.length ls) :
    Calls Try.prog 58 #[.int .i64 (D : Int), .slice A ls.length c] w fun e w' => e = .returned (.tuple #[.agg (cellsB (rootP D ls)), .int .i64 0]) ∧ Below w.heap.size w w' := by
  have H0 := Aside0.mk (Own.start w)
  have R32 : Aside0 (Arr 32 (Array.replicate 32 (.int .u8 0))) := ⟨Arr_rep _ _ rfl⟩
  have HBD := Aside0.mk (fun W => bad_ok D ls.length hD hl W)
  have HRT := Aside0.mk (fun W h => root_any D hD ls A c W hls h hc)
  have HA := Aside0.mk (Arr_B (Hsh_root D ls hls).1)
  have HC := Aside0.mk hC
  have hlm := hC.2.1
  generalize rootP D ls = r at *
  clear hC hl hls
  generalize ls.length = n at *
  go_enter Try.func58, Try.ntmps58
  go_wp2_with (first
    | fail
    | ((with_reducible refine gate_dst (N := 4) rfl ?_); refine own_alloc H0.out rfl (N := 4) rfl (t := 25) rfl (Array.replicate 32 (.int .u8 0)) 32 (by kernel_rfl) ?_; intro g4 w1 H1 B1; replace H1 := Aside0.mk H1; replace B1 := Aside0.mk B1)
    | (go_at_call 113; refine (HBD.out _).mono ?_; rintro e w2 ⟨rfl, rfl⟩)
    | (go_at_call 114; refine (HRT.out _ (Kd.C_below HC.out H1.out.below)).mono ?_; rintro e w3 ⟨rfl, hB3⟩; have H3 := Aside0.mk (H1.out.step hB3); clear hB3)
    | ((with_reducible refine own_store H3.out 0 g4 _ 25 rfl rfl (.tmp 4) (.tmp 17) rfl (cellsB r) ?_ ?_ 32 R32.out HA.out (by kernel_rfl) ?_); (case _ => rfl); (case _ => rfl); intro w4 H4; replace H4 := Aside0.mk H4)
    )
  refine bodyPost_ret (own_result_ct rfl _ H4.out 0 g4 (cellsB r) rfl rfl Try.underlying25 32 HA.out (by kernel_rfl) (.int .i64 0) rfl) rfl ?_
  exact ⟨rfl, H4.out.below⟩
end Go.Proofs.Ytocphkfkdadhaaa.H

namespace Go.Proofs.Ytocphkfkdadhaaa.H
open Go.RowKit Go.Proofs.YtocphkfkdadhaaaW.PrintWords Go.Proofs.YtocphkfkdadhaaaW.PrintLast Go.Proofs.YtocphkfkdadhaaaW.PrintMore
set_option linter.unusedVariables false
set_option linter.unusedSimpArgs false
theorem leavesW_len (ws : List Int) : (leavesW ws).length = ws.length := by simp [leavesW]
theorem Hshs_leaves (ws : List Int) : Hshs (leavesW ws) := by
  intro x hx
  obtain ⟨m, _, rfl⟩ := List.mem_map.1 hx
  exact Hsh_leaf _
def memroot (D : Nat) (ws : List Int) : List Int := rootP D (leavesW ws)
theorem Hsh_memroot (D : Nat) (ws : List Int) : Hsh (memroot D ws) := Hsh_root D _ (Hshs_leaves ws)
set_option maxHeartbeats 1000000 in
set_option maxRecDepth 100000 in
theorem rroot_yes (D : Nat) (hD : D ≤ 12) (ws : List Int) (hl : ws.length = 2 ^ D) (hw : Wrd ws) (A : Option Addr) (c : Nat) (hc : ws.length ≤ c) (w : World) (hC : Kd.C kU w A ws.length ws) :
    Calls Try.prog 15 #[.slice A ws.length c] w fun e w' => e = .returned (.tuple #[.agg (cellsB (memroot D ws)), .int .i64 0]) ∧ Below w.heap.size w w' := by
  have hn4 : ws.length ≤ 4096 := by rw [hl]; exact Nat.pow_le_pow_right (by decide : 0 < 2) hD
  have H0 := Aside0.mk (Own.start w)
  have R32 : Aside0 (Arr 32 (Array.replicate 32 (.int .u8 0))) := ⟨Arr_rep _ _ rfl⟩
  have HS := Aside0.mk (fun W => size_any ws.length (by omega) W)
  rw [hl, sizeB_of hD, ← hl] at HS
  have HD := Aside0.mk (fun W => depth_any D ws.length hD hl.symm W)
  have HL := Aside0.mk (fun W h => leaves_any ws hw A c W h hc (by omega))
  have HR := Aside0.mk (fun A c hc W h => root04_ok D (by omega) (leavesW ws) (by rw [leavesW_len]; omega) (Hshs_leaves ws) A c hc W h)
  have HA := Aside0.mk (Arr_B (Hsh_memroot D ws).1)
  rw [leavesW_len] at HR
  have HM : Aside0 (rootP D (leavesW ws) = memroot D ws) := ⟨rfl⟩
  rw [HM.out] at HR
  have HC := Aside0.mk hC
  have HLL := Aside0.mk (leavesW_len ws)
  generalize leavesW ws = ls at *
  generalize memroot D ws = r at *
  clear hC hw hl HM
  generalize ws.length = n at *
  go_enter Try.func15, Try.ntmps15
  go_wp2_with (first
    | fail
    | ((with_reducible refine gate_dst (N := 2) rfl ?_); refine own_alloc H0.out rfl (N := 2) rfl (t := 25) rfl (Array.replicate 32 (.int .u8 0)) 32 (by kernel_rfl) ?_; intro g2 w1 H1 B1; replace H1 := Aside0.mk H1; replace B1 := Aside0.mk B1)
    | (go_at_call 20; refine (HS.out _).mono ?_; rintro e w2 ⟨rfl, rfl⟩)
    | (go_at_call 59; refine (HD.out _).mono ?_; rintro e w3 ⟨rfl, rfl⟩)
    | (go_at_call 60; refine (HL.out _ (Kd.C_below HC.out H1.out.below)).mono ?_; rintro e w4 ⟨v4, rfl, h4⟩; obtain ⟨A4, c4, rfl, hc4, hC4⟩ := h4.reads 0 rfl; rw [HLL.out] at *; have H4 := Aside0.mk (H1.out.call h4); clear h4; have HC4 := Aside0.mk hC4; clear hC4)
    | (go_at_call 58; refine (HR.out _ _ hc4 _ HC4.out).mono ?_; rintro e w5 ⟨rfl, hB5⟩; have H5 := Aside0.mk (H4.out.step hB5); clear hB5)
    | ((with_reducible refine gate_dst (N := 4) rfl ?_); refine own_alloc H5.out rfl (N := 4) rfl (t := 25) rfl (Array.replicate 32 (.int .u8 0)) 32 (by kernel_rfl) ?_; intro g4 w6 H6 B6; replace H6 := Aside0.mk H6; replace B6 := Aside0.mk B6)
    | ((with_reducible refine own_store H6.out 0 g4 _ 25 rfl rfl (.tmp 4) (.tmp 18) rfl (cellsB r) ?_ ?_ 32 R32.out HA.out (by kernel_rfl) ?_); (case _ => rfl); (case _ => rfl); intro w7 H7; replace H7 := Aside0.mk H7)
    | ((with_reducible refine gate_dst (N := 20) rfl ?_); refine own_load H7.out 0 g4 _ 25 rfl rfl (.tmp 4) rfl (by rfl) Try.underlying25 32 HA.out (by kernel_rfl) ?_)
    | ((with_reducible refine own_store H7.out 2 g2 _ 25 rfl rfl (.tmp 2) (.tmp 20) rfl (cellsB r) ?_ ?_ 32 R32.out HA.out (by kernel_rfl) ?_); (case _ => rfl); (case _ => rfl); intro w8 H8; replace H8 := Aside0.mk H8)
    )
  refine bodyPost_ret (own_result_ct rfl _ H8.out 2 g2 (cellsB r) rfl rfl Try.underlying25 32 HA.out (by kernel_rfl) (.int .i64 0) rfl) rfl ?_
  exact ⟨rfl, H8.out.below⟩
end Go.Proofs.Ytocphkfkdadhaaa.H

namespace Go.Proofs.Ytocphkfkdadhaaa.H
open Go.RowKit Go.Proofs.YtocphkfkdadhaaaW.PrintWords Go.Proofs.YtocphkfkdadhaaaW.PrintLast Go.Proofs.YtocphkfkdadhaaaW.PrintMore
set_option linter.unusedVariables false
set_option linter.unusedSimpArgs false
theorem R_block {α : Type} {d : Kd α} {e : Nat} {W : World} {base : Nat} {ok : Nat → Prop} {g n cap : Nat} {xs : List α} (h : d.R e W base ok (.slice (some ⟨g, 0, none⟩) n cap) xs) :
    n = xs.length ∧ ∃ cur inner, W.heap[g]? = some (.cells cur e (0, 0)) ∧ cur.size = cap * d.sz ∧ n ≤ cap ∧ cur.toList.take (n * d.sz) = inner ∧ Reps (d.M W base (fun k => ok k ∧ some k ≠ (Value.slice (some ⟨g, 0, none⟩) n cap).ownBlock)) d.sz xs inner := by
  have hn := (Kd.R_reads' h).1
  obtain ⟨hok, inner, ho, hr⟩ := h
  refine ⟨hn, ?_⟩
  rcases ho.2 with ⟨he, _⟩ | ⟨g', cap', cur, he, hb, hh, hc1, hc2, hc3, hc4⟩
  · cases he
  · injection he with h1 h2 h3
    injection h1 with h1
    injection h1 with h1
    subst h1 h3 hn
    exact ⟨cur, inner, hh, hc3, hc1, hc4, hr⟩
theorem R_there {α : Type} {d : Kd α} {e : Nat} {W : World} {base : Nat} {ok : Nat → Prop} {g n cap : Nat} {xs : List α} (h : d.R e W base ok (.slice (some ⟨g, 0, none⟩) n cap) xs) (i : Nat) (hi : i < n) : W.there g (i * d.sz) d.sz := by
  obtain ⟨hn, cur, inner, hh, hc3, hc1, hc4, hr⟩ := R_block h
  have hm : i * d.sz + d.sz ≤ cap * d.sz := by rw [← Nat.succ_mul]; exact Nat.mul_le_mul_right _ (by omega)
  intro j hj
  refine ⟨?_, blk_frozen hh _⟩
  rw [blk_cell hh, Array.getElem?_eq_getElem (by omega)]
  rfl
theorem R_putC {α : Type} {d : Kd α} {e : Nat} {W : World} {base : Nat} {ok : Nat → Prop} {g n cap : Nat} {xs : List α} (h : d.R e W base ok (.slice (some ⟨g, 0, none⟩) n cap) xs) (i : Nat) (hi : i < n) {x : α} {seg : List Value}
    (hF : Flat d) (hx : ∀ W, d.K W x seg) : d.R e (W.setCells g (i * d.sz) seg) base ok (.slice (some ⟨g, 0, none⟩) n cap) (xs.set i x) ∧ W.grownBy (W.setCells g (i * d.sz) seg) (some g) := by
  obtain ⟨s1, s2, s3, s4⟩ := setCells_same g seg (i * d.sz) W
  have hgr : W.grownBy (W.setCells g (i * d.sz) seg) (some g) := ⟨s1, s2, s3, by omega, fun k _ hk => setCells_far seg _ k (fun e => hk (by rw [e]))⟩
  refine ⟨?_, hgr⟩
  have hb := R_block h
  obtain ⟨hok, inner0, ho, _⟩ := h
  obtain ⟨hn, cur, inner, hh, hc3, hc1, hc4, hr⟩ := hb
  have hl := d.K_len (hx W)
  have hm : i * d.sz + d.sz ≤ n * d.sz := by rw [← Nat.succ_mul]; exact Nat.mul_le_mul_right _ (by omega)
  have hm2 : n * d.sz ≤ cap * d.sz := Nat.mul_le_mul_right _ hc1
  have hcl : cur.toList.length = cap * d.sz := by rw [Array.length_toList, hc3]
  obtain ⟨cur', h1, h2, h3⟩ := setCells_row (e := e) seg (i * d.sz) W cur hh (by omega)
  have hr2 := Kd.reps_set (Reps.imp_ (R' := d.M (W.setCells g (i * d.sz) seg) base (fun k => ok k ∧ some k ≠ (Value.slice (some ⟨g, 0, none⟩) n cap).ownBlock)) hr fun p cs hp => d.M_move (fun k hk => setCells_far seg _ k fun e => hk.2 (by rw [e]; rfl)) hp) (i := i) (by omega) (x := x) (seg := seg) (d.M_mono (fun k hk => hk.elim) (hF (hx _))) hl
  have hln : (xs.set i x).length = n := by rw [List.length_set, ← hn]
  refine ⟨hok, _, ?_, hr2⟩
  rw [hln]
  refine ⟨?_, .inr ⟨g, cap, cur', rfl, ?_, h1, hc1, ?_, ?_, ?_⟩⟩
  · rw [hr2.1, List.length_set, ← hn]
  · rcases ho.2 with ⟨he, _⟩ | ⟨g', cap', _, he, hb, _⟩
    · cases he
    · injection he with h1 h2 h3
      injection h1 with h1
      injection h1 with h1
      subst h1
      exact hb
  · rcases ho.2 with ⟨he, _⟩ | ⟨g', cap', _, he, hb, _, _, hmx, _⟩
    · cases he
    · injection he with h1 h2 h3
      subst h3
      exact hmx
  · rw [h2, hc3]
  · rw [h3, ← hc4]
    have e1 : (cur.toList.take (n * d.sz)).take (i * d.sz) = cur.toList.take (i * d.sz) := by rw [List.take_take, Nat.min_eq_left (by omega)]
    rw [e1]
    have e2 : (cur.toList.take (n * d.sz)).drop (i * d.sz + seg.length) = (cur.toList.drop (i * d.sz + seg.length)).take (n * d.sz - (i * d.sz + seg.length)) := by rw [List.drop_take]
    rw [e2, List.take_append, List.take_append]
    rw [List.take_of_length_le (l := cur.toList.take (i * d.sz)) (by rw [List.length_take]; omega)]
    rw [List.take_of_length_le (l := seg) (by rw [List.length_take]; omega)]
    congr 2
    simp only [List.length_append, List.length_take]
    omega
namespace Own
variable {B : Nat} {w0 W : World} {L : List Item} {α : Type} {d : Kd α}
theorem putC (h : Own B w0 W L) (k : Nat) {g n cap e : Nat} {xs : List α} (hk : L[k]? = some (.row d e (.slice (some ⟨g, 0, none⟩) n cap) xs)) (i : Nat) (hi : i < n) {x : α} {seg : List Value} (hF : Flat d) (hx : ∀ W, d.K W x seg) :
    Own B w0 (W.setCells g (i * d.sz) seg) (L.set k (.row d e (.slice (some ⟨g, 0, none⟩) n cap) (xs.set i x))) := by
  obtain ⟨S, _, hR, hch⟩ := h.focus k hk
  have hR : Kd.R d e W 0 S _ xs := hR
  obtain ⟨h1, h2⟩ := R_putC hR i hi hF hx
  exact hch _ _ (some g) h2 (fun g' he => by injection he with he; subst he; exact hR.1 g rfl) (Kd.R_mono h1 fun i hi => .inl hi)
theorem there_row (h : Own B w0 W L) (k : Nat) {g n cap e : Nat} {xs : List α} (hk : L[k]? = some (.row d e (.slice (some ⟨g, 0, none⟩) n cap) xs)) (i : Nat) (hi : i < n) : W.there g (i * d.sz) d.sz := by
  obtain ⟨S, _, hR⟩ := h.look k hk
  exact R_there (d := d) hR i hi
theorem cells_row (h : Own B w0 W L) (k : Nat) {g n cap e : Nat} {xs : List (List Int)} (hk : L[k]? = some (.row kH e (.slice (some ⟨g, 0, none⟩) n cap) xs)) (i : Nat) (hi : i < n) :
    (xs.getD i []).length = 32 ∧ ∀ (j : Nat) (u : Value), ((xs.getD i []).map (Value.int .u8))[j]? = some u → W.cell? ((⟨g, i * 32, none⟩ : Addr).add j) = some u := by
  obtain ⟨S, _, hR⟩ := h.look k hk
  have hR : Kd.R kH e W 0 S _ xs := hR
  obtain ⟨hn, _, h3⟩ := Kd.R_reads' hR
  obtain ⟨_, _, hc⟩ := h3
  obtain ⟨ad, he, hc⟩ := hc (by omega)
  injection he with he
  subst he
  have hl : i < xs.length := by omega
  obtain ⟨c, h4, h5, h6⟩ := hc i _ (List.getElem?_eq_getElem hl)
  have e1 : xs.getD i [] = xs[i] := by rw [List.getD_eq_getElem?_getD, List.getElem?_eq_getElem hl]; rfl
  rw [e1]
  refine ⟨h5.1, fun j u hu => ?_⟩
  have := h6 j u (by rw [h5.2]; exact hu)
  rw [add_at] at this ⊢
  rw [← this]
  congr 2
  show i * 32 + j = 0 + (i * 32 + j)
  omega
theorem range_row (h : Own B w0 W L) (k : Nat) {g n cap e : Nat} {xs : List (List Int)} (hk : L[k]? = some (.row kH e (.slice (some ⟨g, 0, none⟩) n cap) xs)) (i : Nat) (hi : i < n) {x : List Int} (hx : xs.getD i [] = x) {cs : List Value} (hc : cs = x.map (Value.int .u8)) : W.rangeAt g (i * 32) cs := by
  intro j v hv
  have := (h.cells_row k hk i hi).2 j v (by rw [hx, ← hc]; exact hv)
  rwa [add_at] at this
end Own
section
variable {P : Program} {ops : Array Oper} {rest : List Oper} {o : Oper} {a : Act} {Q : Exit → Act → World → Prop} {B : Nat} {w0 W : World} {L : List Item}
end
set_option maxHeartbeats 1000000 in
set_option maxRecDepth 100000 in
theorem cloneU_any (ws : List Int) (hp : 0 < ws.length) (A : Option Addr) (c : Nat) (w : World) (hC : Kd.C kU w A ws.length ws) (hc : ws.length ≤ c) (hl : ws.length ≤ 1000000) :
    Calls Try.prog 69 #[.slice A ws.length c] w fun e w' => ∃ v, e = .returned v ∧ Own w.heap.size w w' [.row kU 23 v ws] := by
  obtain ⟨ad, rfl, _⟩ := hC.2.2 hp
  have HC := Aside0.mk hC
  have H0 := Aside0.mk (Own.start w)
  have HL := Aside0.mk hl
  have hq := fun W => Lib.run_eql_slice_nil (P := Try.prog) W 22 23 (some ad) ws.length c 0 0 Try.underlying22
  simp only [Option.isNone_some] at hq
  clear hC hl hp
  obtain ⟨n, hn⟩ : ∃ n, n = ws.length := ⟨_, rfl⟩
  rw [← hn] at HC hc HL hq ⊢
  clear hn
  go_enter Try.func69, Try.ntmps69
  go_wp2_with (first
    | fail
    | ((with_reducible refine gate_dst (N := 5) rfl ?_); refine own_lit kU Flat_U H0.out 23 rfl (N := 5) rfl (xs := ([] : List Int)) (inner := (([] : List Int)).map (Value.int .u64)) ?hr5 (Kd.reps_scalar _) (by simp) ?_; (case hr5 => first | (go_simp; done) | (go_simp; rfl)); intro A1 c1 w1 H1 B1; replace H1 := Aside0.mk H1; replace B1 := Aside0.mk B1)
    | ((with_reducible refine gate_dst (N := 7) rfl ?_); (with_reducible refine gate_builtin (b := .append) (xs := #[.tmp 5, .tmp 6]) rfl ?_); refine own_append_row kU Flat_U H1.out 0 rfl rfl (.tmp 5) (.tmp 6) 22 (.int .u64 0) 8 rfl Try.underlying22 infoU rfl (by decide) (by decide) ws _ _ _ rfl rfl (Kd.C_below HC.out B1.out) ?_ ?_; (case _ => have := HL.out; simp only [List.length_nil]; omega); intro v2 w2 H2; replace H2 := Aside0.mk H2)
    )
  go_ret
  exact ⟨_, rfl, by have h := H2.out; rw [List.nil_append] at h; exact h⟩
end Go.Proofs.Ytocphkfkdadhaaa.H

namespace Go.Proofs.Ytocphkfkdadhaaa.H
open Go.RowKit Go.Proofs.YtocphkfkdadhaaaW.PrintWords Go.Proofs.YtocphkfkdadhaaaW.PrintLast Go.Proofs.YtocphkfkdadhaaaW.PrintMore
set_option linter.unusedVariables false
set_option linter.unusedSimpArgs false
abbrev at0 (ss : List (List Int)) (i : Nat) : List Int := ss.getD i []
theorem at0_set (ss : List (List Int)) (i k : Nat) (x : List Int) (hi : i < ss.length) : at0 (ss.set i x) k = if i = k then x else at0 ss k := by
  unfold at0
  rw [List.getD_eq_getElem?_getD, List.getElem?_set, List.getD_eq_getElem?_getD]
  split
  · rfl
  · rfl
structure Tree (n : Nat) (lf : List (List Int)) (ss : List (List Int)) (out : Nat → Prop) : Prop where
  len : ss.length = 2 * n
  lfn : lf.length = n
  leaf : ∀ i, i < n → at0 ss (n + i) = at0 lf i
  node : ∀ i, 1 ≤ i → i < n → ¬ out i → at0 ss i = pairI (at0 ss (2 * i)) (at0 ss (2 * i + 1))
theorem Tree.mono {n : Nat} {lf ss : List (List Int)} {o o' : Nat → Prop} (h : Tree n lf ss o) (hm : ∀ i, 1 ≤ i → i < n → o i → o' i) : Tree n lf ss o' :=
  ⟨h.len, h.lfn, h.leaf, fun i h1 h2 h3 => h.node i h1 h2 fun h4 => h3 (hm i h1 h2 h4)⟩
theorem Tree.sum {n : Nat} {lf ss : List (List Int)} {o : Nat → Prop} (h : Tree n lf ss o) (i : Nat) (h1 : 1 ≤ i) (h2 : i < n) :
    Tree n lf (ss.set i (pairI (at0 ss (2 * i)) (at0 ss (2 * i + 1)))) (fun k => (o k ∧ k ≠ i) ∨ k = i / 2) := by
  have hl := h.len
  refine ⟨by rw [List.length_set, hl], h.lfn, fun k hk => ?_, fun k k1 k2 k3 => ?_⟩
  · rw [at0_set _ _ _ _ (by omega), if_neg (by omega)]; exact h.leaf k hk
  · rw [at0_set _ _ _ _ (by omega), at0_set _ _ _ _ (by omega), at0_set _ _ _ _ (by omega)]
    have n1 : ¬ i = 2 * k := fun e => k3 (.inr (by omega))
    have n2 : ¬ i = 2 * k + 1 := fun e => k3 (.inr (by omega))
    rw [if_neg n1, if_neg n2]
    split
    · next e => subst e; rfl
    · next e => exact h.node k k1 k2 fun ho => k3 (.inl ⟨ho, fun h => e h.symm⟩)
theorem Tree.put {n : Nat} {lf ss : List (List Int)} {o : Nat → Prop} (h : Tree n lf ss o) (i : Nat) (hi : i < n) (x : List Int) :
    Tree n (lf.set i x) (ss.set (n + i) x) (fun k => o k ∨ k = (n + i) / 2) := by
  have hl := h.len
  have hf := h.lfn
  refine ⟨by rw [List.length_set, hl], by rw [List.length_set, hf], fun k hk => ?_, fun k k1 k2 k3 => ?_⟩
  · rw [at0_set _ _ _ _ (by omega), at0_set _ _ _ _ (by omega)]
    by_cases e : i = k
    · subst e; rw [if_pos rfl, if_pos rfl]
    · rw [if_neg (by omega), if_neg e]; exact h.leaf k hk
  · rw [at0_set _ _ _ _ (by omega), at0_set _ _ _ _ (by omega), at0_set _ _ _ _ (by omega)]
    have n1 : ¬ n + i = 2 * k := fun e => k3 (.inr (by omega))
    have n2 : ¬ n + i = 2 * k + 1 := fun e => k3 (.inr (by omega))
    rw [if_neg n1, if_neg n2, if_neg (by omega)]
    exact h.node k k1 k2 fun ho => k3 (.inl ho)
theorem Tree.sub {D : Nat} {lf ss : List (List Int)} (h : Tree (2 ^ D) lf ss (fun _ => False)) : ∀ k, k ≤ D → ∀ j, j < 2 ^ (D - k) →
    at0 ss (2 ^ (D - k) + j) = rootP k ((lf.drop (j * 2 ^ k)).take (2 ^ k)) := by
  intro k
  induction k with
  | zero =>
    intro _ j hj
    rw [Nat.sub_zero] at hj ⊢
    rw [h.leaf j hj, Nat.pow_zero, Nat.mul_one]
    have hjl : j < lf.length := by rw [h.lfn]; exact hj
    unfold rootP at0
    rw [List.getD_eq_getElem?_getD, List.getD_eq_getElem?_getD, List.getElem?_take, List.getElem?_drop, Nat.add_zero, if_pos (by decide), List.getElem?_eq_getElem hjl]
    rfl
  | succ k ih =>
    intro hk j hj
    have e2 : 2 ^ (D - k) = 2 * 2 ^ (D - (k + 1)) := by rw [show D - k = (D - (k + 1)) + 1 by omega, Nat.pow_succ, Nat.mul_comm]
    have e3 : 2 ^ (D - (k + 1)) * 2 ^ (k + 1) = 2 ^ D := by rw [← Nat.pow_add, Nat.sub_add_cancel hk]
    have e4 : 2 ^ (k + 1) = 2 ^ k + 2 ^ k := by rw [Nat.pow_succ]; omega
    have hp : 0 < 2 ^ (D - (k + 1)) := Nat.two_pow_pos _
    have hq : 0 < 2 ^ k := Nat.two_pow_pos _
    have hle : 2 ^ (D - (k + 1)) + j < 2 ^ D := by
      have : 2 ^ (D - k) ≤ 2 ^ D := Nat.pow_le_pow_right (by decide) (Nat.sub_le _ _)
      omega
    rw [h.node _ (by omega) hle (fun x => x)]
    have i1 := ih (by omega) (2 * j) (by omega)
    have i2 := ih (by omega) (2 * j + 1) (by omega)
    rw [show 2 * (2 ^ (D - (k + 1)) + j) = 2 ^ (D - k) + 2 * j by omega, i1, show 2 ^ (D - k) + 2 * j + 1 = 2 ^ (D - k) + (2 * j + 1) by omega, i2]
    have hjm : (j + 1) * 2 ^ (k + 1) ≤ 2 ^ D := by rw [← e3]; exact Nat.mul_le_mul_right _ (by omega)
    have hjm' : j * 2 ^ (k + 1) + 2 ^ (k + 1) ≤ 2 ^ D := by rw [← Nat.succ_mul]; exact hjm
    have hlen : ((lf.drop (j * 2 ^ (k + 1))).take (2 ^ (k + 1))).length = 2 ^ (k + 1) := by
      rw [List.length_take, List.length_drop, h.lfn]; omega
    conv => rhs; unfold rootP
    rw [hlen, if_neg (by omega), if_neg (by omega), List.take_take, List.drop_take, List.drop_drop, Nat.min_eq_left (by omega)]
    have a1 : 2 * j * 2 ^ k = j * 2 ^ (k + 1) := by rw [Nat.pow_succ, Nat.mul_comm 2 j, Nat.mul_assoc, Nat.mul_comm 2 (2 ^ k)]
    have a2 : (2 * j + 1) * 2 ^ k = j * 2 ^ (k + 1) + 2 ^ k := by rw [Nat.add_mul, a1, Nat.one_mul]
    rw [a1, a2, show 2 ^ (k + 1) - 2 ^ k = 2 ^ k by omega]
theorem Tree.root {D : Nat} {lf ss : List (List Int)} (h : Tree (2 ^ D) lf ss (fun _ => False)) : at0 ss 1 = rootP D lf := by
  have := h.sub D (Nat.le_refl _) 0 (by rw [Nat.sub_self]; decide)
  rw [Nat.sub_self, Nat.pow_zero, Nat.add_zero, Nat.zero_mul, List.drop_zero, List.take_of_length_le (by rw [h.lfn]; exact Nat.le_refl _)] at this
  exact this
def upP (ss : List (List Int)) : Nat → Nat → List (List Int)
  | 0, _ => []
  | k + 1, i => at0 ss (i ^^^ 1) :: upP ss k (i / 2)
def sideP (lf : List (List Int)) (i : Nat) (k : Nat) : List Int := rootP k ((lf.drop (((i / 2 ^ k) ^^^ 1) * 2 ^ k)).take (2 ^ k))
def proofP (D : Nat) (lf : List (List Int)) (i : Nat) : List (List Int) := (List.range D).map (sideP lf i)
theorem xor_one (i : Nat) : i ^^^ 1 = if i % 2 = 0 then i + 1 else i - 1 := by
  have h := Nat.xor_div_two (a := i) (b := 1)
  have hm := Nat.xor_mod_two_eq_one (a := i) (b := 1)
  have e : (1 : Nat) / 2 = 0 := rfl
  rw [e, Nat.xor_zero] at h
  split
  · next e =>
    have : (i ^^^ 1) % 2 = 1 := hm.2 (by omega)
    omega
  · next e =>
    have : ¬ (i ^^^ 1) % 2 = 1 := fun x => (by have := hm.1 x; omega)
    omega
theorem xor_lt {i n : Nat} (hn : n % 2 = 0) (h : i < n) : i ^^^ 1 < n := by
  rw [xor_one]
  split <;> omega
theorem upP_eq (ss : List (List Int)) : ∀ (k i : Nat), upP ss k i = (List.range k).map fun s => at0 ss ((i / 2 ^ s) ^^^ 1)
  | 0, _ => rfl
  | k + 1, i => by
    rw [List.range_succ_eq_map, List.map_cons, List.map_map, upP, upP_eq ss k (i / 2), Nat.pow_zero, Nat.div_one]
    congr 1
    apply List.map_congr_left
    intro s _
    simp only [Function.comp]
    rw [Nat.pow_succ, Nat.div_div_eq_div_mul, Nat.mul_comm 2]
theorem Tree.path {D : Nat} {lf ss : List (List Int)} (h : Tree (2 ^ D) lf ss (fun _ => False)) (i : Nat) (hi : i < 2 ^ D) : upP ss D (2 ^ D + i) = proofP D lf i := by
  rw [upP_eq, proofP]
  apply List.map_congr_left
  intro k hk
  have hk := List.mem_range.1 hk
  have e1 : (2 ^ D + i) / 2 ^ k = 2 ^ (D - k) + i / 2 ^ k := by
    have : 2 ^ D = 2 ^ (D - k) * 2 ^ k := by rw [← Nat.pow_add, Nat.sub_add_cancel (by omega)]
    rw [this, Nat.mul_comm, Nat.mul_add_div (Nat.two_pow_pos _)]
  have hj : i / 2 ^ k < 2 ^ (D - k) := by
    rw [Nat.div_lt_iff_lt_mul (Nat.two_pow_pos _), ← Nat.pow_add, Nat.sub_add_cancel (by omega)]; exact hi
  have he : 2 ^ (D - k) % 2 = 0 := by rw [show D - k = (D - k - 1) + 1 by omega, Nat.pow_succ]; omega
  have e2 : (2 ^ (D - k) + i / 2 ^ k) ^^^ 1 = 2 ^ (D - k) + ((i / 2 ^ k) ^^^ 1) := by
    rw [xor_one, xor_one]
    generalize i / 2 ^ k = q at *
    generalize 2 ^ (D - k) = r at *
    split <;> split <;> omega
  have hx := xor_lt he hj
  rw [e1, e2, h.sub k (by omega) _ hx]
  rfl
theorem Hshs_proof (D : Nat) (lf : List (List Int)) (i : Nat) (h : Hshs lf) : Hshs (proofP D lf i) := by
  intro x hx
  obtain ⟨k, _, rfl⟩ := List.mem_map.1 hx
  exact Hsh_root k _ (Hshs_take (Hshs_drop h _) _)
end Go.Proofs.Ytocphkfkdadhaaa.H

