import Derived.Test.YtocphkfkdadhaaaZPk2
import Derived.Test.YtocphkfkdadhaaaZPk3
import Derived.Test.YtocphkfkdadhaaaZPk7
import Derived.Lib.Strings
import Derived.Lib.Slices
import Derived.Lib.Walk
import Derived.Lib.Bytes
import Derived.Test.YtocphkfkdadhaaaZPk4
import Derived.Test.YtocphkfkdadhaaaZPk1
namespace Go.Proofs.Ytocphkfkdadhaaa.H
open Go.RowKit Go.Proofs.YtocphkfkdadhaaaW.PrintWords Go.Proofs.YtocphkfkdadhaaaW.PrintLast Go.Proofs.YtocphkfkdadhaaaW.PrintMore
set_option linter.unusedVariables false
set_option linter.unusedSimpArgs false
theorem arr4_ {v : Value} {k : IntKind} {n : Int} {A : Option Addr} {c m : Nat} {x : Int} (h : v.oneCell' = true) : Arr 4 #[v, .int .i64 x, .slice A m c, .int k n] := ⟨rfl, by
 simp only [Array.all_eq_true_iff_forall_mem]
 intro y hy
 simp at hy
 rcases hy with rfl | rfl | rfl | rfl
 ·exact h
 ·rfl
 ·rfl
 ·rfl⟩
theorem reps_one {α : Type} {d : Kd α} {W : World} {S : Nat → Prop} {x : α} {cs : List Value} (h : d.M W 0 S x cs) : Reps (d.M W 0 S) d.sz [x] cs := by
 have hl := d.K_len (d.K_of_M h)
 refine ⟨by simp [hl], fun j p hj => ?_⟩
 cases j with
 | zero =>
  obtain rfl : x = p := by simpa using hj
  rw [Nat.zero_mul, List.drop_zero, List.take_of_length_le (by omega)]
  exact h
 | succ j => simp at hj
def anc1 : Box := ⟨[⟨3, [7]⟩], 0, [], 0⟩
theorem anc_enq : enqI zeroB 3 [7] = (anc1, 0) := by
 have h : depB [7] = false := rfl
 have h2 : sinceI zeroB.q zeroB.tk zeroB.l 3 = true := by decide
 unfold enqI
 rw [h, h2]
 rfl
theorem anc_t10 : tickI anc1 10 = (anc1, 0) := by
 have h : mayI anc1.q anc1.tk anc1.l = true := by decide
 unfold tickI
 rw [h]
 rfl
theorem anc_t11 : tickI anc1 11 = (⟨[⟨3, [7]⟩], 1, [[7]], 0⟩, 0) := by
 have h : mayI anc1.q anc1.tk anc1.l = true := by decide
 unfold tickI
 rw [h]
 rfl
set_option maxHeartbeats 4000000 in
set_option maxRecDepth 100000 in
theorem anchored20_any (w : World) : Calls Try.prog 33 #[] w fun e w' => e = .returned (.bool true) ∧ Below w.heap.size w w' := by
 have H0 := Aside0.mk (Own.start w)
 have HE : Aside0 (∀ (W : World) (A : Option Addr) (c : Nat), 1 ≤ c → Kd.C kB W A 1 [7] → Calls Try.prog 34 #[.agg #[.slice none 0 0, .int .i64 0, .slice none 0 0, .int .u64 0], .int .i64 3, .slice A 1 c] W fun e w' => ∃ A1 c1 A2 c2, e = .returned (.tuple #[.agg #[.slice A1 1 c1, .int .i64 0, .slice A2 0 c2, .int .u64 0], .int .i64 0]) ∧ 1 ≤ c1 ∧ Own W.heap.size W w' [.row kQ 78 (.slice A1 1 c1) anc1.q, .row kL 74 (.slice A2 0 c2) []]) := ⟨fun W A c hc hC => by
  have h := enqueue_any zeroB 3 [7] none none A 0 0 c W (Kd.C_nil _ _) (Nat.zero_le _) (Kd.C_nil _ _) (Nat.zero_le _) hC hc (by decide)
  rw [anc_enq] at h
  refine h.mono ?_
  rintro e w' ⟨v1, v2, rfl, hO⟩
  obtain ⟨A1, c1, rfl, h1, _⟩ := hO.reads 0 rfl
  obtain ⟨A2, c2, rfl, h2, _⟩ := hO.reads 1 rfl
  exact ⟨A1, c1, A2, c2, rfl, h1, hO⟩⟩
 have HT1 : Aside0 (∀ (W : World) (A1 A2 : Option Addr) (c1 c2 : Nat), 1 ≤ c1 → Kd.C kQ W A1 1 anc1.q → Kd.C kL W A2 0 ([] : List (List Int)) → Calls Try.prog 38 #[.agg #[.slice A1 1 c1, .int .i64 0, .slice A2 0 c2, .int .u64 0], .int .i64 10] W fun e w' => ∃ v1 A3 c3, e = .returned (.tuple #[.agg #[v1, .int .i64 0, .slice A3 0 c3, .int .u64 0], .int .i64 0]) ∧ v1.oneCell' = true ∧ Below W.heap.size W w') := ⟨fun W A1 A2 c1 c2 hc h1 h2 => by
  have h := tick_any anc1 10 A1 A2 c1 c2 W h1 hc h2 (Nat.zero_le _) (by decide) (by decide)
  rw [anc_t10] at h
  refine h.mono ?_
  rintro e w' ⟨v1, v2, rfl, hO⟩
  obtain ⟨A1, c1, rfl, h1, _⟩ := hO.reads 0 rfl
  obtain ⟨A2, c2, rfl, h2, _⟩ := hO.reads 1 rfl
  exact ⟨_, A2, c2, rfl, rfl, hO.below⟩⟩
 have HT2 : Aside0 (∀ (W : World) (A1 A2 : Option Addr) (c1 c2 : Nat), 1 ≤ c1 → Kd.C kQ W A1 1 anc1.q → Kd.C kL W A2 0 ([] : List (List Int)) → Calls Try.prog 38 #[.agg #[.slice A1 1 c1, .int .i64 0, .slice A2 0 c2, .int .u64 0], .int .i64 11] W fun e w' => ∃ v1 A3 c3, e = .returned (.tuple #[.agg #[v1, .int .i64 1, .slice A3 1 c3, .int .u64 0], .int .i64 0]) ∧ v1.oneCell' = true ∧ 1 ≤ c3 ∧ Own W.heap.size W w' [.row kL 74 (.slice A3 1 c3) [[7]]]) := ⟨fun W A1 A2 c1 c2 hc h1 h2 => by
  have h := tick_any anc1 11 A1 A2 c1 c2 W h1 hc h2 (Nat.zero_le _) (by decide) (by decide)
  rw [anc_t11] at h
  refine h.mono ?_
  rintro e w' ⟨v1, v2, rfl, hO⟩
  obtain ⟨A1, c1, rfl, h1, _⟩ := hO.reads 0 rfl
  obtain ⟨A2, c2, rfl, h2, _⟩ := hO.reads 1 rfl
  exact ⟨_, A2, c2, rfl, rfl, h2, hO.erase 0⟩⟩
 have HLS : Aside0 (∀ (W : World) (A1 A2 : Option Addr) (c1 c2 : Nat), 1 ≤ c1 → 1 ≤ c2 → Kd.C kL W A1 1 [[7]] → Kd.C kL W A2 1 [[7]] → Calls Try.prog 39 #[.slice A1 1 c1, .slice A2 1 c2] W fun e w' => e = .returned (.bool true) ∧ Below W.heap.size W w') := ⟨fun W A1 A2 c1 c2 h1 h2 h3 h4 => (PRF.proctorref20_Lists.calls 5 A1 c1 [[7]] A2 c2 [[7]] true W h3 h1 h4 h2 (by decide +kernel)).mono fun e w' ⟨he, hd⟩ => ⟨he, hd.below⟩⟩
 have HZI : Aside0 (Arr 4 #[.slice none 0 0, .int .i64 0, .slice none 0 0, .int .u64 0]) := ⟨rfl, by simp [Value.oneCell']⟩
 go_enter Try.func33, Try.ntmps33
 go_upto_region 3 with (first
  | fail
  | ((with_reducible refine gate_dst (N := 9) rfl ?_); refine own_lit kB Flat_B H0.out 5 rfl (N := 9) rfl (xs := [7]) (inner := ([7]).map (Value.int .u8)) ?hr9 (Kd.reps_scalar _) (by simp) ?_; (case hr9 => first | (go_simp; done) | (go_simp; rfl)); intro A9 c9 w1 H1 B1; replace H1 := Aside0.mk H1; replace B1 := Aside0.mk B1)
  | (go_at_call 34; ( obtain ⟨A9', c9', he9, hc9, hC9⟩ := H1.out.reads 0 rfl; injection he9 with he1 he2 he3; subst he1 he3; refine (HE.out _ _ _ hc9 hC9).mono ?_; rintro e w3 ⟨A1, c1, A2, c2, rfl, hc1, hO3⟩; have H3 := Aside0.mk (H1.out.call hO3); have HAy : Aside0 (Arr 4 #[.slice A1 1 c1, .int .i64 0, .slice A2 0 c2, .int .u64 0]) := ⟨rfl, by simp [Value.oneCell']⟩; clear hO3))
  | ((with_reducible refine Gd 1 ?_); ( refine OA H3 73 #[.slice none 0 0, .int .i64 0, .slice none 0 0, .int .u64 0] 4 ?_; intro g1 w4 H4 B4))
  | ((with_reducible refine Gs 73 1 ?_); ( refine OS 1 11 H4 0 g1 73 #[.slice A1 1 c1, .int .i64 0, .slice A2 0 c2, .int .u64 0] 4 HZI HAy ?_; intro w5 H5))
  | ((with_reducible refine Gd 14 ?_); ( refine OV 1 H5 0 g1 73 rfl Try.underlying73 (by kernel_rfl) ?_))
  | (go_at_call 38; (refine (HT1.out _ A1 A2 c1 c2 hc1 (H5.out.C_of 1 rfl) (H5.out.C_of 2 rfl)).mono ?_); ( rintro e w6 ⟨v6, A6, c6, rfl, hv6, hB6⟩; have H6 := Aside0.mk (H5.out.step hB6); have HAz : Aside0 (Arr 4 #[v6, .int .i64 0, .slice A6 0 c6, .int .u64 0]) := ⟨arr4_ hv6⟩; clear hB6))
  | ((with_reducible refine Gd 3 ?_); ( refine OA H6 73 #[.slice none 0 0, .int .i64 0, .slice none 0 0, .int .u64 0] 4 ?_; intro g3 w7 H7 B7))
  | ((with_reducible refine Gs 73 3 ?_); ( refine OS 3 16 H7 0 g3 73 #[v6, .int .i64 0, .slice A6 0 c6, .int .u64 0] 4 HZI HAz ?_; intro w8 H8))
  )
 clear H0 H1 H3 H4 H6 H7 HT1 HE B1 B4 B7
 go_wp2_with (first
  | fail
  | ((with_reducible refine Gd 19 ?_); ( refine OV 1 H8 1 g1 73 rfl Try.underlying73 (by kernel_rfl) ?_))
  | (go_at_call 38; (refine (HT2.out _ A1 A2 c1 c2 hc1 (H8.out.C_of 2 rfl) (H8.out.C_of 3 rfl)).mono ?_); ( rintro e w9 ⟨v9, A9, c9', rfl, hv9, hc9', hO9⟩; have H9 := Aside0.mk (H8.out.call hO9); have HAw : Aside0 (Arr 4 #[v9, .int .i64 1, .slice A9 1 c9', .int .u64 0]) := ⟨arr4_ hv9⟩; clear hO9))
  | ((with_reducible refine Gd 5 ?_); ( refine OA H9 73 #[.slice none 0 0, .int .i64 0, .slice none 0 0, .int .u64 0] 4 ?_; intro g5 w10 H10 B10))
  | ((with_reducible refine Gs 73 5 ?_); ( refine OS 5 21 H10 0 g5 73 #[v9, .int .i64 1, .slice A9 1 c9', .int .u64 0] 4 HZI HAw ?_; intro w11 H11))
  | ((with_reducible refine Gd 35 ?_); ( refine GD 34 71 H11 2 g3 2 (.slice A6 0 c6) Try.underlying71 ?_))
  | ((with_reducible refine Gd 41 ?_); ( refine GD 40 71 H11 0 g5 2 (.slice A9 1 c9') Try.underlying71 ?_))
  | ((with_reducible refine gate_dst (N := 42) rfl ?_); (refine gate_guard (by rfl) ?_); ( refine own_lit kB Flat_B H11.out 5 rfl (N := 42) rfl (xs := [7]) (inner := ([7]).map (Value.int .u8)) ?hr42 (Kd.reps_scalar _) (by simp) ?_; (case hr42 => first | (go_simp; done) | (go_simp; rfl)); intro A42 c42 w12 H12 B12; replace H12 := Aside0.mk H12))
  | ((with_reducible refine gate_dst (N := 43) rfl ?_); (refine gate_guard (by rfl) ?_); ( refine own_litM kL H12.out 74 rfl (N := 43) rfl (xs := [[7]]) (inner := [.slice A42 1 c42]) ?hr43 (fun S hS => reps_one (d := kL) ⟨_, rfl, hS⟩) (by simp) ?_; (case hr43 => first | (go_simp; done) | (go_simp; rfl)); intro A43 c43 w13 hc43 H13 B13; replace H13 := Aside0.mk H13))
  | (go_at_call 39; ( refine (HLS.out _ _ _ _ _ hc9' hc43 (H13.out.C_of 2 rfl) (H13.out.C_of 0 rfl)).mono ?_; rintro e w14 ⟨rfl, hB14⟩; have H14 := Aside0.mk (H13.out.step hB14); clear hB14))
  | ((with_reducible refine Gd 48 ?_); ( refine GD 47 3 H14 1 g5 1 (.int .i64 1) Try.underlying3 ?_))
  )
 go_ret
 exact ⟨rfl, H14.out.below⟩
end Go.Proofs.Ytocphkfkdadhaaa.H

namespace Go.Proofs.Ytocphkfkdadhaaa.H
open Go.RowKit Go.Proofs.YtocphkfkdadhaaaW.PrintWords Go.Proofs.YtocphkfkdadhaaaW.PrintLast Go.Proofs.YtocphkfkdadhaaaW.PrintMore
set_option linter.unusedVariables false
set_option linter.unusedSimpArgs false
def eqL {α : Type} (f : α → α → Bool) : List α → List α → Bool
 | [], [] => true
 | a :: r, b :: s => f a b && eqL f r s
 | _, _ => false
theorem eqL_len {α : Type} (f : α → α → Bool) : ∀ (a b : List α), a.length ≠ b.length → eqL f a b = false
 | [], [], h => absurd rfl h
 | [], _ :: _, _ => rfl
 | _ :: _, [], _ => rfl
 | _ :: a, _ :: b, h => by rw [eqL, eqL_len f a b (fun e => h (by simp [e])), Bool.and_false]
theorem eqL_refl {α : Type} {f : α → α → Bool} (hf : ∀ x, f x x = true) : ∀ l : List α, eqL f l l = true
 | [] => rfl
 | x :: l => by rw [eqL, hf, eqL_refl hf l]; rfl
theorem eqL_drop {α : Type} (f : α → α → Bool) (a b : List α) (i : Nat) (ha : i < a.length) (hb : i < b.length) : eqL f (a.drop i) (b.drop i) = (f a[i] b[i] && eqL f (a.drop (i + 1)) (b.drop (i + 1))) := by
 rw [List.drop_eq_getElem_cons ha, List.drop_eq_getElem_cons hb]; rfl
def eqB (a b : List Int) : Bool := a == b
def BytB (x : Box) : Prop := (∀ d ∈ x.q, ∀ z ∈ d.f1, 0 ≤ z ∧ z ≤ 255) ∧ (∀ m ∈ x.l, ∀ z ∈ m, 0 ≤ z ∧ z ≤ 255)
end Go.Proofs.Ytocphkfkdadhaaa.H

namespace Go.Proofs.Ytocphkfkdadhaaa.H
open Go.RowKit Go.Proofs.YtocphkfkdadhaaaW.PrintWords Go.Proofs.YtocphkfkdadhaaaW.PrintLast Go.Proofs.YtocphkfkdadhaaaW.PrintMore
set_option linter.unusedVariables false
set_option linter.unusedSimpArgs false
section
variable {P : Program} {ops : Array Oper} {rest : List Oper} {o : Oper} {a : Act} {Q : Exit → Act → World → Prop} {Kc : Act → World → Prop} {B : Nat} {w0 W : World} {L : List Item} {α : Type}
end
theorem short_l0 (l : List (List Int)) (hl : l.length ≤ 9223372036854775807) : ∀ (d i : Nat), i + d = l.length → PRF.proctorref20_short.l0 (d + 1) l (i : Int) = some (!longP (l.drop i))
 | 0, i, h => by
  simp only [PRF.proctorref20_short.l0]
  rw [if_neg (by omega), List.drop_of_length_le (by omega)]
  rfl
 | d + 1, i, h => by
  rw [PRF.proctorref20_short.l0]
  have hi : i < l.length := by omega
  have hrd : PRF.rd_L2 l (i : Int) = l[i] := by simp [PRF.rd_L2, List.getD_eq_getElem?_getD, hi]
  rw [if_pos (by omega), if_pos (by omega), hrd, List.drop_eq_getElem_cons hi]
  by_cases hb : ((l[i].length : Nat) : Int) > 65536
  ·rw [if_pos hb]
   have : decide (l[i].length ≤ 65536) = false := decide_eq_false (by omega)
   unfold longP
   rw [List.any_cons, this]
   rfl
  ·rw [if_neg hb, K.wrap64_in _ (by omega), show ((i : Int) + 1) = ((i + 1 : Nat) : Int) by omega, short_l0 l hl d (i + 1) (by omega)]
   have : decide (l[i].length ≤ 65536) = true := decide_eq_true (by omega)
   unfold longP
   rw [List.any_cons, this]
   rfl
theorem short_f (l : List (List Int)) (hl : l.length ≤ 9223372036854775807) : PRF.proctorref20_short.f (l.length + 1) l = some (!longP l) := short_l0 l hl l.length 0 (by omega)
end Go.Proofs.Ytocphkfkdadhaaa.H

namespace Go.Proofs.Ytocphkfkdadhaaa.H
open Go.RowKit Go.Proofs.YtocphkfkdadhaaaW.PrintWords Go.Proofs.YtocphkfkdadhaaaW.PrintLast Go.Proofs.YtocphkfkdadhaaaW.PrintMore
set_option linter.unusedVariables false
set_option linter.unusedSimpArgs false
theorem rnumP_nat (y : SI) (hb : K.Byt y.f1) : ((K.rnumP y).1.toNat : Int) = (K.rnumP y).1 ∧ (K.rnumP y).1.toNat ≤ 18446744073709551615 := by
 unfold K.rnumP
 split
 ·exact ⟨rfl, by decide⟩
 ·rename_i h
  have := K.num_small y.f1 hb (by omega)
  exact ⟨by simp, by simpa using this⟩
end Go.Proofs.Ytocphkfkdadhaaa.H

namespace Go.Proofs.Ytocphkfkdadhaaa.H
open Go.RowKit Go.Shelf Go.Proofs.YtocphkfkdadhaaaW.PrintWords Go.Proofs.YtocphkfkdadhaaaW.PrintLast Go.Proofs.YtocphkfkdadhaaaW.PrintMore
attribute [local go_sem] Oper.semAt_some
set_option linter.unusedVariables false
set_option linter.unusedSimpArgs false
theorem batchP_ok (b : List Int) (hb : K.Byt b) : 0 ≤ (batchP b).1.t ∧ (∀ m ∈ (batchP b).1.ms, K.Byt m) ∧ (batchP b).1.ms.length ≤ 4096 := by
 unfold batchP
 cases hd : K.decodeP b with
 | error e => simp [zeroBt]
 | ok x =>
  have hx := decodeP_byt hb hd
  dsimp only
  unfold shapeB
  split
  ·rename_i y0 y1 y2 h1 h2
   unfold itemsB
   split
   ·rename_i hi
    have h0 := BytI_f2 hx
    rw [h2] at h0
    refine ⟨?_, fun m hm => ?_, by simpa using hi.2.2.2.1⟩
    ·have := (rnumP_nat y1 (BytI_f1 (h0 y1 (by simp)))).1
     show 0 ≤ (K.rnumP y1).1
     omega
    ·obtain ⟨y, hy, rfl⟩ := List.mem_map.1 hm
     exact BytI_f1 (BytI_f2 (h0 y2 (by simp)) y hy)
   ·simp [zeroBt]
  ·simp [zeroBt]
set_option maxHeartbeats 1000000 in
theorem take0_any (A : Option Addr) (c : Nat) (vl : Value) (nx : Int) (g : Nat) {B : Nat} {w0 w : World} {L : List Item} (H : Own B w0 w (.blk g #[.slice A 0 c, .int .i64 0, vl, .int .u64 nx] 73 :: L)) :
 Calls Try.prog 88 #[.pointer (some ⟨g, 0, none⟩), .int .i64 0] w fun e w' => e = .returned (.tuple #[]) ∧ Own B w0 w' (.blk g #[.slice A 0 c, .int .i64 0, vl, .int .u64 nx] 73 :: L) := by
 have H0 := Aside0.mk H
 have k0 : w.cell? ⟨g, 0, none⟩ = some (.slice A 0 c) := H.cell 0 rfl 0 rfl
 have k1 : w.cell? ⟨g, 1, none⟩ = some (.int .i64 0) := H.cell 0 rfl 1 rfl
 clear H
 have hsb : (0 : Int) ≤ (c : Int) := by omega
 rcases A with _ | ad
 ·
  go_enter Try.func88, Try.ntmps88
  go_wp2_with fail
  refine St (fun W => W.cell? ⟨g, 0, none⟩ = some (.slice none 0 c) ∧ W.cell? ⟨g, 1, none⟩ = some (.int .i64 0)) (fun hHeld => ?_) (by exact ⟨k0, k1⟩)
  refine Tk 0 ?_
  refine Tk 1 ?_
  refine Tk 2 ?_
  refine Tk 3 ?_
  refine Tk 4 ?_
  refine Tk 5 ?_
  refine Tk 6 ?_
  refine Tk 7 ?_
  refine Tk 8 ?_
  refine Tk 9 ?_
  refine Tk 10 ?_
  refine Tk 11 ?_
  refine Tk 12 ?_
  refine Dn ?_
  have H1 := Aside0.mk H0.out.drew
  clear H0 k0 k1 hHeld
  generalize w.drew = w1 at *
  go_wp2_with fail
  go_loopw [25] (fun v25 wr => v25 = .int .i64 0 ∧ Aside0 (Own B w0 wr (.blk g #[.slice none 0 c, .int .i64 0, vl, .int .u64 nx] 73 :: L))) (fun v25 wr => 0)
  case atStart => exact ⟨rfl, H1⟩
  case round =>
   obtain ⟨rfl, HI⟩ := hrel
   have j1 : wr.cell? ⟨g, 1, none⟩ = some (.int .i64 0) ∧ wr.frozen? ⟨g, 1, none⟩ = false := ⟨HI.out.cell 0 rfl 1 rfl, HI.out.fz 0 rfl 1⟩
   clear H1
   go_wp2_with fail
   refine bodyPost_end (results_none rfl _ _ _) rfl ?_
   exact ⟨rfl, HI.out.put 0 rfl 1 _ rfl⟩
 ·
  go_enter Try.func88, Try.ntmps88
  go_wp2_with fail
  refine St (fun W => W.cell? ⟨g, 0, none⟩ = some (.slice (some ad) 0 c) ∧ W.cell? ⟨g, 1, none⟩ = some (.int .i64 0)) (fun hHeld => ?_) (by exact ⟨k0, k1⟩)
  refine Tk 0 ?_
  refine Tk 1 ?_
  refine Tk 2 ?_
  refine Tk 3 ?_
  refine Tk 4 ?_
  refine Tk 5 ?_
  refine Tk 6 ?_
  refine Tk 7 ?_
  refine Tk 8 ?_
  refine Tk 9 ?_
  refine Tk 10 ?_
  refine Tk 11 ?_
  refine Tk 12 ?_
  refine Dn ?_
  have H1 := Aside0.mk H0.out.drew
  clear H0 k0 k1 hHeld
  generalize w.drew = w1 at *
  go_wp2_with fail
  go_loopw [25] (fun v25 wr => v25 = .int .i64 0 ∧ Aside0 (Own B w0 wr (.blk g #[.slice (some ad) 0 c, .int .i64 0, vl, .int .u64 nx] 73 :: L))) (fun v25 wr => 0)
  case atStart => exact ⟨rfl, H1⟩
  case round =>
   obtain ⟨rfl, HI⟩ := hrel
   have j1 : wr.cell? ⟨g, 1, none⟩ = some (.int .i64 0) ∧ wr.frozen? ⟨g, 1, none⟩ = false := ⟨HI.out.cell 0 rfl 1 rfl, HI.out.fz 0 rfl 1⟩
   clear H1
   go_wp2_with fail
   refine bodyPost_end (results_none rfl _ _ _) rfl ?_
   exact ⟨rfl, HI.out.put 0 rfl 1 _ rfl⟩
theorem take_all (q : List SQ) (tk n : Nat) (l : List (List Int)) (nx : Int) (g cq : Nat) (A : Option Addr) (vl : Value) {B : Nat} {w0 w : World} {L : List Item}
 (H : Own B w0 w (.blk g #[.slice A q.length cq, .int .i64 (tk : Int), vl, .int .u64 nx] 73 :: .row kQ 78 (.slice A q.length cq) q :: .row kL 74 vl l :: L))
 (hcq : q.length ≤ cq) (hn : tk + n ≤ q.length) (hq : q.length ≤ 1000000) (hl : l.length ≤ 1000000) (hqm : ∀ d ∈ q, d.f1.length ≤ 1099511627776) :
 Calls Try.prog 88 #[.pointer (some ⟨g, 0, none⟩), .int .i64 (n : Int)] w fun e w' => e = .returned (.tuple #[]) ∧ ∃ vl', Own B w0 w' (.blk g #[.slice A q.length cq, .int .i64 ((tk + n : Nat) : Int), vl', .int .u64 nx] 73 :: .row kQ 78 (.slice A q.length cq) q :: .row kL 74 vl' (l ++ takenL q tk n) :: L) := by
 by_cases hp : 0 < q.length
 ·obtain ⟨gq, cap, he, _⟩ := H.form 1 rfl hp
  injection he with he1 he2 he3
  subst he1
  exact take_any q tk n l nx g gq cq vl H hcq hn hq hl hqm
 ·obtain rfl : q = [] := List.length_eq_zero_iff.1 (by omega)
  have hn' : tk + n ≤ 0 := hn
  obtain rfl : tk = 0 := by omega
  obtain rfl : n = 0 := by omega
  refine (take0_any A cq vl nx g H).mono ?_
  rintro e w' ⟨rfl, h⟩
  exact ⟨rfl, vl, by rw [show l ++ takenL [] 0 0 = l by simp [takenL]]; exact h⟩
def postI (x : Box) (b : List Int) : Box × Int :=
 if mayI x.q x.tk x.l = true then
  if (batchP b).2 = 0 then
   if (batchP b).1.n = x.nx ∧ (batchP b).1.t ≤ (x.q.length : Int) - x.tk then
    if (x.l ++ takenL x.q x.tk.toNat (batchP b).1.t.toNat ++ (batchP b).1.ms.filter (fun m => !depB m)).length ≤ 4096 then
     (⟨x.q, x.tk + (batchP b).1.t, x.l ++ takenL x.q x.tk.toNat (batchP b).1.t.toNat ++ (batchP b).1.ms.filter (fun m => !depB m), IntKind.u64.wrap (x.nx + 1)⟩, 0)
    else (zeroB, 4)
   else (zeroB, 200)
  else (zeroB, (batchP b).2)
 else (zeroB, 2)
set_option maxHeartbeats 4000000 in
set_option maxRecDepth 100000 in
theorem post_any (x : Box) (b : List Int) (A1 A2 A3 : Option Addr) (c1 c2 c3 : Nat) (w : World) (hC1 : Kd.C kQ w A1 x.q.length x.q) (hc1 : x.q.length ≤ c1) (hC2 : Kd.C kL w A2 x.l.length x.l) (hc2 : x.l.length ≤ c2) (hC3 : Kd.C kB w A3 b.length b) (hc3 : b.length ≤ c3)
 (hb : ∀ y ∈ b, 0 ≤ y ∧ y ≤ 255) :
 Calls Try.prog 37 #[.agg #[.slice A1 x.q.length c1, .int .i64 x.tk, .slice A2 x.l.length c2, .int .u64 x.nx], .slice A3 b.length c3] w (BoxPost w (postI x b)) := by
 obtain ⟨q, tk, l, nx⟩ := x
 have H0 := Aside0.mk (Own.start w)
 have HMY := Aside0.mk (fun W hb => imay_any q tk l nx A1 A2 c1 c2 W (Kd.C_below hC1 hb) hc1 (Kd.C_below hC2 hb) hc2)
 have HCP := Aside0.mk (fun W (hb : Below w.heap.size w W) h1 h2 => copied_any q tk l nx A1 A2 c1 c2 W (Kd.C_below hC1 hb) hc1 (Kd.C_below hC2 hb) hc2 h1 h2)
 have HRB := Aside0.mk (fun W (h : Below w.heap.size w W) => readbatch_any b A3 c3 W hb (Kd.C_below hC3 h) hc3)
 have HLN := Aside0.mk (fun h : mayI q tk l = true => mayI_len h)
 have HAL := Aside0.mk (fun h : mayI q tk l = true => mayI_all h)
 have HBO := Aside0.mk (batchP_ok b hb)
 obtain ⟨r, hr⟩ : ∃ r, r = postI ⟨q, tk, l, nx⟩ b := ⟨_, rfl⟩
 rw [← hr]
 unfold postI at hr
 dsimp only at hr
 dsimp only
 clear hC1 hC2 hC3 hc1 hc2 hc3 hb
 generalize batchP b = bt at *
 obtain ⟨⟨bn, t, ms⟩, er⟩ := bt
 dsimp only at hr HBO
 have HR := Aside0.mk hr
 clear hr
 generalize hnn : q.length = n at *
 have HN := Aside0.mk hnn
 clear hnn
 generalize hmm : l.length = m at *
 have HM := Aside0.mk hmm
 clear hmm
 generalize b.length = nb at *
 obtain ⟨my, hmy⟩ : ∃ my, my = mayI q tk l := ⟨_, rfl⟩
 rw [← hmy] at HMY HLN HAL HR
 clear hmy
 have HZ : Aside0 (Arr 4 #[.slice none 0 0, .int .i64 0, .slice none 0 0, .int .u64 0]) := ⟨rfl, by simp [Value.oneCell']⟩
 have HZB := zB_one
 cases my
 case false =>
  obtain rfl : r = (zeroB, 2) := by rw [HR.out, if_neg (by decide)]
  clear HR
  go_enter Try.func37, Try.ntmps37
  go_wp2_with (first
   | fail
   | ((with_reducible refine Gd 2 ?_); ( refine OB H0 73 #[.slice A1 n c1, .int .i64 tk, .slice A2 m c2, .int .u64 nx] ?_; intro g2 w1 H1 B1))
   | ((with_reducible refine Gd 4 ?_); ( refine OA H1 73 #[.slice none 0 0, .int .i64 0, .slice none 0 0, .int .u64 0] 4 ?_; intro g4 w2 H2 B2))
   | ((with_reducible refine Gd 9 ?_); ( refine OV 2 H2 1 g2 73 rfl Try.underlying73 (by kernel_rfl) ?_))
   | (go_at_call 57; refine (HMY.out _ H2.out.below).mono ?_; rintro e w3 ⟨rfl, hB3⟩; have H3 := Aside0.mk (H2.out.step hB3); clear hB3)
   | ((with_reducible refine Gs 73 4 ?_); ( refine OS 4 12 H3 0 g4 73 #[.slice none 0 0, .int .i64 0, .slice none 0 0, .int .u64 0] 4 HZ HZ ?_; intro w4 H4))
   )
  refine bodyPost_ret (RVt H4 0 g4 Try.underlying73) rfl ?_
  exact ⟨_, _, rfl, ((((H4.out.erase 0).erase 0).null kL _).null kQ _)⟩
 case true =>
 replace HR := Aside0.mk (HR.out.trans (if_pos rfl))
 by_cases her : er = 0
 case neg =>
  have hne : (er != 0) = true := by simpa using her
  obtain rfl : r = (zeroB, er) := by rw [HR.out, if_neg her]
  clear HR her
  go_enter Try.func37, Try.ntmps37
  go_wp2_with (first
   | fail
   | ((with_reducible refine Gd 2 ?_); ( refine OB H0 73 #[.slice A1 n c1, .int .i64 tk, .slice A2 m c2, .int .u64 nx] ?_; intro g2 w1 H1 B1))
   | ((with_reducible refine Gd 4 ?_); ( refine OA H1 73 #[.slice none 0 0, .int .i64 0, .slice none 0 0, .int .u64 0] 4 ?_; intro g4 w2 H2 B2))
   | ((with_reducible refine Gd 9 ?_); ( refine OV 2 H2 1 g2 73 rfl Try.underlying73 (by kernel_rfl) ?_))
   | (go_at_call 57; refine (HMY.out _ H2.out.below).mono ?_; rintro e w3 ⟨rfl, hB3⟩; have H3 := Aside0.mk (H2.out.step hB3); clear hB3)
   | (go_at_call 55; refine (HRB.out _ H3.out.below).mono ?_; rintro e w4 ⟨vb, rfl, hO4⟩; obtain ⟨Ab, cb, rfl, hcb, _⟩ := hO4.reads 0 rfl; have H4 := Aside0.mk (H3.out.call hO4); clear hO4)
   | ((with_reducible refine Gd 6 ?_); ( refine OA H4 108 #[.int .u64 0, .int .u64 0, .slice none 0 0] 3 ?_; intro g6 w5 H5 B5))
   | ((with_reducible refine Gs 108 6 ?_); have HXB : Aside0 (Arr 3 #[.int .u64 bn, .int .u64 t, .slice Ab ms.length cb]) := ⟨rfl, by simp [Value.oneCell']⟩; refine OS 6 16 H5 0 g6 108 #[.int .u64 bn, .int .u64 t, .slice Ab ms.length cb] 3 HZB HXB ?_; intro w6 H6)
   | ((with_reducible refine Gs 73 4 ?_); ( refine OS 4 21 H6 2 g4 73 #[.slice none 0 0, .int .i64 0, .slice none 0 0, .int .u64 0] 4 HZ HZ ?_; intro w7 H7))
   )
  refine bodyPost_ret (RVt H7 2 g4 Try.underlying73) rfl ?_
  exact ⟨_, _, rfl, (((((H7.out.erase 3).erase 2).erase 0).erase 0).null kL _).null kQ _⟩
 case pos =>
 subst her
 replace HR := Aside0.mk (HR.out.trans (if_pos rfl))
 obtain ⟨hn1, hm1, ht0, htn⟩ := HLN.out rfl
 obtain ⟨hq0, hl0⟩ := HAL.out rfl
 obtain ⟨ti, rfl⟩ := Int.eq_ofNat_of_zero_le ht0
 obtain ⟨tn, rfl⟩ := Int.eq_ofNat_of_zero_le HBO.out.1
 replace htn : ti ≤ n := by omega
 have hw1 : IntKind.i64.wrap ((n : Int) - (ti : Int)) = ((n - ti : Nat) : Int) := by rw [IntWalk.i64_in _ (by omega)]; omega
 have hw2 : IntKind.u64.wrap ((n - ti : Nat) : Int) = ((n - ti : Nat) : Int) := IntWalk.u64_in _ (by omega)
 by_cases hbn : bn = nx
 case neg =>
  have hx : (bn != nx) = true := by simpa using hbn
  obtain rfl : r = (zeroB, 200) := by rw [HR.out, if_neg (by omega)]
  clear HR
  go_enter Try.func37, Try.ntmps37
  go_wp2_with (first
   | fail
   | ((with_reducible refine Gd 2 ?_); ( refine OB H0 73 (#[.slice A1 n c1, .int .i64 (ti : Int), .slice A2 m c2, .int .u64 nx]) ?_; intro g2 w1 H1 B1))
   | ((with_reducible refine Gd 4 ?_); ( refine OA H1 73 #[.slice none 0 0, .int .i64 0, .slice none 0 0, .int .u64 0] 4 ?_; intro g4 w2 H2 B2))
   | ((with_reducible refine Gd 9 ?_); ( refine OV 2 H2 1 g2 73 rfl Try.underlying73 (by kernel_rfl) ?_))
   | (go_at_call 57; refine (HMY.out _ H2.out.below).mono ?_; rintro e w3 ⟨rfl, hB3⟩; have H3 := Aside0.mk (H2.out.step hB3); clear hB3)
   | (go_at_call 55; refine (HRB.out _ H3.out.below).mono ?_; rintro e w4 ⟨vb, rfl, hO4⟩; obtain ⟨Ab, cb, rfl, hcb, _⟩ := hO4.reads 0 rfl; have H4 := Aside0.mk (H3.out.call hO4); clear hO4)
   | ((with_reducible refine Gd 6 ?_); ( refine OA H4 108 #[.int .u64 0, .int .u64 0, .slice none 0 0] 3 ?_; intro g6 w5 H5 B5))
   | ((with_reducible refine Gs 108 6 ?_); have HXB : Aside0 (Arr 3 #[.int .u64 bn, .int .u64 (tn : Int), .slice Ab ms.length cb]) := ⟨rfl, by simp [Value.oneCell']⟩; refine OS 6 16 H5 0 g6 108 #[.int .u64 bn, .int .u64 (tn : Int), .slice Ab ms.length cb] 3 HZB HXB ?_; intro w6 H6)
   | ((with_reducible refine Gd 25 ?_); ( refine OD 24 23 H6 0 g6 0 (.int .u64 bn) Try.underlying23 ?_))
   | ((with_reducible refine Gd 27 ?_); ( refine OD 26 23 H6 3 g2 3 (.int .u64 nx) Try.underlying23 ?_))
   | ((with_reducible refine Gd 31 ?_); ( refine GD 30 23 H6 0 g6 1 (.int .u64 (tn : Int)) Try.underlying23 ?_))
   | ((with_reducible refine Gd 33 ?_); ( refine GD 32 70 H6 3 g2 0 (.slice A1 n c1) Try.underlying70 ?_))
   | ((with_reducible refine Gd 36 ?_); ( refine GD 35 3 H6 3 g2 1 (.int .i64 (ti : Int)) Try.underlying3 ?_))
   | ((with_reducible refine Gs 73 4 ?_); ( refine OS 4 41 H6 2 g4 73 #[.slice none 0 0, .int .i64 0, .slice none 0 0, .int .u64 0] 4 HZ HZ ?_; intro w7 H7))
   )
  refine bodyPost_ret (RVt H7 2 g4 Try.underlying73) rfl ?_
  exact ⟨_, _, rfl, (((((H7.out.erase 3).erase 2).erase 0).erase 0).null kL _).null kQ _⟩
 case pos =>
 subst hbn
 have hx : (bn != bn) = false := by simp
 by_cases htt : tn ≤ n - ti
 case neg =>
  have hy : decide (((n - ti : Nat) : Int) < (tn : Int)) = true := decide_eq_true (by omega)
  obtain rfl : r = (zeroB, 200) := by rw [HR.out, if_neg (by omega)]
  clear HR
  go_enter Try.func37, Try.ntmps37
  go_wp2_with (first
   | fail
   | ((with_reducible refine Gd 2 ?_); ( refine OB H0 73 (#[.slice A1 n c1, .int .i64 (ti : Int), .slice A2 m c2, .int .u64 bn]) ?_; intro g2 w1 H1 B1))
   | ((with_reducible refine Gd 4 ?_); ( refine OA H1 73 #[.slice none 0 0, .int .i64 0, .slice none 0 0, .int .u64 0] 4 ?_; intro g4 w2 H2 B2))
   | ((with_reducible refine Gd 9 ?_); ( refine OV 2 H2 1 g2 73 rfl Try.underlying73 (by kernel_rfl) ?_))
   | (go_at_call 57; refine (HMY.out _ H2.out.below).mono ?_; rintro e w3 ⟨rfl, hB3⟩; have H3 := Aside0.mk (H2.out.step hB3); clear hB3)
   | (go_at_call 55; refine (HRB.out _ H3.out.below).mono ?_; rintro e w4 ⟨vb, rfl, hO4⟩; obtain ⟨Ab, cb, rfl, hcb, _⟩ := hO4.reads 0 rfl; have H4 := Aside0.mk (H3.out.call hO4); clear hO4)
   | ((with_reducible refine Gd 6 ?_); ( refine OA H4 108 #[.int .u64 0, .int .u64 0, .slice none 0 0] 3 ?_; intro g6 w5 H5 B5))
   | ((with_reducible refine Gs 108 6 ?_); have HXB : Aside0 (Arr 3 #[.int .u64 bn, .int .u64 (tn : Int), .slice Ab ms.length cb]) := ⟨rfl, by simp [Value.oneCell']⟩; refine OS 6 16 H5 0 g6 108 #[.int .u64 bn, .int .u64 (tn : Int), .slice Ab ms.length cb] 3 HZB HXB ?_; intro w6 H6)
   | ((with_reducible refine Gd 25 ?_); ( refine OD 24 23 H6 0 g6 0 (.int .u64 bn) Try.underlying23 ?_))
   | ((with_reducible refine Gd 27 ?_); ( refine OD 26 23 H6 3 g2 3 (.int .u64 bn) Try.underlying23 ?_))
   | ((with_reducible refine Gd 31 ?_); ( refine GD 30 23 H6 0 g6 1 (.int .u64 (tn : Int)) Try.underlying23 ?_))
   | ((with_reducible refine Gd 33 ?_); ( refine GD 32 70 H6 3 g2 0 (.slice A1 n c1) Try.underlying70 ?_))
   | ((with_reducible refine Gd 36 ?_); ( refine GD 35 3 H6 3 g2 1 (.int .i64 (ti : Int)) Try.underlying3 ?_))
   | ((with_reducible refine Gs 73 4 ?_); ( refine OS 4 41 H6 2 g4 73 #[.slice none 0 0, .int .i64 0, .slice none 0 0, .int .u64 0] 4 HZ HZ ?_; intro w7 H7))
   )
  refine bodyPost_ret (RVt H7 2 g4 Try.underlying73) rfl ?_
  exact ⟨_, _, rfl, (((((H7.out.erase 3).erase 2).erase 0).erase 0).null kL _).null kQ _⟩
 case pos =>
 have hy : decide (((n - ti : Nat) : Int) < (tn : Int)) = false := decide_eq_false (by omega)
 replace HR := Aside0.mk (HR.out.trans (if_pos ⟨rfl, by omega⟩))
 have HQM := Aside0.mk (fun (d : SQ) (hd : d ∈ q) => (show d.f1.length ≤ 1099511627776 by have := (hq0 d hd).2; omega))
 have HCP2 := Aside0.mk (fun W hb => HCP.out W hb (by have := HN.out; omega) (by have := HM.out; omega) HQM.out (fun m hm => by have := hl0 m hm; omega))
 have HNB : Aside0 (q.length ≤ 1000000 ∧ l.length ≤ 1000000 ∧ m ≤ 4096 ∧ n ≤ 4096) := ⟨by have := HN.out; omega, by have := HM.out; omega, hm1, hn1⟩
 have hw3 : IntKind.i64.wrap (tn : Int) = (tn : Int) := IntWalk.i64_in _ (by omega)
 clear HAL HLN HCP hq0 hl0 ht0
 refine (callsIn_wide (n := 4)).1 ?_
 refine callsIn_of_wp_marks Try.func37 rfl trivial ?_ rfl
 refine wpIn_wide.2 ?_
 simp only [Try.ntmps37, List.size_toArray, List.length_cons, List.length_nil, Nat.reduceAdd, Nat.reduceSub, Array.replicate_succ, Array.replicate_zero, List.push_toArray, List.append_toArray, List.nil_append, List.cons_append]
 go_wp2_with (first
  | fail
  | ((with_reducible refine Gd 2 ?_); ( refine OB H0 73 (#[.slice A1 n c1, .int .i64 (ti : Int), .slice A2 m c2, .int .u64 bn]) ?_; intro g2 w1 H1 B1))
  | ((with_reducible refine Gd 4 ?_); ( refine OA H1 73 #[.slice none 0 0, .int .i64 0, .slice none 0 0, .int .u64 0] 4 ?_; intro g4 w2 H2 B2))
  | ((with_reducible refine Gd 9 ?_); ( refine OV 2 H2 1 g2 73 rfl Try.underlying73 (by kernel_rfl) ?_))
  | (go_at_call 57; refine (HMY.out _ H2.out.below).mono ?_; rintro e w3 ⟨rfl, hB3⟩; have H3 := Aside0.mk (H2.out.step hB3); clear hB3)
  | (go_at_call 55; refine (HRB.out _ H3.out.below).mono ?_; rintro e w4 ⟨vb, rfl, hO4⟩; obtain ⟨Ab, cb, rfl, hcb, _⟩ := hO4.reads 0 rfl; have H4 := Aside0.mk (H3.out.call hO4); clear hO4)
  | ((with_reducible refine Gd 6 ?_); ( refine OA H4 108 #[.int .u64 0, .int .u64 0, .slice none 0 0] 3 ?_; intro g6 w5 H5 B5))
  | ((with_reducible refine Gs 108 6 ?_); have HXB : Aside0 (Arr 3 #[.int .u64 bn, .int .u64 (tn : Int), .slice Ab ms.length cb]) := ⟨rfl, by simp [Value.oneCell']⟩; refine OS 6 16 H5 0 g6 108 #[.int .u64 bn, .int .u64 (tn : Int), .slice Ab ms.length cb] 3 HZB HXB ?_; intro w6 H6)
  | ((with_reducible refine Gd 25 ?_); ( refine OD 24 23 H6 0 g6 0 (.int .u64 bn) Try.underlying23 ?_))
  | ((with_reducible refine Gd 27 ?_); ( refine OD 26 23 H6 3 g2 3 (.int .u64 bn) Try.underlying23 ?_))
  | ((with_reducible refine Gd 31 ?_); ( refine GD 30 23 H6 0 g6 1 (.int .u64 (tn : Int)) Try.underlying23 ?_))
  | ((with_reducible refine Gd 33 ?_); ( refine GD 32 70 H6 3 g2 0 (.slice A1 n c1) Try.underlying70 ?_))
  | ((with_reducible refine Gd 36 ?_); ( refine GD 35 3 H6 3 g2 1 (.int .i64 (ti : Int)) Try.underlying3 ?_))
  | ((with_reducible refine Gd 42 ?_); ( refine OV 2 H6 3 g2 73 rfl Try.underlying73 (by kernel_rfl) ?_))
  | (go_at_call 87; refine (HCP2.out _ H6.out.below).mono ?_; rintro e w7 ⟨v1, v2, rfl, hO7⟩; obtain ⟨A4, c4, rfl, hcl4, _⟩ := hO7.reads 0 rfl; obtain ⟨A5, c5, rfl, hcl5, _⟩ := hO7.reads 1 rfl; have H7 := Aside0.mk (H6.out.call hO7); have HA4 : Aside0 (Arr 4 #[.slice A4 q.length c4, .int .i64 (ti : Int), .slice A5 l.length c5, .int .u64 bn]) := ⟨rfl, by simp [Value.oneCell']⟩; clear hO7)
  | ((with_reducible refine Gs 73 2 ?_); have HA1 : Aside0 (Arr 4 #[.slice A1 n c1, .int .i64 (ti : Int), .slice A2 m c2, .int .u64 bn]) := ⟨rfl, by simp [Value.oneCell']⟩; refine OS 2 43 H7 5 g2 73 #[.slice A4 q.length c4, .int .i64 (ti : Int), .slice A5 l.length c5, .int .u64 bn] 4 HA1 HA4 ?_; intro w8 H8)
  | ((with_reducible refine Gd 45 ?_); ( refine OD 44 23 H8 2 g6 1 (.int .u64 (tn : Int)) Try.underlying23 ?_))
  | (go_at_call 88; refine (take_all q ti tn l bn g2 c4 A4 _ (H8.out.bring 5 rfl) hcl4 (by have := HN.out; omega) HNB.out.1 HNB.out.2.1 HQM.out).mono ?_; rintro e w9 ⟨rfl, v9, H9⟩; replace H9 := Aside0.mk H9)
  | ((with_reducible refine Gd 49 ?_); ( refine OD 48 71 H9 3 g6 2 (.slice Ab ms.length cb) Try.underlying71 ?_))
  | (go_at_call 89; refine (keptM_call _ _ _ ⟨_, _, _, rfl⟩ ⟨_, _, _, rfl⟩).mono ?_; rintro e w10 ⟨rfl, rfl⟩)
  )
 have HL9 : Aside0 (Own w.heap.size w w9 [.blk g2 #[.slice A4 q.length c4, .int .i64 ((ti + tn : Nat) : Int), v9, .int .u64 bn] 73, .row kQ 78 (.slice A4 q.length c4) q, .row kL 74 v9 (l ++ takenL q ti tn), .blk g6 #[.int .u64 bn, .int .u64 (tn : Int), .slice Ab ms.length cb] 108, .row kL 74 (.slice Ab ms.length cb) ms, .blk g4 #[.slice none 0 0, .int .i64 0, .slice none 0 0, .int .u64 0] 73]) := ⟨H9.out⟩
 have HL0 : Aside0 ((l ++ takenL q ti tn).length ≤ 8192) := ⟨by
  have := HNB.out.2.2.1
  have := HM.out
  have h2 : (takenL q ti tn).length ≤ tn := by unfold takenL; rw [List.length_map, List.length_take]; omega
  rw [List.length_append]; omega⟩
 replace HR : Aside0 (r = if (l ++ takenL q ti tn ++ ms.filter (fun m => !depB m)).length ≤ 4096 then (⟨q, ((ti + tn : Nat) : Int), l ++ takenL q ti tn ++ ms.filter (fun m => !depB m), IntKind.u64.wrap (bn + 1)⟩, 0) else (zeroB, 4)) := ⟨HR.out⟩
 clear H0 H1 B1 H2 B2 H3 H4 H5 B5 H6 H7 H8 H9 HA1 HA4 HCP2 HXB HMY HRB hcl5
 generalize l ++ takenL q ti tn = L0 at *
 have H10 := Aside0.mk ((HL9.out.new #[.slice Ab ms.length cb] 71).new #[.func (.func 90) #[] #[]] 82)
 clear HL9
 obtain ⟨W0, hW0⟩ : ∃ W0, (w9.alloc (.cells #[.slice Ab ms.length cb] 71)).alloc (.cells #[.func (.func 90) #[] #[]] 82) = W0 := ⟨_, rfl⟩
 have hsz : W0.heap.size = w9.heap.size + 2 := by rw [← hW0]; simp
 simp only [World.size_alloc] at H10
 rw [hW0] at H10 ⊢
 clear hW0
 generalize w9.heap.size = s at *
 have HB : Aside0 (Own w.heap.size w W0 (.row kL 74 v9 L0 :: .row kL 74 (.slice Ab ms.length cb) ms :: [.blk (s + 1) #[.func (.func 90) #[] #[]] 82, .blk s #[.slice Ab ms.length cb] 71, .blk g2 #[.slice A4 q.length c4, .int .i64 ((ti + tn : Nat) : Int), v9, .int .u64 bn] 73, .row kQ 78 (.slice A4 q.length c4) q, .blk g6 #[.int .u64 bn, .int .u64 (tn : Int), .slice Ab ms.length cb] 108, .blk g4 #[.slice none 0 0, .int .i64 0, .slice none 0 0, .int .u64 0] 73])) := ⟨(H10.out.bring 6 rfl).bring 5 rfl⟩
 obtain ⟨g, hAb, hLn⟩ := Own.lend (d := kL) rfl HB.out
 have HLn := Aside0.mk hLn
 have hV9 := HB.out.row_typed 0 rfl
 have hgt : 0 < ms.length → ∃ cells, W0.heap[g]? = some (.cells cells 74 (0, 0)) := fun hp => HB.out.row_typed 1 rfl g (by rw [hAb hp]; rfl)
 have hG2 := HB.out.get 4 rfl
 have hGS := HB.out.get 3 rfl
 have hGK := HB.out.get 2 rfl
 have hbase := HB.out.base
 have hfar : ∀ (k : Nat) (cells : Array Value) (t : TypeId), W0.heap[k]? = some (.cells cells t (0, 0)) → t ≠ 73 → t ≠ 74 → ∀ W', KP W0.heap.size g2 v9.ownBlock W0 W' → W'.heap[k]? = W0.heap[k]? := fun k cells t hk h1 h2 W' hW => hW.same k (blk_lt hk) (blk_lt hk) (fun e => by
  subst e
  rw [hG2] at hk
  injection hk with hk
  injection hk with _ hk
  exact h1 hk.symm) (fun e => by
  obtain ⟨c2, h3⟩ := hV9 k e.symm
  rw [h3] at hk
  injection hk with hk
  injection hk with _ hk
  exact h2 hk.symm)
 have hfg : 0 < ms.length → ∀ W', KP W0.heap.size g2 v9.ownBlock W0 W' → W'.heap[g]? = W0.heap[g]? := fun hp W' hW => by
  obtain ⟨cells, hc⟩ := hgt hp
  refine hW.same g (blk_lt hc) (blk_lt hc) (fun e => ?_) (HLn.out.lend_ne hp)
  subst e
  rw [hG2] at hc
  injection hc with hc
  injection hc with _ hc
  cases hc
 clear HB H10 hLn
 obtain ⟨V, hVl, hV⟩ := choose_list2 (fun i (p : GE W0 g ms) => p.1.i = i ∧ ∀ W', KP W0.heap.size g2 v9.ownBlock W0 W' → Kd.C kB W' p.1.A p.1.b.length p.1.b) ms.length (fun i hi => by
  obtain ⟨u, h1, h2⟩ := HLn.out.lend_far i hi
  obtain ⟨Ax, cx, hu, hle, _⟩ := h2 W0 (fun _ _ _ _ _ => rfl)
  injection hu with hu _
  subst hu
  refine ⟨⟨⟨ms[i], Ax, cx, i⟩, ⟨hi, rfl⟩, h1, hle, HBO.out.2.1 _ (List.getElem_mem hi)⟩, rfl, fun W' hW => ?_⟩
  obtain ⟨A', c', hu', _, hC'⟩ := h2 W' (fun k cells h3 _ h5 => hfar k cells _ h5 (by decide) (by decide) W' hW)
  injection hu' with hu' _
  injection hu' with e1 e2 e3
  subst e1
  exact hC')
 have hVm : V.map (fun p => p.1.b) = ms := by
  refine List.ext_getElem (by simpa using hVl) fun i h1 h2 => ?_
  rw [List.getElem_map]
  obtain ⟨h3, _⟩ := hV i (by omega)
  obtain ⟨⟨h4, h5⟩, _⟩ := V[i].2
  rw [h5]
  simp only [h3]
 have hVf : (V.filter (fun p => !depB p.1.b)).map (fun p => p.1.b) = ms.filter (fun m => !depB m) := by
  have h := congrArg (List.filter fun m => !depB m) hVm
  rw [List.filter_map] at h
  exact h
 have hCl : ∀ vl : Value, ∀ xs, ∀ it ∈ (Item.lend kL 74 vl xs g ms :: [Item.blk (s + 1) #[.func (.func 90) #[] #[]] 82, .blk s #[.slice Ab ms.length cb] 71, .blk g2 #[.slice A4 q.length c4, .int .i64 ((ti + tn : Nat) : Int), vl, .int .u64 bn] 73, .row kQ 78 (.slice A4 q.length c4) q, .blk g6 #[.int .u64 bn, .int .u64 (tn : Int), .slice Ab ms.length cb] 108, .blk g4 #[.slice none 0 0, .int .i64 0, .slice none 0 0, .int .u64 0] 73]), it.Cl := fun vl xs =>
  Cl_cons (Cl_lend _ _ _ _ _ _ lend_cells) (Cl_cons (Cl_blk _ _ _) (Cl_cons (Cl_blk _ _ _) (Cl_cons (Cl_blk _ _ _) (Cl_cons (Cl_row _ _ _ _) (Cl_cons (Cl_blk _ _ _) (Cl_cons (Cl_blk _ _ _) Cl_nil))))))
 obtain ⟨IP, hIP⟩ : ∃ IP : List (GE W0 g ms) → World → Prop, IP = fun pre W => ∃ vl, Own w.heap.size w W (.lend kL 74 vl (L0 ++ pre.map (fun p => p.1.b)) g ms :: [.blk (s + 1) #[.func (.func 90) #[] #[]] 82, .blk s #[.slice Ab ms.length cb] 71, .blk g2 #[.slice A4 q.length c4, .int .i64 ((ti + tn : Nat) : Int), vl, .int .u64 bn] 73, .row kQ 78 (.slice A4 q.length c4) q, .blk g6 #[.int .u64 bn, .int .u64 (tn : Int), .slice Ab ms.length cb] 108, .blk g4 #[.slice none 0 0, .int .i64 0, .slice none 0 0, .int .u64 0] 73]) ∧ (0 < ms.length → W.heap[g]? = W0.heap[g]?) ∧ (vl.ownBlock = v9.ownBlock ∨ ∃ b, vl.ownBlock = some b ∧ W0.heap.size ≤ b) ∧ W0.heap.size ≤ W.heap.size := ⟨_, rfl⟩
 have hIown : OwnFrom W0.heap.size IP := by
  rw [hIP]
  rintro pre W W' row ⟨vl, h1, h2, h3, h4⟩ hg hr
  refine ⟨vl, h1.other (hCl _ _) hg (fun r e => ⟨Nat.le_trans hbase (hr r e).1, (hr r e).2⟩), fun hp => ?_, h3, Nat.le_trans h4 hg.size⟩
  obtain ⟨cells, hc⟩ := hgt hp
  rw [← h2 hp] at hc
  refine (hg.block g (blk_lt hc) (fun e => ?_)).trans (h2 hp)
  obtain ⟨_, o, ho, hnc⟩ := hr g e.symm
  rw [hc] at ho
  cases ho
  cases hnc
 have hI0 : IP [] W0 := by
  rw [hIP]
  exact ⟨v9, by simpa using HLn.out, fun _ => rfl, .inl rfl, Nat.le_refl _⟩
 have hseq : SeqStopsK Fence.wide 3 Try.prog 135 #[.pointer (some ⟨s, 0, none⟩), .pointer (some ⟨s + 1, 0, none⟩)] (fun x : GE W0 g ms => #[x.1.val]) (KP W0.heap.size g2 v9.ownBlock) (fun ys => ys = V.filter (fun p => !depB p.1.b)) (fun _ => True) V.length W0 := fun l J Jx W hW hJ hJx hY hJ0 => by
  refine keptM_in 3 (by decide) W0 (KP W0.heap.size g2 v9.ownBlock) (fun h k => h.trans k) (fun h => KP.of_below h) g ms V Ab cb (fun h => hAb (by omega)) l s (s + 1) J Jx W (KP.of_below hW) hJ (by have := HBO.out.2.2; omega) (fun W' hk i hi => ?_) (fun W' hk => ?_) (fun W' hk => ?_) hY hJ0
  ·obtain ⟨h3, h4⟩ := hV i hi
   refine ⟨?_, h4 W' hk⟩
   have h5 := V[i].2.2.1
   rw [h3] at h5
   exact (World.cell?_of_block (hfg (by omega) W' hk)).trans h5
  ·rw [hVl]
   exact blk_cell ((hfar s _ _ hGS (by decide) (by decide) W' hk).trans hGS) 0
  ·exact blk_cell ((hfar (s + 1) _ _ hGK (by decide) (by decide) W' hk).trans hGK) 0
 have HVf := Aside0.mk hVf
 have HCL := Aside0.mk hCl
 have HHG := Aside0.mk hgt
 have HV9 := Aside0.mk hV9
 have hVn : V.length ≤ 4096 := by have := HBO.out.2.2; omega
 clear hVf hCl hgt hV9 hV hVm hfar hfg hGS hGK hG2 hcl4
 refine wpIn_range1 (nF := 4) (p := 51) (c := 8) (fun x : GE W0 g ms => x.1.val) (by decide) (gf := 135) (lb := #[.pointer (some ⟨s, 0, none⟩), .pointer (some ⟨s + 1, 0, none⟩)]) rfl (enters_of Try.func135 (by kernel_rfl) rfl) hseq
  (fun h k => h.trans k) (fun W l o o' hl _ _ _ => KP.put W l o' hl) (KP.refl _ _ _) IP hIown hI0 ?assign ?body ?done
 case assign =>
  intro l x W K hK
  simp only [List.setIfInBounds_toArray, List.set_cons_zero, List.set_cons_succ] at hK ⊢
  gi_wp2
  exact hK
 case body =>
  rintro l x0 ⟨⟨b, Ax, cx, ix⟩, ⟨⟨hix, hbx⟩, hcell, hle, hbyt⟩⟩ W hI hlt
  rw [hIP] at hI
  obtain ⟨vl, hO, hgg, hvb, hsW⟩ := hI
  dsimp only at hix hbx hcell hle
  subst hbx
  have hu : W.cell? ⟨g, ix, none⟩ = some (.slice Ax ms[ix].length cx) := (World.cell?_of_block (hgg (by omega))).trans hcell
  have k2 : W.cell? ⟨g2, 2, none⟩ = some vl := hO.cell 3 rfl 2 rfl
  have hbd : ((L0 ++ x0.map (fun p => p.1.b)).length + 1) * 24 ≤ 140737488355328 := by
   have := HL0.out
   rw [List.length_append, List.length_map]
   omega
  have hvt := hO.unlend.row_typed 0 rfl
  have hG2 := hO.get 3 rfl
  have HI := Aside0.mk hO
  clear hO
  simp only [List.setIfInBounds_toArray, List.set_cons_zero, List.set_cons_succ, EV.val]
  gi_wp2_with (first | (refine own_append_lendIn kL HI.out rfl (.tmp 53) (.tmp 55) 71 (.slice none 0 0) 24 rfl Try.underlying71 (by kernel_rfl) rfl (by decide) (by decide) ix hix _ hu rfl rfl hbd ?_; intro v1 w1 h1 hg1 hgr hat; obtain ⟨A9, c9, hv1, _, _⟩ := h1.lend_reads; obtain ⟨n9, hn9⟩ : ∃ n, n = (L0 ++ x0.map (fun p => p.1.b) ++ [ms[ix]]).length := ⟨_, rfl⟩; rw [← hn9] at hv1; clear hn9; subst hv1; have H1 := Aside0.mk h1; have f1 : w1.cell? ⟨g2, 2, none⟩ = some vl ∧ w1.frozen? ⟨g2, 2, none⟩ = false := ⟨h1.cell 3 rfl 2 rfl, h1.fz 3 rfl 2⟩; clear h1))
  have hk1 : ∀ (u : Value) k, some k ≠ vl.ownBlock → k ≠ g2 → k < W.heap.size → (w1.setCell ⟨g2, 2, none⟩ u).heap[k]? = W.heap[k]? := fun u k h1 h2 h3 => (Below.heap_setCell w1 ⟨g2, 2, none⟩ u k h2).trans (hgr.block k h3 h1)
  have hs1 : ∀ u : Value, W.heap.size ≤ (w1.setCell ⟨g2, 2, none⟩ u).heap.size := fun u => by simpa using hgr.size
  refine ⟨⟨hs1 _, fun k o hk ho hnc => (hk1 _ k (fun e => ?_) (fun e => ?_) (blk_lt ho)).trans ho⟩, ⟨hs1 _, fun k h1 h2 h3 h4 => hk1 _ k (fun e => ?_) h3 h2⟩, ?_⟩
  ·obtain ⟨c2, h3⟩ := hvt k e.symm
   rw [h3] at ho
   cases ho
   cases hnc
  ·subst e
   rw [hG2] at ho
   cases ho
   cases hnc
  ·rcases hvb with hv | ⟨b2, hb2, hle2⟩
   ·exact h4 (e.trans hv)
   ·rw [hb2] at e
    injection e with e
    omega
  ·rw [hIP]
   refine ⟨.slice A9 n9 c9, ?_, fun hp => ?_, ?_, Nat.le_trans hsW (hs1 _)⟩
   ·rw [List.map_append, ← List.append_assoc]
    exact H1.out.put 3 rfl 2 _ rfl
   ·obtain ⟨cells, hc⟩ := HHG.out hp
    rw [← hgg hp] at hc
    refine (hk1 _ g (HI.out.lend_ne hp) (fun e => ?_) (blk_lt hc)).trans (hgg hp)
    subst e
    rw [hG2] at hc
    injection hc with hc
    injection hc with _ hc
    cases hc
   ·rcases hat with ha | ⟨b2, hb2, hle2⟩
    ·rw [ha]; exact hvb
    ·exact .inr ⟨b2, hb2, by omega⟩
 case done =>
  rintro D xs W hD rfl hI hK
  rename_i K1 hK1
  rw [hIP] at hI
  obtain ⟨vl, hO, -, -, -⟩ := hI
  rw [HVf.out] at hO
  have hO2 := hO.unlend
  obtain ⟨L1, hL1⟩ : ∃ L1, L1 = L0 ++ ms.filter (fun m => !depB m) := ⟨_, rfl⟩
  rw [← hL1] at hO2 HR
  clear hL1
  obtain ⟨A6, c6, rfl, hcl6, _⟩ := hO2.reads 0 rfl
  have hCl : ∀ res : Array Value, ∀ nx2 : Int, ∀ it ∈ [Item.row kL 74 (.slice A6 L1.length c6) L1, .blk (s + 1) #[.func (.func 90) #[] #[]] 82, .blk s #[.slice Ab ms.length cb] 71, .blk g2 #[.slice A4 q.length c4, .int .i64 ((ti + tn : Nat) : Int), .slice A6 L1.length c6, .int .u64 nx2] 73, .row kQ 78 (.slice A4 q.length c4) q, .blk g6 #[.int .u64 bn, .int .u64 (tn : Int), .slice Ab ms.length cb] 108, .blk g4 res 73], it.Cl := fun res nx2 =>
   Cl_cons (Cl_row _ _ _ _) (Cl_cons (Cl_blk _ _ _) (Cl_cons (Cl_blk _ _ _) (Cl_cons (Cl_blk _ _ _) (Cl_cons (Cl_row _ _ _ _) (Cl_cons (Cl_blk _ _ _) (Cl_cons (Cl_blk _ _ _) Cl_nil))))))
  have H11 := Aside0.mk (hO2.keepObj (hCl _ _) (Nat.le_trans hbase hD) hK rfl)
  clear hO hO2 hK
  refine hK1 _ _ ?_
  clear hK1 K1 hI0 hIown hseq hIP HCL HHG HV9 HVf HLn
  by_cases hlen : L1.length ≤ 4096
  ·have hd : decide ((4096 : Int) < (L1.length : Int)) = false := decide_eq_false (by omega)
   have hd2 : decide (4096 < L1.length) = false := decide_eq_false (by omega)
   obtain rfl : r = (⟨q, ((ti + tn : Nat) : Int), L1, IntKind.u64.wrap (bn + 1)⟩, 0) := by rw [HR.out, if_pos hlen]
   clear HR
   have HAE : Aside0 (Arr 4 #[.slice A4 q.length c4, .int .i64 ((ti + tn : Nat) : Int), .slice A6 L1.length c6, .int .u64 (IntKind.u64.wrap (bn + 1))]) := ⟨rfl, by simp [Value.oneCell']⟩
   go_wp2_with (first
    | fail
    | ((with_reducible refine Gd 59 ?_); ( refine OD 58 71 H11 4 g2 2 (.slice A6 L1.length c6) Try.underlying71 ?_))
    | ((with_reducible refine Gd 64 ?_); ( refine OD 63 23 H11 4 g2 3 (.int .u64 bn) Try.underlying23 ?_))
    | ((with_reducible refine Gs 23 66 ?_); ( refine OT1 66 23 H11 4 g2 73 3 (.int .u64 (IntKind.u64.wrap (bn + 1))) (#[.slice A4 q.length c4, .int .i64 ((ti + tn : Nat) : Int), .slice A6 L1.length c6, .int .u64 (IntKind.u64.wrap (bn + 1))]) rfl (by simp) ?_; intro w12 H12))
    | ((with_reducible refine Gd 67 ?_); ( refine OV 2 H12 4 g2 73 rfl Try.underlying73 (by kernel_rfl) ?_))
    | ((with_reducible refine Gs 73 4 ?_); ( refine OS 4 67 H12 7 g4 73 (#[.slice A4 q.length c4, .int .i64 ((ti + tn : Nat) : Int), .slice A6 L1.length c6, .int .u64 (IntKind.u64.wrap (bn + 1))]) 4 HZ HAE ?_; intro w13 H13))
    )
   have HX : Aside0 (Own w.heap.size w w13 (.obj D (.deferred (some [])) :: [.row kL 74 (.slice A6 L1.length c6) L1, .blk (s + 1) #[.func (.func 90) #[] #[]] 82, .blk s #[.slice Ab ms.length cb] 71, .blk g2 #[.slice A4 q.length c4, .int .i64 ((ti + tn : Nat) : Int), .slice A6 L1.length c6, .int .u64 (IntKind.u64.wrap (bn + 1))] 73, .row kQ 78 (.slice A4 q.length c4) q, .blk g6 #[.int .u64 bn, .int .u64 (tn : Int), .slice Ab ms.length cb] 108, .blk g4 #[.slice A4 q.length c4, .int .i64 ((ti + tn : Nat) : Int), .slice A6 L1.length c6, .int .u64 (IntKind.u64.wrap (bn + 1))] 73])) := ⟨H13.out⟩
   refine ⟨by simp, .inl ⟨_, _, rfl, run_takeDeferred HX.out.getObj.2, ?_⟩⟩
   have HE := Aside0.mk (HX.out.putObj (hCl _ _) rfl (.deferred none))
   refine ⟨_, RVt HE 6 g4 Try.underlying73, ?_⟩
   exact ⟨_, _, rfl, (((((HE.out.erase 6).erase 5).erase 3).erase 2).erase 1).bring 1 rfl⟩
  ·have hd : decide ((4096 : Int) < (L1.length : Int)) = true := decide_eq_true (by omega)
   have hd2 : decide (4096 < L1.length) = true := decide_eq_true (by omega)
   obtain rfl : r = (zeroB, 4) := by rw [HR.out, if_neg hlen]
   clear HR
   go_wp2_with (first
    | fail
    | ((with_reducible refine Gd 59 ?_); ( refine OD 58 71 H11 4 g2 2 (.slice A6 L1.length c6) Try.underlying71 ?_))
    | ((with_reducible refine Gs 73 4 ?_); ( refine OS 4 62 H11 7 g4 73 #[.slice none 0 0, .int .i64 0, .slice none 0 0, .int .u64 0] 4 HZ HZ ?_; intro w12 H12))
    )
   have HX : Aside0 (Own w.heap.size w w12 (.obj D (.deferred (some [])) :: [.row kL 74 (.slice A6 L1.length c6) L1, .blk (s + 1) #[.func (.func 90) #[] #[]] 82, .blk s #[.slice Ab ms.length cb] 71, .blk g2 #[.slice A4 q.length c4, .int .i64 ((ti + tn : Nat) : Int), .slice A6 L1.length c6, .int .u64 bn] 73, .row kQ 78 (.slice A4 q.length c4) q, .blk g6 #[.int .u64 bn, .int .u64 (tn : Int), .slice Ab ms.length cb] 108, .blk g4 #[.slice none 0 0, .int .i64 0, .slice none 0 0, .int .u64 0] 73])) := ⟨H12.out⟩
   refine ⟨by simp, .inl ⟨_, _, rfl, run_takeDeferred HX.out.getObj.2, ?_⟩⟩
   have HE := Aside0.mk (HX.out.putObj (hCl _ _) rfl (.deferred none))
   refine ⟨_, RVt HE 6 g4 Try.underlying73, ?_⟩
   exact ⟨_, _, rfl, (((((((((HE.out.erase 6).erase 5).erase 4).erase 3).erase 2).erase 1).erase 0).null kL _).null kQ _)⟩
end Go.Proofs.Ytocphkfkdadhaaa.H

namespace Go.Proofs.Ytocphkfkdadhaaa.H
open Go.RowKit Go.Proofs.YtocphkfkdadhaaaW.PrintWords Go.Proofs.YtocphkfkdadhaaaW.PrintLast Go.Proofs.YtocphkfkdadhaaaW.PrintMore
set_option linter.unusedVariables false
set_option linter.unusedSimpArgs false
theorem rdQ (q : List SQ) (i : Nat) (h : i < q.length) : PRF.rd_T78 q (i : Int) = q[i] := by simp [PRF.rd_T78, List.getD_eq_getElem?_getD, h]
theorem rdL (l : List (List Int)) (i : Nat) (h : i < l.length) : PRF.rd_L2 l (i : Int) = l[i] := by simp [PRF.rd_L2, List.getD_eq_getElem?_getD, h]
theorem w1_ (i : Nat) (h : i < 9223372036854775807) : wrap64 ((i : Int) + 1) = ((i + 1 : Nat) : Int) := by rw [K.wrap64_in _ (by omega)]; omega
theorem short_ev (l : List (List Int)) (hl : l.length ≤ 9223372036854775807) : K.Ev (fun k => PRF.proctorref20_short.f k l) (!longP l) :=
 K.Ev.of_mono (fun k => PRF.proctorref20_short.mono l k) (short_f l hl)
theorem may20_ev (q : List SQ) (tk : Int) (l : List (List Int)) (nx : Int) (hq : q.length ≤ 9223372036854775807) (hl : l.length ≤ 9223372036854775807) : ∃ k, PRF.proctorref20_May.f k q tk l nx = some (mayI q tk l) := by
 obtain ⟨M, hM⟩ := short_ev l hl
 have key : ∀ (d i : Nat) (last : Int), i + d = q.length → ∀ k, d + 1 + M ≤ k → PRF.proctorref20_May.l0 k last (i : Int) q tk l nx = some (riseP last (q.drop i) && !longP l) := by
  intro d
  induction d with
  | zero =>
   intro i last h k hk
   obtain ⟨k, rfl⟩ : ∃ k', k = k' + 1 := ⟨k - 1, by omega⟩
   rw [PRF.proctorref20_May.l0, if_neg (by omega), show PRF.proctorref20_short.f k l = _ from hM k (by omega), List.drop_of_length_le (by omega)]
   rfl
  | succ d ih =>
   intro i last h k hk
   obtain ⟨k, rfl⟩ : ∃ k', k = k' + 1 := ⟨k - 1, by omega⟩
   have hi : i < q.length := by omega
   rw [PRF.proctorref20_May.l0, if_pos (by omega), if_pos (by omega), rdQ q i hi, List.drop_eq_getElem_cons hi]
   by_cases h1 : q[i].f0 < last
   ·rw [if_pos h1]
    have : decide (last ≤ q[i].f0) = false := decide_eq_false (by omega)
    simp only [riseP, this, Bool.false_and]
   ·rw [if_neg h1]
    have e1 : decide (last ≤ q[i].f0) = true := decide_eq_true (by omega)
    by_cases h2 : (q[i].f1.length : Int) > 65536
    ·rw [if_pos h2]
     have : decide (q[i].f1.length ≤ 65536) = false := decide_eq_false (by omega)
     simp only [riseP, this, Bool.and_false, Bool.false_and]
    ·rw [if_neg h2, w1_ i (by omega), ih (i + 1) _ (by omega) k (by omega)]
     have : decide (q[i].f1.length ≤ 65536) = true := decide_eq_true (by omega)
     simp only [riseP, this, e1, Bool.true_and]
 refine ⟨q.length + 2 + M, ?_⟩
 unfold PRF.proctorref20_May.f mayI
 by_cases h1 : (q.length : Int) > 4096
 ·rw [if_pos h1, show q.length + 2 + M = (q.length + 1 + M) + 1 by omega, PRF.proctorref20_May.j0, if_pos rfl]
  have : decide (q.length ≤ 4096) = false := decide_eq_false (by omega)
  rw [this]; rfl
 rw [if_neg h1]
 by_cases h2 : (l.length : Int) > 4096
 ·rw [if_pos h2, show q.length + 2 + M = (q.length + 1 + M) + 1 by omega, PRF.proctorref20_May.j0, if_pos rfl]
  have : decide (l.length ≤ 4096) = false := decide_eq_false (by omega)
  rw [this]; simp
 rw [if_neg h2]
 have e1 : decide (q.length ≤ 4096) = true := decide_eq_true (by omega)
 have e2 : decide (l.length ≤ 4096) = true := decide_eq_true (by omega)
 by_cases h3 : tk < 0
 ·rw [if_pos h3, show q.length + 2 + M = (q.length + 1 + M) + 1 by omega, PRF.proctorref20_May.j0, if_pos rfl]
  have : decide (0 ≤ tk) = false := decide_eq_false (by omega)
  rw [this]; simp
 rw [if_neg h3]
 have e3 : decide (0 ≤ tk) = true := decide_eq_true (by omega)
 by_cases h4 : tk > (q.length : Int)
 ·rw [decide_eq_true h4, show q.length + 2 + M = (q.length + 1 + M) + 1 by omega, PRF.proctorref20_May.j0, if_pos rfl]
  have : decide (tk ≤ (q.length : Int)) = false := decide_eq_false (by omega)
  rw [this]; simp
 have e4 : decide (tk ≤ (q.length : Int)) = true := decide_eq_true (by omega)
 rw [decide_eq_false h4, show q.length + 2 + M = (q.length + 1 + M) + 1 by omega, PRF.proctorref20_May.j0, if_neg (by decide), e1, e2, e3, e4]
 have := key q.length 0 0 (by omega) (q.length + 1 + M) (Nat.le_refl _)
 rw [List.drop_zero] at this
 rw [show ((0 : Nat) : Int) = 0 from rfl] at this
 rw [this]
 rfl
theorem lists_ev (a b : List (List Int)) (hl : a.length ≤ 1000000000) (ha : ∀ m ∈ a, K.Byt m) (hb : ∀ m ∈ b, K.Byt m) : ∀ k, a.length + 1 ≤ k → PRF.proctorref20_Lists.f k a b = some (eqL eqB a b) := by
 intro k hk
 unfold PRF.proctorref20_Lists.f
 by_cases h : (a.length : Int) = (b.length : Int)
 case neg => rw [if_neg h, eqL_len _ _ _ (by omega)]
 rw [if_pos h]
 have key : ∀ (d i : Nat), i + d = a.length → ∀ k, d + 1 ≤ k → PRF.proctorref20_Lists.l0 k a b (i : Int) = some (eqL eqB (a.drop i) (b.drop i)) := by
  intro d
  induction d with
  | zero =>
   intro i h k hk
   obtain ⟨k, rfl⟩ : ∃ k', k = k' + 1 := ⟨k - 1, by omega⟩
   rw [PRF.proctorref20_Lists.l0, if_neg (by omega), List.drop_of_length_le (by omega), List.drop_of_length_le (by omega)]
   rfl
  | succ d ih =>
   intro i h k hk
   obtain ⟨k, rfl⟩ : ∃ k', k = k' + 1 := ⟨k - 1, by omega⟩
   have hi : i < a.length := by omega
   have hi2 : i < b.length := by omega
   rw [PRF.proctorref20_Lists.l0, if_pos (by omega), if_pos (by omega), if_pos (by omega), rdL a i hi, rdL b i hi2, K.same01_f _ _ (ha _ (List.getElem_mem hi)) (hb _ (List.getElem_mem hi2)), Option.bind_some, eqL_drop _ _ _ _ hi hi2]
   by_cases he : a[i] = b[i]
   ·rw [decide_eq_true he, if_pos rfl, w1_ i (by omega), ih (i + 1) (by omega) k (by omega)]
    have : eqB a[i] b[i] = true := by rw [he]; exact beq_self_eq_true _
    rw [this]; rfl
   ·rw [decide_eq_false he, if_neg (by decide)]
    have : eqB a[i] b[i] = false := beq_eq_false_iff_ne.2 he
    rw [this]; rfl
 have := key a.length 0 (by omega) k hk
 exact this
end Go.Proofs.Ytocphkfkdadhaaa.H

namespace Go.Proofs.Ytocphkfkdadhaaa.H
set_option linter.unusedVariables false
set_option linter.unusedSimpArgs false
def postsI : Box → List (List Int) → Box
 | y, [] => y
 | y, b :: l => postsI (if (postI y b).2 = 0 then (postI y b).1 else y) l
theorem strP_le (l : List Int) : l.length ≤ (K.strP l).length := by
 unfold K.strP
 split
 ·exact Nat.le_refl _
 ·rw [List.length_append]; omega
theorem batchP_short (b : List Int) (hb : K.Byt b) : ∀ m ∈ (batchP b).1.ms, m.length ≤ 65536 := by
 unfold batchP
 cases hd : K.decodeP b with
 | error e => intro m hm; cases hm
 | ok x =>
  obtain ⟨h1, h2⟩ := K.decode_form b x hb hd
  unfold K.vP at h2
  rw [Bool.and_eq_true, decide_eq_true_eq] at h2
  obtain ⟨f0, f1, f2⟩ := x
  dsimp only
  unfold shapeB
  split
  ·rename_i y0 y1 y2
   unfold itemsB
   split
   ·rename_i h
    intro m hm
    obtain ⟨y, hy, rfl⟩ := List.mem_map.1 hm
    have h3 := K.forms_mem_le [y0, y1, y2] y2 (by simp)
    have h4 := K.forms_mem_le y2.f2 y hy
    have hl := h2.2
    rw [K.formP_list _ rfl, List.length_append] at hl
    rw [K.formP_list y2 h.2.2.1, List.length_append] at h3
    have hy0 : y.f0 = false := by have := List.all_eq_true.1 h.2.2.2.2 y hy; simpa using this
    rw [K.formP_str y hy0] at h4
    have h5 := strP_le y.f1
    dsimp only at hl
    omega
   ·intro m hm; cases hm
  ·intro m hm; cases hm
theorem mayI_iff {q : List SQ} {tk : Int} {l : List (List Int)} : mayI q tk l = true ↔ q.length ≤ 4096 ∧ l.length ≤ 4096 ∧ 0 ≤ tk ∧ tk ≤ q.length ∧ riseP 0 q = true ∧ ∀ m ∈ l, m.length ≤ 65536 := by
 unfold mayI longP
 simp only [Bool.and_eq_true, decide_eq_true_eq, Bool.not_eq_true', List.any_eq_false]
 constructor
 ·rintro ⟨⟨⟨⟨⟨h1, h2⟩, h3⟩, h4⟩, h5⟩, h6⟩
  exact ⟨h1, h2, h3, h4, h5, fun m hm => by simpa using h6 m hm⟩
 ·rintro ⟨h1, h2, h3, h4, h5, h6⟩
  exact ⟨⟨⟨⟨⟨h1, h2⟩, h3⟩, h4⟩, h5⟩, fun m hm => by simpa using h6 m hm⟩
theorem riseP_snoc : ∀ (q : List SQ) (last : Int) (d : SQ), riseP last q = true → (q = [] → last ≤ d.f0) → (∀ x, q.getLast? = some x → x.f0 ≤ d.f0) → d.f1.length ≤ 65536 → riseP last (q ++ [d]) = true
 | [], last, d, _, h1, _, h3 => by simp [riseP, h1 rfl, h3]
 | a :: q, last, d, h, _, h2, h3 => by
  simp only [riseP, Bool.and_eq_true, decide_eq_true_eq, List.cons_append] at h ⊢
  refine ⟨h.1, riseP_snoc q a.f0 d h.2 (fun e => ?_) (fun x hx => h2 x ?_) h3⟩
  ·subst e; exact h2 a rfl
  ·rw [List.getLast?_cons, hx]; rfl
theorem riseP_le : ∀ (q : List SQ) (last : Int) (d : SQ), riseP last (q ++ [d]) = true → ∀ e ∈ q ++ [d], e.f0 ≤ d.f0
 | [], last, d, _, e, he => by
  rw [List.mem_singleton.1 he]
  exact Int.le_refl _
 | a :: q, last, d, h, e, he => by
  simp only [riseP, Bool.and_eq_true, decide_eq_true_eq, List.cons_append] at h
  rcases List.mem_cons.1 he with rfl | he
  ·exact (riseP_all (q ++ [d]) e.f0 h.2 d (by simp)).1
  ·exact riseP_le q a.f0 d h.2 e he
theorem takenL_cons (q : List SQ) (tk n : Nat) (h : tk < q.length) : takenL q tk (n + 1) = q[tk].f1 :: takenL q (tk + 1) n := by
 unfold takenL
 rw [List.drop_eq_getElem_cons h, List.take_succ_cons, List.map_cons]
theorem takenL_mem (q : List SQ) : ∀ (n tk i : Nat) (h : i < q.length), tk ≤ i → i < tk + n → q[i].f1 ∈ takenL q tk n := fun n tk i h h1 h2 => by
 unfold takenL
 refine List.mem_map.2 ⟨q[i], ?_, rfl⟩
 refine List.mem_iff_getElem.2 ⟨i - tk, ?_, ?_⟩
 ·rw [List.length_take, List.length_drop]; omega
 ·rw [List.getElem_take, List.getElem_drop]
  congr 1
  omega
theorem takenL_short {q : List SQ} {tk n : Nat} (h : ∀ d ∈ q, d.f1.length ≤ 65536) : ∀ m ∈ takenL q tk n, m.length ≤ 65536 := fun m hm => by
 unfold takenL at hm
 obtain ⟨d, hd, rfl⟩ := List.mem_map.1 hm
 exact h d (List.mem_of_mem_drop (List.mem_of_mem_take hd))
theorem tickG_full (q : List SQ) (B : Int) (hall : ∀ e ∈ q, e.f0 + 8 ≤ B) : ∀ (f tk : Nat) (l : List (List Int)), q.length ≤ tk + f → tk ≤ q.length → l.length ≤ 4096 →
 ∃ n, tickG q B f tk l = (tk + n, l ++ takenL q tk n) ∧ tk + n ≤ q.length ∧ (l ++ takenL q tk n).length ≤ 4096 ∧ ((l ++ takenL q tk n).length = 4096 ∨ tk + n = q.length)
 | 0, tk, l, h1, h2, h3 => ⟨0, by simp [tickG, takenL], by omega, by simpa [takenL] using h3, .inr (by omega)⟩
 | f + 1, tk, l, h1, h2, h3 => by
  by_cases hlt : tk < q.length
  ·by_cases hl : l.length < 4096
   ·obtain ⟨n, e1, e2, e3, e4⟩ := tickG_full q B hall f (tk + 1) (l ++ [q[tk].f1]) (by omega) (by omega) (by rw [List.length_append]; simp; omega)
    have hc : l ++ takenL q tk (n + 1) = l ++ [q[tk].f1] ++ takenL q (tk + 1) n := by rw [takenL_cons q tk n hlt]; simp
    refine ⟨n + 1, ?_, by omega, by rw [hc]; exact e3, ?_⟩
    ·rw [tickG_go hlt hl (hall _ (List.getElem_mem hlt)), e1, hc, show tk + 1 + n = tk + (n + 1) by omega]
    ·rw [hc]
     rcases e4 with e4 | e4
     ·exact .inl e4
     ·exact .inr (by omega)
   ·refine ⟨0, ?_, by omega, by simpa [takenL] using h3, .inl (by simp [takenL]; omega)⟩
    rw [tickG_stop hlt (fun h => hl h.1)]
    simp [takenL]
  ·refine ⟨0, ?_, by omega, by simpa [takenL] using h3, .inr (by omega)⟩
   rw [tickG, dif_neg hlt]
   simp [takenL]
structure OpenI (x : Box) (block : Int) (m : List Int) (y : Box) : Prop where
 q : y.q = x.q ++ [⟨block, m⟩]
 may : mayI y.q y.tk y.l = true
 pre : ∃ more, y.l = x.l ++ more
 has : (x.q.length : Int) < y.tk → m ∈ y.l
 qb : ∀ d ∈ y.q, K.Byt d.f1
 lb : ∀ z ∈ y.l, K.Byt z
theorem takenL_byt {q : List SQ} {tk n : Nat} (h : ∀ d ∈ q, K.Byt d.f1) : ∀ m ∈ takenL q tk n, K.Byt m := fun m hm => by
 unfold takenL at hm
 obtain ⟨d, hd, rfl⟩ := List.mem_map.1 hm
 exact h d (List.mem_of_mem_drop (List.mem_of_mem_take hd))
theorem postI_q (y : Box) (b : List Int) (h0 : (postI y b).2 = 0) : (postI y b).1.q = y.q := by
 unfold postI at h0 ⊢
 split
 ·split
  ·split
   ·split
    ·rfl
    ·rename_i h1 h2 h3 h4; rw [if_pos h1, if_pos h2, if_pos h3, if_neg h4] at h0; cases h0
   ·rename_i h1 h2 h3; rw [if_pos h1, if_pos h2, if_neg h3] at h0; cases h0
  ·rename_i h1 h2; rw [if_pos h1, if_neg h2] at h0; exact absurd h0 h2
 ·rename_i h1; rw [if_neg h1] at h0; cases h0
theorem OpenI.post {x : Box} {block : Int} {m : List Int} {y : Box} (h : OpenI x block m y) (b : List Int) (hb : K.Byt b) (h0 : (postI y b).2 = 0) : OpenI x block m (postI y b).1 := by
 obtain ⟨q, tk, l, nx⟩ := y
 obtain ⟨h1, h2, ⟨more, h3⟩, h4, h5, h6⟩ := h
 dsimp only at h1 h2 h3 h4 h5 h6
 have hok := batchP_ok b hb
 have hsh := batchP_short b hb
 unfold postI at h0 ⊢
 dsimp only at h0 ⊢
 rw [if_pos h2] at h0 ⊢
 generalize batchP b = bt at *
 obtain ⟨⟨n, t, ms⟩, e⟩ := bt
 dsimp only at h0 hok hsh ⊢
 by_cases he : e = 0
 case neg => rw [if_neg he] at h0; exact absurd h0 he
 rw [if_pos he] at h0 ⊢
 by_cases hn : n = nx ∧ t ≤ (q.length : Int) - tk
 case neg => rw [if_neg hn] at h0; cases h0
 rw [if_pos hn] at h0 ⊢
 by_cases hl : (l ++ takenL q tk.toNat t.toNat ++ ms.filter fun m => !depB m).length ≤ 4096
 case neg => rw [if_neg hl] at h0; cases h0
 rw [if_pos hl]
 obtain ⟨m1, m2, m3, m4, m5, m6⟩ := mayI_iff.1 h2
 refine ⟨h1, mayI_iff.2 ⟨m1, hl, by show 0 ≤ tk + t; omega, by show tk + t ≤ (q.length : Int); omega, m5, fun z hz => ?_⟩, ⟨more ++ takenL q tk.toNat t.toNat ++ ms.filter fun m => !depB m, by rw [h3]; simp⟩, fun hlt => ?_, h5, fun z hz => ?_⟩
 ·rcases List.mem_append.1 hz with hz | hz
  ·rcases List.mem_append.1 hz with hz | hz
   ·exact m6 z hz
   ·exact takenL_short (fun d hd => (riseP_all q 0 m5 d hd).2) z hz
  ·exact hsh z (List.mem_filter.1 hz).1
 ·dsimp only at hlt ⊢
  by_cases hlt2 : (x.q.length : Int) < tk
  ·exact List.mem_append_left _ (List.mem_append_left _ (h4 hlt2))
  ·have hi : x.q.length < q.length := by rw [h1]; simp
   have hm : q[x.q.length].f1 = m := by subst h1; simp
   have := takenL_mem q t.toNat tk.toNat x.q.length hi (by omega) (by omega)
   rw [hm] at this
   exact List.mem_append_left _ (List.mem_append_right _ this)
 ·rcases List.mem_append.1 hz with hz | hz
  ·rcases List.mem_append.1 hz with hz | hz
   ·exact h6 z hz
   ·exact takenL_byt h5 z hz
  ·exact hok.2.1 z (List.mem_filter.1 hz).1
theorem OpenI.posts {x : Box} {block : Int} {m : List Int} : ∀ (l : List (List Int)) (y : Box), OpenI x block m y → (∀ b ∈ l, K.Byt b) → OpenI x block m (postsI y l)
 | [], y, h, _ => h
 | b :: l, y, h, hb => by
  unfold postsI
  split
  ·rename_i h0
   exact OpenI.posts l _ (h.post b (hb b (by simp)) h0) (fun c hc => hb c (by simp [hc]))
  ·exact OpenI.posts l _ h (fun c hc => hb c (by simp [hc]))
theorem enq_open (x : Box) (block : Int) (m : List Int) (hx : BytB x) (hmb : K.Byt m) (h : (enqI x block m).2 = 0) : OpenI x block m (enqI x block m).1 ∧ 0 ≤ block := by
 obtain ⟨q, tk, l, nx⟩ := x
 unfold enqI at h ⊢
 dsimp only at h ⊢
 by_cases hc : (sinceI q tk l block && decide (m.length ≤ 65536) && !depB m) = true
 case neg => rw [if_neg hc] at h; cases h
 rw [if_pos hc] at h ⊢
 rw [Bool.and_eq_true, Bool.and_eq_true, decide_eq_true_eq] at hc
 unfold queueI at h ⊢
 dsimp only at h ⊢
 by_cases hl : q.length < 4096
 case neg => rw [if_neg hl] at h; cases h
 rw [if_pos hl]
 have hs := hc.1.1
 unfold sinceI at hs
 rw [Bool.and_eq_true, Bool.and_eq_true, decide_eq_true_eq, Bool.or_eq_true, decide_eq_true_eq, decide_eq_true_eq] at hs
 obtain ⟨m1, m2, m3, m4, m5, m6⟩ := mayI_iff.1 hs.1.1
 refine ⟨⟨rfl, mayI_iff.2 ⟨by simp; omega, m2, m3, by simp; omega, ?_, m6⟩, ⟨[], by simp⟩, fun hlt => ?_, fun d hd => ?_, fun z hz => hx.2 z hz⟩, hs.1.2⟩
 ·refine riseP_snoc q 0 ⟨block, m⟩ m5 (fun _ => hs.1.2) (fun z hz => ?_) hc.1.2
  rcases hs.2 with h0 | h0
  ·rw [List.length_eq_zero_iff.1 h0] at hz; cases hz
  ·have hne : q ≠ [] := fun e => by rw [e] at hz; cases hz
   have hp : 0 < q.length := List.length_pos_iff.2 hne
   have : lastB q = z.f0 := by
    unfold lastB
    rw [show ((q.length : Int) - 1) = ((q.length - 1 : Nat) : Int) by omega, rdQ q _ (by omega)]
    rw [List.getLast?_eq_getElem?, List.getElem?_eq_getElem (by omega)] at hz
    injection hz with hz
    rw [hz]
   show z.f0 ≤ block
   omega
 ·dsimp only at hlt
  omega
 ·rcases List.mem_append.1 hd with hd | hd
  ·exact hx.1 d hd
  ·rw [List.mem_singleton.1 hd]; exact hmb
theorem enq_err (x : Box) (block : Int) (m : List Int) (hb : x.q.length = 0 ∨ lastB x.q ≤ block) (h : (enqI x block m).2 ≠ 0) : mayI x.q x.tk x.l = false ∨ depB m = true ∨ 65536 < m.length ∨ x.q.length = 4096 ∨ block < 0 := by
 obtain ⟨q, tk, l, nx⟩ := x
 dsimp only at hb ⊢
 cases hm : mayI q tk l with
 | false => exact .inl rfl
 | true =>
  by_cases h1 : depB m = true
  ·exact .inr (.inl h1)
  by_cases h2 : m.length ≤ 65536
  ·by_cases h3 : 0 ≤ block
   ·right; right; right; left
    have hl := (mayI_len hm).1
    by_cases h4 : q.length < 4096
    ·exfalso
     apply h
     have hs : sinceI q tk l block = true := by
      unfold sinceI
      rw [hm, decide_eq_true h3]
      simpa using hb
     unfold enqI
     rw [if_pos (by rw [hs, decide_eq_true h2]; simpa using h1)]
     unfold queueI
     rw [if_pos h4]
    ·omega
   ·exact .inr (.inr (.inr (.inr (by omega))))
  ·exact .inr (.inr (.inl (by omega)))
theorem open_run (x : Box) (block : Int) (m : List Int) (l : List (List Int)) (hx : BytB x) (hmb : K.Byt m) (hl : ∀ b ∈ l, K.Byt b) (h : (enqI x block m).2 = 0) :
 0 ≤ block ∧ (enqI x block m).1.q = x.q ++ [⟨block, m⟩] ∧ ∃ z, tickI (postsI (enqI x block m).1 l) (block + 8) = (z, 0) ∧ mayI z.q z.tk z.l = true ∧ (∃ more, z.l = x.l ++ more) ∧ (z.l.length = 4096 ∨ ((x.q.length + 1 : Nat) : Int) ≤ z.tk ∧ m ∈ z.l) ∧ ∀ c ∈ z.l, K.Byt c := by
 obtain ⟨ho, hb⟩ := enq_open x block m hx hmb h
 refine ⟨hb, ho.q, ?_⟩
 have hp := ho.posts l _ hl
 generalize postsI (enqI x block m).1 l = y at *
 obtain ⟨q, tk, ll, nx⟩ := y
 obtain ⟨h1, h2, ⟨more, h3⟩, h4, h5, h6⟩ := hp
 dsimp only at h1 h2 h3 h4 h5 h6
 obtain ⟨m1, m2, m3, m4, m5, m6⟩ := mayI_iff.1 h2
 have hall : ∀ e ∈ q, e.f0 + 8 ≤ block + 8 := fun e he => by
  have := riseP_le x.q 0 ⟨block, m⟩ (h1 ▸ m5) e (h1 ▸ he)
  dsimp only at this
  omega
 obtain ⟨n, e1, e2, e3, e4⟩ := tickG_full q (block + 8) hall (q.length - tk.toNat) tk.toNat ll (by omega) (by omega) m2
 have hql : q.length = x.q.length + 1 := by rw [h1]; simp
 refine ⟨⟨q, ((tk.toNat + n : Nat) : Int), ll ++ takenL q tk.toNat n, nx⟩, ?_, mayI_iff.2 ⟨m1, e3, by show (0 : Int) ≤ ((tk.toNat + n : Nat) : Int); omega, by show ((tk.toNat + n : Nat) : Int) ≤ (q.length : Int); omega, m5, fun z hz => ?_⟩, ⟨more ++ takenL q tk.toNat n, by rw [h3]; simp⟩, ?_, fun c hc => ?_⟩
 ·unfold tickI
  dsimp only
  rw [if_pos (by rw [h2, decide_eq_true (by omega)]; rfl), e1]
 ·rcases List.mem_append.1 hz with hz | hz
  ·exact m6 z hz
  ·exact takenL_short (fun d hd => (riseP_all q 0 m5 d hd).2) z hz
 ·rcases e4 with e4 | e4
  ·exact .inl e4
  ·right
   refine ⟨by dsimp only; omega, ?_⟩
   by_cases hlt : (x.q.length : Int) < tk
   ·exact List.mem_append_left _ (h4 hlt)
   ·have hi : x.q.length < q.length := by omega
    have hm : q[x.q.length].f1 = m := by subst h1; simp
    have := takenL_mem q n tk.toNat x.q.length hi (by omega) (by omega)
    rw [hm] at this
    exact List.mem_append_right _ this
 ·rcases List.mem_append.1 hc with hc | hc
  ·exact h6 c hc
  ·exact takenL_byt h5 c hc
theorem eqB_rfl (d : List Int) : eqB d d = true := by simp [eqB]
theorem has_ev (l : List (List Int)) (m : List Int) (hl : l.length ≤ 1000000000) (ha : ∀ c ∈ l, K.Byt c) (hb : K.Byt m) (hm : m ∈ l) : ∀ k, l.length + 1 ≤ k → PRF.proctorlaw20_has.f k l m = some true := by
 intro k hk
 unfold PRF.proctorlaw20_has.f
 have key : ∀ (d i : Nat), i + d = l.length → m ∈ l.drop i → ∀ k, d + 1 ≤ k → PRF.proctorlaw20_has.l0 k l m (i : Int) = some true := by
  intro d
  induction d with
  | zero => intro i h hmi; rw [List.drop_of_length_le (by omega)] at hmi; cases hmi
  | succ d ih =>
   intro i h hmi k hk
   obtain ⟨k, rfl⟩ : ∃ k', k = k' + 1 := ⟨k - 1, by omega⟩
   have hi : i < l.length := by omega
   rw [PRF.proctorlaw20_has.l0, if_pos (by omega), if_pos (by omega), rdL l i hi, K.same01_f _ _ (ha _ (List.getElem_mem hi)) hb, Option.bind_some]
   by_cases he : l[i] = m
   ·rw [decide_eq_true he, if_pos rfl]
   ·rw [decide_eq_false he, if_neg (by decide), w1_ i (by omega)]
    rw [List.drop_eq_getElem_cons hi] at hmi
    rcases List.mem_cons.1 hmi with h1 | h1
    ·exact absurd h1.symm he
    ·exact ih (i + 1) (by omega) h1 k (by omega)
 exact key l.length 0 (by omega) (by simpa using hm) k hk
end Go.Proofs.Ytocphkfkdadhaaa.H

namespace Go.Proofs.Ytocphkfkdadhaaa.H
open Go.RowKit Go.Proofs.YtocphkfkdadhaaaW.PrintWords Go.Proofs.YtocphkfkdadhaaaW.PrintLast Go.Proofs.YtocphkfkdadhaaaW.PrintMore
open Go.ChangeShapes Go.WideShapes Go.ChangeAt
set_option linter.unusedVariables false
set_option linter.unusedSimpArgs false
def Lt (ns : List Nat) : Prop := ∀ n ∈ ns, n ≤ 140737488351232
def OpensZ {α : Type} (T : TypeId) (d : Kd α) (ok : α → Prop) : Prop :=
 ∀ {H : Type} {enc : TypeId × Value → H} {W : World} {fuel : Nat} {cs : List Value} {x : DataW H × List MemPlace}, DataW.trod enc Try.prog W 0 (fun _ => true) true fuel T cs = some x → Lt (x.1.weights Try.prog T) → ∃ y, d.K W y cs ∧ ok y
theorem OpensZ.of {α : Type} {T : TypeId} {d : Kd α} {ok : α → Prop} (h : Opens T d ok) : OpensZ T d ok := fun hx _ => h hx
theorem weights_mem_all {H : Type} {P : Program} {e : TypeId} : ∀ {es : List (DataW H)} {i : Nat} {d : DataW H}, es[i]? = some d → ∀ n ∈ d.weights P e, n ∈ DataW.weightsAll P e es
 | [], i, d, h, _, _ => by simp at h
 | x :: es, 0, d, h, n, hn => by
  simp only [List.getElem?_cons_zero, Option.some.injEq] at h
  subst h
  simp only [DataW.weightsAll, List.mem_append]
  exact Or.inl hn
 | x :: es, i + 1, d, h, n, hn => by
  simp only [List.getElem?_cons_succ] at h
  simp only [DataW.weightsAll, List.mem_append]
  exact Or.inr (weights_mem_all h n hn)
theorem opensZ_slice {α : Type} {T e : TypeId} {d : Kd α} {ok : α → Prop} (hT : Try.prog.underlying T = some (.slice e)) (hs : Try.prog.cellsOf e = d.sz) (he : OpensZ e d ok) :
 OpensZ T (Kd.slice e d) (fun l => (∀ y ∈ l, ok y) ∧ l.length * Try.prog.bytesOf e ≤ 140737488351232) := by
 intro H enc W fuel cs x h hw
 rcases DataW.trod_slice hT h with ⟨hc2, hx⟩ | ⟨a, len, cap, elems, rest, m, hm, hc2, hx, _, hlc, hcm, hle, hel, _, _⟩
 ·exact ⟨[], ⟨none, 0, hc2, Nat.le_refl _, Kd.C_nil _ _⟩, by simp, by simp⟩
 ·rw [hs] at hel
  have hwx : x.1.weights Try.prog T = (((elems.map (·.1)).length + (rest.map (·.1)).length) * Try.prog.bytesOf e) :: (DataW.weightsAll Try.prog e (elems.map (·.1)) ++ DataW.weightsAll Try.prog e (rest.map (·.1))) := by
   rw [hx]
   simp only [DataW.weights, hT]
  rw [hwx] at hw
  have each : ∀ i, i < len → ∃ y : α, (∃ c, c.length = d.sz ∧ d.K W y c ∧ ∀ j u, c[j]? = some u → W.cell? (a.add (i * d.sz + j)) = some u) ∧ ok y := by
   intro i hi
   have h3 := hel i hi
   rw [List.getElem?_eq_getElem (by omega), Option.bind_eq_some_iff] at h3
   obtain ⟨c, hc, ht⟩ := h3
   obtain ⟨y, hK, hBy⟩ := he ht (fun n hn => hw n (List.mem_cons_of_mem _ (List.mem_append_left _ (weights_mem_all (i := i) (by rw [List.getElem?_map, List.getElem?_eq_getElem (by omega)]; rfl) n hn))))
   obtain ⟨_, hcl, hcc⟩ := World.cells?_some hc
   refine ⟨y, ⟨c, hcl, hK, fun j u hj => ?_⟩, hBy⟩
   have hj3 : j < d.sz := by have := (List.getElem?_eq_some_iff.1 hj).1; omega
   rw [← hj, ← hcc j hj3, Addr.add_add]
  obtain ⟨ys, hyl, hys⟩ := choose_list _ len each
  subst hyl
  refine ⟨ys, ⟨some a, cap, hc2, hlc, rfl, ?_, fun _ => ⟨a, rfl, fun j p hj => (hys j p hj).1⟩⟩, ?_, ?_⟩
  ·have : maxLen ≤ 9223372036854775807 := by decide
   show ys.length ≤ 9223372036854775807
   omega
  ·intro y hy
   obtain ⟨i, hi⟩ := List.getElem?_of_mem hy
   exact (hys i y hi).2
  ·have h1 := hw _ (List.mem_cons_self)
   rw [List.length_map, hle] at h1
   exact Nat.le_trans (Nat.mul_le_mul_right _ (Nat.le_add_right _ _)) h1
def ManyZ {α : Type} (ts : List TypeId) (d : Kd α) (ok : α → Prop) : Prop :=
 ∀ {H : Type} {enc : TypeId × Value → H} {W : World} {n : Nat} {cs : List Value}, cs.length = d.sz → (∀ i t, ts[i]? = some t → ∃ x : DataW H × List MemPlace, DataW.trod enc Try.prog W 0 (fun _ => true) true n t ((cs.drop (offs ts i)).take (Try.prog.cellsOf t)) = some x ∧ Lt (x.1.weights Try.prog t)) → ∃ y, d.K W y cs ∧ ok y
theorem manyZ_one {α : Type} {T : TypeId} {d : Kd α} {ok : α → Prop} (h : OpensZ T d ok) (hs : Try.prog.cellsOf T = d.sz) : ManyZ [T] d ok := by
 intro H enc W n cs hl hf
 obtain ⟨x, hx, hw⟩ := hf 0 T rfl
 rw [show offs [T] 0 = 0 from rfl, List.drop_zero, List.take_of_length_le (by omega)] at hx
 exact h hx hw
theorem manyZ_cons {α β : Type} {T : TypeId} {ts : List TypeId} {a : Kd α} {b : Kd β} {ok1 : α → Prop} {ok2 : β → Prop} (h : OpensZ T a ok1) (hs : Try.prog.cellsOf T = a.sz) (hm : ManyZ ts b ok2) : ManyZ (T :: ts) (Kd.pair a b) (fun y => ok1 y.1 ∧ ok2 y.2) := by
 intro H enc W n cs hl hf
 have hl' : cs.length = a.sz + b.sz := hl
 obtain ⟨x, hx, hw⟩ := hf 0 T rfl
 rw [show offs (T :: ts) 0 = 0 from rfl, List.drop_zero, hs] at hx
 obtain ⟨y1, hK1, ho1⟩ := h hx hw
 obtain ⟨y2, hK2, ho2⟩ := hm (cs := cs.drop a.sz) (by rw [List.length_drop]; omega) (fun i t ht => by
  obtain ⟨x, hx, hw⟩ := hf (i + 1) t (by simpa using ht)
  refine ⟨x, ?_, hw⟩
  rw [show offs (T :: ts) (i + 1) = Try.prog.cellsOf T + offs ts i from rfl, hs, ← List.drop_drop] at hx
  exact hx)
 exact ⟨(y1, y2), ⟨cs.take a.sz, cs.drop a.sz, (List.take_append_drop _ _).symm, hK1, hK2⟩, ho1, ho2⟩
theorem opensZ_struct {α : Type} {T : TypeId} {fs : Array Field} {ts : List TypeId} {d : Kd α} {ok : α → Prop} (hT : Try.prog.underlying T = some (.struct fs)) (hm : ManyZ ts d ok) (hsz : Try.prog.cellsOf T = d.sz)
 (hts : (List.range ts.length).map (fun i => (fs[i]?).map fun f => (f.type, f.offset)) = (List.range ts.length).map (fun i => (ts[i]?).map fun t => (t, offs ts i))) : OpensZ T d ok := by
 intro H enc W fuel cs x h hw
 obtain ⟨xs, n, hfu, hx, hl, hlen, hf⟩ := DataW.trod_struct hT h
 have hwx : x.1.weights Try.prog T = DataW.weightsEach Try.prog (fs.toList.map (·.type)) (xs.map (·.1)) := by
  rw [hx]
  simp only [DataW.weights, hT]
 rw [hwx] at hw
 refine hm (H := H) (enc := enc) (W := W) (n := n) (by rw [hl, hsz]) (fun i t ht => ?_)
 have hi := (List.getElem?_eq_some_iff.1 ht).1
 have h1 := congrArg (fun l => l[i]?) hts
 simp only [List.getElem?_map, List.getElem?_range hi, Option.map_some, ht] at h1
 have h2 := Option.some.inj h1
 obtain ⟨f, hfe, hfo⟩ := Option.map_eq_some_iff.1 h2
 simp only [Prod.mk.injEq] at hfo
 have h3 := hf i f hfe
 have hfi : i < fs.size := (Array.getElem?_eq_some_iff.1 hfe).1
 rw [List.getElem?_eq_getElem (by omega)] at h3
 rw [hfo.1, hfo.2] at h3
 refine ⟨_, h3, fun m hm' => hw m (DataW.weights_mem_each (j := i) (t := t) (d := (xs[i]'(by omega)).1) ?_ ?_ m hm')⟩
 ·rw [List.getElem?_map, Array.getElem?_toList, hfe, Option.map_some, hfo.1]
 ·rw [List.getElem?_map, List.getElem?_eq_getElem (by omega)]; rfl
set_option maxRecDepth 100000 in
theorem open_aggZ {α : Type} {T : TypeId} {fs : Array Field} {d : Kd α} {ok : α → Prop} (hT : Try.prog.underlying T = some (.struct fs)) (ho : OpensZ T d ok) {H : Type} {enc : TypeId × Value → H} {W : World} {r : Reach} {b0 : Nat} {v : Value} {x : DataW H} {p : List MemPlace}
 (hv : Value.okWide Try.prog W r b0 T v) (h : DataW.Trod enc Try.prog W 0 (fun _ => true) true T v x p) {ts : List TypeId} {ds : List (DataW H)} {j : Nat} (hsz : (DataW.weightsEach Try.prog ts ds).all (· ≤ reachBytes) = true) (ht : ts[j]? = some T) (hd : ds[j]? = some x) :
 ∃ (cs : Array Value) (y : α), v = .agg cs ∧ d.K W y cs.toList ∧ ok y := by
 obtain ⟨cs, rfl, hsz2⟩ := okWide_struct hT hv
 obtain ⟨fuel, hf⟩ := h
 obtain ⟨y, hK, hB⟩ := ho hf (fun n hn => by
  have := List.all_eq_true.1 hsz n (DataW.weights_mem_each ht hd n hn)
  have h6 : reachBytes = 140737488351232 := rfl
  rw [h6] at this
  simpa using this)
 exact ⟨cs, y, rfl, hK, hB⟩
end Go.Proofs.Ytocphkfkdadhaaa.H

namespace Go.Proofs.Ytocphkfkdadhaaa.H
open Go.RowKit Go.Proofs.YtocphkfkdadhaaaW.PrintWords Go.Proofs.YtocphkfkdadhaaaW.PrintLast Go.Proofs.YtocphkfkdadhaaaW.PrintMore
set_option linter.unusedVariables false
set_option linter.unusedSimpArgs false
theorem C_map {α β : Type} {d : Kd α} {d' : Kd β} {f : α → β} {w : World} {A : Option Addr} {n : Nat} {xs : List α} (hs : d.sz = d'.sz) (hK : ∀ x cs, d.K w x cs → d'.K w (f x) cs) (h : Kd.C d w A n xs) : Kd.C d' w A n (xs.map f) := by
 obtain ⟨h1, h2, h3⟩ := h
 refine ⟨by rw [List.length_map]; exact h1, h2, fun hp => ?_⟩
 obtain ⟨ad, e, hc⟩ := h3 hp
 refine ⟨ad, e, fun j p hj => ?_⟩
 rw [List.getElem?_map] at hj
 obtain ⟨x, hx, rfl⟩ := Option.map_eq_some_iff.1 hj
 obtain ⟨c, k1, k2, k3⟩ := hc j x hx
 exact ⟨c, by rw [← hs]; exact k1, hK _ _ k2, by rw [← hs]; exact k3⟩
theorem oz_u8 : OpensZ 5 kB (fun n => (Lit.int .u8 n).wf = true) := OpensZ.of (opens_int Try.underlying5)
theorem oz_u64 : OpensZ 23 (Kd.int .u64) (fun n => (Lit.int .u64 n).wf = true) := OpensZ.of (opens_int Try.underlying23)
theorem oz_int : OpensZ 3 (Kd.int .i64) (fun n => (Lit.int .i64 n).wf = true) := OpensZ.of (opens_int Try.underlying3)
def OkM (m : List Int) : Prop := (∀ y ∈ m, (Lit.int .u8 y).wf = true) ∧ m.length * 1 ≤ 140737488351232
theorem oz_bytes : OpensZ 74 (Kd.slice 5 kB) OkM := by
 intro H enc W fuel cs x hx hw
 obtain ⟨y, hK, h1, h2⟩ := opensZ_slice (T := 74) Try.underlying74 (by kernel_rfl) oz_u8 hx hw
 rw [show Try.prog.bytesOf _ = 1 from by kernel_rfl] at h2
 exact ⟨y, hK, h1, h2⟩
def OkL (l : List (List Int)) : Prop := (∀ m ∈ l, OkM m) ∧ l.length * 24 ≤ 140737488351232
theorem oz_list : OpensZ 71 (Kd.slice 74 (Kd.slice 5 kB)) OkL := by
 intro H enc W fuel cs x hx hw
 obtain ⟨y, hK, h1, h2⟩ := opensZ_slice (T := 71) Try.underlying71 (by kernel_rfl) oz_bytes hx hw
 rw [show Try.prog.bytesOf _ = 24 from by kernel_rfl] at h2
 exact ⟨y, hK, h1, h2⟩
abbrev kDl : Kd (Int × List Int) := Kd.pair (Kd.int .i64) (Kd.slice 5 kB)
theorem oz_delayed : OpensZ 78 kDl (fun y => (Lit.int .i64 y.1).wf = true ∧ OkM y.2) :=
 @fun H enc W fuel cs x hx hw => opensZ_struct Try.underlying78 (manyZ_cons oz_int (by kernel_rfl) (manyZ_one oz_bytes (by kernel_rfl))) (by kernel_rfl) (by kernel_rfl) hx hw
def OkQ (l : List (Int × List Int)) : Prop := (∀ y ∈ l, (Lit.int .i64 y.1).wf = true ∧ OkM y.2) ∧ l.length * 32 ≤ 140737488351232
theorem oz_queue : OpensZ 70 (Kd.slice 78 kDl) OkQ := by
 intro H enc W fuel cs x hx hw
 obtain ⟨y, hK, h1, h2⟩ := opensZ_slice (T := 70) Try.underlying70 (by kernel_rfl) oz_delayed hx hw
 rw [show Try.prog.bytesOf _ = 32 from by kernel_rfl] at h2
 exact ⟨y, hK, h1, h2⟩
abbrev kInb : Kd (List (Int × List Int) × Int × List (List Int) × Int) := Kd.pair (Kd.slice 78 kDl) (Kd.pair (Kd.int .i64) (Kd.pair (Kd.slice 74 (Kd.slice 5 kB)) (Kd.int .u64)))
def OkInb (y : List (Int × List Int) × Int × List (List Int) × Int) : Prop := OkQ y.1 ∧ (Lit.int .i64 y.2.1).wf = true ∧ OkL y.2.2.1 ∧ (Lit.int .u64 y.2.2.2).wf = true
theorem oz_inbox : OpensZ 73 kInb OkInb :=
 @fun H enc W fuel cs x hx hw => opensZ_struct Try.underlying73 (manyZ_cons oz_queue (by kernel_rfl) (manyZ_cons oz_int (by kernel_rfl) (manyZ_cons oz_list (by kernel_rfl) (manyZ_one oz_u64 (by kernel_rfl))))) (by kernel_rfl) (by kernel_rfl) hx hw
theorem OkM.byt {m : List Int} (h : OkM m) : ∀ z ∈ m, 0 ≤ z ∧ z ≤ 255 := fun z hz => by
 have := h.1 z hz
 simp [Lit.wf, IntKind.min, IntKind.max, IntKind.signed, IntKind.bits] at this
 omega
def boxOf (y : List (Int × List Int) × Int × List (List Int) × Int) : Box := ⟨y.1.map fun p => ⟨p.1, p.2⟩, y.2.1, y.2.2.1, y.2.2.2⟩
theorem kInb_open {w : World} {cs : Array Value} {y : List (Int × List Int) × Int × List (List Int) × Int} (h : kInb.K w y cs.toList) :
 ∃ A1 c1 A2 c2, cs = #[.slice A1 (boxOf y).q.length c1, .int .i64 (boxOf y).tk, .slice A2 (boxOf y).l.length c2, .int .u64 (boxOf y).nx] ∧ (boxOf y).q.length ≤ c1 ∧ (boxOf y).l.length ≤ c2 ∧ Kd.C kQ w A1 (boxOf y).q.length (boxOf y).q ∧ Kd.C kL w A2 (boxOf y).l.length (boxOf y).l := by
 obtain ⟨a1, r1, e1, ⟨A1, c1, rfl, g1, k1⟩, a2, r2, rfl, h2, a3, a4, rfl, ⟨A2, c2, rfl, g2, k2⟩, h4⟩ := h
 have h2 : a2 = [.int .i64 y.2.1] := h2
 have h4 : a4 = [.int .u64 y.2.2.2] := h4
 subst h2 h4
 refine ⟨A1, c1, A2, c2, ?_, by simpa [boxOf] using g1, g2, ?_, k2⟩
 ·apply Array.toList_inj.1
  rw [e1]
  simp [boxOf]
 ·have hm := C_map (d := kDl) (d' := kQ) (f := fun p : Int × List Int => (⟨p.1, p.2⟩ : SQ)) rfl (fun x cs hx => by
   obtain ⟨u1, u2, rfl, hu1, A, c, rfl, hc, hC⟩ := hx
   have hu1 : u1 = [.int .i64 x.1] := hu1
   subst hu1
   exact PRF.k78_mk w ⟨x.1, x.2⟩ hc hC) k1
  rw [show (boxOf y).q.length = y.1.length by simp [boxOf]]
  exact hm
theorem OkInb.byt {y : List (Int × List Int) × Int × List (List Int) × Int} (h : OkInb y) : BytB (boxOf y) := by
 refine ⟨fun d hd => ?_, fun m hm => (h.2.2.1.1 m hm).byt⟩
 obtain ⟨p, hp, rfl⟩ := List.mem_map.1 hd
 exact (h.1.1 p hp).2.byt
end Go.Proofs.Ytocphkfkdadhaaa.H

