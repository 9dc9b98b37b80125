import Derived.Test.YtocphkfkdadhaaaYPk0
import Derived.Test.YtocphkfkdadhaaaProg
import Derived.Below
import Derived.Deep.Draws
import Derived.Deep.AppendLies
import Derived.Maps.AppendAt
import Derived.OwnWalk
import Derived.Laws.BytesArg
import Derived.Laws.MakeOwn
import Derived.Laws.OwnMore
import Derived.Deep.OwnRows
import Derived.Tactics
import Derived.Lib.ConvBytes
import Derived.Laws.Slices
import Derived.WalkKit
import Derived.RowKit3
import Derived.Deep.LoopGhost
import Derived.Deep.QuietTactic
import Derived.BigQuiet
import Derived.WideLaws
import Derived.Deep.DeepCutAuto
import Derived.Deep.CutBlock
import Derived.Deep.RegionHeld3
import Derived.Laws.Rows
import Derived.Lib.AppendStr
import Derived.ArgAppend
import Derived.Laws.IdiomCopy
import Derived.OrdersHeld
import Derived.Laws.BitsLemmas
import Derived.RowKit
import Derived.Test.YtocphkfkdadhaaaYPk1
import Derived.Laws.StructEq
import Derived.KernelRfl
import Derived.WalkSpells
import Derived.WalkLawsBesides
import Derived.Handy
namespace Go.Proofs.YtocphkfkdadhaaaW.PrintWords
theorem Reps.front {α : Type} {R : α → List Value → Prop} {size : Nat} {ps : List α} {cs c all : List Value} {p : α} (hp : R p c) (hc : c.length = size) (h : Reps R size ps cs) (ha : c ++ cs = all) : Reps R size (p :: ps) all := by
 subst ha
 refine ⟨by rw [List.length_append, hc, h.1, List.length_cons, Nat.succ_mul, Nat.add_comm], fun j q hq => ?_⟩
 cases j with
 | zero =>
  simp only [List.getElem?_cons_zero, Option.some.injEq] at hq
  subst hq
  rw [Nat.zero_mul, List.drop_zero, List.take_append_of_le_length (by omega), List.take_of_length_le (by omega)]
  exact hp
 | succ j =>
  simp only [List.getElem?_cons_succ] at hq
  have h1 := h.2 j q hq
  rw [Nat.succ_mul, List.drop_append, List.drop_of_length_le (by rw [hc]; exact Nat.le_add_left _ _), List.nil_append, hc, Nat.add_sub_cancel]
  exact h1
theorem Reps.c2 {α : Type} {R : α → List Value → Prop} {ps : List α} {cs : List Value} {p : α} {va vb : Value} (hp : R p [va, vb]) (h : Reps R 2 ps cs) : Reps R 2 (p :: ps) (va :: vb :: cs) := Reps.front hp rfl h rfl
theorem Reps.c3 {α : Type} {R : α → List Value → Prop} {ps : List α} {cs : List Value} {p : α} {va vb vc : Value} (hp : R p [va, vb, vc]) (h : Reps R 3 ps cs) : Reps R 3 (p :: ps) (va :: vb :: vc :: cs) := Reps.front hp rfl h rfl
theorem Reps.c4 {α : Type} {R : α → List Value → Prop} {ps : List α} {cs : List Value} {p : α} {va vb vc vd : Value} (hp : R p [va, vb, vc, vd]) (h : Reps R 4 ps cs) : Reps R 4 (p :: ps) (va :: vb :: vc :: vd :: cs) := Reps.front hp rfl h rfl
theorem Reps.c5 {α : Type} {R : α → List Value → Prop} {ps : List α} {cs : List Value} {p : α} {va vb vc vd ve : Value} (hp : R p [va, vb, vc, vd, ve]) (h : Reps R 5 ps cs) : Reps R 5 (p :: ps) (va :: vb :: vc :: vd :: ve :: cs) := Reps.front hp rfl h rfl
theorem Reps.c6 {α : Type} {R : α → List Value → Prop} {ps : List α} {cs : List Value} {p : α} {va vb vc vd ve vf : Value} (hp : R p [va, vb, vc, vd, ve, vf]) (h : Reps R 6 ps cs) : Reps R 6 (p :: ps) (va :: vb :: vc :: vd :: ve :: vf :: cs) := Reps.front hp rfl h rfl
theorem Reps.c7 {α : Type} {R : α → List Value → Prop} {ps : List α} {cs : List Value} {p : α} {va vb vc vd ve vf vg : Value} (hp : R p [va, vb, vc, vd, ve, vf, vg]) (h : Reps R 7 ps cs) : Reps R 7 (p :: ps) (va :: vb :: vc :: vd :: ve :: vf :: vg :: cs) := Reps.front hp rfl h rfl
theorem Reps.c8 {α : Type} {R : α → List Value → Prop} {ps : List α} {cs : List Value} {p : α} {va vb vc vd ve vf vg vh : Value} (hp : R p [va, vb, vc, vd, ve, vf, vg, vh]) (h : Reps R 8 ps cs) : Reps R 8 (p :: ps) (va :: vb :: vc :: vd :: ve :: vf :: vg :: vh :: cs) := Reps.front hp rfl h rfl
theorem Reps.c9 {α : Type} {R : α → List Value → Prop} {ps : List α} {cs : List Value} {p : α} {va vb vc vd ve vf vg vh vi : Value} (hp : R p [va, vb, vc, vd, ve, vf, vg, vh, vi]) (h : Reps R 9 ps cs) : Reps R 9 (p :: ps) (va :: vb :: vc :: vd :: ve :: vf :: vg :: vh :: vi :: cs) := Reps.front hp rfl h rfl
end Go.Proofs.YtocphkfkdadhaaaW.PrintWords

namespace Go.Proofs.YtocphkfkdadhaaaW.PrintWords
open Go.RowKit
section
variable {P : Program} {ops : Array Oper} {rest : List Oper} {o : Oper} {a : Act} {Q : Exit → Act → World → Prop} {W : World}
theorem gate_guard (hw : Region.wanted o (yielded ops a.tmps) = true) (h : wpList P ops Q ({ o with guard := none } :: rest) a W) : wpList P ops Q (o :: rest) a W := by
 have h1 : Region.wanted { o with guard := none } (yielded ops a.tmps) = true := rfl
 unfold wpList at h ⊢
 rw [if_pos h1] at h
 rw [if_pos hw]
 exact h
end
end Go.Proofs.YtocphkfkdadhaaaW.PrintWords

namespace Go.Proofs.Ytocphkfkdadhaaa.PRF
open Go.RowKit Go.Proofs.YtocphkfkdadhaaaW.PrintWords Go.Proofs.YtocphkfkdadhaaaW.PrintLast Go.Proofs.YtocphkfkdadhaaaW.PrintMore
set_option linter.unusedVariables false
section
variable {p q r s t : Prop}
theorem zB (H : Aside0 q) (e : q → p := by (intro h_; repeat (first | (with_reducible first | exact h_ | apply below_alloc | apply pw_below_drewN | apply below_drew1) | exact h_))) : p := e H.out
theorem zB1 (H : Aside0 q) (G : Aside0 r) (e : q → r → p := by (intro h_ g_; repeat (first | (with_reducible first | exact h_ | apply below_alloc | apply pw_below_drewN | apply below_drew1 | refine below_set ?_ g_) | exact h_))) : p := e H.out G.out
theorem zM (e : p := by ((try simp only [List.map_toArray, List.map_cons, List.map_nil]); first | done | rfl | (simp only [List.length_drop, List.length_take]; rfl))) : p := e
theorem zA (e : p := by first | (with_reducible assumption) | assumption) : p := e
theorem zX (e : p := by first | rfl | (simp; done) | (simp [*]; done)) : p := e
theorem zE (e : p := by first | rfl | (simp [errW_none, errW_some] <;> rfl) | (simp [*, errW_none, errW_some] <;> rfl)) : p := e
theorem zY (h : p) (e : p → q := by (intro h_; repeat (first | exact h_ | (with_reducible refine Kd.C_alloc ?_ _) | (with_reducible refine Kd.C_drewN ?_ _) | (with_reducible refine Kd.C_drew ?_)))) : q := e h
theorem zb {w w1 : World} {g : Nat} {o : Obj} (H : Aside0 q) (hb : Below w.heap.size w w1) (e : q → w.heap[g]? = some o := by (intro h_; (with_reducible repeat (first | refine blk_drewN ?_ _ | refine blk_drew ?_ | refine blk_alloc ?_ _)); exact h_)) : w1.heap[g]? = some o := blk_below (e H.out) hb
theorem zG {w W : World} {g : Nat} (hg : g = W.heap.size) (H : Aside0 q) (e : q → Below w.heap.size w W := by (intro h_; repeat (first | (with_reducible first | exact h_ | apply below_alloc | apply pw_below_drewN | apply below_drew1) | exact h_))) : w.heap.size ≤ g := by rw [hg]; exact below_size (e H.out)
variable {P : Program} {ops : Array Oper} {rest : List Oper} {o : Oper} {a : Act} {Q : Exit → Act → World → Prop}
theorem zx {W : World} (N : Tmp) (cs : Array Value) (t : TypeId)
 (h : ∀ g, g = W.heap.size → ∀ w1, w1.heap[g]? = some (.cells cs t (0, 0)) → Below W.heap.size W w1 → wpList P ops Q rest (a.put o.dst (.pointer (some ⟨g, 0, none⟩))) w1) (hgd : o.guard = none := by rfl) (hd : o.dst = some N := by rfl)
 (hrun : (execOp a.eval o).run P W = .ok (.value (.pointer (some ⟨W.heap.size, 0, none⟩))) (W.alloc (.cells cs t (0, 0))) := by first | (go_simp; done) | (go_simp; rfl)) : wpList P ops Q (o :: rest) a W := box_event hgd hd hrun h
end
end Go.Proofs.Ytocphkfkdadhaaa.PRF

namespace Go.Proofs.Ytocphkfkdadhaaa.PRF
open Go.RowKit Go.Proofs.YtocphkfkdadhaaaW.PrintWords Go.Proofs.YtocphkfkdadhaaaW.PrintLast Go.Proofs.YtocphkfkdadhaaaW.PrintMore
attribute [local go_sem] max2_int min2_int max_two min_two max_three min_three max_four min_four
set_option linter.unusedVariables false
set_option linter.unusedSimpArgs false
def errW : Option Int → Value
 | none => .nilIface
 | some c => .iface 0 (.int .i64 c)
theorem errW_none : errW none = .nilIface := rfl
theorem errW_some (c : Int) : errW (some c) = .iface 0 (.int .i64 c) := rfl
theorem info5 : (Try.prog.info? 5).map (fun i => (i.zero, i.size, i.bytes)) = some (some (.int .u8 0), 1, 1) := by kernel_rfl
theorem info74 : (Try.prog.info? 74).map (fun i => (i.zero, i.size, i.bytes)) = some (some (.slice none 0 0), 1, 24) := by kernel_rfl
theorem info78 : (Try.prog.info? 78).map (fun i => (i.zero, i.size, i.bytes)) = some (some (.agg #[(.int .i64 0), (.slice none 0 0)]), 2, 32) := by kernel_rfl
theorem info159 : (Try.prog.info? 159).map (fun i => (i.zero, i.size, i.bytes)) = some (some (.agg #[(.bool false), (.slice none 0 0), (.slice none 0 0)]), 3, 56) := by kernel_rfl
def rd_L2 (xs : List (List Int)) (i : Int) : (List Int) := xs.getD i.toNat ([] : List Int)
theorem at_L2 {w : World} {A : Option Addr} {n : Nat} {xs : List (List Int)} (h : Kd.C (Kd.slice 5 (Kd.int .u8)) w A n xs) (i : Int) (h0 : 0 ≤ i) (h1 : i < n) : ∃ ad A0 c0, A = some ad ∧ w.cell? (ad.add i.toNat) = some (.slice A0 (rd_L2 xs i).length c0) ∧ (rd_L2 xs i).length ≤ c0 ∧ (Kd.int .u8).C w A0 (rd_L2 xs i).length (rd_L2 xs i) := by
 obtain ⟨ad, c, e, _, hK, hc0⟩ := Kd.C_get h ([] : List Int) i h0 h1
 have hc : ∀ j u, c[j]? = some u → w.cell? (ad.add (i.toNat * 1 + j)) = some u := hc0
 obtain ⟨A0, c0, rfl, l0, g0⟩ := hK
 exact ⟨ad, A0, c0, e, by have hq := hc 0 _ rfl; rwa [Nat.mul_one, Nat.add_zero] at hq, l0, g0⟩
structure S78 where
 f0 : Int
 f1 : (List Int)
def z78 : S78 := ⟨(0 : Int), ([] : List Int)⟩
def k78 : Kd S78 := Kd.iso (Kd.pair (Kd.int .i64) (Kd.slice 5 (Kd.int .u8))) (fun x : S78 => (x.f0, x.f1))
theorem k78_open {w : World} {x : S78} {cs : List Value} (h : k78.K w x cs) : ∃ A1 c1, cs = [.int .i64 x.f0, .slice A1 x.f1.length c1] ∧ x.f1.length ≤ c1 ∧ (Kd.int .u8).C w A1 x.f1.length x.f1 := by
 obtain ⟨_, _, rfl, rfl, ⟨A1, c1, rfl, l1, g1⟩⟩ := h
 exact ⟨A1, c1, rfl, l1, g1⟩
theorem k78_mk (w : World) (x : S78) {A1 : Option Addr} {c1 : Nat} (l1 : x.f1.length ≤ c1) (g1 : (Kd.int .u8).C w A1 x.f1.length x.f1) : k78.K w x [.int .i64 x.f0, .slice A1 x.f1.length c1] := ⟨[.int .i64 x.f0], [.slice A1 x.f1.length c1], rfl, rfl, ⟨A1, c1, rfl, l1, g1⟩⟩
theorem k78_mkM (w : World) (base : Nat) (ok : Nat → Prop) (x : S78) {v1 : Value} (g1 : (Kd.int .u8).R 5 w base ok v1 x.f1) : k78.M w base ok x [.int .i64 x.f0, v1] := ⟨[.int .i64 x.f0], [v1], rfl, rfl, ⟨v1, rfl, g1⟩⟩
def rd_T78 (xs : List S78) (i : Int) : S78 := xs.getD i.toNat z78
theorem at_T78 {w : World} {A : Option Addr} {n : Nat} {xs : List S78} (h : Kd.C k78 w A n xs) (i : Int) (h0 : 0 ≤ i) (h1 : i < n) : ∃ ad A1 c1, A = some ad ∧ w.cell? (ad.add (i.toNat * 2)) = some (.int .i64 (rd_T78 xs i).f0) ∧ w.cell? ⟨(ad.add (i.toNat * 2)).block, (ad.add (i.toNat * 2)).off + 1, none⟩ = some (.slice A1 (rd_T78 xs i).f1.length c1) ∧ (rd_T78 xs i).f1.length ≤ c1 ∧ (Kd.int .u8).C w A1 (rd_T78 xs i).f1.length (rd_T78 xs i).f1 := by
 obtain ⟨ad, c, e, _, hK, hc0⟩ := Kd.C_get h z78 i h0 h1
 have hc : ∀ j u, c[j]? = some u → w.cell? (ad.add (i.toNat * 2 + j)) = some u := hc0
 obtain ⟨A1, c1, rfl, l1, g1⟩ := k78_open hK
 exact ⟨ad, A1, c1, e, hc 0 _ rfl, by rw [← add_field _ _ 1 (by omega)]; exact hc 1 _ rfl, l1, g1⟩
structure S159 where
 f0 : Bool
 f1 : (List Int)
 f2 : (List S159)
def F159 (d : Kd S159) : Kd S159 := Kd.iso (Kd.pair Kd.bool (Kd.pair (Kd.slice 5 (Kd.int .u8)) (Kd.slice 159 d))) (fun x : S159 => (x.f0, x.f1, x.f2))
theorem mono159 : Kd.Mono F159 := Kd.mono_iso _ (Kd.mono_pair (Kd.mono_const _) (Kd.mono_pair (Kd.mono_const _) (Kd.mono_slice 159 Kd.mono_id)))
theorem sub159 : Kd.Sub F159 [5, 159] := Kd.sub_iso _ (Kd.sub_pair (Kd.sub_const _ (by decide)) (Kd.sub_pair (Kd.sub_const _ (by decide)) (Kd.sub_slice 159 (by decide) Kd.sub_id)))
theorem sz159 : ∀ n, (Kd.upto F159 3 [5, 159] n).sz = 3 := Kd.upto_sz (fun _ => rfl)
def k159 : Kd S159 := Kd.fix F159 3 [5, 159] sz159 (Kd.upto_E sub159)
theorem k159_openM {w : World} {base : Nat} {ok : Nat → Prop} {x : S159} {cs : List Value} (h : k159.M w base ok x cs) : ∃ v1 v2, cs = [.bool x.f0, v1, v2] ∧ (Kd.int .u8).R 5 w base ok v1 x.f1 ∧ k159.R 159 w base ok v2 x.f2 := by
 obtain ⟨n, h⟩ := h
 cases n with
 | zero => exact h.elim
 | succ n =>
  obtain ⟨_, _, rfl, rfl, ⟨_, _, rfl, ⟨v1, rfl, g1⟩, ⟨v2, rfl, g2⟩⟩⟩ := h
  exact ⟨v1, v2, rfl, g1, Kd.fix_R g2⟩
theorem k159_mkM (w : World) (base : Nat) (ok : Nat → Prop) (x : S159) {v1 : Value} (g1 : (Kd.int .u8).R 5 w base ok v1 x.f1) {v2 : Value} (g2 : k159.R 159 w base ok v2 x.f2) : k159.M w base ok x [.bool x.f0, v1, v2] := by
 obtain ⟨n2, q2⟩ := Kd.fix_R_back mono159 g2
 have r2 := Kd.upto_R_le mono159 sz159 (show n2 ≤ n2 by omega) q2
 exact ⟨n2 + 1, ⟨[.bool x.f0], [v1, v2], rfl, rfl, ⟨[v1], [v2], rfl, ⟨v1, rfl, g1⟩, ⟨v2, rfl, r2⟩⟩⟩⟩
end Go.Proofs.Ytocphkfkdadhaaa.PRF

namespace Go.Proofs.Ytocphkfkdadhaaa.PRF
open Go.RowKit Go.Proofs.YtocphkfkdadhaaaW.PrintWords Go.Proofs.YtocphkfkdadhaaaW.PrintLast Go.Proofs.YtocphkfkdadhaaaW.PrintMore
attribute [local go_sem] max2_int min2_int max_two min_two max_three min_three max_four min_four
set_option linter.unusedVariables false
set_option linter.unusedSimpArgs false
def inbox_short.f (l0 : List Int) : Option (Bool) := some (decide ((l0.length : Int) ≤ 65536))
set_option maxHeartbeats 8000000 in
set_option maxRecDepth 100000 in
theorem inbox_short.calls (A0 : Option Addr) (c0 : Nat) (l0 : List Int) (r : Bool) (w : World) (hr0 : Kd.C (Kd.int .u8) w A0 l0.length l0) (hc0 : l0.length ≤ c0) (h : inbox_short.f l0 = some r) :
 Calls Try.prog 82 #[.slice A0 l0.length c0] w fun e w' => e = .returned (.bool r) ∧ Drawn0 w w' := by
 have HR0 := Aside0.mk hr0
 have HC0 := Aside0.mk hc0
 clear hr0 hc0
 have H : (some (decide ((l0.length : Int) ≤ 65536))) = some r := h
 clear h
 obtain rfl := Option.some.inj H
 go_enter Try.func82, Try.ntmps82
 go_wp2
 go_ret
 exact ⟨by first | rfl | (simp; done) | (simp [*]; done) | (simp only [wrap64, decide_eq_false_iff_not, Bool.not_eq_false] at *; first | (simp; omega) | (simp only [IntKind.wrap_u64] at *; simp; omega)), by repeat (first | exact Drawn0.refl _ | apply Drawn0.step)⟩
def proctorref01_Same.f (l0 : List Int) (l1 : List Int) : Option (Bool) := some ((strOfNums l0).toList == (strOfNums l1).toList)
set_option maxHeartbeats 8000000 in
set_option maxRecDepth 100000 in
theorem proctorref01_Same.calls (A0 : Option Addr) (c0 : Nat) (l0 : List Int) (A1 : Option Addr) (c1 : Nat) (l1 : List Int) (r : Bool) (w : World) (hr0 : Kd.C (Kd.int .u8) w A0 l0.length l0) (hc0 : l0.length ≤ c0) (hr1 : Kd.C (Kd.int .u8) w A1 l1.length l1) (hc1 : l1.length ≤ c1) (h : proctorref01_Same.f l0 l1 = some r) :
 Calls Try.prog 47 #[.slice A0 l0.length c0, .slice A1 l1.length c1] w fun e w' => e = .returned (.bool r) ∧ Drawn0 w w' := by
 have HR0 := Aside0.mk hr0
 have HC0 := Aside0.mk hc0
 clear hr0 hc0
 have HR1 := Aside0.mk hr1
 have HC1 := Aside0.mk hc1
 clear hr1 hc1
 have H : (some ((strOfNums l0).toList == (strOfNums l1).toList)) = some r := h
 clear h
 obtain rfl := Option.some.inj H
 have hcv3 := Kd.C_string (P := Try.prog) (A := A0) (c := c0) Try.underlying74 Try.underlying5 Try.underlying9 HR0.out
 have hcv4 := Kd.C_string (P := Try.prog) (A := A1) (c := c1) Try.underlying74 Try.underlying5 Try.underlying9 HR1.out
 go_enter Try.func47, Try.ntmps47
 go_wp2
 go_ret
 exact ⟨by first | rfl | (simp; done) | (simp [*]; done) | (simp only [wrap64, decide_eq_false_iff_not, Bool.not_eq_false] at *; first | (simp; omega) | (simp only [IntKind.wrap_u64] at *; simp; omega)), by repeat (first | exact Drawn0.refl _ | apply Drawn0.step)⟩
def proctorref20_Lists.l0 : Nat → List (List Int) → List (List Int) → Int → Option (Bool)
 | 0, _, _, _ => none
 | k + 1, x0, x1, x5 => if x5 < (x0.length : Int) then (if 0 ≤ x5 then (if x5 < (x1.length : Int) then ((proctorref01_Same.f (rd_L2 x0 x5) (rd_L2 x1 x5)).bind fun t116 => (if t116 = true then (proctorref20_Lists.l0 k x0 x1 (wrap64 (x5 + 1))) else (some false))) else (none)) else (none)) else (some true)
def proctorref20_Lists.f (k : Nat) (l0 : List (List Int)) (l1 : List (List Int)) : Option (Bool) := if (l0.length : Int) = (l1.length : Int) then (proctorref20_Lists.l0 k l0 l1 0) else (some false)
set_option maxHeartbeats 8000000 in
set_option maxRecDepth 100000 in
theorem proctorref20_Lists.calls (k : Nat) (A0 : Option Addr) (c0 : Nat) (l0 : List (List Int)) (A1 : Option Addr) (c1 : Nat) (l1 : List (List Int)) (r : Bool) (w : World) (hr0 : Kd.C (Kd.slice 5 (Kd.int .u8)) w A0 l0.length l0) (hc0 : l0.length ≤ c0) (hr1 : Kd.C (Kd.slice 5 (Kd.int .u8)) w A1 l1.length l1) (hc1 : l1.length ≤ c1) (h : proctorref20_Lists.f k l0 l1 = some r) :
 Calls Try.prog 39 #[.slice A0 l0.length c0, .slice A1 l1.length c1] w fun e w' => e = .returned (.bool r) ∧ Drawn0 w w' := by
 have HR0 := Aside0.mk hr0
 have HC0 := Aside0.mk hc0
 clear hr0 hc0
 have HR1 := Aside0.mk hr1
 have HC1 := Aside0.mk hc1
 clear hr1 hc1
 have H : (if (l0.length : Int) = (l1.length : Int) then (proctorref20_Lists.l0 k l0 l1 0) else (some false)) = some r := h
 clear h
 by_cases c3 : (l0.length : Int) = (l1.length : Int)
 ·rw [if_pos c3] at H
  have c3b0 : ((l0.length : Int) == (l1.length : Int)) = true := beq_iff_eq.mpr c3
  have c3b1 : ((l0.length : Int) != (l1.length : Int)) = false := bne_eq_false_iff_eq.mpr c3
  have c3b2 : (l0.length == l1.length) = true := by first | simpa using c3 | (simp at c3 ⊢; omega)
  clear c3
  have H' := Aside0.mk H
  clear H
  go_enter Try.func39, Try.ntmps39
  go_wp2
  repeat (go_quiet (fail); try go_wp2)
  go_loopg [5] k (fun kq v5 w' => ∃ (x5_1 : Int), v5 = .int .i64 x5_1 ∧ Aside0 (proctorref20_Lists.l0 kq l0 l1 x5_1 = some r) ∧ Aside0 (kq ≤ k) ∧ Drawn0 w w')
  case atStart => exact ⟨(0), zX, H', ⟨Nat.le_refl _⟩, by repeat (first | exact Drawn0.refl _ | apply Drawn0.step)⟩
  case round =>
   clear H'
   try clear c3b0
   try clear c3b1
   try clear c3b2
   obtain ⟨x5_1, rfl, HA, HK1, ⟨m1, rfl⟩⟩ := hrel
   cases gk with
   | zero => exact absurd HA.out (by simp [proctorref20_Lists.l0])
   | succ k1 =>
    have H := HA.out
    clear HA
    simp only [proctorref20_Lists.l0] at H
    by_cases c4 : x5_1 < (l0.length : Int)
    ·rw [if_pos c4] at H
     have c4b0 : decide (x5_1 < (l0.length : Int)) = true := decide_eq_true c4
     clear c4
     by_cases c5 : 0 ≤ x5_1
     ·rw [if_pos c5] at H
      have c5b0 : decide (0 ≤ x5_1) = true := decide_eq_true c5
      clear c5
      by_cases c6 : x5_1 < (l1.length : Int)
      ·rw [if_pos c6] at H
       have c6b0 : decide (x5_1 < (l1.length : Int)) = true := decide_eq_true c6
       clear c6
       replace H := Option.bind_eq_some_iff.mp H
       obtain ⟨t116, A70, H⟩ := H
       replace H : (if t116 = true then (proctorref20_Lists.l0 k1 l0 l1 (wrap64 (x5_1 + 1))) else (some false)) = some r := H
       have A7 := Aside0.mk A70
       clear A70
       by_cases c8 : t116 = true
       ·subst c8
        have H1 : (proctorref20_Lists.l0 k1 l0 l1 (wrap64 (x5_1 + 1))) = some r := by rw [if_pos rfl] at H; exact H
        clear H
        have H := H1
        clear H1
        have H' := Aside0.mk H
        clear H
        have p114 : 0 ≤ (x5_1 : Int) := of_decide_eq_true zA
        have q114 : x5_1 < (l0.length : Int) := of_decide_eq_true zA
        obtain ⟨ad114, A114_0, c114_0, e114, hx114_0, hl114_0, hi114_0⟩ := at_L2 HR0.out x5_1 p114 q114
        cases e114
        have HR114_0 := Aside0.mk hi114_0
        have HC114_0 := Aside0.mk hl114_0
        clear hi114_0 hl114_0
        replace p114 := eq_true p114
        replace q114 := eq_true q114
        have p115 : 0 ≤ (x5_1 : Int) := of_decide_eq_true zA
        have q115 : x5_1 < (l1.length : Int) := of_decide_eq_true zA
        obtain ⟨ad115, A115_0, c115_0, e115, hx115_0, hl115_0, hi115_0⟩ := at_L2 HR1.out x5_1 p115 q115
        cases e115
        have HR115_0 := Aside0.mk hi115_0
        have HC115_0 := Aside0.mk hl115_0
        clear hi115_0 hl115_0
        replace p115 := eq_true p115
        replace q115 := eq_true q115
        go_wp2_with (first | (go_at_call 47; (with_reducible refine (proctorref01_Same.calls _ _ (rd_L2 l0 x5_1) _ _ (rd_L2 l1 x5_1) true _ ?side1 ?side2 ?side3 ?side4 A7.out).mono ?_); (case side1 => exact zY HR114_0.out); (case side2 => exact HC114_0.out); (case side3 => exact zY HR115_0.out); (case side4 => exact HC115_0.out); rintro e w' ⟨rfl, ⟨nd, rfl⟩⟩; (try first | exact ⟨rfl, _, World.drewN_drewN _ _ _⟩ | exact ⟨rfl, _, Eq.trans (World.drewN_drewN _ _ _) (congrArg (World.drewN _) (Nat.add_assoc _ _ _))⟩)))
        repeat (go_quiet (first | (go_at_call 47; (with_reducible refine (proctorref01_Same.calls _ _ (rd_L2 l0 x5_1) _ _ (rd_L2 l1 x5_1) true _ ?side1 ?side2 ?side3 ?side4 A7.out).mono ?_); (case side1 => exact zY HR114_0.out); (case side2 => exact HC114_0.out); (case side3 => exact zY HR115_0.out); (case side4 => exact HC115_0.out); rintro e w' ⟨rfl, ⟨nd, rfl⟩⟩; (try first | exact ⟨rfl, _, World.drewN_drewN _ _ _⟩ | exact ⟨rfl, _, Eq.trans (World.drewN_drewN _ _ _) (congrArg (World.drewN _) (Nat.add_assoc _ _ _))⟩))); try go_wp2_with (first | (go_at_call 47; (with_reducible refine (proctorref01_Same.calls _ _ (rd_L2 l0 x5_1) _ _ (rd_L2 l1 x5_1) true _ ?side1 ?side2 ?side3 ?side4 A7.out).mono ?_); (case side1 => exact zY HR114_0.out); (case side2 => exact HC114_0.out); (case side3 => exact zY HR115_0.out); (case side4 => exact HC115_0.out); rintro e w' ⟨rfl, ⟨nd, rfl⟩⟩; (try first | exact ⟨rfl, _, World.drewN_drewN _ _ _⟩ | exact ⟨rfl, _, Eq.trans (World.drewN_drewN _ _ _) (congrArg (World.drewN _) (Nat.add_assoc _ _ _))⟩))))
        go_roundg k1
        case measure => have := HK1.out; omega
        case rel => exact ⟨(wrap64 (x5_1 + 1)), zX, H', ⟨by have := HK1.out; omega⟩, by repeat (first | exact Drawn0.refl _ | apply Drawn0.step)⟩
       ·replace c8 := Bool.eq_false_iff.mpr c8
        subst c8
        have H1 : (some false) = some r := by rw [if_neg (show ¬ (false = true) by decide)] at H; exact H
        clear H
        have H := H1
        clear H1
        obtain rfl := Option.some.inj H
        have p114 : 0 ≤ (x5_1 : Int) := of_decide_eq_true zA
        have q114 : x5_1 < (l0.length : Int) := of_decide_eq_true zA
        obtain ⟨ad114, A114_0, c114_0, e114, hx114_0, hl114_0, hi114_0⟩ := at_L2 HR0.out x5_1 p114 q114
        cases e114
        have HR114_0 := Aside0.mk hi114_0
        have HC114_0 := Aside0.mk hl114_0
        clear hi114_0 hl114_0
        replace p114 := eq_true p114
        replace q114 := eq_true q114
        have p115 : 0 ≤ (x5_1 : Int) := of_decide_eq_true zA
        have q115 : x5_1 < (l1.length : Int) := of_decide_eq_true zA
        obtain ⟨ad115, A115_0, c115_0, e115, hx115_0, hl115_0, hi115_0⟩ := at_L2 HR1.out x5_1 p115 q115
        cases e115
        have HR115_0 := Aside0.mk hi115_0
        have HC115_0 := Aside0.mk hl115_0
        clear hi115_0 hl115_0
        replace p115 := eq_true p115
        replace q115 := eq_true q115
        go_wp2_with (first | (go_at_call 47; (with_reducible refine (proctorref01_Same.calls _ _ (rd_L2 l0 x5_1) _ _ (rd_L2 l1 x5_1) false _ ?side1 ?side2 ?side3 ?side4 A7.out).mono ?_); (case side1 => exact zY HR114_0.out); (case side2 => exact HC114_0.out); (case side3 => exact zY HR115_0.out); (case side4 => exact HC115_0.out); rintro e w' ⟨rfl, ⟨nd, rfl⟩⟩; (try first | exact ⟨rfl, _, World.drewN_drewN _ _ _⟩ | exact ⟨rfl, _, Eq.trans (World.drewN_drewN _ _ _) (congrArg (World.drewN _) (Nat.add_assoc _ _ _))⟩)))
        repeat (go_quiet (first | (go_at_call 47; (with_reducible refine (proctorref01_Same.calls _ _ (rd_L2 l0 x5_1) _ _ (rd_L2 l1 x5_1) false _ ?side1 ?side2 ?side3 ?side4 A7.out).mono ?_); (case side1 => exact zY HR114_0.out); (case side2 => exact HC114_0.out); (case side3 => exact zY HR115_0.out); (case side4 => exact HC115_0.out); rintro e w' ⟨rfl, ⟨nd, rfl⟩⟩; (try first | exact ⟨rfl, _, World.drewN_drewN _ _ _⟩ | exact ⟨rfl, _, Eq.trans (World.drewN_drewN _ _ _) (congrArg (World.drewN _) (Nat.add_assoc _ _ _))⟩))); try go_wp2_with (first | (go_at_call 47; (with_reducible refine (proctorref01_Same.calls _ _ (rd_L2 l0 x5_1) _ _ (rd_L2 l1 x5_1) false _ ?side1 ?side2 ?side3 ?side4 A7.out).mono ?_); (case side1 => exact zY HR114_0.out); (case side2 => exact HC114_0.out); (case side3 => exact zY HR115_0.out); (case side4 => exact HC115_0.out); rintro e w' ⟨rfl, ⟨nd, rfl⟩⟩; (try first | exact ⟨rfl, _, World.drewN_drewN _ _ _⟩ | exact ⟨rfl, _, Eq.trans (World.drewN_drewN _ _ _) (congrArg (World.drewN _) (Nat.add_assoc _ _ _))⟩))))
        go_ret
        exact ⟨by first | rfl | (simp; done) | (simp [*]; done) | (simp only [wrap64, decide_eq_false_iff_not, Bool.not_eq_false] at *; first | (simp; omega) | (simp only [IntKind.wrap_u64] at *; simp; omega)), by repeat (first | exact Drawn0.refl _ | apply Drawn0.step)⟩
      ·rw [if_neg c6] at H
       exact absurd H (by simp)
     ·rw [if_neg c5] at H
      exact absurd H (by simp)
    ·rw [if_neg c4] at H
     have c4b0 : decide (x5_1 < (l0.length : Int)) = false := decide_eq_false c4
     clear c4
     obtain rfl := Option.some.inj H
     go_wp2
     repeat (go_quiet (fail); try go_wp2)
     go_ret
     exact ⟨by first | rfl | (simp; done) | (simp [*]; done) | (simp only [wrap64, decide_eq_false_iff_not, Bool.not_eq_false] at *; first | (simp; omega) | (simp only [IntKind.wrap_u64] at *; simp; omega)), by repeat (first | exact Drawn0.refl _ | apply Drawn0.step)⟩
 ·rw [if_neg c3] at H
  have c3b0 : ((l0.length : Int) == (l1.length : Int)) = false := beq_eq_false_iff_ne.mpr c3
  have c3b1 : ((l0.length : Int) != (l1.length : Int)) = true := bne_iff_ne.mpr c3
  have c3b2 : (l0.length == l1.length) = false := by first | simpa using c3 | (simp at c3 ⊢; omega)
  obtain rfl := Option.some.inj H
  go_enter Try.func39, Try.ntmps39
  go_wp2
  repeat (go_quiet (fail); try go_wp2)
  go_ret
  exact ⟨by first | rfl | (simp; done) | (simp [*]; done) | (simp only [wrap64, decide_eq_false_iff_not, Bool.not_eq_false] at *; first | (simp; omega) | (simp only [IntKind.wrap_u64] at *; simp; omega)), by repeat (first | exact Drawn0.refl _ | apply Drawn0.step)⟩
end Go.Proofs.Ytocphkfkdadhaaa.PRF

namespace Go.Proofs.Ytocphkfkdadhaaa.PRF
open Go.RowKit Go.Proofs.YtocphkfkdadhaaaW.PrintWords Go.Proofs.YtocphkfkdadhaaaW.PrintLast Go.Proofs.YtocphkfkdadhaaaW.PrintMore
attribute [local go_sem] max2_int min2_int max_two min_two max_three min_three max_four min_four
set_option linter.unusedVariables false
set_option linter.unusedSimpArgs false
def rlp_number.l0 : Nat → Int → List Int → Int → Int → Option (Int)
 | 0, _, _, _, _ => none
 | k + 1, x3, x6, x7, x8 => if x8 < x7 then (if 0 ≤ x8 then (if x8 < (x6.length : Int) then (rlp_number.l0 k (Go.bits .or .u64 (IntKind.u64.wrap (x3 * 256)) (IntKind.u64.wrap (rd x6 x8))) x6 x7 (wrap64 (x8 + 1))) else (none)) else (none)) else (some x3)
def rlp_number.f (k : Nat) (l0 : List Int) : Option (Int) := rlp_number.l0 k 0 l0 (l0.length : Int) 0
set_option maxHeartbeats 8000000 in
set_option maxRecDepth 100000 in
theorem rlp_number.calls (k : Nat) (A0 : Option Addr) (c0 : Nat) (l0 : List Int) (r : Int) (w : World) (hr0 : Kd.C (Kd.int .u8) w A0 l0.length l0) (hc0 : l0.length ≤ c0) (h : rlp_number.f k l0 = some r) :
 Calls Try.prog 147 #[.slice A0 l0.length c0] w fun e w' => e = .returned (.int .u64 r) ∧ Drawn0 w w' := by
 have HR0 := Aside0.mk hr0
 have HC0 := Aside0.mk hc0
 clear hr0 hc0
 have H : (rlp_number.l0 k 0 l0 (l0.length : Int) 0) = some r := h
 clear h
 have H' := Aside0.mk H
 clear H
 go_enter Try.func147, Try.ntmps147
 go_wp2
 go_loopg [3, 8] k (fun kq v3 v8 w' => ∃ (x3_1 : Int) (x8_1 : Int), v3 = .int .u64 x3_1 ∧ v8 = .int .i64 x8_1 ∧ Aside0 (rlp_number.l0 kq x3_1 l0 (l0.length : Int) x8_1 = some r) ∧ Aside0 (kq ≤ k) ∧ Drawn0 w w')
 case atStart => exact ⟨(0), (0), zX, zX, H', ⟨Nat.le_refl _⟩, by repeat (first | exact Drawn0.refl _ | apply Drawn0.step)⟩
 case round =>
  clear H'
  obtain ⟨x3_1, x8_1, rfl, rfl, HA, HK1, ⟨m1, rfl⟩⟩ := hrel
  cases gk with
  | zero => exact absurd HA.out (by simp [rlp_number.l0])
  | succ k1 =>
   have H := HA.out
   clear HA
   simp only [rlp_number.l0] at H
   by_cases c2 : x8_1 < (l0.length : Int)
   ·rw [if_pos c2] at H
    have c2b0 : decide (x8_1 < (l0.length : Int)) = true := decide_eq_true c2
    clear c2
    by_cases c3 : 0 ≤ x8_1
    ·rw [if_pos c3] at H
     have c3b0 : decide (0 ≤ x8_1) = true := decide_eq_true c3
     clear c3
     by_cases c4 : x8_1 < (l0.length : Int)
     ·rw [if_pos c4] at H
      have c4b0 : decide (x8_1 < (l0.length : Int)) = true := decide_eq_true c4
      clear c4
      have H' := Aside0.mk H
      clear H
      have p126 : 0 ≤ (x8_1 : Int) := of_decide_eq_true zA
      have q126 : x8_1 < (l0.length : Int) := of_decide_eq_true zA
      obtain ⟨ad126, e126, hx126_0⟩ := Kd.at_int HR0.out x8_1 p126 q126
      cases e126
      replace p126 := eq_true p126
      replace q126 := eq_true q126
      go_wp2
      go_roundg k1
      case measure => have := HK1.out; omega
      case rel => exact ⟨(Go.bits .or .u64 (IntKind.u64.wrap (x3_1 * 256)) (IntKind.u64.wrap (rd l0 x8_1))), (wrap64 (x8_1 + 1)), zX, zX, H', ⟨by have := HK1.out; omega⟩, by repeat (first | exact Drawn0.refl _ | apply Drawn0.step)⟩
     ·rw [if_neg c4] at H
      exact absurd H (by simp)
    ·rw [if_neg c3] at H
     exact absurd H (by simp)
   ·rw [if_neg c2] at H
    have c2b0 : decide (x8_1 < (l0.length : Int)) = false := decide_eq_false c2
    clear c2
    obtain rfl := Option.some.inj H
    go_wp2
    go_ret
    exact ⟨by first | rfl | (simp; done) | (simp [*]; done) | (simp only [wrap64, decide_eq_false_iff_not, Bool.not_eq_false] at *; first | (simp; omega) | (simp only [IntKind.wrap_u64] at *; simp; omega)), by repeat (first | exact Drawn0.refl _ | apply Drawn0.step)⟩
def rlp_ReadNum.f (k : Nat) (a0_0 : Bool) (l0_1 : List Int) (l0_2 : List (S159)) : Option (Int × Int) := if a0_0 = true then (some (0, 8)) else (if (l0_2.length : Int) > 0 then (some (0, 8)) else (if (l0_1.length : Int) > 8 then (some (0, 8)) else (if (l0_1.length : Int) > 0 then (if 0 < (l0_1.length : Int) then (if (rd l0_1 0) = 0 then (some (0, 8)) else ((rlp_number.f k l0_1).bind fun t131 => (some (t131, 0)))) else (none)) else ((rlp_number.f k l0_1).bind fun t132 => (some (t132, 0))))))
set_option maxHeartbeats 8000000 in
set_option maxRecDepth 100000 in
theorem rlp_ReadNum.calls (k : Nat) (a0_0 : Bool) (A0_1 : Option Addr) (c0_1 : Nat) (l0_1 : List Int) (A0_2 : Option Addr) (c0_2 : Nat) (l0_2 : List (S159)) (r1 : Int) (r2 : Int) (w : World) (hr0_1 : Kd.C (Kd.int .u8) w A0_1 l0_1.length l0_1) (hc0_1 : l0_1.length ≤ c0_1) (hr0_2 : Kd.C k159 w A0_2 l0_2.length l0_2) (hc0_2 : l0_2.length ≤ c0_2) (h : rlp_ReadNum.f k a0_0 l0_1 l0_2 = some (r1, r2)) :
 Calls Try.prog 108 #[.agg #[.bool a0_0, .slice A0_1 l0_1.length c0_1, .slice A0_2 l0_2.length c0_2]] w fun e w' => e = .returned (.tuple #[.int .u64 r1, .int .i64 r2]) ∧ Below w.heap.size w w' := by
 have hu159 := Try.underlying159
 have HR0_1 := Aside0.mk hr0_1
 have HC0_1 := Aside0.mk hc0_1
 clear hr0_1 hc0_1
 have HR0_2 := Aside0.mk hr0_2
 have HC0_2 := Aside0.mk hc0_2
 clear hr0_2 hc0_2
 have HB := Aside0.mk (Below.refl w.heap.size w)
 have H : (if a0_0 = true then (some (0, 8)) else (if (l0_2.length : Int) > 0 then (some (0, 8)) else (if (l0_1.length : Int) > 8 then (some (0, 8)) else (if (l0_1.length : Int) > 0 then (if 0 < (l0_1.length : Int) then (if (rd l0_1 0) = 0 then (some (0, 8)) else ((rlp_number.f k l0_1).bind fun t131 => (some (t131, 0)))) else (none)) else ((rlp_number.f k l0_1).bind fun t132 => (some (t132, 0))))))) = some (r1, r2) := h
 clear h
 by_cases c2 : a0_0 = true
 ·subst c2
  have H1 : (some (0, 8)) = some (r1, r2) := by rw [if_pos rfl] at H; exact H
  clear H
  have H := H1
  clear H1
  simp only [Option.some.injEq, Prod.mk.injEq] at H
  obtain ⟨rfl, rfl⟩ := H
  go_enter Try.func108, Try.ntmps108
  go_wp2_with (first | ((with_reducible refine gate_dst (N := 1) rfl ?_); (try (refine gate_guard (by rfl) ?_; dsimp only)); refine zx 1 #[.bool true, .slice A0_1 l0_1.length c0_1, .slice A0_2 l0_2.length c0_2] 159 ?_; intro gb129 hg w3 hbox hb; have BK129 := Aside0.mk (hbox); have GW129 := Aside0.mk ((zG hg HB)); have GE129 := Aside0.mk ((zG hg HB)); replace HB := Aside0.mk (below_step (zB HB) hb); clear hb hbox hg; have hcz4_0 : w3.cell? ⟨gb129, 0, none⟩ = some (.bool true) := (blk_cell BK129.out 0).trans rfl; have hcz4_1 : w3.cell? ⟨gb129, 1, none⟩ = some (.slice A0_1 l0_1.length c0_1) := (blk_cell BK129.out 1).trans rfl; have hcz4_2 : w3.cell? ⟨gb129, 2, none⟩ = some (.slice A0_2 l0_2.length c0_2) := (blk_cell BK129.out 2).trans rfl; have hfz4_0 := blk_frozen BK129.out 0; have hfz4_1 := blk_frozen BK129.out 1; have hfz4_2 := blk_frozen BK129.out 2))
  go_ret2
  exact ⟨zE, zB1 HB GE129⟩
 ·replace c2 := Bool.eq_false_iff.mpr c2
  subst c2
  have H1 : (if (l0_2.length : Int) > 0 then (some (0, 8)) else (if (l0_1.length : Int) > 8 then (some (0, 8)) else (if (l0_1.length : Int) > 0 then (if 0 < (l0_1.length : Int) then (if (rd l0_1 0) = 0 then (some (0, 8)) else ((rlp_number.f k l0_1).bind fun t131 => (some (t131, 0)))) else (none)) else ((rlp_number.f k l0_1).bind fun t132 => (some (t132, 0)))))) = some (r1, r2) := by rw [if_neg (show ¬ (false = true) by decide)] at H; exact H
  clear H
  have H := H1
  clear H1
  by_cases c5 : (l0_2.length : Int) > 0
  ·rw [if_pos c5] at H
   have c5b0 : decide (0 < (l0_2.length : Int)) = true := decide_eq_true c5
   have c5b1 : decide (0 < l0_2.length) = true := decide_eq_true (by omega)
   clear c5
   simp only [Option.some.injEq, Prod.mk.injEq] at H
   obtain ⟨rfl, rfl⟩ := H
   go_enter Try.func108, Try.ntmps108
   go_wp2_with (first | ((with_reducible refine gate_dst (N := 1) rfl ?_); (try (refine gate_guard (by rfl) ?_; dsimp only)); refine zx 1 #[.bool false, .slice A0_1 l0_1.length c0_1, .slice A0_2 l0_2.length c0_2] 159 ?_; intro gb129 hg w6 hbox hb; have BK129 := Aside0.mk (hbox); have GW129 := Aside0.mk ((zG hg HB)); have GE129 := Aside0.mk ((zG hg HB)); replace HB := Aside0.mk (below_step (zB HB) hb); clear hb hbox hg; have hcz7_0 : w6.cell? ⟨gb129, 0, none⟩ = some (.bool false) := (blk_cell BK129.out 0).trans rfl; have hcz7_1 : w6.cell? ⟨gb129, 1, none⟩ = some (.slice A0_1 l0_1.length c0_1) := (blk_cell BK129.out 1).trans rfl; have hcz7_2 : w6.cell? ⟨gb129, 2, none⟩ = some (.slice A0_2 l0_2.length c0_2) := (blk_cell BK129.out 2).trans rfl; have hfz7_0 := blk_frozen BK129.out 0; have hfz7_1 := blk_frozen BK129.out 1; have hfz7_2 := blk_frozen BK129.out 2))
   go_ret2
   exact ⟨zE, zB1 HB GE129⟩
  ·rw [if_neg c5] at H
   have c5b0 : decide (0 < (l0_2.length : Int)) = false := decide_eq_false c5
   have c5b1 : decide (0 < l0_2.length) = false := decide_eq_false (by omega)
   clear c5
   by_cases c8 : (l0_1.length : Int) > 8
   ·rw [if_pos c8] at H
    have c8b0 : decide (8 < (l0_1.length : Int)) = true := decide_eq_true c8
    have c8b1 : decide (8 < l0_1.length) = true := decide_eq_true (by omega)
    clear c8
    simp only [Option.some.injEq, Prod.mk.injEq] at H
    obtain ⟨rfl, rfl⟩ := H
    go_enter Try.func108, Try.ntmps108
    go_wp2_with (first | ((with_reducible refine gate_dst (N := 1) rfl ?_); (try (refine gate_guard (by rfl) ?_; dsimp only)); refine zx 1 #[.bool false, .slice A0_1 l0_1.length c0_1, .slice A0_2 l0_2.length c0_2] 159 ?_; intro gb129 hg w9 hbox hb; have BK129 := Aside0.mk (hbox); have GW129 := Aside0.mk ((zG hg HB)); have GE129 := Aside0.mk ((zG hg HB)); replace HB := Aside0.mk (below_step (zB HB) hb); clear hb hbox hg; have hcz10_0 : w9.cell? ⟨gb129, 0, none⟩ = some (.bool false) := (blk_cell BK129.out 0).trans rfl; have hcz10_1 : w9.cell? ⟨gb129, 1, none⟩ = some (.slice A0_1 l0_1.length c0_1) := (blk_cell BK129.out 1).trans rfl; have hcz10_2 : w9.cell? ⟨gb129, 2, none⟩ = some (.slice A0_2 l0_2.length c0_2) := (blk_cell BK129.out 2).trans rfl; have hfz10_0 := blk_frozen BK129.out 0; have hfz10_1 := blk_frozen BK129.out 1; have hfz10_2 := blk_frozen BK129.out 2))
    go_ret2
    exact ⟨zE, zB1 HB GE129⟩
   ·rw [if_neg c8] at H
    have c8b0 : decide (8 < (l0_1.length : Int)) = false := decide_eq_false c8
    have c8b1 : decide (8 < l0_1.length) = false := decide_eq_false (by omega)
    clear c8
    by_cases c11 : (l0_1.length : Int) > 0
    ·rw [if_pos c11] at H
     have c11b0 : decide (0 < (l0_1.length : Int)) = true := decide_eq_true c11
     have c11b1 : decide (0 < l0_1.length) = true := decide_eq_true (by omega)
     clear c11
     by_cases c12 : 0 < (l0_1.length : Int)
     ·rw [if_pos c12] at H
      have c12b0 : decide (0 < (l0_1.length : Int)) = true := decide_eq_true c12
      have c12b1 : decide (0 < l0_1.length) = true := decide_eq_true (by omega)
      clear c12
      by_cases c13 : (rd l0_1 0) = 0
      ·rw [if_pos c13] at H
       have c13b0 : ((rd l0_1 0) == 0) = true := beq_iff_eq.mpr c13
       have c13b1 : ((rd l0_1 0) != 0) = false := bne_eq_false_iff_eq.mpr c13
       clear c13
       simp only [Option.some.injEq, Prod.mk.injEq] at H
       obtain ⟨rfl, rfl⟩ := H
       go_enter Try.func108, Try.ntmps108
       go_wp2_with (first | ((with_reducible refine gate_dst (N := 1) rfl ?_); (try (refine gate_guard (by rfl) ?_; dsimp only)); refine zx 1 #[.bool false, .slice A0_1 l0_1.length c0_1, .slice A0_2 l0_2.length c0_2] 159 ?_; intro gb129 hg w14 hbox hb; have BK129 := Aside0.mk (hbox); have GW129 := Aside0.mk ((zG hg HB)); have GE129 := Aside0.mk ((zG hg HB)); replace HB := Aside0.mk (below_step (zB HB) hb); clear hb hbox hg; have hcz15_0 : w14.cell? ⟨gb129, 0, none⟩ = some (.bool false) := (blk_cell BK129.out 0).trans rfl; have hcz15_1 : w14.cell? ⟨gb129, 1, none⟩ = some (.slice A0_1 l0_1.length c0_1) := (blk_cell BK129.out 1).trans rfl; have hcz15_2 : w14.cell? ⟨gb129, 2, none⟩ = some (.slice A0_2 l0_2.length c0_2) := (blk_cell BK129.out 2).trans rfl; have hfz15_0 := blk_frozen BK129.out 0; have hfz15_1 := blk_frozen BK129.out 1; have hfz15_2 := blk_frozen BK129.out 2; have p130 : 0 ≤ (0 : Int) := (by omega); have q130 : 0 < (l0_1.length : Int) := of_decide_eq_true zA; obtain ⟨ad130, e130, hx130_0⟩ := Kd.at_int HR0_1.out 0 p130 q130; cases e130; have qi130 : (0 < l0_1.length) = True := eq_true (by omega); (try rw [show ((0 : Int)).toNat = 0 from rfl] at hx130_0); (try rw [Addr.add_zero'] at hx130_0); replace hx130_0 := (HB.out.cell (World.block_lt_of_cell? w _ hx130_0)).trans hx130_0; replace p130 := eq_true p130; replace q130 := eq_true q130))
       go_ret2
       exact ⟨zE, zB1 HB GE129⟩
      ·rw [if_neg c13] at H
       have c13b0 : ((rd l0_1 0) == 0) = false := beq_eq_false_iff_ne.mpr c13
       have c13b1 : ((rd l0_1 0) != 0) = true := bne_iff_ne.mpr c13
       replace H := Option.bind_eq_some_iff.mp H
       obtain ⟨t131, A160, H⟩ := H
       replace H : (some (t131, 0)) = some (r1, r2) := H
       have A16 := Aside0.mk A160
       clear A160
       simp only [Option.some.injEq, Prod.mk.injEq] at H
       obtain ⟨rfl, rfl⟩ := H
       go_enter Try.func108, Try.ntmps108
       go_wp2_with (first | ((with_reducible refine gate_dst (N := 1) rfl ?_); (try (refine gate_guard (by rfl) ?_; dsimp only)); refine zx 1 #[.bool false, .slice A0_1 l0_1.length c0_1, .slice A0_2 l0_2.length c0_2] 159 ?_; intro gb129 hg w17 hbox hb; have BK129 := Aside0.mk (hbox); have GW129 := Aside0.mk ((zG hg HB)); have GE129 := Aside0.mk ((zG hg HB)); replace HB := Aside0.mk (below_step (zB HB) hb); clear hb hbox hg; have hcz18_0 : w17.cell? ⟨gb129, 0, none⟩ = some (.bool false) := (blk_cell BK129.out 0).trans rfl; have hcz18_1 : w17.cell? ⟨gb129, 1, none⟩ = some (.slice A0_1 l0_1.length c0_1) := (blk_cell BK129.out 1).trans rfl; have hcz18_2 : w17.cell? ⟨gb129, 2, none⟩ = some (.slice A0_2 l0_2.length c0_2) := (blk_cell BK129.out 2).trans rfl; have hfz18_0 := blk_frozen BK129.out 0; have hfz18_1 := blk_frozen BK129.out 1; have hfz18_2 := blk_frozen BK129.out 2; have p130 : 0 ≤ (0 : Int) := (by omega); have q130 : 0 < (l0_1.length : Int) := of_decide_eq_true zA; obtain ⟨ad130, e130, hx130_0⟩ := Kd.at_int HR0_1.out 0 p130 q130; cases e130; have qi130 : (0 < l0_1.length) = True := eq_true (by omega); (try rw [show ((0 : Int)).toNat = 0 from rfl] at hx130_0); (try rw [Addr.add_zero'] at hx130_0); replace hx130_0 := (HB.out.cell (World.block_lt_of_cell? w _ hx130_0)).trans hx130_0; replace p130 := eq_true p130; replace q130 := eq_true q130) | ((with_reducible refine gate_callee (f := 147) rfl ?_); refine goesL_ (some 33) rfl rfl Try.func147 (by kernel_rfl) rfl #[.slice (some ad130) l0_1.length c0_1] rfl zM ?_; (with_reducible refine (rlp_number.calls k _ _ l0_1 t131 _ ?side1 ?side2 A16.out).mono ?_); (case side1 => exact zY (Kd.C_below HR0_1.out HB.out)); (case side2 => exact HC0_1.out); rintro e w' ⟨rfl, ⟨nd, rfl⟩⟩; refine ⟨_, rfl, ?_⟩))
       go_ret2
       exact ⟨zE, zB1 HB GE129⟩
     ·rw [if_neg c12] at H
      exact absurd H (by simp)
    ·rw [if_neg c11] at H
     have c11b0 : decide (0 < (l0_1.length : Int)) = false := decide_eq_false c11
     have c11b1 : decide (0 < l0_1.length) = false := decide_eq_false (by omega)
     clear c11
     replace H := Option.bind_eq_some_iff.mp H
     obtain ⟨t132, A190, H⟩ := H
     replace H : (some (t132, 0)) = some (r1, r2) := H
     have A19 := Aside0.mk A190
     clear A190
     simp only [Option.some.injEq, Prod.mk.injEq] at H
     obtain ⟨rfl, rfl⟩ := H
     go_enter Try.func108, Try.ntmps108
     go_wp2_with (first | ((with_reducible refine gate_dst (N := 1) rfl ?_); (try (refine gate_guard (by rfl) ?_; dsimp only)); refine zx 1 #[.bool false, .slice A0_1 l0_1.length c0_1, .slice A0_2 l0_2.length c0_2] 159 ?_; intro gb129 hg w20 hbox hb; have BK129 := Aside0.mk (hbox); have GW129 := Aside0.mk ((zG hg HB)); have GE129 := Aside0.mk ((zG hg HB)); replace HB := Aside0.mk (below_step (zB HB) hb); clear hb hbox hg; have hcz21_0 : w20.cell? ⟨gb129, 0, none⟩ = some (.bool false) := (blk_cell BK129.out 0).trans rfl; have hcz21_1 : w20.cell? ⟨gb129, 1, none⟩ = some (.slice A0_1 l0_1.length c0_1) := (blk_cell BK129.out 1).trans rfl; have hcz21_2 : w20.cell? ⟨gb129, 2, none⟩ = some (.slice A0_2 l0_2.length c0_2) := (blk_cell BK129.out 2).trans rfl; have hfz21_0 := blk_frozen BK129.out 0; have hfz21_1 := blk_frozen BK129.out 1; have hfz21_2 := blk_frozen BK129.out 2) | ((with_reducible refine gate_callee (f := 147) rfl ?_); refine goesL_ (some 33) rfl rfl Try.func147 (by kernel_rfl) rfl #[.slice A0_1 l0_1.length c0_1] rfl zM ?_; (with_reducible refine (rlp_number.calls k _ _ l0_1 t132 _ ?side1 ?side2 A19.out).mono ?_); (case side1 => exact zY (Kd.C_below HR0_1.out HB.out)); (case side2 => exact HC0_1.out); rintro e w' ⟨rfl, ⟨nd, rfl⟩⟩; refine ⟨_, rfl, ?_⟩))
     go_ret2
     exact ⟨zE, zB1 HB GE129⟩
end Go.Proofs.Ytocphkfkdadhaaa.PRF

namespace Go.Proofs.Ytocphkfkdadhaaa.H
open Go.RowKit Go.Proofs.YtocphkfkdadhaaaW.PrintWords Go.Proofs.YtocphkfkdadhaaaW.PrintLast Go.Proofs.YtocphkfkdadhaaaW.PrintMore
set_option linter.unusedVariables false
set_option linter.unusedSimpArgs false
abbrev kL : Kd (List Int) := Kd.slice 5 kB
abbrev kQ : Kd PRF.S78 := PRF.k78
set_option maxHeartbeats 1000000 in
set_option maxRecDepth 100000 in
theorem bclone_any (ws : List Int) (A : Option Addr) (c : Nat) (w : World) (hC : Kd.C kB w A ws.length ws) (hc : ws.length ≤ c) (hl : ws.length ≤ 1099511627776) :
 Calls Try.prog 130 #[.slice A ws.length c] w fun e w' => ∃ v, e = .returned v ∧ Own w.heap.size w w' [.row kB 5 v ws] := by
 have HC := Aside0.mk hC
 have H0 := Aside0.mk (Own.start w)
 have HL := Aside0.mk hl
 have hq := fun W => Lib.run_eql_slice_nil (P := Try.prog) W 74 5 A ws.length c 0 0 Try.underlying74
 obtain ⟨n, hn⟩ : ∃ n, n = ws.length := ⟨_, rfl⟩
 rcases A with _ | ad
 ·have h0 : ws = [] := by
   by_cases hp : 0 < ws.length
   ·obtain ⟨ad, he, _⟩ := hC.2.2 hp; cases he
   ·exact List.length_eq_zero_iff.1 (by omega)
  subst h0
  simp only [Option.isNone_none, List.length_nil] at hq ⊢
  clear hC hl hc hn
  go_enter Try.func130, Try.ntmps130
  go_wp2
  go_ret
  exact ⟨_, rfl, H0.out.null kB _⟩
 ·simp only [Option.isNone_some] at hq
  rw [← hn] at HC HL hc hq ⊢
  clear hC hl hn
  go_enter Try.func130, Try.ntmps130
  go_wp2_with (first
   | fail
   | ((with_reducible refine gate_dst (N := 5) rfl ?_); refine own_lit kB Flat_B H0.out 5 rfl (N := 5) rfl (xs := ([] : List Int)) (inner := (([] : List Int)).map (Value.int .u8)) ?hr5 (Kd.reps_scalar _) (by simp) ?_; (case hr5 => first | (go_simp; done) | (go_simp; rfl)); intro A1 c1 w1 H1 B1; replace H1 := Aside0.mk H1; replace B1 := Aside0.mk B1)
   | ((with_reducible refine gate_dst (N := 7) rfl ?_); (with_reducible refine gate_builtin (b := .append) (xs := #[.tmp 5, .tmp 6]) rfl ?_); refine own_append_row kB Flat_B H1.out 0 rfl rfl (.tmp 5) (.tmp 6) 74 (.int .u8 0) 1 rfl Try.underlying74 infoB rfl (by decide) (by decide) (ws) _ _ _ rfl rfl (Kd.C_below HC.out B1.out) ?_ ?_; (case _ => have := HL.out; simp only [List.length_nil]; omega); intro v2 w2 H2; replace H2 := Aside0.mk H2)
   )
  go_ret
  exact ⟨_, rfl, by have h := H2.out; rw [List.nil_append] at h; exact h⟩
set_option maxHeartbeats 1000000 in
set_option maxRecDepth 100000 in
theorem lclone_any (ws : List (List Int)) (A : Option Addr) (c : Nat) (wx w : World) (hC : Kd.C (shK kL wx) w A ws.length ws) (hc : ws.length ≤ c) (hl : ws.length ≤ 1099511627776) :
 Calls Try.prog 134 #[.slice A ws.length c] w fun e w' => ∃ v, e = .returned v ∧ Own w.heap.size w w' [.row (shK kL wx) 74 v ws] := by
 have HC := Aside0.mk hC
 have H0 := Aside0.mk (Own.start w)
 have HL := Aside0.mk hl
 have hq := fun W => Lib.run_eql_slice_nil (P := Try.prog) W 71 74 A ws.length c 0 0 Try.underlying71
 obtain ⟨n, hn⟩ : ∃ n, n = ws.length := ⟨_, rfl⟩
 rcases A with _ | ad
 ·have h0 : ws = [] := by
   by_cases hp : 0 < ws.length
   ·obtain ⟨ad, he, _⟩ := hC.2.2 hp; cases he
   ·exact List.length_eq_zero_iff.1 (by omega)
  subst h0
  simp only [Option.isNone_none, List.length_nil] at hq ⊢
  clear hC hl hc hn HC
  go_enter Try.func134, Try.ntmps134
  go_wp2
  go_ret
  exact ⟨_, rfl, H0.out.null (shK kL wx) _⟩
 ·simp only [Option.isNone_some] at hq
  rw [← hn] at HC HL hc hq ⊢
  clear hC hl hn
  go_enter Try.func134, Try.ntmps134
  go_wp2_with (first
   | fail
   | ((with_reducible refine gate_dst (N := 5) rfl ?_); refine own_lit (shK kL wx) (Flat_sh _ _) H0.out 74 rfl (N := 5) rfl (xs := []) (inner := []) ?hr5 (Reps.none _ _) (by simp) ?_; (case hr5 => first | (go_simp; done) | (go_simp; rfl)); intro A1 c1 w1 H1 B1; replace H1 := Aside0.mk H1; replace B1 := Aside0.mk B1)
   | ((with_reducible refine gate_dst (N := 7) rfl ?_); (with_reducible refine gate_builtin (b := .append) (xs := #[.tmp 5, .tmp 6]) rfl ?_); refine own_append_row (shK kL wx) (Flat_sh _ _) H1.out 0 rfl rfl (.tmp 5) (.tmp 6) 71 (.slice none 0 0) 24 rfl Try.underlying71 PRF.info74 rfl (show 0 < 1 by decide) (by decide) ws _ _ _ rfl rfl (Kd.C_below HC.out B1.out) ?_ ?_; (case _ => have := HL.out; simp only [List.length_nil]; omega); intro v2 w2 H2; replace H2 := Aside0.mk H2)
   )
  go_ret
  exact ⟨_, rfl, by have h := H2.out; rw [List.nil_append] at h; exact h⟩
set_option maxHeartbeats 1000000 in
set_option maxRecDepth 100000 in
theorem qclone_any (ws : List PRF.S78) (A : Option Addr) (c : Nat) (wx w : World) (hC : Kd.C (shK kQ wx) w A ws.length ws) (hc : ws.length ≤ c) (hl : ws.length ≤ 1099511627776) :
 Calls Try.prog 133 #[.slice A ws.length c] w fun e w' => ∃ v, e = .returned v ∧ Own w.heap.size w w' [.row (shK kQ wx) 78 v ws] := by
 have HC := Aside0.mk hC
 have H0 := Aside0.mk (Own.start w)
 have HL := Aside0.mk hl
 have hq := fun W => Lib.run_eql_slice_nil (P := Try.prog) W 70 78 A ws.length c 0 0 Try.underlying70
 obtain ⟨n, hn⟩ : ∃ n, n = ws.length := ⟨_, rfl⟩
 rcases A with _ | ad
 ·have h0 : ws = [] := by
   by_cases hp : 0 < ws.length
   ·obtain ⟨ad, he, _⟩ := hC.2.2 hp; cases he
   ·exact List.length_eq_zero_iff.1 (by omega)
  subst h0
  simp only [Option.isNone_none, List.length_nil] at hq ⊢
  clear hC hl hc hn HC
  go_enter Try.func133, Try.ntmps133
  go_wp2
  go_ret
  exact ⟨_, rfl, H0.out.null (shK kQ wx) _⟩
 ·simp only [Option.isNone_some] at hq
  rw [← hn] at HC HL hc hq ⊢
  clear hC hl hn
  go_enter Try.func133, Try.ntmps133
  go_wp2_with (first
   | fail
   | ((with_reducible refine gate_dst (N := 5) rfl ?_); refine own_lit (shK kQ wx) (Flat_sh _ _) H0.out 78 rfl (N := 5) rfl (xs := []) (inner := []) ?hr5 (Reps.none _ _) (by simp) ?_; (case hr5 => first | (go_simp; done) | (go_simp; rfl)); intro A1 c1 w1 H1 B1; replace H1 := Aside0.mk H1; replace B1 := Aside0.mk B1)
   | ((with_reducible refine gate_dst (N := 7) rfl ?_); (with_reducible refine gate_builtin (b := .append) (xs := #[.tmp 5, .tmp 6]) rfl ?_); refine own_append_row (shK kQ wx) (Flat_sh _ _) H1.out 0 rfl rfl (.tmp 5) (.tmp 6) 70 (.agg #[.int .i64 0, .slice none 0 0]) 32 rfl Try.underlying70 PRF.info78 rfl (show 0 < 2 by decide) (by decide) ws _ _ _ rfl rfl (Kd.C_below HC.out B1.out) ?_ ?_; (case _ => have := HL.out; simp only [List.length_nil]; omega); intro v2 w2 H2; replace H2 := Aside0.mk H2)
   )
  go_ret
  exact ⟨_, rfl, by have h := H2.out; rw [List.nil_append] at h; exact h⟩
end Go.Proofs.Ytocphkfkdadhaaa.H

namespace Go.Proofs.Ytocphkfkdadhaaa.H
open Go.RowKit Go.Proofs.YtocphkfkdadhaaaW.PrintWords Go.Proofs.YtocphkfkdadhaaaW.PrintLast Go.Proofs.YtocphkfkdadhaaaW.PrintMore
set_option linter.unusedVariables false
set_option linter.unusedSimpArgs false
def mixL {α : Type} (i : Nat) (q : List α) : List (Bool × α) := (q.take i).map (fun x => (true, x)) ++ (q.drop i).map (fun x => (false, x))
section
variable {α : Type} {q : List α}
theorem mixL_0 : mixL 0 q = q.map (fun x => (false, x)) := by simp [mixL]
theorem mixL_all : mixL q.length q = q.map (fun x => (true, x)) := by simp [mixL]
theorem mixL_len (i : Nat) : (mixL i q).length = q.length := by
 simp only [mixL, List.length_append, List.length_map, List.length_take, List.length_drop]
 omega
theorem mixL_get {i : Nat} (h : i < q.length) : (mixL i q)[i]? = some (false, q[i]) := by
 have h1 : ((q.take i).map (fun x => (true, x))).length = i := by rw [List.length_map, List.length_take]; omega
 rw [mixL, List.getElem?_append_right (by omega), h1, Nat.sub_self, List.getElem?_map, List.getElem?_drop, Nat.add_zero, List.getElem?_eq_getElem h]
 rfl
theorem mixL_set {i : Nat} (h : i < q.length) : (mixL i q).set i (true, q[i]) = mixL (i + 1) q := by
 have h1 : ((q.take i).map (fun x => (true, x))).length = i := by rw [List.length_map, List.length_take]; omega
 rw [mixL, List.set_append_right _ _ (by omega), h1, Nat.sub_self, List.drop_eq_getElem_cons h, List.map_cons, List.set_cons_zero, mixL, List.take_succ_eq_append_getElem h, List.map_append, List.append_assoc]
 rfl
end
theorem Own.cells_at {B : Nat} {w0 W : World} {L : List Item} {α : Type} {d : Kd α} (h : Own B w0 W L) (k : Nat) {g n cap e : Nat} {xs : List α} (hk : L[k]? = some (.row d e (.slice (some ⟨g, 0, none⟩) n cap) xs)) (i : Nat) {x : α} (hx : xs[i]? = some x) :
 ∃ cs, d.K W x cs ∧ ∀ (j : Nat) (u : Value), cs[j]? = some u → W.cell? ⟨g, i * d.sz + j, none⟩ = some u := by
 obtain ⟨S, _, hR⟩ := h.look k hk
 have hR : Kd.R d e W 0 S _ xs := hR
 obtain ⟨hn, cur, inner, hh, hc3, hc1, hc4, hr⟩ := R_block hR
 have hi : i < xs.length := (List.getElem?_eq_some_iff.1 hx).1
 have hm : i * d.sz + d.sz ≤ n * d.sz := by rw [← Nat.succ_mul]; exact Nat.mul_le_mul_right _ (by omega)
 refine ⟨_, d.K_of_M (hr.2 i x hx), fun j u hu => ?_⟩
 have hjs : j < d.sz := by
  have := (List.getElem?_eq_some_iff.1 hu).1
  rw [List.length_take] at this
  omega
 rw [List.getElem?_take_of_lt hjs, List.getElem?_drop, ← hc4, List.getElem?_take_of_lt (by omega), Array.getElem?_toList] at hu
 rw [blk_cell hh, hu]
end Go.Proofs.Ytocphkfkdadhaaa.H

namespace Go.Proofs.Ytocphkfkdadhaaa.H
open Go.RowKit Go.Proofs.YtocphkfkdadhaaaW.PrintWords Go.Proofs.YtocphkfkdadhaaaW.PrintLast Go.Proofs.YtocphkfkdadhaaaW.PrintMore
set_option linter.unusedVariables false
set_option linter.unusedSimpArgs false
def shM {α : Type} (d : Kd α) (w1 : World) (S : Nat → Prop) : Kd α where
 sz := d.sz
 E := []
 K := fun _ x cs => d.K w1 x cs
 M := fun _ _ _ x cs => d.M w1 0 S x cs
 K_len := d.K_len
 K_one := d.K_one
 K_below := fun _ h => h
 K_of_M := fun h => d.K_of_M h
 M_mono := fun _ h => h
 M_bound := fun h => h
 M_move := fun _ h => h
 M_lower := fun _ h => h
theorem shM_own {α : Type} {d : Kd α} {w1 W : World} {S : Nat → Prop} {e : Nat} {v : Value} {xs : List α} {ok : Nat → Prop} (h : (shM d w1 S).R e W 0 ok v xs) (hb : Below w1.heap.size w1 W) (hok : ∀ k, ok k → w1.heap.size ≤ k) : d.R e W 0 (fun k => ok k ∨ S k) v xs := by
 obtain ⟨h0, inner, ho, hr⟩ := h
 refine ⟨fun k hk => .inl (h0 k hk), inner, ho, Reps.imp_ hr fun x cs hx => ?_⟩
 have hx : d.M w1 0 S x cs := hx
 have hx := d.M_move (w1 := W) (fun k hk => hb.block k hk.2.2.1) (d.M_bound hx)
 refine d.M_mono (fun k hk => ⟨.inr hk.1, fun he => ?_⟩) hx
 have := hok k (h0 k he.symm)
 omega
section
variable {P : Program} {ops : Array Oper} {rest : List Oper} {o : Oper} {a : Act} {Q : Exit → Act → World → Prop} {Kc : Act → World → Prop} {B : Nat} {w0 W : World} {L : List Item} {α : Type}
theorem ld_at (hgd : o.guard = none) (ty : TypeId) (x : Operand) (ho : o.op = .load ty x) (p : Addr) (cs : List Value) (d : TypeDesc) (hx : a.eval x = .pointer (some p)) (hc : ∀ j v, cs[j]? = some v → W.cell? (p.add j) = some v) (hu : P.underlying ty = some d) (hd : d.isRow = true)
 (hi : (P.info? ty).map (·.size) = some cs.length) (h : wpList P ops Q rest (a.put o.dst (.agg cs.toArray)) W) : wpList P ops Q (o :: rest) a W :=
 wpList_plain hgd fun _ hK => by
  unfold Oper.wp execOp
  simp only [ho, hx, Instr.loadAt, Instr.sureAddr, Sem.run_bind, Sem.run_pure, Result.andThen_ok, run_loadVar_at (P := P) (W := W) p ty cs d hc hu (by cases d <;> first | rfl | cases hd) hi]
  exact hK _ _ h
theorem own_litM (d : Kd α) {it : Item} (H : Own B w0 W (it :: L)) (e : Nat) (hgd : o.guard = none) {N : Tmp} (hd : o.dst = some N) {xs : List α} {inner : List Value}
 (hrun : (execOp a.eval o).run P W = .ok (.value (.slice (some ⟨W.heap.size, 0, none⟩) xs.length xs.length)) (W.alloc (.cells inner.toArray e)))
 (hrep : ∀ S, it.P W S → Reps (d.M W 0 S) d.sz xs inner) (hm : xs.length ≤ 9223372036854775807)
 (h : ∀ A c w1, xs.length ≤ c → Own B w0 w1 (.row d e (.slice A xs.length c) xs :: L) → Below W.heap.size W w1 → wpList P ops Q rest (a.put o.dst (.slice A xs.length c)) w1) : wpList P ops Q (o :: rest) a W := by
 obtain ⟨S, hS, hP, hch⟩ := H.focus 0 rfl
 refine Kd.R_lit d 0 e hgd hd (ok := fun i => S i ∨ W.heap.size ≤ i) (okp := S) (w0 := W) hrun (hrep S hP) (fun k hk => .inl hk) (.inr (Nat.le_refl _)) ⟨rfl, rfl, rfl, Nat.le_refl _, fun _ _ => rfl⟩ (Nat.zero_le _) hm ?_
 intro v1 w1 hR1 hb hg _
 obtain ⟨A, c, rfl, hc, _⟩ := Kd.R_reads hR1
 refine h A c w1 hc (hch w1 (.row d e (.slice A xs.length c) xs) none hg (fun g hr => by cases hr) ?_) ⟨hg.os, hg.tape, hg.output, hg.size, fun k hk => hg.block k hk (by simp)⟩
 exact Kd.R_mono (Kd.R_bound hR1) (fun i hi => by rcases hi with ⟨hi | hi, h2, h3, _⟩; exact .inl hi; exact .inr ⟨hi, h3⟩)
theorem own_append_any (d : Kd α) (H : Own B w0 W L) (k : Nat) {v : Value} {xs : List α} {e : Nat} (hk : L[k]? = some (.row d e v xs)) (hgd : o.guard = none) (s x : Operand) (t : TypeId) (z : Value) (bytes : Nat)
 (ho : o.op = .call { callee := .builtin .append, args := #[s, x], argTypes := #[t, t] })
 (ht : P.underlying t = some (.slice e)) (hinfo : (P.info? e).map (fun i => (i.zero, i.size, i.bytes)) = some (some z, d.sz, bytes)) (hz : z.cells.size = d.sz) (hs0 : 0 < d.sz) (hb0 : 0 < bytes)
 (p : α) (cs : List Value) (hp : ∀ w, d.M w 0 (fun _ => False) p cs) (hs : a.eval s = v) (hx : a.eval x = .slice (some ⟨W.heap.size, 0, none⟩) 1 1) (hl : (xs.length + 1) * bytes ≤ 140737488355328)
 (h : ∀ v1 w1, Own B w0 w1 (L.set k (.row d e v1 (xs ++ [p]))) → wpList P ops Q rest (a.put o.dst v1) w1) :
 wpList P ops Q (o :: rest) a (W.alloc (.cells cs.toArray e)) := by
 obtain ⟨S, hS, hR, hch⟩ := H.focus k hk
 have hR : Kd.R d e W 0 S v xs := hR
 refine Kd.R_append d 0 hgd s x t e z bytes ho ht hinfo hz hs0 hb0 v xs p cs (fun i => S i ∨ W.heap.size ≤ i) (fun _ => False) hs hx (hp W) (fun _ hk => hk.elim) (fun i hi => .inr hi) (Kd.R_mono hR fun i hi => .inl hi) (w0 := W) ⟨rfl, rfl, rfl, Nat.le_refl _, fun _ _ => rfl⟩ (Nat.zero_le _) hl ?_
 intro v1 w1 hR1 _ hg _
 refine h v1 w1 (hch w1 (.row d e v1 (xs ++ [p])) v.ownBlock hg (fun g hr => hR.1 g hr) ?_)
 exact Kd.R_mono (Kd.R_bound hR1) (fun i hi => by rcases hi with ⟨hi | hi, h2, h3, _⟩; exact .inl hi; exact .inr ⟨hi, h3⟩)
end
end Go.Proofs.Ytocphkfkdadhaaa.H

namespace Go.Proofs.Ytocphkfkdadhaaa.H
open Go.RowKit Go.Proofs.YtocphkfkdadhaaaW.PrintWords Go.Proofs.YtocphkfkdadhaaaW.PrintLast Go.Proofs.YtocphkfkdadhaaaW.PrintMore
set_option linter.unusedVariables false
set_option linter.unusedSimpArgs false
section
variable {P : Program} {ops : Array Oper} {rest : List Oper} {o : Oper} {a : Act} {Q : Exit → Act → World → Prop} {B : Nat} {w0 W : World} {L : List Item}
theorem OB {N : Tmp} (H : Aside0 (Own B w0 W L)) (t : TypeId) (cs : Array Value) {x : Operand} (h : ∀ g w1, Aside0 (Own B w0 w1 (.blk g cs t :: L)) → Aside0 (Below W.heap.size W w1) → wpList P ops Q rest (a.put o.dst (.pointer (some ⟨g, 0, none⟩))) w1)
 (hd : o.dst = some N := by exact rfl) (hgd : o.guard = none := by exact rfl) (ho : o.op = .box t x := by exact rfl) (hx : a.eval x = .agg cs := by exact rfl) : wpList P ops Q (o :: rest) a W :=
 own_box H.out hgd hd ho (.agg cs) hx fun g w1 h1 h2 => h g w1 ⟨h1⟩ ⟨h2⟩
theorem OA {N : Tmp} (H : Aside0 (Own B w0 W L)) (t : TypeId) (cs : Array Value) (n : Nat) (h : ∀ g w1, Aside0 (Own B w0 w1 (.blk g cs t :: L)) → Aside0 (Below W.heap.size W w1) → wpList P ops Q rest (a.put o.dst (.pointer (some ⟨g, 0, none⟩))) w1)
 (hd : o.dst = some N := by exact rfl) (hgd : o.guard = none := by exact rfl) (ho : o.op = .alloc t := by exact rfl) (hi : (P.info? t).map (fun i => (i.zero, i.size)) = some (some (.agg cs), n) := by kernel_rfl) : wpList P ops Q (o :: rest) a W :=
 own_alloc H.out hgd hd ho cs n hi fun g w1 h1 h2 => h g w1 ⟨h1⟩ ⟨h2⟩
theorem OA1 {N : Tmp} (H : Aside0 (Own B w0 W L)) (t : TypeId) (z : Value) (h : ∀ g w1, Aside0 (Own B w0 w1 (.blk g #[z] t :: L)) → Aside0 (Below W.heap.size W w1) → wpList P ops Q rest (a.put o.dst (.pointer (some ⟨g, 0, none⟩))) w1)
 (hd : o.dst = some N := by exact rfl) (hgd : o.guard = none := by exact rfl) (ho : o.op = .alloc t := by exact rfl) (hz : z.cells = #[z] := by exact rfl) (hi : (P.info? t).map (fun i => (i.zero, i.size)) = some (some z, 1) := by kernel_rfl) : wpList P ops Q (o :: rest) a W :=
 own_alloc1 H.out hgd hd ho z hz hi fun g w1 h1 h2 => h g w1 ⟨h1⟩ ⟨h2⟩
theorem OS (X Y : Tmp) (H : Aside0 (Own B w0 W L)) (k g : Nat) (ty : TypeId) {cs : Array Value} (cells : Array Value) (n : Nat) (hn : Aside0 (Arr n cs)) (h1 : Aside0 (Arr n cells)) (h : ∀ w1, Aside0 (Own B w0 w1 (L.set k (.blk g cells ty))) → wpList P ops Q rest (a.put o.dst undef) w1)
 (ho : o.op = .store ty (.tmp X) (.tmp Y) := by exact rfl) (hgd : o.guard = none := by exact rfl) (hk : L[k]? = some (.blk g cs ty) := by exact rfl) (hx : a.eval (.tmp X) = .pointer (some ⟨g, 0, none⟩) := by exact rfl) (hy : a.eval (.tmp Y) = .agg cells := by exact rfl)
 (hi : (P.info? ty).map (·.size) = some n := by kernel_rfl) : wpList P ops Q (o :: rest) a W :=
 own_store H.out k g cs ty hk hgd _ _ ho cells hx hy n hn.out h1.out hi fun w1 h2 => h w1 ⟨h2⟩
theorem OL (X : Tmp) (H : Aside0 (Own B w0 W L)) (k g : Nat) (ty : TypeId) {cs : Array Value} {m : Nat} {el : TypeId} (hu : P.underlying ty = some (.array m el)) (n : Nat) (hn : Aside0 (Arr n cs)) (h : wpList P ops Q rest (a.put o.dst (.agg cs)) W)
 (hgd : o.guard = none := by exact rfl) (ho : o.op = .load ty (.tmp X) := by exact rfl) (hk : L[k]? = some (.blk g cs ty) := by exact rfl) (hx : a.eval (.tmp X) = .pointer (some ⟨g, 0, none⟩) := by exact rfl)
 (hi : (P.info? ty).map (·.size) = some n := by kernel_rfl) : wpList P ops Q (o :: rest) a W :=
 own_load H.out k g cs ty hk hgd _ ho hx hu n hn.out hi h
theorem OV (X : Tmp) (H : Aside0 (Own B w0 W L)) (k g : Nat) (ty : TypeId) {cs : Array Value} {d : TypeDesc} (hk : L[k]? = some (.blk g cs ty)) (hu : P.underlying ty = some d) (hi : (P.info? ty).map (·.size) = some cs.size) (h : wpList P ops Q rest (a.put o.dst (.agg cs)) W)
 (hgd : o.guard = none := by exact rfl) (ho : o.op = .load ty (.tmp X) := by exact rfl) (hx : a.eval (.tmp X) = .pointer (some ⟨g, 0, none⟩) := by exact rfl)
 (hA : isAggD d = true := by exact rfl) : wpList P ops Q (o :: rest) a W :=
 own_loadV H.out k g cs ty hk hgd _ ho d hx hu hA hi h
theorem GV (X : Tmp) (H : Aside0 (Own B w0 W L)) (k g : Nat) (ty : TypeId) {cs : Array Value} {d : TypeDesc} (hk : L[k]? = some (.blk g cs ty)) (hu : P.underlying ty = some d) (hi : (P.info? ty).map (·.size) = some cs.size) (h : wpList P ops Q rest (a.put o.dst (.agg cs)) W)
 (hw : Region.wanted o (yielded ops a.tmps) = true := by rfl) (ho : o.op = .load ty (.tmp X) := by exact rfl) (hx : a.eval (.tmp X) = .pointer (some ⟨g, 0, none⟩) := by exact rfl)
 (hA : isAggD d = true := by exact rfl) : wpList P ops Q (o :: rest) a W :=
 gate_guard hw (own_loadV (o := { o with guard := none }) H.out k g cs ty hk rfl _ ho d hx hu hA hi h)
theorem Gd (N : Tmp) (h : wpList P ops Q (o :: rest) a W) (hd : o.dst = some N := by with_reducible rfl) : wpList P ops Q (o :: rest) a W := h
theorem Gs (t : TypeId) (p : Tmp) {v : Operand} (h : wpList P ops Q (o :: rest) a W) (ho : o.op = .store t (.tmp p) v := by with_reducible rfl) : wpList P ops Q (o :: rest) a W := h
end
theorem RVt {fn : Func} {p u : Tmp} {ty : TypeId} {tmps : Array Value} {B : Nat} {w0 W : World} {L : List Item} (H : Aside0 (Own B w0 W L)) (k g : Nat) {cs : Array Value} {P : Program} {d : TypeDesc} {v : Value} (hu : P.underlying ty = some d) (h : fn.results = #[.cell p ty, .tmp u] := by exact rfl) (hk : L[k]? = some (.blk g cs ty) := by exact rfl)
 (hp : tmps.getD p undef = .pointer (some ⟨g, 0, none⟩) := by exact rfl) (hd : isAggD d = true := by exact rfl) (hi : (P.info? ty).map (·.size) = some cs.size := by kernel_rfl) (hv : tmps.getD u undef = v := by exact rfl) :
 (results fn tmps).run P W = .ok (.tuple #[.agg cs, v]) W := own_resultV_t h tmps H.out k g cs hk hp d hu hd hi v hv
end Go.Proofs.Ytocphkfkdadhaaa.H

namespace Go.Proofs.Ytocphkfkdadhaaa.H
open Go.RowKit Go.Proofs.YtocphkfkdadhaaaW.PrintWords Go.Proofs.YtocphkfkdadhaaaW.PrintLast Go.Proofs.YtocphkfkdadhaaaW.PrintMore
set_option linter.unusedVariables false
set_option linter.unusedSimpArgs false
section
variable {P : Program} {ops : Array Oper} {rest : List Oper} {o : Oper} {a : Act} {Q : Exit → Act → World → Prop} {B : Nat} {w0 W : World} {L : List Item}
theorem OT (X : Tmp) (ty : TypeId) (H : Aside0 (Own B w0 W L)) (k g : Nat) (t : TypeId) (off : Nat) (seg : List Value) (v : Value) {cs : Array Value} (cs' : Array Value) (hk : L[k]? = some (.blk g cs t)) (hl : off + seg.length ≤ cs.size) (hi : (P.info? ty).map (·.size) = some seg.length) (h1 : ∀ v ∈ seg, v.oneCell' = true) (hcs : (splice cs.toList off seg).toArray = cs')
 (h : ∀ w1, Aside0 (Own B w0 w1 (L.set k (.blk g cs' t))) → wpList P ops Q rest (a.put o.dst undef) w1) {y : Operand}
 (ho : o.op = .store ty (.tmp X) y := by exact rfl) (hgd : o.guard = none := by exact rfl) (hx : a.eval (.tmp X) = .pointer (some ⟨g, off, none⟩) := by exact rfl) (hy : a.eval y = v := by exact rfl) (hvc : v.cells = seg.toArray := by exact rfl) : wpList P ops Q (o :: rest) a W :=
 own_st H.out k g cs cs' t hk hgd ty _ _ ho off seg v hx hy hvc hl hi h1 hcs fun w1 h2 => h w1 ⟨h2⟩
theorem OT1 (X : Tmp) (ty : TypeId) (H : Aside0 (Own B w0 W L)) (k g : Nat) (t : TypeId) (off : Nat) (v : Value) {cs : Array Value} (cs' : Array Value) (hk : L[k]? = some (.blk g cs t)) (hl : off + [v].length ≤ cs.size)
 (h : ∀ w1, Aside0 (Own B w0 w1 (L.set k (.blk g cs' t))) → wpList P ops Q rest (a.put o.dst undef) w1) {y : Operand}
 (ho : o.op = .store ty (.tmp X) y := by exact rfl) (hgd : o.guard = none := by exact rfl) (hx : a.eval (.tmp X) = .pointer (some ⟨g, off, none⟩) := by exact rfl) (hy : a.eval y = v := by exact rfl) (hvc : v.cells = [v].toArray := by exact rfl) (hi : (P.info? ty).map (·.size) = some [v].length := by kernel_rfl) (h1 : ∀ u ∈ [v], u.oneCell' = true := by simp [Value.oneCell']) (hcs : (splice cs.toList off [v]).toArray = cs' := by exact rfl) : wpList P ops Q (o :: rest) a W :=
 own_st H.out k g cs cs' t hk hgd ty _ _ ho off [v] v hx hy hvc hl hi h1 hcs fun w1 h2 => h w1 ⟨h2⟩
theorem OD (X : Tmp) (ty : TypeId) (H : Aside0 (Own B w0 W L)) (k g off : Nat) (v : Value) {d : TypeDesc} (hu : P.underlying ty = some d) {cs : Array Value} {t : TypeId} (h : wpList P ops Q rest (a.put o.dst v) W)
 (hgd : o.guard = none := by exact rfl) (ho : o.op = .load ty (.tmp X) := by exact rfl) (hk : L[k]? = some (.blk g cs t) := by exact rfl) (hx : a.eval (.tmp X) = .pointer (some ⟨g, off, none⟩) := by exact rfl) (hl : cs[off]? = some v := by exact rfl) (hr : d.isRow = false := by exact rfl) : wpList P ops Q (o :: rest) a W :=
 own_ld1 H.out k g cs t hk hgd ty _ ho off v d hx hl hu hr h
theorem GD (X : Tmp) (ty : TypeId) (H : Aside0 (Own B w0 W L)) (k g off : Nat) (v : Value) {d : TypeDesc} (hu : P.underlying ty = some d) {cs : Array Value} {t : TypeId} (h : wpList P ops Q rest (a.put o.dst v) W)
 (hw : Region.wanted o (yielded ops a.tmps) = true := by rfl) (ho : o.op = .load ty (.tmp X) := by exact rfl) (hk : L[k]? = some (.blk g cs t) := by exact rfl) (hx : a.eval (.tmp X) = .pointer (some ⟨g, off, none⟩) := by exact rfl) (hl : cs[off]? = some v := by exact rfl) (hr : d.isRow = false := by exact rfl) : wpList P ops Q (o :: rest) a W :=
 gate_guard hw (own_ld1 (o := { o with guard := none }) H.out k g cs t hk rfl ty _ ho off v d hx hl hu hr h)
theorem GDA (X : Tmp) (ty : TypeId) (H : Aside0 (Own B w0 W L)) (k g off : Nat) (seg : List Value) {cs : Array Value} {t : TypeId} (hk : L[k]? = some (.blk g cs t)) (hl : ∀ j v, seg[j]? = some v → cs[off + j]? = some v) {d : TypeDesc} (hu : P.underlying ty = some d) (hi : (P.info? ty).map (·.size) = some seg.length) (h : wpList P ops Q rest (a.put o.dst (.agg seg.toArray)) W)
 (hw : Region.wanted o (yielded ops a.tmps) = true := by rfl) (ho : o.op = .load ty (.tmp X) := by exact rfl) (hx : a.eval (.tmp X) = .pointer (some ⟨g, off, none⟩) := by exact rfl) (hr : d.isRow = true := by exact rfl) : wpList P ops Q (o :: rest) a W :=
 gate_guard hw (own_ldAt (o := { o with guard := none }) H.out k g cs t hk rfl ty _ ho off seg d hx hl hu hr hi h)
theorem OU (t : TypeId) (parts : List (Nat × Operand)) (cells : Array Value) {ps : List (Nat × Value)} (hps : parts.map (fun x => (x.1, a.eval x.2)) = ps) (hf : P.built t ps = some cells) (h : wpList P ops Q rest (a.put o.dst (.agg cells)) W)
 (hgd : o.guard = none := by exact rfl) (ho : o.op = .build t parts.toArray := by exact rfl) : wpList P ops Q (o :: rest) a W :=
 build_ hgd t parts ho ps hps cells hf h
theorem GU (t : TypeId) (parts : List (Nat × Operand)) (cells : Array Value) {ps : List (Nat × Value)} (hps : parts.map (fun x => (x.1, a.eval x.2)) = ps) (hf : P.built t ps = some cells) (h : wpList P ops Q rest (a.put o.dst (.agg cells)) W)
 (hw : Region.wanted o (yielded ops a.tmps) = true := by rfl) (ho : o.op = .build t parts.toArray := by exact rfl) : wpList P ops Q (o :: rest) a W :=
 gate_guard hw (build_ (o := { o with guard := none }) rfl t parts ho ps hps cells hf h)
end
end Go.Proofs.Ytocphkfkdadhaaa.H

namespace Go.Proofs.Ytocphkfkdadhaaa.K
open Go.RowKit Go.Proofs.YtocphkfkdadhaaaW.PrintWords Go.Proofs.YtocphkfkdadhaaaW.PrintLast Go.Proofs.YtocphkfkdadhaaaW.PrintMore Go.Proofs.Ytocphkfkdadhaaa.PRF
attribute [local go_sem] max2_int min2_int max_two min_two max_three min_three max_four min_four
set_option linter.unusedVariables false
set_option linter.unusedSimpArgs false
section
variable {ops : Array Oper} {rest : List Oper} {o : Oper} {a : Act} {Q : Exit → Act → World → Prop}
theorem app_bytes {w0 W : World} (hgd : o.guard = none) (s x : Operand)
 (ho : o.op = .call { callee := .builtin .append, args := #[s, x], argTypes := #[74, 74] })
 (v : Value) (xs ys : List Int) (A : Option Addr) (c : Nat) (ok : Nat → Prop) (hs : a.eval s = v) (hx : a.eval x = .slice A ys.length c)
 (HB : Aside0 (Below w0.heap.size w0 W)) (HO : Kd.R (Kd.int .u8) 5 W w0.heap.size ok v xs) (HR : Kd.C (Kd.int .u8) W A ys.length ys) (hfresh : ∀ k, W.heap.size ≤ k → ok k)
 (hl : xs.length + ys.length ≤ 140737488355328)
 (h : ∀ v1 w1, Aside0 (Kd.R (Kd.int .u8) 5 w1 w0.heap.size ok v1 (xs ++ ys)) → Aside0 (Below w0.heap.size w0 w1) → Aside0 (W.grownBy w1 v.ownBlock) → Aside0 (v1.ownBlock = v.ownBlock ∨ ∃ b, v1.ownBlock = some b ∧ W.heap.size ≤ b) → wpList Try.prog ops Q rest (a.put o.dst v1) w1) :
 wpList Try.prog ops Q (o :: rest) a W :=
 Kd.R_append_rows (Kd.int .u8) (w0 := w0) w0.heap.size hgd s x 74 5 (.int .u8 0) 1 ho Try.underlying74 info5 rfl (by decide) (by omega) v xs ys _ _ _ ok (fun _ => False) hs hx HO HR (fun _ _ h => h) (fun _ h => h.elim) hfresh HB.out (below_size HB.out) (by omega)
  fun v1 w1 h1 h2 h3 h4 => h v1 w1 ⟨h1⟩ ⟨h2⟩ ⟨h3⟩ ⟨h4⟩
end
theorem cf1 {w : World} {g : Nat} {t : TypeId} {a : Value} (h : Aside0 (w.heap[g]? = some (.cells #[a] t (0, 0)))) : w.cell? ⟨g, 0, none⟩ = some a ∧ w.frozen? ⟨g, 0, none⟩ = false :=
 ⟨(blk_cell h.out 0).trans rfl, blk_frozen h.out 0⟩
theorem cf3 {w : World} {g : Nat} {t : TypeId} {a b c : Value} (h : Aside0 (w.heap[g]? = some (.cells #[a, b, c] t (0, 0)))) :
 w.cell? ⟨g, 0, none⟩ = some a ∧ w.cell? ⟨g, 1, none⟩ = some b ∧ w.cell? ⟨g, 2, none⟩ = some c ∧ w.frozen? ⟨g, 0, none⟩ = false ∧ w.frozen? ⟨g, 1, none⟩ = false ∧ w.frozen? ⟨g, 2, none⟩ = false :=
 ⟨(blk_cell h.out 0).trans rfl, (blk_cell h.out 1).trans rfl, (blk_cell h.out 2).trans rfl, blk_frozen h.out 0, blk_frozen h.out 1, blk_frozen h.out 2⟩
theorem put3 {w : World} {g : Nat} {t : TypeId} {a b c x y z : Value} (h : w.heap[g]? = some (.cells #[a, b, c] t (0, 0))) :
 (((w.setCell ⟨g, 0, none⟩ x).setCell ⟨g, 1, none⟩ y).setCell ⟨g, 2, none⟩ z).heap[g]? = some (.cells #[x, y, z] t (0, 0)) :=
 blk_put (cs := #[x, y, c]) (blk_put (cs := #[x, b, c]) (blk_put h 0 x rfl) 1 y rfl) 2 z rfl
theorem keep3 {w : World} {g : Nat} {x y z : Value} : KeepBut w (((w.setCell ⟨g, 0, none⟩ x).setCell ⟨g, 1, none⟩ y).setCell ⟨g, 2, none⟩ z) g none := ((KeepBut.refl w g none).set_ 0 x |>.set_ 1 y).set_ 2 z
theorem below3 {w0 w : World} {g : Nat} {x y z : Value} (h : Below w0.heap.size w0 w) (hg : w0.heap.size ≤ g) : Below w0.heap.size w0 (((w.setCell ⟨g, 0, none⟩ x).setCell ⟨g, 1, none⟩ y).setCell ⟨g, 2, none⟩ z) := below_set (below_set (below_set h hg) hg) hg
section
variable {P : Program} {ops : Array Oper} {rest : List Oper} {o : Oper} {a : Act} {Q : Exit → Act → World → Prop}
theorem alloc_ev {W w0 : World} (hgd : o.guard = none) {N : Tmp} (hd : o.dst = some N) {cs : Array Value} {t : TypeId} (HB : Aside0 (Below w0.heap.size w0 W))
 (hrun : (execOp a.eval o).run P W = .ok (.value (.pointer (some ⟨W.heap.size, 0, none⟩))) (W.alloc (.cells cs t (0, 0))))
 (h : ∀ g w1, Aside0 (w1.heap[g]? = some (.cells cs t (0, 0))) → Aside0 (W.heap.size = g) → Aside0 (Below W.heap.size W w1) → Aside0 (Below w0.heap.size w0 w1) → wpList P ops Q rest (a.put o.dst (.pointer (some ⟨g, 0, none⟩))) w1) : wpList P ops Q (o :: rest) a W :=
 box_event hgd hd hrun fun g hg w1 hb hbe => h g w1 ⟨hb⟩ ⟨hg.symm⟩ ⟨hbe⟩ ⟨below_step HB.out hbe⟩
end
section
variable {ops : Array Oper} {rest : List Oper} {o : Oper} {a : Act} {Q : Exit → Act → World → Prop}
theorem lit_bytes {W w0 : World} (hgd : o.guard = none) {N : Tmp} (hd : o.dst = some N) (xs : List Int) (HB : Aside0 (Below w0.heap.size w0 W)) (hm : xs.length ≤ 9223372036854775807)
 (hrun : (execOp a.eval o).run Try.prog W = .ok (.value (.slice (some ⟨W.heap.size, 0, none⟩) xs.length xs.length)) (W.alloc (.cells (xs.map (Value.int .u8)).toArray 5)))
 (h : ∀ A1 c1 w1, Aside0 (Kd.R (Kd.int .u8) 5 w1 W.heap.size (fun _ => True) (.slice A1 xs.length c1) xs) → Aside0 (Below W.heap.size W w1) → Aside0 (Below w0.heap.size w0 w1) → wpList Try.prog ops Q rest (a.put o.dst (.slice A1 xs.length c1)) w1) : wpList Try.prog ops Q (o :: rest) a W :=
 Kd.R_lit (Kd.int .u8) W.heap.size 5 hgd hd (xs := xs) (inner := xs.map (Value.int .u8)) (ok := fun _ => True) (okp := fun _ => True) (w0 := W) hrun (Kd.reps_scalar xs) (fun _ h => h) trivial (Below.refl _ _) (Nat.le_refl _) hm
  fun v1 w1 h1 h2 _ _ => by
   obtain ⟨A1, c1, rfl⟩ := Kd.R_slice h1
   exact h A1 c1 w1 ⟨h1⟩ ⟨h2⟩ ⟨below_step HB.out h2⟩
end
set_option maxHeartbeats 400000 in
set_option maxRecDepth 100000 in
theorem clone_calls (A : Option Addr) (c : Nat) (l : List Int) (w : World) (hr : Kd.C (Kd.int .u8) w A l.length l) (hc : l.length ≤ c) (hl : l.length ≤ 140737488355327) :
 Calls Try.prog 152 #[.slice A l.length c] w fun e w' => ∃ v : Value, e = .returned v ∧ Kd.R (Kd.int .u8) 5 w' w.heap.size (fun _ => True) v l ∧ Below w.heap.size w w' := by
 have HR := Aside0.mk hr
 have HC := Aside0.mk hc
 have HL := Aside0.mk hl
 clear hr hc hl
 have HB := Aside0.mk (Below.refl w.heap.size w)
 have hq := fun W => Lib.run_eql_slice_nil (P := Try.prog) W 74 5 A l.length c 0 0 Try.underlying74
 cases A with
 | none =>
  simp only [Option.isNone_none] at hq
  have h0 : l = [] := by
   cases l with
   | nil => rfl
   | cons x l => obtain ⟨ad, h, _⟩ := HR.out.2.2 (by simp); cases h
  subst h0
  simp only [List.length_nil] at hq ⊢
  go_enter Try.func152, Try.ntmps152
  go_wp2
  go_ret
  exact ⟨_, rfl, Kd.R_nil _ _ _ _ _, HB.out⟩
 | some ad =>
  simp only [Option.isNone_some] at hq
  go_enter Try.func152, Try.ntmps152
  go_wp2_with (first
   | ((with_reducible refine gate_dst (N := 5) rfl ?_); refine Kd.R_lit (Kd.int .u8) _ 5 ?hg (N := 5) ?hd (xs := ([] : List Int)) (inner := []) (ok := fun _ => True) (okp := fun _ => True) ?hr ?hp (fun _ hk => hk) trivial (Below.refl _ _) (Nat.le_refl _) (by simp) ?_; (case hd => rfl); (case hg => rfl); (case hr => first | (go_simp; done) | (go_simp; rfl)); (case hp => exact (Reps.none _ _)); intro v0 w1 HO0 HB0 hg0 hn0; replace HO0 := Aside0.mk HO0; replace HB0 := Aside0.mk HB0; clear hg0 hn0)
   | ((with_reducible refine gate_builtin (b := .append) (xs := #[.tmp 5, .tmp 6]) rfl ?_); refine app_bytes (w0 := w) rfl (.tmp 5) (.tmp 6) rfl v0 [] l (some ad) c (fun _ => True) rfl rfl HB0 HO0.out (Kd.C_below HR.out HB0.out) (fun _ _ => trivial) (by have := HL.out; simp; omega) ?_; intro v1 w2 HO1 HB1 hg hat; simp only [List.nil_append] at HO1; clear hg hat))
  go_ret
  exact ⟨_, rfl, HO1.out, HB1.out⟩
end Go.Proofs.Ytocphkfkdadhaaa.K

namespace Go.Proofs.Ytocphkfkdadhaaa.K
open Go.RowKit Go.Proofs.YtocphkfkdadhaaaW.PrintWords Go.Proofs.YtocphkfkdadhaaaW.PrintLast Go.Proofs.YtocphkfkdadhaaaW.PrintMore Go.Proofs.Ytocphkfkdadhaaa.PRF
attribute [local go_sem] max2_int min2_int max_two min_two max_three min_three max_four min_four
set_option linter.unusedVariables false
set_option linter.unusedSimpArgs false
def wrongP (k : Int) : List PanicEntry := [{ v := .iface 206 (.agg #[.int .i64 k]), recovered := false }]
theorem need_ok (k : Int) (w : World) : Calls Try.prog 146 #[.bool true, .int .i64 k] w fun e w' => e = .returned (.tuple #[]) ∧ w = w' := by
 go_enter Try.func146, Try.ntmps146
 go_wp2
 go_end0
 exact ⟨rfl, rfl⟩
theorem need_no (k : Int) (w : World) : Calls Try.prog 146 #[.bool false, .int .i64 k] w fun e w' => e = .panicked (wrongP k) ∧ w = w' := by
 go_enter Try.func146, Try.ntmps146
 go_wp2
 exact ⟨rfl, rfl, rfl⟩
set_option maxRecDepth 100000 in
theorem cut_no (A : Option Addr) (c m n : Nat) (w : World) (hm : m ≤ 9223372036854775807) (hn : m < n) (hn2 : n ≤ 18446744073709551615) :
 Calls Try.prog 169 #[.slice A m c, .int .u64 (n : Int)] w fun e w' => e = .panicked (wrongP 7) ∧ w = w' := by
 have hd : decide (n ≤ m) = false := decide_eq_false (by omega)
 go_enter Try.func169, Try.ntmps169
 go_wp2_with (go_at_call 146; refine (need_no 7 _).mono ?_; rintro e w' ⟨rfl, rfl⟩)
 exact ⟨rfl, rfl, rfl⟩
def CutPost (A : Option Addr) (l : List Int) (n : Nat) (w : World) (e : Ending) (w' : World) : Prop :=
 ∃ A1 A2, e = .returned (.tuple #[.slice A1 n n, .slice A2 (l.length - n) (l.length - n)]) ∧ Drawn0 w w' ∧ ∀ W, Kd.C (Kd.int .u8) W A l.length l → Kd.C (Kd.int .u8) W A1 n (l.take n) ∧ Kd.C (Kd.int .u8) W A2 (l.length - n) (l.drop n)
set_option maxRecDepth 100000 in
theorem cut_ok (A : Option Addr) (c n : Nat) (l : List Int) (w : World) (hm : l.length ≤ 9223372036854775807) (hc : l.length ≤ c) (hn : n ≤ l.length) :
 Calls Try.prog 169 #[.slice A l.length c, .int .u64 (n : Int)] w (CutPost A l n w) := by
 go_enter Try.func169, Try.ntmps169
 go_wp2_with (go_at_call 146; refine (need_ok 7 _).mono ?_; rintro e w' ⟨rfl, rfl⟩)
 go_quiet (fail)
 go_wp2
 ·have h : l.length = n := by assumption
  go_ret2
  refine ⟨A, A, by simp [h], ⟨⟨_, rfl⟩⟩, fun W HR => ⟨?_, ?_⟩⟩
  ·have := HR; rw [← h, List.take_length]; exact this
  ·rw [← h, List.drop_length, Nat.sub_self]; exact ⟨rfl, by omega, fun h => absurd h (by omega)⟩
 ·have h : ¬ l.length = n := by assumption
  go_ret2
  refine ⟨A, A.map (·.add n), rfl, ⟨⟨_, rfl⟩⟩, fun W HR => ⟨?_, ?_⟩⟩
  ·have h1 := Kd.C_take HR hn; rw [List.length_take, Nat.min_eq_left hn] at h1; exact h1
  ·have h1 := Kd.C_drop HR hn (Nat.le_refl _); rw [if_neg h, List.length_drop, show (Kd.int IntKind.u8).sz = 1 from rfl, Nat.mul_one] at h1; exact h1
end Go.Proofs.Ytocphkfkdadhaaa.K

