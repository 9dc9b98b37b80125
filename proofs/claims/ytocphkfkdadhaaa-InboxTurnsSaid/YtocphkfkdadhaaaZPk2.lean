import Derived.Test.YtocphkfkdadhaaaZPk1
import Derived.Deep.RegionHeld3
import Derived.Deep.RegionLaw
import Derived.Great.BuildSlice
import Derived.Laws.StructEq
import Derived.Deep.MidRow
import Derived.BigQuiet
import Derived.Deep.DeepCutAuto
import Derived.Laws.EntriesVeiled
import Derived.Lib.SmallJoins
import Derived.ChangeSlices
import Derived.ChangeArms
import Derived.OpenShut
import Derived.SizedLaws
import Derived.ProofKit
import Derived.Test.YtocphkfkdadhaaaZPk0
import Derived.Test.YtocphkfkdadhaaaProg
import Derived.Below
import Derived.Deep.Draws
import Derived.Deep.AppendLies
import Derived.Maps.AppendAt
import Derived.OwnWalk
import Derived.Laws.BytesArg
import Derived.Laws.MakeOwn
import Derived.Laws.OwnMore
import Derived.Deep.OwnRows
import Derived.Tactics
import Derived.Lib.ConvBytes
import Derived.Laws.Slices
import Derived.WalkKit
import Derived.RowKit3
import Derived.Deep.LoopGhost
import Derived.Deep.QuietTactic
import Derived.WideLaws
import Derived.Deep.CutBlock
import Derived.Laws.Rows
import Derived.Lib.AppendStr
import Derived.ArgAppend
import Derived.Laws.IdiomCopy
import Derived.OrdersHeld
import Derived.Laws.BitsLemmas
import Derived.RowKit
import Derived.KernelRfl
set_option maxHeartbeats 1000000
set_option linter.unusedVariables false
set_option linter.unusedSimpArgs false
set_option maxRecDepth 100000
namespace Go.Proofs.Ytocphkfkdadhaaa.H
open Go.RowKit Go.Proofs.YtocphkfkdadhaaaW.PrintWords Go.Proofs.YtocphkfkdadhaaaW.PrintLast Go.Proofs.YtocphkfkdadhaaaW.PrintMore
namespace Own
variable {B : Nat} {w0 W W1 : World} {L : List Item} {α : Type} {d : Kd α} {e : Nat}
end Own
section
variable {P : Program} {ops : Array Oper} {rest : List Oper} {o : Oper} {a : Act} {Q : Exit → Act → World → Prop} {B : Nat} {w0 W : World} {L : List Item} {α : Type} (d : Kd α)
variable {Kc : Act → World → Prop}
theorem own_append_row_step (hF : Flat d) (H : Own B w0 W L) (k : Nat) {v : Value} {xs : List α} {e : Nat} (hk : L[k]? = some (.row d e v xs)) (hgd : o.guard = none) (s x : Operand) (t : TypeId) (z : Value) (bytes : Nat)
 (ho : o.op = .call { callee := .builtin .append, args := #[s, x], argTypes := #[t, t] })
 (ht : P.underlying t = some (.slice e)) (hinfo : (P.info? e).map (fun i => (i.zero, i.size, i.bytes)) = some (some z, d.sz, bytes)) (hz : z.cells.size = d.sz) (hs0 : 0 < d.sz) (hb0 : 0 < bytes)
 (ys : List α) (A : Option Addr) (m c : Nat) (hs : a.eval s = v) (hx : a.eval x = .slice A m c) (hC : d.C W A m ys) (hl : (xs.length + m) * bytes ≤ 140737488355328)
 (h : ∀ v1 w1, Own B w0 w1 (L.set k (.row d e v1 (xs ++ ys))) → Kc (a.put o.dst v1) w1) :
 if Region.wanted o (yielded ops a.tmps) = true then Oper.wp P o a W Kc Q else Kc (a.put o.dst undef) W := by
 obtain ⟨S, hS, hR, hch⟩ := H.focus k hk
 have hR : Kd.R d e W 0 S v xs := hR
 refine Kd.R_append_rows_step d 0 (by simp [Region.wanted, hgd]) s x t e z bytes ho ht hinfo hz hs0 hb0 v xs ys A m c (fun i => S i ∨ W.heap.size ≤ i) (fun _ => False) hs hx (Kd.R_mono hR fun i hi => .inl hi) hC (fun x cs hk => hF hk) (fun _ hk => hk.elim) (fun i hi => .inr hi) (w0 := W) ⟨rfl, rfl, rfl, Nat.le_refl _, fun _ _ => rfl⟩ (Nat.zero_le _) hl ?_
 intro v1 w1 hR1 _ hg _
 refine h v1 w1 (hch w1 (.row d e v1 (xs ++ ys)) v.ownBlock hg (fun g hr => hR.1 g hr) ?_)
 exact Kd.R_mono (Kd.R_bound hR1) (fun i hi => by rcases hi with ⟨hi | hi, h2, h3, _⟩; exact .inl hi; exact .inr ⟨hi, h3⟩)
end
theorem Own.setCells {B : Nat} {w0 W : World} {L : List Item} (h : Own B w0 W L) (k : Nat) {g : Nat} {cur : Array Value} {t : TypeId} (hk : L[k]? = some (.blk g cur t)) (vs : List Value) (hl : vs.length = cur.size) : Own B w0 (W.setCells g 0 vs) (L.set k (.blk g vs.toArray t)) := by
 obtain ⟨s1, s2, s3, s4⟩ := setCells_same g vs 0 W
 obtain ⟨cur', h1, h2, h3⟩ := setCells_row vs 0 W cur (h.get k hk) (by omega)
 have he : cur' = vs.toArray := by
  apply Array.toList_inj.1
  rw [h3, Nat.zero_add, List.take_zero, List.nil_append, List.drop_eq_nil_of_le (by rw [Array.length_toList]; omega), List.append_nil]
 subst he
 refine h.change k hk (some g) ⟨s1, s2, s3, by omega, fun i _ hi => setCells_far vs 0 i (fun e => hi (by rw [e]))⟩ fun S hs => ⟨fun x hx => by injection hx with hx; exact hx ▸ hs.1, .inl hs.1, h1⟩
theorem Sep.perm {W : World} {L L' : List Item} (hp : L.Perm L') : ∀ {U : Nat → Prop}, Sep W L U → Sep W L' U := by
 induction hp with
 | nil => intro U h; exact h
 | cons x _ ih => intro U ⟨S, h1, h2, h3⟩; exact ⟨S, h1, h2, ih h3⟩
 | swap x y l =>
  intro U ⟨S, h1, h2, S', g1, g2, g3⟩
  exact ⟨S', fun i hi => (g1 i hi).1, g2, S, fun i hi => ⟨h1 i hi, fun hs => (g1 i hs).2 hi⟩, h2, Sep.imp (fun i hi => ⟨⟨hi.1.1, hi.2⟩, hi.1.2⟩) g3⟩
 | trans _ _ ih1 ih2 => intro U h; exact ih2 (ih1 h)
theorem Own.perm {B : Nat} {w0 W : World} {L L' : List Item} (h : Own B w0 W L) (hp : L.Perm L') : Own B w0 W L' := ⟨h.below, h.base, Sep.perm hp h.sep⟩
abbrev kU : Kd Int := Kd.int .u64
theorem Flat_U : Flat kU := Flat_int .u64
theorem eight_any (m : Nat) (hm : m ≤ 18446744073709551615) (w : World) :
 Calls Try.prog 79 #[.int .u64 (m : Int)] w fun e w' => ∃ v : Value, e = .returned v ∧ Own w.heap.size w w' [.row kB 5 v (be8I m)] := by
 have H0 := Aside0.mk ((Own.start w).null kB 5)
 have HB8 := Aside0.mk (fun j h => be8_take m j h)
 have HBL := Aside0.mk (fun j h => be8_tlen m j h)
 have HB9 : Aside0 ((be8I m).take 8 = be8I m) := ⟨List.take_of_length_le (by simp [be8I, toI, be8_len])⟩
 generalize be8I m = b8 at *
 go_enter Try.func79, Try.ntmps79
 go_wp2_with fail
 go_loopw [3, 4] (fun v3 v4 wr => ∃ (j : Nat) (A : Option Addr) (c : Nat), j ≤ 8 ∧ v4 = .int .i64 (7 - (j : Int)) ∧ v3 = .slice A j c ∧ Aside0 (Own w.heap.size w wr [.row kB 5 (.slice A j c) (b8.take j)])) (fun v3 v4 _ => 8 - lenV v3)
 case atStart => exact ⟨0, none, 0, by decide, rfl, rfl, ⟨by simpa using H0.out⟩⟩
 case round =>
  obtain ⟨j, A4, c4, hj, rfl, rfl, H4⟩ := hrel
  by_cases hlt : j < 8
  ·have HT := Aside0.mk ((HB8.out j hlt).trans (by rw [show 56 - 8 * j = 8 * (7 - j) by omega, cast_shr8 m (8 * (7 - j))]))
   have HL4 : Aside0 ((b8.take j).length + 1 ≤ 140737488355328) := ⟨by have := HBL.out j hj; omega⟩
   have HL5 : Aside0 ((b8.take (j + 1)).length = j + 1) := ⟨HBL.out (j + 1) (by omega)⟩
   have hge : (0 : Int) ≤ 7 - (j : Int) := by omega
   go_wp2_with (first
    | fail
    | ((with_reducible refine gate_dst (N := 17) rfl ?_); (with_reducible refine gate_builtin (b := .append) (xs := #[.tmp 9, .tmp 16]) rfl ?_); refine own_append kB Flat_B H4.out 0 rfl rfl (.tmp 9) (.tmp 16) 74 (.int .u8 0) 1 rfl Try.underlying74 infoB rfl (by decide) (by decide) ((m : Int) / 2 ^ (8 * (7 - j)) % 256) [.int .u8 ((m : Int) / 2 ^ (8 * (7 - j)) % 256)] (fun _ => rfl) rfl rfl ?_ ?_; (case _ => (have := HL4.out; omega)); intro v5 w5 H5; replace H5 := Aside0.mk H5)
    )
   obtain ⟨A5, c5, rfl, _⟩ := H5.out.reads 0 rfl
   rw [← HT.out] at H5 ⊢
   rw [HL5.out] at H5 ⊢
   go_wp2_with fail
   go_roundw
   case rel => exact ⟨j + 1, A5, c5, hlt, by go_num, rfl, H5⟩
   case measure => simp [lenV]; omega
  ·have hje : j = 8 := by omega
   subst hje
   clear hlt
   go_wp2_with fail
   go_ret
   exact ⟨_, rfl, by have h := H4.out; rw [HB9.out] at h; exact h⟩
theorem beq_drop (x y : List Int) (hl : x.length = y.length) (s : Nat) (h : s < x.length) : (x.drop s == y.drop s) = (x[s] == y[s]'(by omega) && (x.drop (s + 1) == y.drop (s + 1))) := by
 rw [List.drop_eq_getElem_cons h, List.drop_eq_getElem_cons (by omega : s < y.length)]
 rfl
section
variable {P : Program}
theorem run_part_B (e : TypeId) (he : P.underlying e = some (.int .u8)) (xs : List Int) (i : Nat) (h : i < xs.length) (w : World) : (part e (cellsB xs) i).run P w = .ok (.int .u8 xs[i]) w := by
 have hag : (isAgg e).run P w = .ok false w := by
  unfold isAgg
  simp [run_underlying he, go_sem]
 have hg : (cellsB xs)[i]? = some (.int .u8 xs[i]) := by simp [cellsB, h]
 simp [part, hag, hg, go_sem]
theorem run_equalIn_B (d : Nat) (t e : TypeId) (n : Nat) (ht : P.underlying t = some (.array n e)) (he : P.underlying e = some (.int .u8)) (hs : (P.info? e).map (·.size) = some 1) (xs ys : List Int) (hx : xs.length = n) (hy : ys.length = n) (w : World) :
 (Op.equalIn (d + 2) t (.agg (cellsB xs)) (.agg (cellsB ys))).run P w = .ok (xs == ys) w := by
 obtain ⟨ti, hti, hsz⟩ := Option.map_eq_some_iff.1 hs
 have hso : (sizeOf e).run P w = .ok 1 w := by simp [sizeOf, typeInfo, hti, hsz, go_sem]
 rw [Op.equalIn]
 simp only [Sem.run_bind, run_underlying ht, Result.andThen_ok, hso, Nat.mul_one]
 rw [Std.Legacy.Range.forIn_eq_forIn_range']
 simp only [Std.Legacy.Range.size]
 have key : ∀ (k s : Nat), s + k = n → ((forIn (m := Sem) (List.range' s k 1) ((none, ()) : Option Bool × PUnit) fun i r => do
  let a ← part e (cellsB xs) i
  let b ← part e (cellsB ys) i
  let q ← Op.equalIn (d + 1) e a b
  if (!q) = true then pure (ForInStep.done (some false, ())) else pure (ForInStep.yield (none, ())))).run P w = .ok (if (xs.drop s == ys.drop s) = true then (none, ()) else (some false, ())) w := by
  intro k
  induction k with
  | zero =>
   intro s hsn
   rw [List.drop_eq_nil_of_le (by omega), List.drop_eq_nil_of_le (by omega)]
   simp
  | succ k ih =>
   intro s hsn
   rw [List.range'_succ, List.forIn_cons]
   have h1 : s < xs.length := by omega
   have h2 : s < ys.length := by omega
   have he2 := run_equalIn_int (P := P) w d e .u8 .u8 xs[s] ys[s] he
   simp only [Sem.run_bind, run_part_B e he xs s h1 w, run_part_B e he ys s h2 w, Result.andThen_ok, he2]
   rw [beq_drop xs ys (by omega) s h1]
   cases hq : (xs[s] == ys[s])
   ·simp
   ·have := ih (s + 1) (by omega)
    simp only [Bool.not_true, Bool.false_eq_true, if_false, Sem.run_pure, Result.andThen_ok, Bool.true_and]
    exact this
 have := key n 0 (by omega)
 simp only [List.drop_zero] at this
 simp only [show (n - 0 + 1 - 1) / 1 = n by omega]
 rw [this]
 by_cases hxy : (xs == ys) = true
 ·simp [hxy]
 ·simp [hxy]
end
theorem run_eqH {P : Program} (d t e : TypeId) (n : Nat) (ht : P.underlying t = some (.array n e)) (he : P.underlying e = some (.int .u8)) (hs : (P.info? e).map (·.size) = some 1) (hg : P.eqGuardType P.depth t = false) (xs ys : List Int) (hx : xs.length = n) (hy : ys.length = n) (px py : Operand) (w : World) :
 (do eqGuard .eql t px py (.agg (cellsB xs)) (.agg (cellsB ys)); binOp .eql t (.agg (cellsB xs)) (.agg (cellsB ys)) : Sem Value).run P w = .ok (.bool (xs == ys)) w ∧
 (do eqGuard .neq t px py (.agg (cellsB xs)) (.agg (cellsB ys)); binOp .neq t (.agg (cellsB xs)) (.agg (cellsB ys)) : Sem Value).run P w = .ok (.bool (!(xs == ys))) w := by
 have h1 : (Op.equal t (.agg (cellsB xs)) (.agg (cellsB ys))).run P w = .ok (xs == ys) w := run_equalIn_B 9998 t e n ht he hs xs ys hx hy w
 constructor
 ·simp [eqGuard, hg, binOp, h1, Sem.run_bind, go_sem]
 ·simp [eqGuard, hg, binOp, h1, Sem.run_bind, go_sem]
theorem add_add_ (ad : Addr) (i j : Nat) : (ad.add i).add j = ad.add (i + j) := by
 unfold Addr.add
 by_cases h1 : i = 0 <;> by_cases h2 : j = 0 <;> simp [h1, h2, Nat.add_assoc]
section
variable {P : Program} {ops : Array Oper} {rest : List Oper} {o : Oper} {a : Act} {Q : Exit → Act → World → Prop} {W : World}
theorem run_loadVar_at (p : Addr) (ty : TypeId) (cs : List Value) (d : TypeDesc) (hc : ∀ j v, cs[j]? = some v → W.cell? (p.add j) = some v) (hu : P.underlying ty = some d) (hd : (match d with | .struct _ | .array _ _ => true | _ => false) = true) (hi : (P.info? ty).map (·.size) = some cs.length) :
 (loadVar ty p).run P W = .ok (.agg cs.toArray) W := by
 have hl : (loadCells p cs.length).run P W = .ok cs.toArray W := run_loadCells_list (P := P) W p cs hc
 cases hq : P.info? ty with
 | none => simp [hq] at hi
 | some i =>
  have hs : i.size = cs.length := by simpa [hq] using hi
  have hagg : (isAgg ty).run P W = .ok true W := by
   unfold isAgg
   rw [Sem.run_bind, run_underlying hu W]
   cases d <;> simp_all
  simp [loadVar, Sem.run_bind, hagg, sizeOf, typeInfo, hq, hs, hl]
theorem eq_H (hgd : o.guard = none) (t u : TypeId) (x y : Operand) (ho : o.op = .binOp .eql t x y u) (xs ys : List Int) (hx : a.eval x = .agg (cellsB xs)) (hy : a.eval y = .agg (cellsB ys)) {n : Nat} {e : TypeId} (ht : P.underlying t = some (.array n e)) (he : P.underlying e = some (.int .u8)) (hs : (P.info? e).map (·.size) = some 1) (hg : P.eqGuardType P.depth t = false) (lx : xs.length = n) (ly : ys.length = n)
 (h : wpList P ops Q rest (a.put o.dst (.bool (xs == ys))) W) : wpList P ops Q (o :: rest) a W :=
 wpList_plain hgd fun _ hK => by
  unfold Oper.wp execOp
  have := (run_eqH (P := P) 0 t e n ht he hs hg xs ys lx ly x y W).1
  simp only [Sem.run_bind] at this
  simp only [ho, hx, hy, Sem.run_bind, Sem.run_pure]
  rw [this]
  exact hK _ _ h
end
section
variable {P : Program}
end
theorem guardH : Try.prog.eqGuardType Try.prog.depth 25 = false := by kernel_rfl
theorem size1B : (Try.prog.info? 5).map (·.size) = some 1 := by kernel_rfl
theorem sizeH : (Try.prog.info? 25).map (·.size) = some 32 := by kernel_rfl
def zero32 : List Int := List.replicate 32 0
def rootP : Nat → List (List Int) → List Int
 | 0, ls => ls.getD 0 zero32
 | d + 1, ls => if ls.length = 0 then pairI (rootP d []) (rootP d []) else if ls.length ≤ 2 ^ d then pairI (rootP d ls) (rootP d []) else pairI (rootP d (ls.take (2 ^ d))) (rootP d (ls.drop (2 ^ d)))
theorem R_block {α : Type} {d : Kd α} {e : Nat} {W : World} {base : Nat} {ok : Nat → Prop} {g n cap : Nat} {xs : List α} (h : d.R e W base ok (.slice (some ⟨g, 0, none⟩) n cap) xs) :
 n = xs.length ∧ ∃ cur inner, W.heap[g]? = some (.cells cur e (0, 0)) ∧ cur.size = cap * d.sz ∧ n ≤ cap ∧ cur.toList.take (n * d.sz) = inner ∧ Reps (d.M W base (fun k => ok k ∧ some k ≠ (Value.slice (some ⟨g, 0, none⟩) n cap).ownBlock)) d.sz xs inner := by
 have hn := (Kd.R_reads' h).1
 obtain ⟨hok, inner, ho, hr⟩ := h
 refine ⟨hn, ?_⟩
 rcases ho.2 with ⟨he, _⟩ | ⟨g', cap', cur, he, hb, hh, hc1, hc2, hc3, hc4⟩
 ·cases he
 ·injection he with h1 h2 h3
  injection h1 with h1
  injection h1 with h1
  subst h1 h3 hn
  exact ⟨cur, inner, hh, hc3, hc1, hc4, hr⟩
theorem R_there {α : Type} {d : Kd α} {e : Nat} {W : World} {base : Nat} {ok : Nat → Prop} {g n cap : Nat} {xs : List α} (h : d.R e W base ok (.slice (some ⟨g, 0, none⟩) n cap) xs) (i : Nat) (hi : i < n) : W.there g (i * d.sz) d.sz := by
 obtain ⟨hn, cur, inner, hh, hc3, hc1, hc4, hr⟩ := R_block h
 have hm : i * d.sz + d.sz ≤ cap * d.sz := by rw [← Nat.succ_mul]; exact Nat.mul_le_mul_right _ (by omega)
 intro j hj
 refine ⟨?_, blk_frozen hh _⟩
 rw [blk_cell hh, Array.getElem?_eq_getElem (by omega)]
 rfl
theorem R_putC {α : Type} {d : Kd α} {e : Nat} {W : World} {base : Nat} {ok : Nat → Prop} {g n cap : Nat} {xs : List α} (h : d.R e W base ok (.slice (some ⟨g, 0, none⟩) n cap) xs) (i : Nat) (hi : i < n) {x : α} {seg : List Value}
 (hF : Flat d) (hx : ∀ W, d.K W x seg) : d.R e (W.setCells g (i * d.sz) seg) base ok (.slice (some ⟨g, 0, none⟩) n cap) (xs.set i x) ∧ W.grownBy (W.setCells g (i * d.sz) seg) (some g) := by
 obtain ⟨s1, s2, s3, s4⟩ := setCells_same g seg (i * d.sz) W
 have hgr : W.grownBy (W.setCells g (i * d.sz) seg) (some g) := ⟨s1, s2, s3, by omega, fun k _ hk => setCells_far seg _ k (fun e => hk (by rw [e]))⟩
 refine ⟨?_, hgr⟩
 have hb := R_block h
 obtain ⟨hok, inner0, ho, _⟩ := h
 obtain ⟨hn, cur, inner, hh, hc3, hc1, hc4, hr⟩ := hb
 have hl := d.K_len (hx W)
 have hm : i * d.sz + d.sz ≤ n * d.sz := by rw [← Nat.succ_mul]; exact Nat.mul_le_mul_right _ (by omega)
 have hm2 : n * d.sz ≤ cap * d.sz := Nat.mul_le_mul_right _ hc1
 have hcl : cur.toList.length = cap * d.sz := by rw [Array.length_toList, hc3]
 obtain ⟨cur', h1, h2, h3⟩ := setCells_row (e := e) seg (i * d.sz) W cur hh (by omega)
 have hr2 := Kd.reps_set (Reps.imp_ (R' := d.M (W.setCells g (i * d.sz) seg) base (fun k => ok k ∧ some k ≠ (Value.slice (some ⟨g, 0, none⟩) n cap).ownBlock)) hr fun p cs hp => d.M_move (fun k hk => setCells_far seg _ k fun e => hk.2 (by rw [e]; rfl)) hp) (i := i) (by omega) (x := x) (seg := seg) (d.M_mono (fun k hk => hk.elim) (hF (hx _))) hl
 have hln : (xs.set i x).length = n := by rw [List.length_set, ← hn]
 refine ⟨hok, _, ?_, hr2⟩
 rw [hln]
 refine ⟨?_, .inr ⟨g, cap, cur', rfl, ?_, h1, hc1, ?_, ?_, ?_⟩⟩
 ·rw [hr2.1, List.length_set, ← hn]
 ·rcases ho.2 with ⟨he, _⟩ | ⟨g', cap', _, he, hb, _⟩
  ·cases he
  ·injection he with h1 h2 h3
   injection h1 with h1
   injection h1 with h1
   subst h1
   exact hb
 ·rcases ho.2 with ⟨he, _⟩ | ⟨g', cap', _, he, hb, _, _, hmx, _⟩
  ·cases he
  ·injection he with h1 h2 h3
   subst h3
   exact hmx
 ·rw [h2, hc3]
 ·rw [h3, ← hc4]
  have e1 : (cur.toList.take (n * d.sz)).take (i * d.sz) = cur.toList.take (i * d.sz) := by rw [List.take_take, Nat.min_eq_left (by omega)]
  rw [e1]
  have e2 : (cur.toList.take (n * d.sz)).drop (i * d.sz + seg.length) = (cur.toList.drop (i * d.sz + seg.length)).take (n * d.sz - (i * d.sz + seg.length)) := by rw [List.drop_take]
  rw [e2, List.take_append, List.take_append]
  rw [List.take_of_length_le (l := cur.toList.take (i * d.sz)) (by rw [List.length_take]; omega)]
  rw [List.take_of_length_le (l := seg) (by rw [List.length_take]; omega)]
  congr 2
  simp only [List.length_append, List.length_take]
  omega
namespace Own
variable {B : Nat} {w0 W : World} {L : List Item} {α : Type} {d : Kd α}
theorem putC (h : Own B w0 W L) (k : Nat) {g n cap e : Nat} {xs : List α} (hk : L[k]? = some (.row d e (.slice (some ⟨g, 0, none⟩) n cap) xs)) (i : Nat) (hi : i < n) {x : α} {seg : List Value} (hF : Flat d) (hx : ∀ W, d.K W x seg) :
 Own B w0 (W.setCells g (i * d.sz) seg) (L.set k (.row d e (.slice (some ⟨g, 0, none⟩) n cap) (xs.set i x))) := by
 obtain ⟨S, _, hR, hch⟩ := h.focus k hk
 have hR : Kd.R d e W 0 S _ xs := hR
 obtain ⟨h1, h2⟩ := R_putC hR i hi hF hx
 exact hch _ _ (some g) h2 (fun g' he => by injection he with he; subst he; exact hR.1 g rfl) (Kd.R_mono h1 fun i hi => .inl hi)
theorem there_row (h : Own B w0 W L) (k : Nat) {g n cap e : Nat} {xs : List α} (hk : L[k]? = some (.row d e (.slice (some ⟨g, 0, none⟩) n cap) xs)) (i : Nat) (hi : i < n) : W.there g (i * d.sz) d.sz := by
 obtain ⟨S, _, hR⟩ := h.look k hk
 exact R_there (d := d) hR i hi
end Own
section
variable {P : Program} {ops : Array Oper} {rest : List Oper} {o : Oper} {a : Act} {Q : Exit → Act → World → Prop} {B : Nat} {w0 W : World} {L : List Item}
end
abbrev at0 (ss : List (List Int)) (i : Nat) : List Int := ss.getD i []
structure Tree (n : Nat) (lf : List (List Int)) (ss : List (List Int)) (out : Nat → Prop) : Prop where
 len : ss.length = 2 * n
 lfn : lf.length = n
 leaf : ∀ i, i < n → at0 ss (n + i) = at0 lf i
 node : ∀ i, 1 ≤ i → i < n → ¬ out i → at0 ss i = pairI (at0 ss (2 * i)) (at0 ss (2 * i + 1))
theorem Tree.sub {D : Nat} {lf ss : List (List Int)} (h : Tree (2 ^ D) lf ss (fun _ => False)) : ∀ k, k ≤ D → ∀ j, j < 2 ^ (D - k) →
 at0 ss (2 ^ (D - k) + j) = rootP k ((lf.drop (j * 2 ^ k)).take (2 ^ k)) := by
 intro k
 induction k with
 | zero =>
  intro _ j hj
  rw [Nat.sub_zero] at hj ⊢
  rw [h.leaf j hj, Nat.pow_zero, Nat.mul_one]
  have hjl : j < lf.length := by rw [h.lfn]; exact hj
  unfold rootP at0
  rw [List.getD_eq_getElem?_getD, List.getD_eq_getElem?_getD, List.getElem?_take, List.getElem?_drop, Nat.add_zero, if_pos (by decide), List.getElem?_eq_getElem hjl]
  rfl
 | succ k ih =>
  intro hk j hj
  have e2 : 2 ^ (D - k) = 2 * 2 ^ (D - (k + 1)) := by rw [show D - k = (D - (k + 1)) + 1 by omega, Nat.pow_succ, Nat.mul_comm]
  have e3 : 2 ^ (D - (k + 1)) * 2 ^ (k + 1) = 2 ^ D := by rw [← Nat.pow_add, Nat.sub_add_cancel hk]
  have e4 : 2 ^ (k + 1) = 2 ^ k + 2 ^ k := by rw [Nat.pow_succ]; omega
  have hp : 0 < 2 ^ (D - (k + 1)) := Nat.two_pow_pos _
  have hq : 0 < 2 ^ k := Nat.two_pow_pos _
  have hle : 2 ^ (D - (k + 1)) + j < 2 ^ D := by
   have : 2 ^ (D - k) ≤ 2 ^ D := Nat.pow_le_pow_right (by decide) (Nat.sub_le _ _)
   omega
  rw [h.node _ (by omega) hle (fun x => x)]
  have i1 := ih (by omega) (2 * j) (by omega)
  have i2 := ih (by omega) (2 * j + 1) (by omega)
  rw [show 2 * (2 ^ (D - (k + 1)) + j) = 2 ^ (D - k) + 2 * j by omega, i1, show 2 ^ (D - k) + 2 * j + 1 = 2 ^ (D - k) + (2 * j + 1) by omega, i2]
  have hjm : (j + 1) * 2 ^ (k + 1) ≤ 2 ^ D := by rw [← e3]; exact Nat.mul_le_mul_right _ (by omega)
  have hjm' : j * 2 ^ (k + 1) + 2 ^ (k + 1) ≤ 2 ^ D := by rw [← Nat.succ_mul]; exact hjm
  have hlen : ((lf.drop (j * 2 ^ (k + 1))).take (2 ^ (k + 1))).length = 2 ^ (k + 1) := by
   rw [List.length_take, List.length_drop, h.lfn]; omega
  conv => rhs; unfold rootP
  rw [hlen, if_neg (by omega), if_neg (by omega), List.take_take, List.drop_take, List.drop_drop, Nat.min_eq_left (by omega)]
  have a1 : 2 * j * 2 ^ k = j * 2 ^ (k + 1) := by rw [Nat.pow_succ, Nat.mul_comm 2 j, Nat.mul_assoc, Nat.mul_comm 2 (2 ^ k)]
  have a2 : (2 * j + 1) * 2 ^ k = j * 2 ^ (k + 1) + 2 ^ k := by rw [Nat.add_mul, a1, Nat.one_mul]
  rw [a1, a2, show 2 ^ (k + 1) - 2 ^ k = 2 ^ k by omega]
def isAggD : TypeDesc → Bool
 | .struct _ => true
 | .array _ _ => true
 | _ => false
section
variable {P : Program} {ops : Array Oper} {rest : List Oper} {o : Oper} {a : Act} {Q : Exit → Act → World → Prop} {B : Nat} {w0 W : World} {L : List Item}
theorem own_loadV (H : Own B w0 W L) (k : Nat) (g : Nat) (cs : Array Value) (ty : TypeId) (hk : L[k]? = some (.blk g cs ty)) (hgd : o.guard = none) (x : Operand) (ho : o.op = .load ty x) (d : TypeDesc)
 (hx : a.eval x = .pointer (some ⟨g, 0, none⟩)) (hu : P.underlying ty = some d) (hd : isAggD d = true) (hi : (P.info? ty).map (·.size) = some cs.size)
 (h : wpList P ops Q rest (a.put o.dst (.agg cs)) W) : wpList P ops Q (o :: rest) a W :=
 wpList_load_row hgd ty x ho g hx ty cs (0, 0) d (H.get k hk) hu (by cases d <;> first | rfl | cases hd) hi h
end
theorem own_resultV {fn : Func} {p : Tmp} {ty : TypeId} (h : fn.results = #[.cell p ty]) (tmps : Array Value) {B : Nat} {w0 W : World} {L : List Item} (H : Own B w0 W L) (k : Nat) (g : Nat) (cs : Array Value) (hk : L[k]? = some (.blk g cs ty))
 (hp : tmps.getD p undef = .pointer (some ⟨g, 0, none⟩)) {P : Program} (d : TypeDesc) (hu : P.underlying ty = some d) (hd : isAggD d = true) (hi : (P.info? ty).map (·.size) = some cs.size) :
 (results fn tmps).run P W = .ok (.agg cs) W := results_cell_row h tmps W g ty cs (0, 0) d hp (H.get k hk) hu (by cases d <;> first | rfl | cases hd) hi
theorem own_resultV_t {fn : Func} {p u : Tmp} {ty : TypeId} (h : fn.results = #[.cell p ty, .tmp u]) (tmps : Array Value) {B : Nat} {w0 W : World} {L : List Item} (H : Own B w0 W L) (k : Nat) (g : Nat) (cs : Array Value) (hk : L[k]? = some (.blk g cs ty))
 (hp : tmps.getD p undef = .pointer (some ⟨g, 0, none⟩)) {P : Program} (d : TypeDesc) (hu : P.underlying ty = some d) (hd : isAggD d = true) (hi : (P.info? ty).map (·.size) = some cs.size) (v : Value) (hv : tmps.getD u undef = v) :
 (results fn tmps).run P W = .ok (.tuple #[.agg cs, v]) W := by
 subst hv
 exact results_ct h tmps W g ty cs (0, 0) d hp (H.get k hk) hu (by cases d <;> first | rfl | cases hd) hi
theorem perm_front {α : Type} : ∀ (l : List α) (k : Nat) (x : α), l[k]? = some x → l.Perm (x :: l.eraseIdx k)
 | [], k, x, h => by simp at h
 | y :: l, 0, x, h => by
  obtain rfl : y = x := by simpa using h
  exact List.Perm.refl _
 | y :: l, k + 1, x, h => ((perm_front l k x (by simpa using h)).cons y).trans (List.Perm.swap x y _)
theorem Own.bring {B : Nat} {w0 W : World} {L : List Item} (h : Own B w0 W L) (k : Nat) {it : Item} (hk : L[k]? = some it) : Own B w0 W (it :: L.eraseIdx k) := h.perm (perm_front L k it hk)
namespace Own
variable {B : Nat} {w0 W : World} {L : List Item} {α : Type} {d : Kd α}
theorem putS (h : Own B w0 W L) (k : Nat) {g n cap e : Nat} {xs : List α} (hk : L[k]? = some (.row d e (.slice (some ⟨g, 0, none⟩) n cap) xs)) (i : Nat) (hi : i < n) {x : α} {v : Value} (hF : Flat d) (hs : d.sz = 1) (hx : ∀ W, d.K W x [v]) :
 Own B w0 (W.setCell ⟨g, i, none⟩ v) (L.set k (.row d e (.slice (some ⟨g, 0, none⟩) n cap) (xs.set i x))) := by
 have := h.putC k hk i hi hF hx
 rw [hs, Nat.mul_one] at this
 exact this
theorem there1 (h : Own B w0 W L) (k : Nat) {g n cap e : Nat} {xs : List α} (hk : L[k]? = some (.row d e (.slice (some ⟨g, 0, none⟩) n cap) xs)) (i : Nat) (hi : i < n) (hs : d.sz = 1) : (W.cell? ⟨g, i, none⟩).isSome = true ∧ W.frozen? ⟨g, i, none⟩ = false := by
 have := h.there_row (d := d) k hk i hi
 rw [hs, Nat.mul_one] at this
 exact this 0 (by decide)
theorem apart {g : Nat} {cs : Array Value} {t : TypeId} (h : Own B w0 W (.blk g cs t :: L)) (k : Nat) {g1 o n cap e : Nat} {xs : List α} (hk : L[k]? = some (.row d e (.slice (some ⟨g1, o, none⟩) n cap) xs)) : ¬ g = g1 := by
 obtain ⟨S, h1, h2, h3⟩ := h.sep
 obtain ⟨S2, h4, h5, _⟩ := Sep.pick hk h3
 have hR : Kd.R d e W 0 S2 _ xs := h5
 intro he
 subst he
 exact (h4 g (hR.1 g rfl)).2 h2.1
end Own
def Anc (k j : Nat) : Prop := ∃ s, j = k / 2 ^ s
theorem Anc.zero {j : Nat} (h : Anc 0 j) : j = 0 := by
 obtain ⟨s, rfl⟩ := h
 exact Nat.zero_div _
section
variable {P : Program} {ops : Array Oper} {S : World → Prop} {o : Oper} {a : Act}
theorem yif_loadV (hw : Region.wanted o (yielded ops a.tmps) = true) (ty : TypeId) (x : Operand) (ho : o.op = .load ty x) (g : Nat) (cs : Array Value) (hx : a.eval x = .pointer (some ⟨g, 0, none⟩))
 (hS : ∀ w, S w → w.heap[g]? = some (.cells cs ty (0, 0))) (d : TypeDesc) (hu : P.underlying ty = some d) (hd : isAggD d = true) (hi : (P.info? ty).map (·.size) = some cs.size) : YieldsIf P ops S o (.agg cs) a :=
 .inl ⟨hw, fun w h => by
  unfold execOp
  simp only [ho, hx, Instr.loadAt, Instr.sureAddr, Sem.run_bind, Sem.run_pure, Result.andThen_ok, run_loadVar_row w g ty ty cs (0, 0) d (hS w h) hu (by cases d <;> first | rfl | cases hd) hi]⟩
end
theorem step_of_run {P : Program} {ops : Array Oper} {o : Oper} {a : Act} {Q : Exit → Act → World → Prop} {Kc : Act → World → Prop} {W W1 : World} {v : Value} (hw : Region.wanted o (yielded ops a.tmps) = true) (hrun : (execOp a.eval o).run P W = .ok (.value v) W1) (h : Kc (a.put o.dst v) W1) :
 if Region.wanted o (yielded ops a.tmps) = true then Oper.wp P o a W Kc Q else Kc (a.put o.dst undef) W := by
 rw [if_pos hw]
 unfold Oper.wp
 rw [hrun]
 exact h
end Go.Proofs.Ytocphkfkdadhaaa.H
namespace Go.Proofs.Ytocphkfkdadhaaa.H
open Go.RowKit Go.Proofs.YtocphkfkdadhaaaW.PrintWords Go.Proofs.YtocphkfkdadhaaaW.PrintLast Go.Proofs.YtocphkfkdadhaaaW.PrintMore
open Go.ChangeShapes Go.WideShapes Go.ChangeAt
theorem choose_list {α : Type} (Q : Nat → α → Prop) : ∀ n : Nat, (∀ i, i < n → ∃ y, Q i y) → ∃ xs : List α, xs.length = n ∧ ∀ i p, xs[i]? = some p → Q i p
 | 0, _ => ⟨[], rfl, fun i p h => by simp at h⟩
 | n + 1, h => by
  obtain ⟨xs, hl, hx⟩ := choose_list Q n (fun i hi => h i (by omega))
  obtain ⟨y, hy⟩ := h n (by omega)
  refine ⟨xs ++ [y], by rw [List.length_append, hl]; rfl, fun i p hp => ?_⟩
  by_cases hi : i < xs.length
  ·rw [List.getElem?_append_left hi] at hp
   exact hx i p hp
  ·rw [List.getElem?_append_right (by omega)] at hp
   by_cases h0 : i - xs.length = 0
   ·rw [h0] at hp
    simp at hp
    subst hp
    rw [show i = n by omega]
    exact hy
   ·rw [List.getElem?_eq_none (by simp; omega)] at hp
    cases hp
def Opens {α : Type} (T : TypeId) (d : Kd α) (ok : α → Prop) : Prop :=
 ∀ {H : Type} {enc : TypeId × Value → H} {W : World} {fuel : Nat} {cs : List Value} {x : DataW H × List MemPlace}, DataW.trod enc Try.prog W 0 (fun _ => true) true fuel T cs = some x → ∃ y, d.K W y cs ∧ ok y
theorem opens_int {T : TypeId} {k : IntKind} (hT : Try.prog.underlying T = some (.int k)) : Opens T (Kd.int k) (fun n => (Lit.int k n).wf = true) := by
 intro H enc W fuel cs x h
 obtain ⟨n, e, _, w⟩ := DataW.trod_int hT h
 exact ⟨n, e, w⟩
def kA (n : Nat) (k : IntKind) : Kd (List Int) where
 sz := n
 E := []
 K := fun _ x cs => x.length = n ∧ cs = x.map (Value.int k)
 M := fun _ _ _ x cs => x.length = n ∧ cs = x.map (Value.int k)
 K_len := fun h => by rw [h.2, List.length_map, h.1]
 K_one := fun h u hu => by
  rw [h.2] at hu
  obtain ⟨x, _, rfl⟩ := List.mem_map.1 hu
  rfl
 K_below := fun _ h => h
 K_of_M := fun h => h
 M_mono := fun _ h => h
 M_bound := fun h => h
 M_move := fun _ h => h
 M_lower := fun _ h => h
noncomputable def offs : List TypeId → Nat → Nat
 | [] => fun _ => 0
 | t :: ts => fun i => match i with
  | 0 => 0
  | i + 1 => Try.prog.cellsOf t + offs ts i
end Go.Proofs.Ytocphkfkdadhaaa.H
namespace Go.Proofs.Ytocphkfkdadhaaa.H
open Go.RowKit Go.Proofs.YtocphkfkdadhaaaW.PrintWords Go.Proofs.YtocphkfkdadhaaaW.PrintLast Go.Proofs.YtocphkfkdadhaaaW.PrintMore
def splice (cs : List Value) (o : Nat) (seg : List Value) : List Value := cs.take o ++ seg ++ cs.drop (o + seg.length)
theorem splice_mid (a s s' b : List Value) (h : s.length = s'.length) : splice (a ++ (s ++ b)) a.length s' = a ++ (s' ++ b) := by
 unfold splice
 rw [List.take_left' rfl, ← h, ← List.append_assoc, List.drop_left' (by simp), List.append_assoc]
theorem fold_splice : ∀ (v : List Value) (o s : Nat) (cs : Array Value), o + s + v.length ≤ cs.size → ((v.zipIdx s).foldl (fun (cs : Array Value) (x : Value × Nat) => cs.setIfInBounds (o + x.2) x.1) cs).toList = splice cs.toList (o + s) v
 | [], o, s, cs, h => by simp [splice]
 | x :: v, o, s, cs, h => by
  simp only [List.length_cons] at h
  rw [List.zipIdx_cons, List.foldl_cons, fold_splice v o (s + 1) _ (by simp only [Array.size_setIfInBounds]; omega)]
  unfold splice
  simp only [Array.toList_setIfInBounds, List.length_cons]
  have hl : o + s < cs.toList.length := by rw [Array.length_toList]; omega
  rw [show o + (s + 1) = o + s + 1 by omega, show o + s + (v.length + 1) = o + s + 1 + v.length by omega, List.take_succ_eq_append_getElem (by rw [List.length_set]; exact hl), List.take_set_of_le (Nat.le_refl _), List.getElem_set_self, List.drop_set_of_lt (by omega)]
  simp
theorem fill_step {place : Nat → Option (Nat × Nat)} {cs : Array Value} {i o n : Nat} {v : Value} {rest : List (Nat × Value)} (hp : place i = some (o, n)) (hn : v.cells.size = n) (hl : o + n ≤ cs.size) :
 Instr.fill place cs ((i, v) :: rest) = Instr.fill place (splice cs.toList o v.cells.toList).toArray rest := by
 rw [Instr.fill]
 simp only [hp]
 rw [if_neg (by rw [hn]; simp; omega)]
 congr 1
 have h := fold_splice v.cells.toList o 0 cs (by rw [Array.length_toList]; omega)
 rw [Nat.add_zero] at h
 rw [← h, Array.toArray_toList]
 rw [← Array.foldl_toList, Array.toList_zipIdx]
namespace Own
variable {B : Nat} {w0 W : World} {L : List Item}
theorem there_blk (h : Own B w0 W L) (k : Nat) {g : Nat} {cs : Array Value} {t : TypeId} (hk : L[k]? = some (.blk g cs t)) (o n : Nat) (hl : o + n ≤ cs.size) : W.there g o n := by
 intro j hj
 refine ⟨?_, h.fz k hk _⟩
 rw [h.cell k hk (o + j) (Array.getElem?_eq_getElem (by omega))]
 rfl
theorem range_blk (h : Own B w0 W L) (k : Nat) {g : Nat} {cs : Array Value} {t : TypeId} (hk : L[k]? = some (.blk g cs t)) (o : Nat) {seg : List Value} (hl : ∀ j v, seg[j]? = some v → cs[o + j]? = some v) : W.rangeAt g o seg :=
 fun j v hv => h.cell k hk (o + j) (hl j v hv)
theorem putSeg (h : Own B w0 W L) (k : Nat) {g : Nat} {cs : Array Value} {t : TypeId} (hk : L[k]? = some (.blk g cs t)) (o : Nat) (seg : List Value) (hl : o + seg.length ≤ cs.size) : Own B w0 (W.setCells g o seg) (L.set k (.blk g (splice cs.toList o seg).toArray t)) := by
 obtain ⟨s1, s2, s3, s4⟩ := setCells_same g seg o W
 have hgr : W.grownBy (W.setCells g o seg) (some g) := ⟨s1, s2, s3, by omega, fun k _ hk => setCells_far seg _ k (fun e => hk (by rw [e]))⟩
 refine h.change k hk (some g) hgr fun S hs => ⟨fun x hx => by injection hx with hx; exact hx ▸ hs.1, .inl hs.1, ?_⟩
 obtain ⟨cur', h1, h2, h3⟩ := setCells_row (e := t) seg o W cs hs.2 (by rw [Array.length_toList]; omega)
 rw [h1]
 congr 2
 rw [← Array.toArray_toList (xs := cur'), h3]
 rfl
end Own
theorem seg_mid {a s b : List Value} {o : Nat} (ho : a.length = o) : ∀ j v, s[j]? = some v → ((a ++ (s ++ b)).toArray)[o + j]? = some v := by
 intro j v hv
 subst ho
 rw [List.getElem?_toArray, List.getElem?_append_right (by omega), Nat.add_sub_cancel_left, List.getElem?_append_left ((List.getElem?_eq_some_iff.1 hv).1)]
 exact hv
section
variable {P : Program} {ops : Array Oper} {rest : List Oper} {o : Oper} {a : Act} {Q : Exit → Act → World → Prop} {B : Nat} {w0 W : World} {L : List Item}
theorem run_storeVar_cells (ty : TypeId) (p : Addr) (v : Value) (w : World) : (storeVar ty p v).run P w = (storeVar ty p (.agg v.cells)).run P w := rfl
theorem own_st (H : Own B w0 W L) (k : Nat) (g : Nat) (cs cs' : Array Value) (t : TypeId) (hk : L[k]? = some (.blk g cs t)) (hgd : o.guard = none) (ty : TypeId) (x y : Operand) (ho : o.op = .store ty x y) (off : Nat) (seg : List Value) (v : Value)
 (hx : a.eval x = .pointer (some ⟨g, off, none⟩)) (hy : a.eval y = v) (hvc : v.cells = seg.toArray) (hl : off + seg.length ≤ cs.size) (hi : (P.info? ty).map (·.size) = some seg.length) (h1 : ∀ v ∈ seg, v.oneCell' = true) (hcs : (splice cs.toList off seg).toArray = cs')
 (h : ∀ w1, Own B w0 w1 (L.set k (.blk g cs' t)) → wpList P ops Q rest (a.put o.dst undef) w1) : wpList P ops Q (o :: rest) a W := by
 subst hcs
 refine wpList_plain hgd fun _ hK => ?_
 have hr := run_storeVar_mid (P := P) W g off ty seg.toArray (by have := H.there_blk k hk off seg.length hl; simpa using this) (by simpa using hi) (all_oneCell_toArray h1)
 unfold Oper.wp execOp
 simp only [ho, hx, hy, Instr.storeAt, Instr.sureAddr, Sem.run_bind, Sem.run_pure, Result.andThen_ok]
 rw [run_storeVar_cells, hvc, hr]
 refine hK _ _ (h _ ?_)
 have := H.putSeg k hk off seg hl
 simpa using this
theorem own_ld1 (H : Own B w0 W L) (k : Nat) (g : Nat) (cs : Array Value) (t : TypeId) (hk : L[k]? = some (.blk g cs t)) (hgd : o.guard = none) (ty : TypeId) (x : Operand) (ho : o.op = .load ty x) (off : Nat) (v : Value) (d : TypeDesc)
 (hx : a.eval x = .pointer (some ⟨g, off, none⟩)) (hl : cs[off]? = some v) (hu : P.underlying ty = some d) (hd : d.isRow = false)
 (h : wpList P ops Q rest (a.put o.dst v) W) : wpList P ops Q (o :: rest) a W := by
 have hc := H.cell k hk off hl
 refine wpList_plain hgd fun _ hK => ?_
 have hag : (isAgg ty).run P W = .ok false W := by
  unfold isAgg
  rw [Sem.run_bind, run_underlying hu W]
  cases d <;> simp_all [TypeDesc.isRow]
 have hr : (loadVar ty ⟨g, off, none⟩).run P W = .ok v W := by
  unfold loadVar
  rw [Sem.run_bind, hag]
  simp [go_sem, hc]
 unfold Oper.wp execOp
 simp only [ho, hx, Instr.loadAt, Instr.sureAddr, Sem.run_bind, Sem.run_pure, Result.andThen_ok, hr]
 exact hK _ _ h
theorem own_alloc_step {Kc : Act → World → Prop} (H : Own B w0 W L) (hw : Region.wanted o (yielded ops a.tmps) = true) {N : Tmp} (hd : o.dst = some N) {t : TypeId} (ho : o.op = .alloc t) (cs : Array Value) (n : Nat)
 (hi : (P.info? t).map (fun i => (i.zero, i.size)) = some (some (.agg cs), n))
 (h : ∀ g w1, Own B w0 w1 (.blk g cs t :: L) → Kc (a.put o.dst (.pointer (some ⟨g, 0, none⟩))) w1) :
 if Region.wanted o (yielded ops a.tmps) = true then Oper.wp P o a W Kc Q else Kc (a.put o.dst undef) W := by
 rw [if_pos hw]
 obtain ⟨hz', hs⟩ := zero_of_info hi
 have hr : (execOp a.eval o).run P W = .ok (.value (.pointer (some ⟨W.heap.size, 0, none⟩))) (W.alloc (.cells cs t (0, 0))) := by
  unfold execOp
  simp only [ho]
  simp [Instr.alloc, hz', newVar, Value.cells, go_sem]
 unfold Oper.wp
 rw [hr]
 exact h _ _ (H.new cs t)
theorem own_st_step {Kc : Act → World → Prop} (H : Own B w0 W L) (k : Nat) (g : Nat) (cs cs' : Array Value) (t : TypeId) (hk : L[k]? = some (.blk g cs t)) (hw : Region.wanted o (yielded ops a.tmps) = true) (ty : TypeId) (x y : Operand) (ho : o.op = .store ty x y) (off : Nat) (seg : List Value) (v : Value)
 (hx : a.eval x = .pointer (some ⟨g, off, none⟩)) (hy : a.eval y = v) (hvc : v.cells = seg.toArray) (hl : off + seg.length ≤ cs.size) (hi : (P.info? ty).map (·.size) = some seg.length) (h1 : ∀ v ∈ seg, v.oneCell' = true) (hcs : (splice cs.toList off seg).toArray = cs')
 (h : ∀ w1, Own B w0 w1 (L.set k (.blk g cs' t)) → Kc (a.put o.dst undef) w1) :
 if Region.wanted o (yielded ops a.tmps) = true then Oper.wp P o a W Kc Q else Kc (a.put o.dst undef) W := by
 subst hcs
 rw [if_pos hw]
 have hr := run_storeVar_mid (P := P) W g off ty seg.toArray (by have := H.there_blk k hk off seg.length hl; simpa using this) (by simpa using hi) (all_oneCell_toArray h1)
 unfold Oper.wp execOp
 simp only [ho, hx, hy, Instr.storeAt, Instr.sureAddr, Sem.run_bind, Sem.run_pure, Result.andThen_ok]
 rw [run_storeVar_cells, hvc, hr]
 have := H.putSeg k hk off seg hl
 exact h _ (by simpa using this)
theorem build_ (hgd : o.guard = none) (t : TypeId) (parts : List (Nat × Operand)) (ho : o.op = .build t parts.toArray) (ps : List (Nat × Value)) (hps : parts.map (fun x => (x.1, a.eval x.2)) = ps) (cells : Array Value) (hf : P.built t ps = some cells)
 (h : wpList P ops Q rest (a.put o.dst (.agg cells)) W) : wpList P ops Q (o :: rest) a W := by
 refine wpList_buildTo hgd t parts.toArray ho o.dst rfl cells ?_ h
 rw [← hps] at hf
 simpa using hf
theorem own_ldAt (H : Own B w0 W L) (k : Nat) (g : Nat) (cs : Array Value) (t : TypeId) (hk : L[k]? = some (.blk g cs t)) (hgd : o.guard = none) (ty : TypeId) (x : Operand) (ho : o.op = .load ty x) (off : Nat) (seg : List Value) (d : TypeDesc)
 (hx : a.eval x = .pointer (some ⟨g, off, none⟩)) (hl : ∀ j v, seg[j]? = some v → cs[off + j]? = some v) (hu : P.underlying ty = some d) (hd : d.isRow = true) (hi : (P.info? ty).map (·.size) = some seg.length)
 (h : wpList P ops Q rest (a.put o.dst (.agg seg.toArray)) W) : wpList P ops Q (o :: rest) a W :=
 wpList_load_mid hgd ty x ho g off hx seg d (H.range_blk k hk off hl) hu hd hi h
end
def shK {α : Type} (d : Kd α) (w0 : World) : Kd α where
 sz := d.sz
 E := []
 K := fun _ x cs => d.K w0 x cs
 M := fun _ _ _ x cs => d.K w0 x cs
 K_len := d.K_len
 K_one := d.K_one
 K_below := fun _ h => h
 K_of_M := fun h => h
 M_mono := fun _ h => h
 M_bound := fun h => h
 M_move := fun _ h => h
 M_lower := fun _ h => h
theorem Flat_sh {α : Type} (d : Kd α) (w0 : World) : Flat (shK d w0) := fun h => h
def mixK {α : Type} (d : Kd α) (w0 : World) : Kd (Bool × α) where
 sz := d.sz
 E := d.E
 K := fun w p cs => (p.1 = true → d.K w p.2 cs) ∧ (p.1 = false → d.K w0 p.2 cs)
 M := fun w base ok p cs => (p.1 = true → d.M w base ok p.2 cs) ∧ (p.1 = false → d.K w0 p.2 cs)
 K_len := fun {w p cs} h => by
  obtain ⟨b, x⟩ := p
  cases b
  ·exact d.K_len (h.2 rfl)
  ·exact d.K_len (h.1 rfl)
 K_one := fun {w p cs} h => by
  obtain ⟨b, x⟩ := p
  cases b
  ·exact d.K_one (h.2 rfl)
  ·exact d.K_one (h.1 rfl)
 K_below := fun hb h => ⟨fun hp => d.K_below hb (h.1 hp), h.2⟩
 K_of_M := fun h => ⟨fun hp => d.K_of_M (h.1 hp), h.2⟩
 M_mono := fun hk h => ⟨fun hp => d.M_mono hk (h.1 hp), h.2⟩
 M_bound := fun h => ⟨fun hp => d.M_bound (h.1 hp), h.2⟩
 M_move := fun hm h => ⟨fun hp => d.M_move hm (h.1 hp), h.2⟩
 M_lower := fun hb h => ⟨fun hp => d.M_lower hb (h.1 hp), h.2⟩
theorem Reps.map_ {α β : Type} {R : α → List Value → Prop} {R' : β → List Value → Prop} {s : Nat} {f : α → β} {xs : List α} {cs : List Value} (h : Reps R s xs cs) (hf : ∀ x cs, R x cs → R' (f x) cs) : Reps R' s (xs.map f) cs := by
 refine ⟨by rw [List.length_map]; exact h.1, fun j p hj => ?_⟩
 rw [List.getElem?_map] at hj
 obtain ⟨x, hx, rfl⟩ := Option.map_eq_some_iff.1 hj
 exact hf x _ (h.2 j x hx)
theorem R_as {α β : Type} {d : Kd α} {d' : Kd β} {f : α → β} (hs : d.sz = d'.sz) (hM : ∀ w base ok x cs, d.M w base ok x cs → d'.M w base ok (f x) cs) {e : Nat} {w : World} {base : Nat} {ok : Nat → Prop} {v : Value} {xs : List α} (h : d.R e w base ok v xs) : d'.R e w base ok v (xs.map f) := by
 obtain ⟨h0, inner, ho, hr⟩ := h
 exact ⟨h0, inner, by rw [List.length_map, ← hs]; exact ho, by rw [← hs]; exact Reps.map_ hr (fun x cs hx => hM _ _ _ x cs hx)⟩
theorem R_as' {α β : Type} {d : Kd α} {d' : Kd β} {f : α → β} (hs : d.sz = d'.sz) {e : Nat} {w : World} {base : Nat} {ok : Nat → Prop} {v : Value} {xs : List α} (hM : ∀ base ok cs, ∀ x, d'.M w base ok (f x) cs → d.M w base ok x cs) (h : d'.R e w base ok v (xs.map f)) : d.R e w base ok v xs := by
 obtain ⟨h0, inner, ho, hr⟩ := h
 refine ⟨h0, inner, by rw [List.length_map, ← hs] at ho; exact ho, ?_⟩
 rw [← hs] at hr
 refine ⟨by rw [hr.1, List.length_map], fun j p hj => ?_⟩
 exact hM _ _ _ _ (hr.2 j (f p) (by rw [List.getElem?_map, hj]; rfl))
namespace Own
variable {B : Nat} {w0 W W1 : World} {L : List Item} {α β : Type}
theorem sh_mix (h : Own B w0 W L) (k : Nat) {d : Kd α} {wa : World} {e : Nat} {v : Value} {xs : List α} (hk : L[k]? = some (.row (shK d wa) e v xs)) : Own B w0 W (L.set k (.row (mixK d wa) e v (xs.map fun x => (false, x)))) :=
 h.turn k hk fun S hs => R_as (d := shK d wa) (d' := mixK d wa) (f := fun x => (false, x)) rfl (fun _ _ _ _ _ h => ⟨fun hp => (by cases hp), fun _ => h⟩) hs
theorem mix_own (h : Own B w0 W L) (k : Nat) {d : Kd α} {wa : World} {e : Nat} {v : Value} {xs : List α} (hk : L[k]? = some (.row (mixK d wa) e v (xs.map fun x => (true, x)))) : Own B w0 W (L.set k (.row d e v xs)) :=
 h.turn k hk fun S hs => R_as' (d := d) (d' := mixK d wa) (f := fun x => (true, x)) rfl (fun _ _ _ _ h => h.1 rfl) hs
end Own
theorem reps_set1 {α : Type} {R : α → List Value → Prop} {size : Nat} {ps : List α} {cs : List Value} (h : Reps R size ps cs) {i : Nat} (hi : i < ps.length) {j : Nat} (hj : j < size) {x : α} {u : Value}
 (hx : R x (((cs.drop (i * size)).take size).set j u)) : Reps R size (ps.set i x) (cs.set (i * size + j) u) := by
 refine ⟨by rw [List.length_set, List.length_set]; exact h.1, fun m p hm => ?_⟩
 by_cases hmi : m = i
 ·subst hmi
  rw [List.getElem?_set_self hi] at hm
  injection hm with hm
  subst hm
  rw [List.drop_set, if_neg (by omega), List.take_set, show m * size + j - m * size = j by omega]
  exact hx
 ·rw [List.getElem?_set_ne (Ne.symm hmi)] at hm
  have hq := h.2 m p hm
  have e : ((cs.set (i * size + j) u).drop (m * size)).take size = (cs.drop (m * size)).take size := by
   rw [List.drop_set]
   by_cases hlt : i < m
   ·have : (i + 1) * size ≤ m * size := Nat.mul_le_mul_right _ hlt
    rw [Nat.succ_mul] at this
    rw [if_pos (by omega)]
   ·have : (m + 1) * size ≤ i * size := Nat.mul_le_mul_right _ (by omega)
    rw [Nat.succ_mul] at this
    rw [if_neg (by omega), List.take_set, List.set_eq_of_length_le]
    rw [List.length_take]
    omega
  rw [e]
  exact hq
theorem R_put1 {α : Type} {d : Kd α} {e : Nat} {W : World} {base : Nat} {ok : Nat → Prop} {g n cap : Nat} {xs : List α} (h : d.R e W base ok (.slice (some ⟨g, 0, none⟩) n cap) xs) (i : Nat) (hi : i < n) (j : Nat) (hj : j < d.sz) {x x0 : α} {u : Value} (hx0 : xs[i]? = some x0)
 (hM : ∀ cs, d.M W base (fun k => ok k ∧ some k ≠ (Value.slice (some ⟨g, 0, none⟩) n cap).ownBlock) x0 cs → d.M (W.setCell ⟨g, i * d.sz + j, none⟩ u) base (fun k => ok k ∧ some k ≠ (Value.slice (some ⟨g, 0, none⟩) n cap).ownBlock) x (cs.set j u)) :
 d.R e (W.setCell ⟨g, i * d.sz + j, none⟩ u) base ok (.slice (some ⟨g, 0, none⟩) n cap) (xs.set i x) := by
 have hb := R_block h
 obtain ⟨hok, inner0, ho, _⟩ := h
 obtain ⟨hn, cur, inner, hh, hc3, hc1, hc4, hr⟩ := hb
 have hm : i * d.sz + d.sz ≤ n * d.sz := by rw [← Nat.succ_mul]; exact Nat.mul_le_mul_right _ (by omega)
 have hm2 : n * d.sz ≤ cap * d.sz := Nat.mul_le_mul_right _ hc1
 have hcl : cur.toList.length = cap * d.sz := by rw [Array.length_toList, hc3]
 have h1 := blk_set hh (i * d.sz + j) u
 have hr2 := reps_set1 (Reps.imp_ (R' := d.M (W.setCell ⟨g, i * d.sz + j, none⟩ u) base (fun k => ok k ∧ some k ≠ (Value.slice (some ⟨g, 0, none⟩) n cap).ownBlock)) hr fun p cs hp => d.M_move (fun k hk => Below.heap_setCell W _ u k fun e => hk.2 (by rw [e]; rfl)) hp) (i := i) (by omega) hj (x := x) (u := u) (hM _ (hr.2 i x0 hx0))
 have hln : (xs.set i x).length = n := by rw [List.length_set, ← hn]
 refine ⟨hok, _, ?_, hr2⟩
 rw [hln]
 refine ⟨?_, .inr ⟨g, cap, cur.setIfInBounds (i * d.sz + j) u, rfl, ?_, h1, hc1, ?_, ?_, ?_⟩⟩
 ·rw [hr2.1, List.length_set, ← hn]
 ·rcases ho.2 with ⟨he, _⟩ | ⟨g', cap', _, he, hb, _⟩
  ·cases he
  ·injection he with h1 h2 h3
   injection h1 with h1
   injection h1 with h1
   subst h1
   exact hb
 ·rcases ho.2 with ⟨he, _⟩ | ⟨g', cap', _, he, hb, _, _, hmx, _⟩
  ·cases he
  ·injection he with h1 h2 h3
   subst h3
   exact hmx
 ·rw [Array.size_setIfInBounds, hc3]
 ·rw [Array.toList_setIfInBounds, List.take_set, ← hc4]
def Item.two (a b : Item) : Item where
 P := fun W S => ∃ S1 S2 : Nat → Prop, (∀ i, S1 i → S i) ∧ (∀ i, S2 i → S i) ∧ (∀ i, S1 i → ¬ S2 i) ∧ a.P W S1 ∧ b.P W S2
 move := fun hm ⟨S1, S2, h1, h2, h3, h4, h5⟩ => ⟨S1, S2, h1, h2, h3, a.move (fun k hk => hm k (h1 k hk)) h4, b.move (fun k hk => hm k (h2 k hk)) h5⟩
 mono := fun hm ⟨S1, S2, h1, h2, h3, h4, h5⟩ => ⟨S1, S2, fun i hi => hm i (h1 i hi), fun i hi => hm i (h2 i hi), h3, h4, h5⟩
theorem Own.join {B : Nat} {w0 W : World} {L : List Item} {a b : Item} (h : Own B w0 W (a :: b :: L)) : Own B w0 W (.two a b :: L) := by
 obtain ⟨h1, h2, S1, c1, c2, S2, c3, c4, c5⟩ := h
 refine ⟨h1, h2, fun i => S1 i ∨ S2 i, fun i hi => hi.elim (c1 i) (fun h => (c3 i h).1), ⟨S1, S2, fun i hi => .inl hi, fun i hi => .inr hi, fun i hi hj => (c3 i hj).2 hi, c2, c4⟩, ?_⟩
 exact Sep.imp (fun i hi => ⟨hi.1.1, fun h => h.elim hi.1.2 hi.2⟩) c5
theorem Own.put1 {B : Nat} {w0 W : World} {L : List Item} {α β : Type} {d : Kd α} {d2 : Kd β} {e e2 : Nat} {g n cap : Nat} {xs : List α} {v2 : Value} {ys : List β} (h : Own B w0 W (.row d e (.slice (some ⟨g, 0, none⟩) n cap) xs :: .row d2 e2 v2 ys :: L))
 (i : Nat) (hi : i < n) (j : Nat) (hj : j < d.sz) {x x0 : α} {u : Value} (hx0 : xs[i]? = some x0)
 (hM : ∀ (W W1 : World) (ok : Nat → Prop) cs, d.M W 0 ok x0 cs → d2.R e2 W1 0 ok v2 ys → d.M W1 0 ok x (cs.set j u)) :
 Own B w0 (W.setCell ⟨g, i * d.sz + j, none⟩ u) (.row d e (.slice (some ⟨g, 0, none⟩) n cap) (xs.set i x) :: L) := by
 refine h.join.change 0 rfl (some g) (Own.grown_cell W g _ u) ?_
 rintro S ⟨S1, S2, h1, h2, h3, h4, h5⟩
 have h4 : d.R e W 0 S1 _ xs := h4
 have h5 : d2.R e2 W 0 S2 v2 ys := h5
 have hg := h4.1 g rfl
 refine ⟨fun g' he => by injection he with he; subst he; exact h1 _ hg, ?_⟩
 refine Kd.R_mono (ok := S) ?_ fun i hi => .inl hi
 refine R_put1 (Kd.R_mono h4 h1) i hi j hj hx0 fun cs hcs => hM W _ _ cs hcs ?_
 refine Kd.R_mono (Kd.R_far h5 (p := ⟨g, i * d.sz + j, none⟩) (fun k hk he => h3 k (by rw [he]; exact hg) hk) u) fun k hk => ⟨h2 k hk, fun he => ?_⟩
 have : g = k := by simpa [Value.ownBlock] using he.symm
 exact h3 g hg (by rw [this]; exact hk)
end Go.Proofs.Ytocphkfkdadhaaa.H
namespace Go.Proofs.YtocphkfkdadhaaaW.PrintLast
open Go.Proofs.YtocphkfkdadhaaaW.PrintWords (Aside0)
def needsOf (md : Region.Mode) (o : Oper) : List Nat := (o.after.toList.filter (fun e => Region.binds md e)).map (fun e => e.on)
def clashOf (md : Region.Mode) (ops : Array Oper) (i : Nat) (oi : Oper) : List Nat := (List.range ops.size).filter fun j => !(j == i) && match ops[j]? with
 | some oj => !(oj.after.any (fun e => Region.binds md e && e.on == i) || oi.apart ops oj)
 | none => false
def rtab (md : Region.Mode) (ops : Array Oper) : Bool × List (List Nat × List Nat) := (Region.noSelect ops, (List.range ops.size).map fun i => match ops[i]? with
 | some o => (needsOf md o, clashOf md ops i o)
 | none => ([], []))
def readyAt (T : List (List Nat × List Nat)) (l : List Bool) (i : Nat) : Bool := !l.getD i true && match T[i]? with
 | some r => r.1.all (fun j => l.getD j false)
 | none => false
def readyT (T : List (List Nat × List Nat)) (l : List Bool) : List Nat := (List.range T.length).filter (readyAt T l)
def freeT (T : List (List Nat × List Nat)) (l : List Bool) (i : Nat) : Bool := match T[i]? with
 | some r => r.2.all (fun j => l.getD j true)
 | none => false
def closedT (T : List (List Nat × List Nat)) (l : List Bool) : Bool := (List.range T.length).all fun j => !l.getD j false || match T[j]? with
 | some r => r.1.all (fun k => l.getD k false)
 | none => true
def reachT (T : List (List Nat × List Nat)) (i : Nat) : Nat → Nat → Bool
 | 0, _ => false
 | fuel + 1, d => match T[d]? with
  | some r => r.1.any fun j => j == i || reachT T i fuel j
  | none => false
def lastT (T : List (List Nat × List Nat)) (l : List Bool) (ds : List Nat) (i : Nat) : Bool := ds.all fun d => l.getD d true || reachT T i T.length d
section
variable {md : Region.Mode} {ops : Array Oper} {T : Bool × List (List Nat × List Nat)} {l l' li lj lk : Array Bool} {ds : List Nat} {i j k : Nat}
theorem gd (l : Array Bool) (j : Nat) (b : Bool) : l.getD j b = l.toList.getD j b := by simp [Array.getD_eq_getD_getElem?, List.getD_eq_getElem?_getD]
theorem needs_all (o : Oper) (p : Nat → Bool) : o.after.all (fun e => !Region.binds md e || p e.on) = (needsOf md o).all p := by
 unfold needsOf
 rw [← Array.all_toList]
 induction o.after.toList with
 | nil => rfl
 | cons e r ih =>
  rw [List.all_cons, ih, List.filter_cons]
  cases h : Region.binds md e <;> simp
theorem needs_any (o : Oper) (p : Nat → Bool) : o.after.any (fun e => Region.binds md e && p e.on) = (needsOf md o).any p := by
 unfold needsOf
 rw [← Array.any_toList]
 induction o.after.toList with
 | nil => rfl
 | cons e r ih =>
  rw [List.any_cons, ih, List.filter_cons]
  cases h : Region.binds md e <;> simp
theorem rtab_length : (rtab md ops).2.length = ops.size := by simp [rtab]
theorem rtab_some {o : Oper} (h : ops[i]? = some o) : (rtab md ops).2[i]? = some (needsOf md o, clashOf md ops i o) := by
 have hi := (Array.getElem?_eq_some_iff.1 h).1
 unfold rtab
 rw [List.getElem?_map, List.getElem?_range hi, Option.map_some, h]
theorem rtab_none (h : ops[i]? = none) : (rtab md ops).2[i]? = none := by
 have hi : ops.size ≤ i := Array.getElem?_eq_none_iff.1 h
 exact List.getElem?_eq_none (by rw [rtab_length]; exact hi)
theorem readyAt_eq : readyAt (rtab md ops).2 l.toList i = (!l.getD i true && ((ops[i]?).map (·.after.all fun e => !Region.binds md e || l.getD e.on false)).getD false) := by
 unfold readyAt
 rw [gd]
 cases h : ops[i]? with
 | none => rw [rtab_none h]; rfl
 | some o =>
  rw [rtab_some h]
  simp only [Option.map_some, Option.getD_some]
  rw [← needs_all]
  simp only [gd]
theorem ready_eq : Region.ready md ops l = readyT (rtab md ops).2 l.toList := by
 unfold Region.ready readyT
 rw [rtab_length]
 refine List.filter_congr (fun i _ => ?_)
 rw [readyAt_eq]
theorem free_eq : Region.free md ops l i = freeT (rtab md ops).2 l.toList i := by
 unfold Region.free freeT
 cases h : ops[i]? with
 | none => rw [rtab_none h]
 | some oi =>
  rw [rtab_some h]
  simp only [clashOf]
  rw [List.all_filter]
  congr 1
  funext j
  rw [gd]
  cases hj : ops[j]? with
  | none => cases (j == i) <;> cases (l.toList.getD j true) <;> simp
  | some oj =>
   cases (j == i) <;> cases (l.toList.getD j true) <;> cases (oj.after.any (fun e => Region.binds md e && e.on == i) || oi.apart ops oj) <;> simp_all
theorem closed_eq : Region.closedB md ops l = closedT (rtab md ops).2 l.toList := by
 unfold Region.closedB closedT
 rw [rtab_length]
 congr 1
 funext j
 rw [gd]
 cases h : ops[j]? with
 | none => rw [rtab_none h]
 | some o =>
  rw [rtab_some h]
  simp only
  rw [← needs_all]
  simp only [gd]
theorem reach_eq : ∀ (fuel d : Nat), Region.reachB md ops i fuel d = reachT (rtab md ops).2 i fuel d
 | 0, _ => rfl
 | fuel + 1, d => by
  unfold Region.reachB reachT
  cases h : ops[d]? with
  | none => rw [rtab_none h]
  | some o =>
   rw [rtab_some h]
   simp only
   rw [← needs_any]
   congr 1
   funext e
   rw [reach_eq fuel]
theorem last_eq : Region.lastB md ops l ds i = lastT (rtab md ops).2 l.toList ds i := by
 unfold Region.lastB lastT
 rw [rtab_length]
 congr 1
 funext d
 rw [gd, reach_eq]
theorem readyAt_mem (h : readyAt T.2 l.toList i = true) (hT : rtab md ops = T) : (Region.ready md ops l).contains i = true := by
 subst hT
 rw [ready_eq]
 unfold readyT
 rw [List.contains_iff_mem, List.mem_filter, List.mem_range]
 refine ⟨?_, h⟩
 unfold readyAt at h
 rw [Bool.and_eq_true] at h
 cases hq : (rtab md ops).2[i]? with
 | none => rw [hq] at h; simp at h
 | some r => exact (List.getElem?_eq_some_iff.1 hq).1
theorem set_of (h : (l.toList.set i true == l'.toList) = true) : (l.setIfInBounds i true == l') = true := by
 rw [beq_iff_eq] at h ⊢
 apply Array.ext'
 rw [Array.toList_setIfInBounds]
 exact h
def anyT (T : Bool × List (List Nat × List Nat)) (l l' : List Bool) (i : Nat) : Bool := T.1 && freeT T.2 l i && readyAt T.2 l i && (l.set i true == l')
theorem any_of (hT : rtab md ops = T) (h : anyT T l.toList l'.toList i = true) : anyB md ops l l' i = true := by
 simp only [anyT, Bool.and_eq_true] at h
 obtain ⟨⟨⟨h1, h2⟩, h3⟩, h4⟩ := h
 have h5 := readyAt_mem h3 hT
 have h6 := set_of h4
 subst hT
 simp only [anyB, Bool.and_eq_true]
 exact ⟨⟨⟨h1, by rw [free_eq]; exact h2⟩, h5⟩, h6⟩
def takeT (T : Bool × List (List Nat × List Nat)) (ds : List Nat) (l l' : List Bool) (i : Nat) : Bool := T.1 && freeT T.2 l i && readyAt T.2 l i && closedT T.2 l && lastT T.2 l ds i && (l.set i true == l')
theorem take_of (hT : rtab md ops = T) (h : takeT T ds l.toList l'.toList i = true) : takeB md ops ds l l' i = true := by
 simp only [takeT, Bool.and_eq_true] at h
 obtain ⟨⟨⟨⟨⟨h1, h2⟩, h3⟩, h4⟩, h5⟩, h6⟩ := h
 have h7 := readyAt_mem h3 hT
 have h8 := set_of h6
 subst hT
 simp only [takeB, Bool.and_eq_true]
 exact ⟨⟨⟨⟨⟨h1, by rw [free_eq]; exact h2⟩, h7⟩, by rw [closed_eq]; exact h4⟩, by rw [last_eq]; exact h5⟩, h8⟩
theorem one_of (hT : rtab md ops = T) (h : (readyT T.2 l.toList == [i] && l.toList.set i true == l'.toList) = true) : readyB md ops l l' i = true := by
 simp only [Bool.and_eq_true] at h
 obtain ⟨h1, h2⟩ := h
 subst hT
 simp only [readyB, Bool.and_eq_true]
 exact ⟨by rw [ready_eq]; exact h1, set_of h2⟩
theorem done_of (hT : rtab md ops = T) (h : (readyT T.2 l.toList == []) = true) : (Region.ready md ops l == []) = true := by
 subst hT
 rw [ready_eq]
 exact h
def upM (B : List Nat) (d : Nat) : List Nat → Nat
 | [] => 0
 | n :: r => (2 ^ n ||| (if n < d then B.getD n 0 else 0)) ||| upM B d r
def waitsOk (T : List (List Nat × List Nat)) (B : List Nat) : Bool := (List.range T.length).all fun d => match T[d]? with
 | some r => (B.getD d 0 ||| upM B d r.1) == upM B d r.1
 | none => false
theorem upM_bit {B : List Nat} {d i : Nat} : ∀ {ns : List Nat}, (upM B d ns).testBit i = true → ∃ n ∈ ns, n = i ∨ (n < d ∧ (B.getD n 0).testBit i = true)
 | [], h => by simp [upM] at h
 | n :: r, h => by
  unfold upM at h
  rw [Nat.testBit_or, Nat.testBit_or, Bool.or_eq_true, Bool.or_eq_true] at h
  rcases h with (h | h) | h
  ·rw [Nat.testBit_two_pow] at h
   exact ⟨n, List.mem_cons_self, .inl (by simpa using h)⟩
  ·by_cases hn : n < d
   ·rw [if_pos hn] at h
    exact ⟨n, List.mem_cons_self, .inr ⟨hn, h⟩⟩
   ·rw [if_neg hn] at h
    simp at h
  ·obtain ⟨m, hm, h2⟩ := upM_bit h
   exact ⟨m, List.mem_cons_of_mem _ hm, h2⟩
theorem reach_bit {T : List (List Nat × List Nat)} {B : List Nat} (hB : waitsOk T B = true) : ∀ (fuel d : Nat), d < fuel → d < T.length → (B.getD d 0).testBit i = true → reachT T i fuel d = true
 | 0, d, h, _, _ => by omega
 | fuel + 1, d, h, hd, hb => by
  have h1 := List.all_eq_true.1 hB d (List.mem_range.2 hd)
  cases hr : T[d]? with
  | none => rw [hr] at h1; simp at h1
  | some r =>
   rw [hr] at h1
   simp only [beq_iff_eq] at h1
   have h2 : (upM B d r.1).testBit i = true := by rw [← h1, Nat.testBit_or, hb, Bool.true_or]
   obtain ⟨n, hn, h3⟩ := upM_bit h2
   unfold reachT
   rw [hr]
   simp only
   rw [List.any_eq_true]
   refine ⟨n, hn, ?_⟩
   rcases h3 with rfl | ⟨h4, h5⟩
   ·simp
   ·rw [reach_bit hB fuel n (by omega) (by omega) h5, Bool.or_true]
def lastW (T : List (List Nat × List Nat)) (B : List Nat) (l : List Bool) (ds : List Nat) (i : Nat) : Bool := ds.all fun d => l.getD d true || (decide (d < T.length) && (B.getD d 0).testBit i)
def takeW (T : Bool × List (List Nat × List Nat)) (B : List Nat) (ds : List Nat) (l l' : List Bool) (i : Nat) : Bool := T.1 && freeT T.2 l i && readyAt T.2 l i && closedT T.2 l && lastW T.2 B l ds i && (l.set i true == l')
theorem take_ofW {B : List Nat} (hT : rtab md ops = T) (hB : waitsOk T.2 B = true) (h : takeW T B ds l.toList l'.toList i = true) : takeB md ops ds l l' i = true := by
 refine take_of hT ?_
 simp only [takeW, takeT, Bool.and_eq_true] at h ⊢
 obtain ⟨⟨⟨⟨⟨h1, h2⟩, h3⟩, h4⟩, h5⟩, h6⟩ := h
 refine ⟨⟨⟨⟨⟨h1, h2⟩, h3⟩, h4⟩, ?_⟩, h6⟩
 unfold lastW at h5
 unfold lastT
 rw [List.all_eq_true] at h5 ⊢
 intro d hd
 have h7 := h5 d hd
 rw [Bool.or_eq_true, Bool.and_eq_true, decide_eq_true_eq] at h7
 rcases h7 with h7 | ⟨h8, h9⟩
 ·rw [h7, Bool.true_or]
 ·rw [reach_bit hB _ d h8 h8 h9, Bool.or_true]
theorem with_tabW {P : Program} {Q : Exit → Act → World → Prop} {S : World → Prop} {n : Nat} {a : Act} {w : World} {B : List Nat} (hT : rtab md ops = T) (hB : waitsOk T.2 B = true) (h : Aside0 (rtab md ops = T) → Aside0 (waitsOk T.2 B = true) → wpAnyLast P md ops Q S ds n l a w) : wpAnyLast P md ops Q S ds n l a w := h ⟨hT⟩ ⟨hB⟩
end
def opsIn : Code → Nat → Option (Array Oper)
 | .region id ops _, k => if id == k then some ops else none
 | .seq a b, k => match opsIn a k with
  | some o => some o
  | none => opsIn b k
 | .cond _ a b, k => match opsIn a k with
  | some o => some o
  | none => opsIn b k
 | .block _ c, k => opsIn c k
 | .loop c, k => opsIn c k
 | .scope c, k => opsIn c k
 | .rangeFunc _ _ a b, k => match opsIn a k with
  | some o => some o
  | none => opsIn b k
 | _, _ => none
def opsOf (f : Func) (k : Nat) : Array Oper := ((f.body.bind fun c => opsIn c k)).getD #[]
end Go.Proofs.YtocphkfkdadhaaaW.PrintLast
namespace Go.Proofs.YtocphkfkdadhaaaW.PrintWords
theorem Reps.one {α : Type} {R : α → List Value → Prop} {ps : List α} {cs : List Value} {p : α} {v : Value} (hp : R p [v]) (h : Reps R 1 ps cs) : Reps R 1 (p :: ps) (v :: cs) := by
 refine ⟨by simp [h.1], fun j q hq => ?_⟩
 cases j with
 | zero =>
  simp only [List.getElem?_cons_zero, Option.some.injEq] at hq
  subst hq
  simpa using hp
 | succ j =>
  simp only [List.getElem?_cons_succ] at hq
  have h1 := h.2 j q hq
  simpa [Nat.mul_one] using h1
theorem Reps.front {α : Type} {R : α → List Value → Prop} {size : Nat} {ps : List α} {cs c all : List Value} {p : α} (hp : R p c) (hc : c.length = size) (h : Reps R size ps cs) (ha : c ++ cs = all) : Reps R size (p :: ps) all := by
 subst ha
 refine ⟨by rw [List.length_append, hc, h.1, List.length_cons, Nat.succ_mul, Nat.add_comm], fun j q hq => ?_⟩
 cases j with
 | zero =>
  simp only [List.getElem?_cons_zero, Option.some.injEq] at hq
  subst hq
  rw [Nat.zero_mul, List.drop_zero, List.take_append_of_le_length (by omega), List.take_of_length_le (by omega)]
  exact hp
 | succ j =>
  simp only [List.getElem?_cons_succ] at hq
  have h1 := h.2 j q hq
  rw [Nat.succ_mul, List.drop_append, List.drop_of_length_le (by rw [hc]; exact Nat.le_add_left _ _), List.nil_append, hc, Nat.add_sub_cancel]
  exact h1
theorem Reps.c2 {α : Type} {R : α → List Value → Prop} {ps : List α} {cs : List Value} {p : α} {va vb : Value} (hp : R p [va, vb]) (h : Reps R 2 ps cs) : Reps R 2 (p :: ps) (va :: vb :: cs) := Reps.front hp rfl h rfl
theorem Reps.c3 {α : Type} {R : α → List Value → Prop} {ps : List α} {cs : List Value} {p : α} {va vb vc : Value} (hp : R p [va, vb, vc]) (h : Reps R 3 ps cs) : Reps R 3 (p :: ps) (va :: vb :: vc :: cs) := Reps.front hp rfl h rfl
theorem Reps.c4 {α : Type} {R : α → List Value → Prop} {ps : List α} {cs : List Value} {p : α} {va vb vc vd : Value} (hp : R p [va, vb, vc, vd]) (h : Reps R 4 ps cs) : Reps R 4 (p :: ps) (va :: vb :: vc :: vd :: cs) := Reps.front hp rfl h rfl
theorem Reps.c5 {α : Type} {R : α → List Value → Prop} {ps : List α} {cs : List Value} {p : α} {va vb vc vd ve : Value} (hp : R p [va, vb, vc, vd, ve]) (h : Reps R 5 ps cs) : Reps R 5 (p :: ps) (va :: vb :: vc :: vd :: ve :: cs) := Reps.front hp rfl h rfl
theorem Reps.c6 {α : Type} {R : α → List Value → Prop} {ps : List α} {cs : List Value} {p : α} {va vb vc vd ve vf : Value} (hp : R p [va, vb, vc, vd, ve, vf]) (h : Reps R 6 ps cs) : Reps R 6 (p :: ps) (va :: vb :: vc :: vd :: ve :: vf :: cs) := Reps.front hp rfl h rfl
theorem Reps.c7 {α : Type} {R : α → List Value → Prop} {ps : List α} {cs : List Value} {p : α} {va vb vc vd ve vf vg : Value} (hp : R p [va, vb, vc, vd, ve, vf, vg]) (h : Reps R 7 ps cs) : Reps R 7 (p :: ps) (va :: vb :: vc :: vd :: ve :: vf :: vg :: cs) := Reps.front hp rfl h rfl
theorem Reps.c8 {α : Type} {R : α → List Value → Prop} {ps : List α} {cs : List Value} {p : α} {va vb vc vd ve vf vg vh : Value} (hp : R p [va, vb, vc, vd, ve, vf, vg, vh]) (h : Reps R 8 ps cs) : Reps R 8 (p :: ps) (va :: vb :: vc :: vd :: ve :: vf :: vg :: vh :: cs) := Reps.front hp rfl h rfl
theorem Reps.c9 {α : Type} {R : α → List Value → Prop} {ps : List α} {cs : List Value} {p : α} {va vb vc vd ve vf vg vh vi : Value} (hp : R p [va, vb, vc, vd, ve, vf, vg, vh, vi]) (h : Reps R 9 ps cs) : Reps R 9 (p :: ps) (va :: vb :: vc :: vd :: ve :: vf :: vg :: vh :: vi :: cs) := Reps.front hp rfl h rfl
theorem Reps.c10 {α : Type} {R : α → List Value → Prop} {ps : List α} {cs : List Value} {p : α} {va vb vc vd ve vf vg vh vi vj : Value} (hp : R p [va, vb, vc, vd, ve, vf, vg, vh, vi, vj]) (h : Reps R 10 ps cs) : Reps R 10 (p :: ps) (va :: vb :: vc :: vd :: ve :: vf :: vg :: vh :: vi :: vj :: cs) := Reps.front hp rfl h rfl
end Go.Proofs.YtocphkfkdadhaaaW.PrintWords
namespace Go.Proofs.YtocphkfkdadhaaaW.PrintWords
open Go.RowKit
section
variable {P : Program} {ops : Array Oper} {rest : List Oper} {o : Oper} {a : Act} {Q : Exit → Act → World → Prop} {W : World}
theorem gate_guard (hw : Region.wanted o (yielded ops a.tmps) = true) (h : wpList P ops Q ({ o with guard := none } :: rest) a W) : wpList P ops Q (o :: rest) a W := by
 have h1 : Region.wanted { o with guard := none } (yielded ops a.tmps) = true := rfl
 unfold wpList at h ⊢
 rw [if_pos h1] at h
 rw [if_pos hw]
 exact h
end
end Go.Proofs.YtocphkfkdadhaaaW.PrintWords
namespace Go.Proofs.Ytocphkfkdadhaaa.PRF
open Go.RowKit Go.Proofs.YtocphkfkdadhaaaW.PrintWords Go.Proofs.YtocphkfkdadhaaaW.PrintLast Go.Proofs.YtocphkfkdadhaaaW.PrintMore
section
variable {p q r s t : Prop}
theorem zB (H : Aside0 q) (e : q → p := by (intro h_; repeat (first | (with_reducible first | exact h_ | apply below_alloc | apply pw_below_drewN | apply below_drew1) | exact h_))) : p := e H.out
theorem zB1 (H : Aside0 q) (G : Aside0 r) (e : q → r → p := by (intro h_ g_; repeat (first | (with_reducible first | exact h_ | apply below_alloc | apply pw_below_drewN | apply below_drew1 | refine below_set ?_ g_) | exact h_))) : p := e H.out G.out
theorem zB2 (H : Aside0 q) (G : Aside0 r) (G2 : Aside0 s) (e : q → r → s → p := by (intro h_ g_ g2_; repeat (first | (with_reducible first | exact h_ | apply below_alloc | apply pw_below_drewN | apply below_drew1 | refine below_set ?_ g_ | refine below_set ?_ g2_) | exact h_))) : p := e H.out G.out G2.out
theorem zB3 (H : Aside0 q) (G : Aside0 r) (G2 : Aside0 s) (G3 : Aside0 t) (e : q → r → s → t → p := by (intro h_ g_ g2_ g3_; repeat (first | (with_reducible first | exact h_ | apply below_alloc | apply pw_below_drewN | apply below_drew1 | refine below_set ?_ g_ | refine below_set ?_ g2_ | refine below_set ?_ g3_) | exact h_))) : p := e H.out G.out G2.out G3.out
theorem zV (H : Aside0 q) (e : q → p := by (intro h_; (with_reducible repeat (first | apply Kd.V_alloc | apply Kd.V_drewN | apply Kd.V_drew)); exact h_)) : p := e H.out
theorem zR (H : Aside0 q) (e : q → p := by (intro h_; (with_reducible repeat (first | apply Kd.R_alloc | apply Kd.R_drewN | apply Kd.R_drew)); exact h_)) : p := e H.out
theorem zS (H : Aside0 q) (e : q → p := by (intro h_; (with_reducible repeat (first | apply Kd.S_alloc | apply Kd.S_drewN | apply Kd.S_drew)); exact h_)) : p := e H.out
theorem zK (H : Aside0 q) (e : q → p := by (intro h_; (with_reducible repeat (first | refine blk_drewN ?_ _ | refine blk_drew ?_ | refine blk_alloc ?_ _)); exact h_)) : p := e H.out
theorem zr (h : q) (e : q → p := by (intro h_; (with_reducible repeat (first | refine blk_drewN ?_ _ | refine blk_drew ?_ | refine blk_alloc ?_ _)); exact h_)) : p := e h
theorem zM (e : p := by ((try simp only [List.map_toArray, List.map_cons, List.map_nil]); first | done | rfl | (simp only [List.length_drop, List.length_take]; rfl))) : p := e
theorem zA (e : p := by first | (with_reducible assumption) | assumption) : p := e
theorem zX (e : p := by first | rfl | (simp; done) | (simp [*]; done)) : p := e
theorem zL (e : p := by first | exact Kd.R_nil _ _ _ _ _ | exact Kd.N_nil _ _ _ _ _ | exact Kd.V_nil _ _ _ _ _ | exact Kd.Q_nil _ _ _ _ _ | exact Kd.S_nil _ _ _ _ _) : p := e
theorem zE (e : p := by first | rfl | (simp [errW_none, errW_some] <;> rfl) | (simp [*, errW_none, errW_some] <;> rfl)) : p := e
theorem zY (h : p) (e : p → q := by (intro h_; repeat (first | exact h_ | (with_reducible refine Kd.C_alloc ?_ _) | (with_reducible refine Kd.C_drewN ?_ _) | (with_reducible refine Kd.C_drew ?_)))) : q := e h
theorem zb {w w1 : World} {g : Nat} {o : Obj} (H : Aside0 q) (hb : Below w.heap.size w w1) (e : q → w.heap[g]? = some o := by (intro h_; (with_reducible repeat (first | refine blk_drewN ?_ _ | refine blk_drew ?_ | refine blk_alloc ?_ _)); exact h_)) : w1.heap[g]? = some o := blk_below (e H.out) hb
theorem zN_ {g g' : Nat} {w : World} {o : Obj} (hg : g' = w.heap.size) (H : Aside0 q) (e : q → w.heap[g]? = some o := by (intro h_; (with_reducible repeat (first | refine blk_drewN ?_ _ | refine blk_drew ?_ | refine blk_alloc ?_ _)); exact h_)) : g ≠ g' := by rw [hg]; exact Nat.ne_of_lt (blk_lt (e H.out))
theorem zG {w W : World} {g : Nat} (hg : g = W.heap.size) (H : Aside0 q) (e : q → Below w.heap.size w W := by (intro h_; repeat (first | (with_reducible first | exact h_ | apply below_alloc | apply pw_below_drewN | apply below_drew1) | exact h_))) : w.heap.size ≤ g := by rw [hg]; exact below_size (e H.out)
theorem zG1 {w W : World} {g : Nat} (hg : g = W.heap.size) (H : Aside0 q) (G : Aside0 r) (e : q → r → Below w.heap.size w W := by (intro h_ g_; repeat (first | (with_reducible first | exact h_ | apply below_alloc | apply pw_below_drewN | apply below_drew1 | refine below_set ?_ g_) | exact h_))) : w.heap.size ≤ g := by rw [hg]; exact below_size (e H.out G.out)
theorem zG2 {w W : World} {g : Nat} (hg : g = W.heap.size) (H : Aside0 q) (G : Aside0 r) (G2 : Aside0 s) (e : q → r → s → Below w.heap.size w W := by (intro h_ g_ g2_; repeat (first | (with_reducible first | exact h_ | apply below_alloc | apply pw_below_drewN | apply below_drew1 | refine below_set ?_ g_ | refine below_set ?_ g2_) | exact h_))) : w.heap.size ≤ g := by rw [hg]; exact below_size (e H.out G.out G2.out)
variable {P : Program} {ops : Array Oper} {rest : List Oper} {o : Oper} {a : Act} {Q : Exit → Act → World → Prop}
theorem zx {W : World} (N : Tmp) (cs : Array Value) (t : TypeId)
 (h : ∀ g, g = W.heap.size → ∀ w1, w1.heap[g]? = some (.cells cs t (0, 0)) → Below W.heap.size W w1 → wpList P ops Q rest (a.put o.dst (.pointer (some ⟨g, 0, none⟩))) w1) (hgd : o.guard = none := by rfl) (hd : o.dst = some N := by rfl)
 (hrun : (execOp a.eval o).run P W = .ok (.value (.pointer (some ⟨W.heap.size, 0, none⟩))) (W.alloc (.cells cs t (0, 0))) := by first | (go_simp; done) | (go_simp; rfl)) : wpList P ops Q (o :: rest) a W := box_event hgd hd hrun h
end
end Go.Proofs.Ytocphkfkdadhaaa.PRF
namespace Go.Proofs.Ytocphkfkdadhaaa.PRF
open Go.RowKit Go.Proofs.YtocphkfkdadhaaaW.PrintWords Go.Proofs.YtocphkfkdadhaaaW.PrintLast Go.Proofs.YtocphkfkdadhaaaW.PrintMore
attribute [local go_sem] max2_int min2_int max_two min_two max_three min_three max_four min_four
def errW : Option Int → Value
 | none => .nilIface
 | some c => .iface 0 (.int .i64 c)
theorem errW_none : errW none = .nilIface := rfl
theorem errW_some (c : Int) : errW (some c) = .iface 0 (.int .i64 c) := rfl
theorem info5 : (Try.prog.info? 5).map (fun i => (i.zero, i.size, i.bytes)) = some (some (.int .u8 0), 1, 1) := by kernel_rfl
theorem info74 : (Try.prog.info? 74).map (fun i => (i.zero, i.size, i.bytes)) = some (some (.slice none 0 0), 1, 24) := by kernel_rfl
theorem info78 : (Try.prog.info? 78).map (fun i => (i.zero, i.size, i.bytes)) = some (some (.agg #[(.int .i64 0), (.slice none 0 0)]), 2, 32) := by kernel_rfl
theorem info159 : (Try.prog.info? 159).map (fun i => (i.zero, i.size, i.bytes)) = some (some (.agg #[(.bool false), (.slice none 0 0), (.slice none 0 0)]), 3, 56) := by kernel_rfl
def rd_L2 (xs : List (List Int)) (i : Int) : (List Int) := xs.getD i.toNat ([] : List Int)
theorem at_L2 {w : World} {A : Option Addr} {n : Nat} {xs : List (List Int)} (h : Kd.C (Kd.slice 5 (Kd.int .u8)) w A n xs) (i : Int) (h0 : 0 ≤ i) (h1 : i < n) : ∃ ad A0 c0, A = some ad ∧ w.cell? (ad.add i.toNat) = some (.slice A0 (rd_L2 xs i).length c0) ∧ (rd_L2 xs i).length ≤ c0 ∧ (Kd.int .u8).C w A0 (rd_L2 xs i).length (rd_L2 xs i) := by
 obtain ⟨ad, c, e, _, hK, hc0⟩ := Kd.C_get h ([] : List Int) i h0 h1
 have hc : ∀ j u, c[j]? = some u → w.cell? (ad.add (i.toNat * 1 + j)) = some u := hc0
 obtain ⟨A0, c0, rfl, l0, g0⟩ := hK
 exact ⟨ad, A0, c0, e, by have hq := hc 0 _ rfl; rwa [Nat.mul_one, Nat.add_zero] at hq, l0, g0⟩
structure S78 where
 f0 : Int
 f1 : (List Int)
def z78 : S78 := ⟨(0 : Int), ([] : List Int)⟩
def k78 : Kd S78 := Kd.iso (Kd.pair (Kd.int .i64) (Kd.slice 5 (Kd.int .u8))) (fun x : S78 => (x.f0, x.f1))
theorem k78_open {w : World} {x : S78} {cs : List Value} (h : k78.K w x cs) : ∃ A1 c1, cs = [.int .i64 x.f0, .slice A1 x.f1.length c1] ∧ x.f1.length ≤ c1 ∧ (Kd.int .u8).C w A1 x.f1.length x.f1 := by
 obtain ⟨_, _, rfl, rfl, ⟨A1, c1, rfl, l1, g1⟩⟩ := h
 exact ⟨A1, c1, rfl, l1, g1⟩
theorem k78_mk (w : World) (x : S78) {A1 : Option Addr} {c1 : Nat} (l1 : x.f1.length ≤ c1) (g1 : (Kd.int .u8).C w A1 x.f1.length x.f1) : k78.K w x [.int .i64 x.f0, .slice A1 x.f1.length c1] := ⟨[.int .i64 x.f0], [.slice A1 x.f1.length c1], rfl, rfl, ⟨A1, c1, rfl, l1, g1⟩⟩
theorem k78_mkM (w : World) (base : Nat) (ok : Nat → Prop) (x : S78) {v1 : Value} (g1 : (Kd.int .u8).R 5 w base ok v1 x.f1) : k78.M w base ok x [.int .i64 x.f0, v1] := ⟨[.int .i64 x.f0], [v1], rfl, rfl, ⟨v1, rfl, g1⟩⟩
def rd_T78 (xs : List S78) (i : Int) : S78 := xs.getD i.toNat z78
theorem at_T78 {w : World} {A : Option Addr} {n : Nat} {xs : List S78} (h : Kd.C k78 w A n xs) (i : Int) (h0 : 0 ≤ i) (h1 : i < n) : ∃ ad A1 c1, A = some ad ∧ w.cell? (ad.add (i.toNat * 2)) = some (.int .i64 (rd_T78 xs i).f0) ∧ w.cell? ⟨(ad.add (i.toNat * 2)).block, (ad.add (i.toNat * 2)).off + 1, none⟩ = some (.slice A1 (rd_T78 xs i).f1.length c1) ∧ (rd_T78 xs i).f1.length ≤ c1 ∧ (Kd.int .u8).C w A1 (rd_T78 xs i).f1.length (rd_T78 xs i).f1 := by
 obtain ⟨ad, c, e, _, hK, hc0⟩ := Kd.C_get h z78 i h0 h1
 have hc : ∀ j u, c[j]? = some u → w.cell? (ad.add (i.toNat * 2 + j)) = some u := hc0
 obtain ⟨A1, c1, rfl, l1, g1⟩ := k78_open hK
 exact ⟨ad, A1, c1, e, hc 0 _ rfl, by rw [← add_field _ _ 1 (by omega)]; exact hc 1 _ rfl, l1, g1⟩
structure S159 where
 f0 : Bool
 f1 : (List Int)
 f2 : (List S159)
def z159 : S159 := ⟨false, ([] : List Int), ([] : List S159)⟩
def F159 (d : Kd S159) : Kd S159 := Kd.iso (Kd.pair Kd.bool (Kd.pair (Kd.slice 5 (Kd.int .u8)) (Kd.slice 159 d))) (fun x : S159 => (x.f0, x.f1, x.f2))
theorem mono159 : Kd.Mono F159 := Kd.mono_iso _ (Kd.mono_pair (Kd.mono_const _) (Kd.mono_pair (Kd.mono_const _) (Kd.mono_slice 159 Kd.mono_id)))
theorem sub159 : Kd.Sub F159 [5, 159] := Kd.sub_iso _ (Kd.sub_pair (Kd.sub_const _ (by decide)) (Kd.sub_pair (Kd.sub_const _ (by decide)) (Kd.sub_slice 159 (by decide) Kd.sub_id)))
theorem sz159 : ∀ n, (Kd.upto F159 3 [5, 159] n).sz = 3 := Kd.upto_sz (fun _ => rfl)
def k159 : Kd S159 := Kd.fix F159 3 [5, 159] sz159 (Kd.upto_E sub159)
theorem k159_open {w : World} {x : S159} {cs : List Value} (h : k159.K w x cs) : ∃ A1 c1 A2 c2, cs = [.bool x.f0, .slice A1 x.f1.length c1, .slice A2 x.f2.length c2] ∧ x.f1.length ≤ c1 ∧ (Kd.int .u8).C w A1 x.f1.length x.f1 ∧ x.f2.length ≤ c2 ∧ k159.C w A2 x.f2.length x.f2 := by
 obtain ⟨n, h⟩ := h
 cases n with
 | zero => exact h.elim
 | succ n =>
  obtain ⟨_, _, rfl, rfl, ⟨_, _, rfl, ⟨A1, c1, rfl, l1, g1⟩, ⟨A2, c2, rfl, l2, g2⟩⟩⟩ := h
  exact ⟨A1, c1, A2, c2, rfl, l1, g1, l2, Kd.fix_C g2⟩
theorem k159_openM {w : World} {base : Nat} {ok : Nat → Prop} {x : S159} {cs : List Value} (h : k159.M w base ok x cs) : ∃ v1 v2, cs = [.bool x.f0, v1, v2] ∧ (Kd.int .u8).R 5 w base ok v1 x.f1 ∧ k159.R 159 w base ok v2 x.f2 := by
 obtain ⟨n, h⟩ := h
 cases n with
 | zero => exact h.elim
 | succ n =>
  obtain ⟨_, _, rfl, rfl, ⟨_, _, rfl, ⟨v1, rfl, g1⟩, ⟨v2, rfl, g2⟩⟩⟩ := h
  exact ⟨v1, v2, rfl, g1, Kd.fix_R g2⟩
theorem k159_mk (w : World) (x : S159) {A1 : Option Addr} {c1 : Nat} (l1 : x.f1.length ≤ c1) (g1 : (Kd.int .u8).C w A1 x.f1.length x.f1) {A2 : Option Addr} {c2 : Nat} (l2 : x.f2.length ≤ c2) (g2 : k159.C w A2 x.f2.length x.f2) : k159.K w x [.bool x.f0, .slice A1 x.f1.length c1, .slice A2 x.f2.length c2] := by
 obtain ⟨n2, q2⟩ := Kd.fix_C_back mono159 g2
 have r2 := Kd.upto_C_le mono159 sz159 (show n2 ≤ n2 by omega) q2
 exact ⟨n2 + 1, ⟨[.bool x.f0], [.slice A1 x.f1.length c1, .slice A2 x.f2.length c2], rfl, rfl, ⟨[.slice A1 x.f1.length c1], [.slice A2 x.f2.length c2], rfl, ⟨A1, c1, rfl, l1, g1⟩, ⟨A2, c2, rfl, l2, r2⟩⟩⟩⟩
theorem k159_mkM (w : World) (base : Nat) (ok : Nat → Prop) (x : S159) {v1 : Value} (g1 : (Kd.int .u8).R 5 w base ok v1 x.f1) {v2 : Value} (g2 : k159.R 159 w base ok v2 x.f2) : k159.M w base ok x [.bool x.f0, v1, v2] := by
 obtain ⟨n2, q2⟩ := Kd.fix_R_back mono159 g2
 have r2 := Kd.upto_R_le mono159 sz159 (show n2 ≤ n2 by omega) q2
 exact ⟨n2 + 1, ⟨[.bool x.f0], [v1, v2], rfl, rfl, ⟨[v1], [v2], rfl, ⟨v1, rfl, g1⟩, ⟨v2, rfl, r2⟩⟩⟩⟩
def rd_T159 (xs : List S159) (i : Int) : S159 := xs.getD i.toNat z159
theorem at_T159 {w : World} {A : Option Addr} {n : Nat} {xs : List S159} (h : Kd.C k159 w A n xs) (i : Int) (h0 : 0 ≤ i) (h1 : i < n) : ∃ ad A1 c1 A2 c2, A = some ad ∧ w.cell? (ad.add (i.toNat * 3)) = some (.bool (rd_T159 xs i).f0) ∧ w.cell? ⟨(ad.add (i.toNat * 3)).block, (ad.add (i.toNat * 3)).off + 1, none⟩ = some (.slice A1 (rd_T159 xs i).f1.length c1) ∧ w.cell? ⟨(ad.add (i.toNat * 3)).block, (ad.add (i.toNat * 3)).off + 2, none⟩ = some (.slice A2 (rd_T159 xs i).f2.length c2) ∧ (rd_T159 xs i).f1.length ≤ c1 ∧ (Kd.int .u8).C w A1 (rd_T159 xs i).f1.length (rd_T159 xs i).f1 ∧ (rd_T159 xs i).f2.length ≤ c2 ∧ k159.C w A2 (rd_T159 xs i).f2.length (rd_T159 xs i).f2 := by
 obtain ⟨ad, c, e, _, hK, hc0⟩ := Kd.C_get h z159 i h0 h1
 have hc : ∀ j u, c[j]? = some u → w.cell? (ad.add (i.toNat * 3 + j)) = some u := hc0
 obtain ⟨A1, c1, A2, c2, rfl, l1, g1, l2, g2⟩ := k159_open hK
 exact ⟨ad, A1, c1, A2, c2, e, hc 0 _ rfl, by rw [← add_field _ _ 1 (by omega)]; exact hc 1 _ rfl, by rw [← add_field _ _ 2 (by omega)]; exact hc 2 _ rfl, l1, g1, l2, g2⟩
end Go.Proofs.Ytocphkfkdadhaaa.PRF
