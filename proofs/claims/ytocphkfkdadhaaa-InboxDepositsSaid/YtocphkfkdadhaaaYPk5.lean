import Derived.Test.YtocphkfkdadhaaaYPk3
import Derived.Test.YtocphkfkdadhaaaYPk4
import Derived.RangeFuncNested
import Derived.Maps.OwnIn
import Derived.Test.YtocphkfkdadhaaaYPk1
import Derived.Test.YtocphkfkdadhaaaYPk2
namespace Go.Proofs.Ytocphkfkdadhaaa.H
open Go.RowKit Go.Proofs.YtocphkfkdadhaaaW.PrintWords Go.Proofs.YtocphkfkdadhaaaW.PrintLast Go.Proofs.YtocphkfkdadhaaaW.PrintMore
set_option linter.unusedVariables false
set_option linter.unusedSimpArgs false
theorem R_elem {α : Type} {d : Kd α} {e : Nat} {W : World} {base : Nat} {ok : Nat → Prop} {v : Value} {xs : List α} (h : d.R e W base ok v xs) (i : Nat) (hi : i < xs.length) :
 ∃ g cap cs, v = .slice (some ⟨g, 0, none⟩) xs.length cap ∧ xs.length ≤ cap ∧ d.M W base ok xs[i] cs ∧ ∀ j u, cs[j]? = some u → W.cell? ⟨g, i * d.sz + j, none⟩ = some u := by
 obtain ⟨g, cap, h5, _⟩ := Kd.R_form h (by omega)
 subst h5
 obtain ⟨hn, cur, inner, hh, hc3, hc1, hc4, hr⟩ := R_block h
 refine ⟨g, cap, (inner.drop (i * d.sz)).take d.sz, rfl, hc1, d.M_mono (fun k hk => hk.1) (hr.2 i _ (List.getElem?_eq_getElem hi)), fun j u hj => ?_⟩
 rw [blk_cell hh]
 rw [List.getElem?_take] at hj
 split at hj
 ·rw [List.getElem?_drop, ← hc4, List.getElem?_take] at hj
  split at hj
  ·rw [← Array.getElem?_toList]; exact hj
  ·cases hj
 ·cases hj
theorem Own.shM_up {α : Type} {d : Kd α} {w1 wd W : World} {S : Nat → Prop} {e : Nat} {v : Value} {xs : List α} {L : List Item} (h : Own wd.heap.size wd W (.row (shM d wd S) e v xs :: L)) (hb : Below w1.heap.size w1 wd) (hS : ∀ k, S k → w1.heap.size ≤ k) :
 Own w1.heap.size w1 W (.row d e v xs :: L) := by
 obtain ⟨hbl, hba, S1, c1, c2, c3⟩ := h
 have c2 : (shM d wd S).R e W 0 S1 v xs := c2
 have hsz := hb.size
 have c2' : (shM d wd (fun k => S k ∧ k < wd.heap.size)).R e W 0 S1 v xs := by
  obtain ⟨h0, inner, ho, hr⟩ := c2
  refine ⟨h0, inner, ho, Reps.imp_ hr fun x cs hx => ?_⟩
  have hx : d.M wd 0 S x cs := hx
  exact d.M_mono (fun k hk => ⟨hk.1, hk.2.2.1⟩) (d.M_bound hx)
 refine ⟨below_step hb hbl, by omega, fun k => S1 k ∨ (S k ∧ k < wd.heap.size), ?_, shM_own c2' hbl (fun k hk => (c1 k hk).1), ?_⟩
 ·rintro i (hi | hi)
  ·have := c1 i hi; omega
  ·have := hS i hi.1; omega
 ·refine Sep.imp (fun i hi => ⟨by have := hi.1; omega, ?_⟩) c3
  rintro (h | h)
  ·exact hi.2 h
  ·have := hi.1; omega
theorem cutP_byt {b x y : List Int} {n : Nat} (hb : K.Byt b) (h : K.cutP b n = .ok (x, y)) : K.Byt x ∧ K.Byt y := by
 obtain ⟨_, rfl, rfl⟩ := K.cutP_ok h
 exact ⟨fun z hz => hb z (List.mem_of_mem_take hz), fun z hz => hb z (List.mem_of_mem_drop hz)⟩
theorem bodyP_byt {f : Nat} {b x y : List Int} (hb : K.Byt b) (h : K.bodyP f b = .ok (x, y)) : K.Byt x ∧ K.Byt y := by
 unfold K.bodyP at h
 split at h
 ·exact cutP_byt hb h
 ·split at h
  ·split at h
   ·cases h
   ·exact cutP_byt (fun z hz => hb z (List.mem_of_mem_drop hz)) h
  ·cases h
theorem bind_ok {ε α β : Type} {x : Except ε α} {f : α → Except ε β} {r : β} (h : x.bind f = .ok r) : ∃ a, x = .ok a ∧ f a = .ok r := by
 cases x with
 | error e => cases h
 | ok a => exact ⟨a, rfl, h⟩
theorem itemsP_byt (f : List Int → Except Int (SI × List Int)) (hf : ∀ l x r, K.Byt l → f l = .ok (x, r) → K.BytI x ∧ K.Byt r) : ∀ (k : Nat) (l : List Int) (xs : List SI), K.Byt l → K.itemsP f k l = .ok xs → ∀ y ∈ xs, K.BytI y
 | 0, [], xs, _, h => by
  simp only [K.itemsP, Except.ok.injEq] at h
  subst h
  intro y hy; cases hy
 | k + 1, [], xs, _, h => by
  simp only [K.itemsP, Except.ok.injEq] at h
  subst h
  intro y hy; cases hy
 | 0, c :: l, xs, _, h => by simp [K.itemsP] at h
 | k + 1, c :: l, xs, hb, h => by
  simp only [K.itemsP] at h
  obtain ⟨⟨q1, q2⟩, h1, h⟩ := bind_ok h
  obtain ⟨ys, h2, h⟩ := bind_ok h
  simp only [Except.ok.injEq] at h
  subst h
  obtain ⟨hx, hr⟩ := hf _ _ _ hb h1
  intro y hy
  rcases List.mem_cons.1 hy with rfl | hy
  ·exact hx
  ·exact itemsP_byt f hf k _ _ hr h2 y hy
theorem itemF_byt {sub : Option (List Int → Except Int (SI × List Int))} (hsub : ∀ f, sub = some f → ∀ l x r, K.Byt l → f l = .ok (x, r) → K.BytI x ∧ K.Byt r) {l r : List Int} {x : SI} (hb : K.Byt l) (h : K.itemF sub l = .ok (x, r)) : K.BytI x ∧ K.Byt r := by
 cases l with
 | nil => cases h
 | cons c rest =>
  have hc := hb c (by simp)
  have hr : K.Byt rest := fun z hz => hb z (List.mem_cons_of_mem _ hz)
  simp only [K.itemF] at h
  split at h
  ·simp only [Except.ok.injEq, Prod.mk.injEq] at h
   obtain ⟨rfl, rfl⟩ := h
   refine ⟨.mk _ (fun z hz => ?_) (fun y hy => by cases hy), hr⟩
   rw [List.mem_singleton.1 hz]; exact hc
  ·split at h
   ·obtain ⟨⟨q1, q2⟩, h1, h⟩ := bind_ok h
    split at h
    ·cases h
    ·simp only [Except.ok.injEq, Prod.mk.injEq] at h
     obtain ⟨rfl, rfl⟩ := h
     have := bodyP_byt hr h1
     exact ⟨.mk _ this.1 (fun y hy => by cases hy), this.2⟩
   ·split at h
    ·cases h
    ·rename_i f
     obtain ⟨⟨q1, q2⟩, h1, h⟩ := bind_ok h
     obtain ⟨xs, h2, h⟩ := bind_ok h
     simp only [Except.ok.injEq, Prod.mk.injEq] at h
     obtain ⟨rfl, rfl⟩ := h
     have hq := bodyP_byt hr h1
     exact ⟨.mk _ (fun z hz => by cases hz) (itemsP_byt f (hsub f rfl) _ _ _ hq.1 h2), hq.2⟩
theorem itemP_byt : ∀ (lv : Nat) (l r : List Int) (x : SI), K.Byt l → K.itemP lv l = .ok (x, r) → K.BytI x ∧ K.Byt r
 | 0, l, r, x, hb, h => itemF_byt (by simp) hb h
 | lv + 1, l, r, x, hb, h => itemF_byt (sub := some (K.itemP lv)) (by rintro f hf; cases hf; exact fun l x r hb h => itemP_byt lv l r x hb h) hb h
theorem decodeP_byt {l : List Int} {x : SI} (hb : K.Byt l) (h : K.decodeP l = .ok x) : K.BytI x := by
 unfold K.decodeP at h
 split at h
 ·cases h
 ·obtain ⟨⟨q1, q2⟩, h1, h⟩ := bind_ok h
  split at h
  ·simp only [Except.ok.injEq] at h
   subst h
   exact (itemP_byt 16 l q2 _ hb h1).1
  ·cases h
theorem decodeP_err {l : List Int} {e : Int} (h : K.decodeP l = .error e) : e ≠ 0 := by
 unfold K.decodeP at h
 split at h
 ·cases h; decide
 ·rcases K.bind_err h with h | ⟨q, _, h⟩
  ·exact K.itemP_err h
  ·split at h
   ·cases h
   ·cases h; decide
theorem BytI_f1 {x : SI} (h : K.BytI x) : K.Byt x.f1 := by cases h; assumption
theorem BytI_f2 {x : SI} (h : K.BytI x) : ∀ y ∈ x.f2, K.BytI y := by cases h; assumption
structure BatchI where
 n : Int
 t : Int
 ms : List (List Int)
def zeroBt : BatchI := ⟨0, 0, []⟩
def itemsB (a b c : SI) : BatchI × Int :=
 if (K.rnumP a).2 = 0 ∧ (K.rnumP b).2 = 0 ∧ c.f0 = true ∧ c.f2.length ≤ 4096 ∧ (c.f2.all fun y => !y.f0) = true then (⟨(K.rnumP a).1, (K.rnumP b).1, c.f2.map fun y => y.f1⟩, 0) else (zeroBt, 8)
def shapeB (b : Bool) (l : List SI) : BatchI × Int :=
 match b, l with
 | true, [y0, y1, y2] => itemsB y0 y1 y2
 | _, _ => (zeroBt, 8)
theorem shapeB_bad {b : Bool} {l : List SI} (h : b = false ∨ l.length ≠ 3) : shapeB b l = (zeroBt, 8) := by
 unfold shapeB
 split
 ·rcases h with h | h
  ·cases h
  ·exact absurd rfl h
 ·rfl
def batchP (b : List Int) : BatchI × Int :=
 match K.decodeP b with
 | .error e => (zeroBt, e)
 | .ok x => shapeB x.f0 x.f2
def BatchPost (w : World) (r : BatchI × Int) (e : Ending) (w' : World) : Prop :=
 ∃ v, e = .returned (.tuple #[.agg #[.int .u64 r.1.n, .int .u64 r.1.t, v], .int .i64 r.2]) ∧ Own w.heap.size w w' [.row kL 74 v r.1.ms]
end Go.Proofs.Ytocphkfkdadhaaa.H

namespace Go.Proofs.Ytocphkfkdadhaaa.H
open Go.RowKit Go.Proofs.YtocphkfkdadhaaaW.PrintWords Go.Proofs.YtocphkfkdadhaaaW.PrintLast Go.Proofs.YtocphkfkdadhaaaW.PrintMore
set_option linter.unusedVariables false
set_option linter.unusedSimpArgs false
def Item.Cl (it : Item) : Prop := ∀ (W : World) (S : Nat → Prop), it.P W S → it.P W (fun k => S k ∧ ∃ o : Obj, W.heap[k]? = some o ∧ o.isCells = true)
theorem Cl_blk (g : Nat) (cs : Array Value) (t : TypeId) : (Item.blk g cs t).Cl := fun W S h => ⟨⟨h.1, _, h.2, rfl⟩, h.2⟩
theorem Cl_row {α : Type} (d : Kd α) (e : Nat) (v : Value) (xs : List α) : (Item.row d e v xs).Cl := fun W S h => Kd.R_mono (Kd.R_bound h) fun k hk => ⟨hk.1, by
 obtain ⟨_, _, _, q, _, cells, hc⟩ := hk
 exact ⟨_, hc, rfl⟩⟩
theorem Sep.cl {W : World} : ∀ {L : List Item} {U : Nat → Prop}, (∀ it ∈ L, it.Cl) → Sep W L U → Sep W L (fun k => U k ∧ ∃ o : Obj, W.heap[k]? = some o ∧ o.isCells = true)
 | [], _, _, _ => trivial
 | it :: L, U, hL, ⟨S, h1, h2, h3⟩ => ⟨_, fun i hi => ⟨h1 i hi.1, hi.2⟩, hL it (by simp) W S h2, Sep.imp (fun i hi => ⟨⟨hi.1.1, hi.2⟩, fun hs => hi.1.2 hs.1⟩) (Sep.cl (fun x hx => hL x (by simp [hx])) h3)⟩
theorem Own.other {B : Nat} {w0 W W1 : World} {L : List Item} {row : Option Nat} (h : Own B w0 W L) (hL : ∀ it ∈ L, it.Cl) (hg : W.grownBy W1 row) (hr : ∀ r, row = some r → B ≤ r ∧ ∃ o : Obj, W.heap[r]? = some o ∧ o.isCells = false) : Own B w0 W1 L :=
 ⟨h.below.grown hg h.base (fun g e => (hr g e).1), Nat.le_trans h.base hg.size, Sep.imp (fun i hi => ⟨hi.1.1, Nat.lt_of_lt_of_le hi.1.2 hg.size⟩) (Sep.move (fun k hk => hg.block k hk.1.2 (fun e => by
  obtain ⟨o, ho, hc⟩ := hk.2
  obtain ⟨_, o', ho', hc'⟩ := hr k e.symm
  rw [ho] at ho'
  cases ho'
  rw [hc] at hc'
  cases hc')) (Sep.cl hL h.sep))⟩
theorem Cl_nil : ∀ it ∈ ([] : List Item), it.Cl := fun _ h => by cases h
theorem Cl_cons {it : Item} {L : List Item} (h : it.Cl) (hL : ∀ x ∈ L, x.Cl) : ∀ x ∈ it :: L, x.Cl := fun x hx => by
 rcases List.mem_cons.1 hx with rfl | hx
 ·exact h
 ·exact hL x hx
def Item.obj (D : Nat) (o : Obj) : Item where
 P := fun W S => S D ∧ W.heap[D]? = some o
 move := fun hm h => ⟨h.1, (hm D h.1).trans h.2⟩
 mono := fun hm h => ⟨hm _ h.1, h.2⟩
theorem Own.keepObj {B : Nat} {w0 W : World} {L : List Item} (h : Own B w0 W L) (hL : ∀ it ∈ L, it.Cl) {D : Nat} {o : Obj} (hD : B ≤ D) (ho : W.heap[D]? = some o) (hc : o.isCells = false) : Own B w0 W (.obj D o :: L) :=
 ⟨h.below, h.base, fun k => k = D, fun i hi => by subst hi; exact ⟨hD, blk_lt ho⟩, ⟨rfl, ho⟩, Sep.imp (fun i hi => ⟨hi.1, fun e => by
  subst e
  obtain ⟨o', ho', hc'⟩ := hi.2
  rw [ho] at ho'
  cases ho'
  rw [hc] at hc'
  cases hc'⟩) (Sep.cl hL h.sep)⟩
theorem Own.getObj {B : Nat} {w0 W : World} {L : List Item} {D : Nat} {o : Obj} (h : Own B w0 W (.obj D o :: L)) : B ≤ D ∧ W.heap[D]? = some o := by
 obtain ⟨S, h1, h2⟩ := h.look 0 rfl
 exact ⟨(h1 D h2.1).1, h2.2⟩
theorem Own.putObj {B : Nat} {w0 W : World} {L : List Item} {D : Nat} {o : Obj} (h : Own B w0 W (.obj D o :: L)) (hL : ∀ it ∈ L, it.Cl) (hc : o.isCells = false) (o' : Obj) : Own B w0 (W.putObj D o') L :=
 (h.erase 0).other hL (grownBy_putObj' W D o') fun r e => by
  cases e
  exact ⟨h.getObj.1, _, h.getObj.2, hc⟩
def Item.lend {α : Type} (d : Kd α) (e : Nat) (v : Value) (xs : List α) (g : Nat) (ms : List α) : Item where
 P := fun W S => Kd.R d e W 0 (fun k => S k ∧ (0 < ms.length → k ≠ g)) v xs ∧ (0 < ms.length → S g) ∧ ∀ (i : Nat) (h : i < ms.length), ∃ u, W.cell? ⟨g, i, none⟩ = some u ∧ d.M W 0 (fun k => S k ∧ k ≠ g ∧ some k ≠ v.ownBlock) ms[i] [u]
 move := fun hm h => ⟨Kd.R_move h.1 (fun k hk => hm k hk.1), h.2.1, fun i hi => by
  obtain ⟨u, h1, h2⟩ := h.2.2 i hi
  exact ⟨u, (World.cell?_of_block (hm g (h.2.1 (by omega)))).trans h1, d.M_move (fun k hk => hm k hk.1) h2⟩⟩
 mono := fun hm h => ⟨Kd.R_mono h.1 (fun k hk => ⟨hm k hk.1, hk.2⟩), fun hp => hm g (h.2.1 hp), fun i hi => by
  obtain ⟨u, h1, h2⟩ := h.2.2 i hi
  exact ⟨u, h1, d.M_mono (fun k hk => ⟨hm k hk.1, hk.2⟩) h2⟩⟩
theorem Cl_lend {α : Type} (d : Kd α) (e : Nat) (v : Value) (xs : List α) (g : Nat) (ms : List α) (hg : ∀ (W : World) (S : Nat → Prop), (Item.lend d e v xs g ms).P W S → 0 < ms.length → ∃ o : Obj, W.heap[g]? = some o ∧ o.isCells = true) : (Item.lend d e v xs g ms).Cl := fun W S h => by
 have hgc := hg W S h
 obtain ⟨h1, h2, h3⟩ := h
 refine ⟨Kd.R_mono (Kd.R_bound h1) fun k hk => ⟨⟨hk.1.1, ?_⟩, hk.1.2⟩, fun hp => ⟨h2 hp, hgc hp⟩, fun i hi => ?_⟩
 ·obtain ⟨_, _, _, q, _, cells, hc⟩ := hk
  exact ⟨_, hc, rfl⟩
 ·obtain ⟨u, k1, k2⟩ := h3 i hi
  refine ⟨u, k1, d.M_mono (fun k hk => ⟨⟨hk.1.1, ?_⟩, hk.1.2⟩) (d.M_bound k2)⟩
  obtain ⟨_, _, _, q, _, cells, hc⟩ := hk
  exact ⟨_, hc, rfl⟩
theorem lend_cells {α : Type} {d : Kd α} {e : Nat} {v : Value} {xs : List α} {g : Nat} {ms : List α} (W : World) (S : Nat → Prop) (h : (Item.lend d e v xs g ms).P W S) (hp : 0 < ms.length) : ∃ o : Obj, W.heap[g]? = some o ∧ o.isCells = true := by
 obtain ⟨u, hu, _⟩ := h.2.2 0 hp
 unfold World.cell? at hu
 cases ho : W.heap[g]? with
 | none => simp [ho] at hu
 | some o => cases o <;> first | exact ⟨_, rfl, rfl⟩ | simp [ho] at hu
theorem R_elem2 {α : Type} {d : Kd α} {e : Nat} {W : World} {base : Nat} {ok : Nat → Prop} {g n cap : Nat} {xs : List α} (h : d.R e W base ok (.slice (some ⟨g, 0, none⟩) n cap) xs) (hsz : d.sz = 1) (i : Nat) (hi : i < xs.length) :
 ∃ u, W.cell? ⟨g, i, none⟩ = some u ∧ d.M W base (fun k => ok k ∧ k ≠ g) xs[i] [u] := by
 obtain ⟨hn, cur, inner, hh, hc3, hc1, hc4, hr⟩ := R_block h
 have hM := hr.2 i _ (List.getElem?_eq_getElem hi)
 have hM2 := d.M_mono (ok' := fun k => ok k ∧ k ≠ g) (fun k hk => ⟨hk.1, fun e => hk.2 (by rw [e]; rfl)⟩) hM
 have hl := (d.K_len (d.K_of_M hM)).trans hsz
 obtain ⟨u, hu⟩ := List.length_eq_one_iff.1 hl
 rw [hu] at hM2
 refine ⟨u, ?_, hM2⟩
 rw [blk_cell hh]
 have h0 : ((inner.drop (i * d.sz)).take d.sz)[0]? = some u := by rw [hu]; rfl
 rw [hsz] at h0 hc4
 rw [List.getElem?_take] at h0
 simp only [Nat.lt_add_one, if_true, Nat.mul_one] at h0
 rw [List.getElem?_drop, ← hc4, List.getElem?_take] at h0
 split at h0
 ·rw [← Array.getElem?_toList]; exact h0
 ·cases h0
theorem Own.lend {α : Type} {d : Kd α} {B : Nat} {w0 W : World} {L : List Item} {e e2 n c : Nat} {v : Value} {xs ms : List α} {A : Option Addr} (hsz : d.sz = 1) (H : Own B w0 W (.row d e v xs :: .row d e2 (.slice A n c) ms :: L)) :
 ∃ g, (0 < ms.length → A = some ⟨g, 0, none⟩) ∧ Own B w0 W (.lend d e v xs g ms :: L) := by
 by_cases hm : 0 < ms.length
 ·obtain ⟨g, cap, he, _⟩ := H.form 1 rfl hm
  injection he with he1 he2 he3
  subst he1
  refine ⟨g, fun _ => rfl, H.join.turn 0 rfl fun S hj => ?_⟩
  obtain ⟨S1, S2, c1, c2, c3, hR, hR2⟩ := hj
  have hR : Kd.R d e W 0 S1 v xs := hR
  have hR2 : Kd.R d e2 W 0 S2 (.slice (some ⟨g, 0, none⟩) n c) ms := hR2
  have hg : S2 g := hR2.1 g rfl
  refine ⟨Kd.R_mono hR fun k hk => ⟨c1 k hk, fun _ e => c3 k hk (e ▸ hg)⟩, fun _ => c2 g hg, fun i hi => ?_⟩
  obtain ⟨u, k1, k2⟩ := R_elem2 hR2 hsz i hi
  exact ⟨u, k1, d.M_mono (fun k hk => ⟨c2 k hk.1, hk.2, fun e => c3 k (hR.1 k e.symm) hk.1⟩) k2⟩
 ·exact ⟨0, fun h => absurd h hm, (H.erase 1).turn 0 rfl fun S hj => ⟨Kd.R_mono hj fun k hk => ⟨hk, fun h => absurd h hm⟩, fun h => absurd h hm, fun i hi => absurd (Nat.lt_of_le_of_lt (Nat.zero_le _) hi) hm⟩⟩
theorem Own.unlend {α : Type} {d : Kd α} {B : Nat} {w0 W : World} {L : List Item} {e g : Nat} {v : Value} {xs ms : List α} (H : Own B w0 W (.lend d e v xs g ms :: L)) : Own B w0 W (.row d e v xs :: L) :=
 H.turn 0 rfl fun S h => Kd.R_mono h.1 fun k hk => hk.1
theorem Own.lend_reads {α : Type} {d : Kd α} {B : Nat} {w0 W : World} {L : List Item} {e g : Nat} {v : Value} {xs ms : List α} (H : Own B w0 W (.lend d e v xs g ms :: L)) : ∃ A c, v = .slice A xs.length c ∧ xs.length ≤ c ∧ d.C W A xs.length xs := H.unlend.reads 0 rfl
section
variable {P : Program} {ops : Array Oper} {rest : List Oper} {o : Oper} {a : Act} {Q : Exit → Act → World → Prop} {B : Nat} {w0 W : World} {L : List Item} {α : Type}
theorem own_append_lendIn {F : Fence} {nF : Nat} (d : Kd α) {e g : Nat} {v : Value} {xs ms : List α} (H : Own B w0 W (.lend d e v xs g ms :: L)) (hgd : o.guard = none) (s x : Operand) (t : TypeId) (z : Value) (bytes : Nat)
 (ho : o.op = .call { callee := .builtin .append, args := #[s, x], argTypes := #[t, t] })
 (ht : P.underlying t = some (.slice e)) (hinfo : (P.info? e).map (fun i => (i.zero, i.size, i.bytes)) = some (some z, d.sz, bytes)) (hz : z.cells.size = d.sz) (hs0 : 0 < d.sz) (hb0 : 0 < bytes)
 (i : Nat) (hi : i < ms.length) (u : Value) (hu : W.cell? ⟨g, i, none⟩ = some u) (hs : a.eval s = v) (hx : a.eval x = .slice (some ⟨W.heap.size, 0, none⟩) 1 1) (hl : (xs.length + 1) * bytes ≤ 140737488355328)
 (h : ∀ v1 w1, Own B w0 w1 (.lend d e v1 (xs ++ [ms[i]]) g ms :: L) → w1.heap[g]? = W.heap[g]? → W.grownBy w1 v.ownBlock → (v1.ownBlock = v.ownBlock ∨ ∃ b, v1.ownBlock = some b ∧ W.heap.size ≤ b) → wpListIn F nF P ops Q rest (a.put o.dst v1) w1) :
 wpListIn F nF P ops Q (o :: rest) a (W.alloc (.cells #[u] e)) := by
 obtain ⟨S, hS, ⟨hR, hSg, hE⟩, hch⟩ := H.focus 0 rfl
 obtain ⟨u', hu', hM⟩ := hE i hi
 obtain rfl : u' = u := by rw [hu] at hu'; injection hu' with hu'; exact hu'.symm
 have hSg' := hSg (by omega)
 have hvg : some g ≠ v.ownBlock := fun he => (hR.1 g he.symm).2 (by omega) rfl
 obtain ⟨i0, hi0, hzz⟩ := Option.map_eq_some_iff.1 hinfo
 simp only [Prod.mk.injEq] at hzz
 obtain ⟨hz0, hz1, hz2⟩ := hzz
 have hlen : xs.length + 1 ≤ 140737488355328 := Nat.le_trans (Nat.le_mul_of_pos_right _ hb0) hl
 have hR' : d.R e W 0 (fun k => (S k ∧ (0 < ms.length → k ≠ g)) ∨ W.heap.size ≤ k) v xs := Kd.R_mono hR fun i hi => .inl hi
 obtain ⟨h0, inner, hown, hr⟩ := hR'
 have h1 := d.K_len (d.K_of_M hM)
 refine wpListIn_append_own_at (W.alloc (.cells #[u'] e)) hgd s x t ho 0 e i0 z d.sz bytes ht hi0 hz0 hz1 hz2 hz hs0 v xs.length inner hs (hown.alloc _) ⟨W.heap.size, 0, none⟩ 1 1 [u'] hx (by rw [Nat.one_mul]; exact h1)
  (by simpa using World.news_of_block (cs := #[u']) (t := e) (fr := (0, 0)) (heap_alloc_new W (.cells #[u'] e))) (d.K_one (d.K_of_M hM)) (by simp only [maxLen]; omega) hl (Nat.zero_le _) ?_
 intro v1 w1 hown1 hg1 _ hat1
 have hg : W.grownBy w1 v.ownBlock := World.grownBy.trans (World.grownBy_alloc W _ _) hg1
 have hat : v1.ownBlock = v.ownBlock ∨ ∃ b, v1.ownBlock = some b ∧ W.heap.size ≤ b := hat1.imp id fun h => ⟨_, h, by simp⟩
 have hR1 := Kd.R_appended h0 hr hM (fun k hk => ⟨.inl ⟨hk.1, fun _ => hk.2.1⟩, hk.2.2⟩) (fun i hi => .inr hi) hown1 hg hat
 have hgg : w1.heap[g]? = W.heap[g]? := hg.block g (hS g hSg').2 hvg
 refine h v1 w1 (hch w1 (.lend d e v1 (xs ++ [ms[i]]) g ms) v.ownBlock hg (fun k hr => (hR.1 k hr).1) ?_) hgg hg hat
 refine ⟨Kd.R_mono (Kd.R_bound hR1) (fun k hk => ?_), fun _ => .inl hSg', fun j hj => ?_⟩
 ·rcases hk with ⟨hk | hk, h2, h3, _⟩
  ·exact ⟨.inl hk.1, hk.2⟩
  ·exact ⟨.inr ⟨hk, h3⟩, fun _ e => by have := (hS g hSg').2; omega⟩
 ·obtain ⟨u2, k1, k2⟩ := hE j hj
  refine ⟨u2, (World.cell?_of_block hgg).trans k1, d.M_mono (fun k hk => ?_) (d.M_move (fun k hk => hg.block k (hS k hk.1).2 hk.2.2) k2)⟩
  refine ⟨.inl hk.1, hk.2.1, fun he => ?_⟩
  rcases hat with ha | ⟨b, hb, hle⟩
  ·exact hk.2.2 (he.trans ha)
  ·rw [hb] at he
   injection he with he
   have := (hS k hk.1).2
   omega
theorem wpIn_range1 {β : Type} {g : Operand} {p c : Tmp} {assign body : Code} {w : World} {nF : Nat} (enc : β → Value) (h1 : 1 ≤ nF) {gf : Nat} {lb : Array Value} (hg : a.eval g = .func (.func gf) #[] lb) (eg : ∀ args w, (callFunc gf args).run P w = .ok (.enter gf args) w)
 {Kp : World → World → Prop} {S : List β → Prop} {N : Nat} (hseq : SeqStopsK Fence.wide (nF - 1) P gf lb (fun x => #[enc x]) Kp S (fun _ => True) N w)
 (hKt : ∀ {A B C : World}, Kp A B → Kp B C → Kp A C) (hKb : ∀ (W : World) (l : Nat) (o o' : Obj), w.heap.size ≤ l → W.heap[l]? = some o → o.isCells = false → o.isWalk = false → Kp W (W.putObj l o')) (hKr : ∀ W, Kp W W)
 (I : List β → World → Prop) (hI : OwnFrom w.heap.size I) (h0 : I [] w)
 (hassign : ∀ (l : Nat) (x : β) (W : World) (K : Act → World → Prop), K { tmps := (a.tmps.setIfInBounds p (enc x)).setIfInBounds c (enc x), defers := [] } W → assign.wpIn (Fence.wide.inRound l) (nF - 1 - 1) P (Exit.then K (fun _ _ _ => False)) { tmps := a.tmps.setIfInBounds p (enc x), defers := [] } W)
 (hbody : ∀ (l : Nat) (pre : List β) (x : β) (W : World), I pre W → pre.length < N → body.wpIn (Fence.wide.inRound l) (nF - 1 - 1) P (ownPostG w.heap.size Kp I (fun _ _ _ => False) (pre ++ [x]) W) { tmps := (a.tmps.setIfInBounds p (enc x)).setIfInBounds c (enc x), defers := [] } W)
 (hdone : ∀ (D : Nat) (xs : List β) (W : World), w.heap.size ≤ D → S xs → I xs W → W.heap[D]? = some (.deferred (some [])) → Q .normal { a with defers := { target := .collected D, args := #[] } :: a.defers } W) :
 (Code.rangeFunc g #[p] assign body).wp P Q a w := by
 refine (wpIn_wide (n := nF)).1 ?_
 refine wpIn_rangeFunc_ownH (F := Fence.wide) rfl h1 hg trivial eg hseq hKt hKb (Below.refl _ _) (fun _ => rfl) I (fun _ _ _ => False) hI (fun _ _ _ _ _ hs _ _ => hs) h0
  (fun x a' W => a' = { tmps := (a.tmps.setIfInBounds p (enc x)).setIfInBounds c (enc x), defers := [] }) (fun x a' _ _ _ _ hs _ _ => hs) ?_ ?_ hdone ?_
 ·intro l pre x W K hi hK
  rw [show #[p].zip #[enc x] = #[(p, enc x)] by simp]
  simp only [List.foldl_toArray, List.foldl_cons, List.foldl_nil]
  exact hassign l x W K (hK _ _ (KeepsFrom.refl _ _) (hKr W) hi rfl)
 ·rintro l pre x a' W _ _ hi rfl hlt
  exact hbody l pre x W hi hlt
 ·intro D c pre W _ _ h _
  exact h.elim
end
theorem Own.lend_far {B : Nat} {w0 W : World} {L : List Item} {e g : Nat} {v : Value} {xs ms : List (List Int)} (H : Own B w0 W (.lend kL e v xs g ms :: L)) (i : Nat) (hi : i < ms.length) :
 ∃ u, W.cell? ⟨g, i, none⟩ = some u ∧ ∀ W' : World, (∀ k cells, k < W.heap.size → some k ≠ v.ownBlock → W.heap[k]? = some (.cells cells 5 (0, 0)) → W'.heap[k]? = W.heap[k]?) → kL.K W' ms[i] [u] := by
 obtain ⟨S, _, h2⟩ := H.look 0 rfl
 obtain ⟨u, k1, k2⟩ := h2.2.2 i hi
 refine ⟨u, k1, fun W' hs => kL.K_of_M (kL.M_move (fun k hk => ?_) (kL.M_bound k2))⟩
 obtain ⟨hk1, _, hk2, q, hq, cells, hc⟩ := hk
 obtain rfl : q = 5 := by simpa [kL, Kd.slice, kB, Kd.int, Kd.scalar] using hq
 exact hs k cells hk2 hk1.2.2 hc
theorem Own.row_typed {α : Type} {d : Kd α} {B : Nat} {w0 W : World} {L : List Item} {e : Nat} {v : Value} {xs : List α} (H : Own B w0 W L) (j : Nat) (hj : L[j]? = some (.row d e v xs)) (k : Nat) (hk : v.ownBlock = some k) : ∃ cells, W.heap[k]? = some (.cells cells e (0, 0)) := by
 obtain ⟨S, _, h2⟩ := H.look j hj
 obtain ⟨_, inner, ho, _⟩ := (h2 : Kd.R d e W 0 S v xs)
 exact own_typed ho k hk
theorem Own.lend_ne {α : Type} {d : Kd α} {B : Nat} {w0 W : World} {L : List Item} {e g : Nat} {v : Value} {xs ms : List α} (H : Own B w0 W (.lend d e v xs g ms :: L)) (hp : 0 < ms.length) : some g ≠ v.ownBlock := fun he => by
 obtain ⟨S, _, h2⟩ := H.look 0 rfl
 exact (h2.1.1 g he.symm).2 hp rfl
structure KP (n0 g2 : Nat) (o : Option Nat) (A B : World) : Prop where
 size : A.heap.size ≤ B.heap.size
 same : ∀ k, k < n0 → k < A.heap.size → k ≠ g2 → some k ≠ o → B.heap[k]? = A.heap[k]?
theorem KP.trans {n0 g2 : Nat} {o : Option Nat} {A B C : World} (h : KP n0 g2 o A B) (k : KP n0 g2 o B C) : KP n0 g2 o A C := ⟨Nat.le_trans h.size k.size, fun i h1 h2 h3 h4 => (k.same i h1 (Nat.lt_of_lt_of_le h2 h.size) h3 h4).trans (h.same i h1 h2 h3 h4)⟩
theorem KP.refl (n0 g2 : Nat) (o : Option Nat) (A : World) : KP n0 g2 o A A := ⟨Nat.le_refl _, fun _ _ _ _ _ => rfl⟩
theorem KP.of_below {n0 g2 : Nat} {o : Option Nat} {A B : World} (h : Below A.heap.size A B) : KP n0 g2 o A B := ⟨h.size, fun k _ hk _ _ => h.block k hk⟩
theorem KP.put {n0 g2 : Nat} {o : Option Nat} (W : World) (l : Nat) (ob : Obj) (hl : n0 ≤ l) : KP n0 g2 o W (W.putObj l ob) := by
 have hg := grownBy_putObj' W l ob
 exact ⟨hg.size, fun k h1 h2 _ _ => hg.block k h2 (fun e => by cases e; omega)⟩
theorem choose_list2 {β : Type} (p : Nat → β → Prop) : ∀ n : Nat, (∀ i, i < n → ∃ b, p i b) → ∃ V : List β, V.length = n ∧ ∀ i (h : i < V.length), p i V[i]
 | 0, _ => ⟨[], rfl, fun i h => by cases h⟩
 | n + 1, h => by
  obtain ⟨V, hl, hV⟩ := choose_list2 p n (fun i hi => h i (by omega))
  obtain ⟨b, hb⟩ := h n (by omega)
  refine ⟨V ++ [b], by simp [hl], fun i hi => ?_⟩
  by_cases hin : i < V.length
  ·rw [List.getElem_append_left hin]; exact hV i hin
  ·obtain rfl : i = V.length := by simp at hi; omega
   rw [List.getElem_append_right (by omega)]
   simp only [Nat.sub_self, List.getElem_cons_zero]
   exact hl ▸ hb
end Go.Proofs.Ytocphkfkdadhaaa.H

namespace Go.Proofs.Ytocphkfkdadhaaa.H
open Go.RowKit Go.Proofs.YtocphkfkdadhaaaW.PrintWords Go.Proofs.YtocphkfkdadhaaaW.PrintLast Go.Proofs.YtocphkfkdadhaaaW.PrintMore
set_option linter.unusedVariables false
set_option linter.unusedSimpArgs false
structure MsgI where
 kd : Int
 fr : Int
 tt : Int
 am : Int
 no : Int
 ky : List Int
 nx : List Int
def z32 : List Int := List.replicate 32 0
def vB (l : List Int) : List Value := l.map (Value.int .u8)
theorem vB_len (l : List Int) : (vB l).length = l.length := by simp [vB]
theorem vB_one (l : List Int) : ∀ v ∈ vB l, v.oneCell' = true := by
 intro v hv
 obtain ⟨x, _, rfl⟩ := List.mem_map.1 hv
 rfl
def MsgI.cells (m : MsgI) : List Value := [Value.int .u8 m.kd, Value.int .u64 m.fr, Value.int .u64 m.tt, Value.int .u64 m.am, Value.int .u64 m.no] ++ (vB m.ky ++ vB m.nx)
def msgA (m : MsgI) : Array Value := ([Value.int .u8 m.kd, Value.int .u64 m.fr, Value.int .u64 m.tt, Value.int .u64 m.am, Value.int .u64 m.no] ++ (vB m.ky ++ vB m.nx)).toArray
def zeroM : MsgI := ⟨0, 0, 0, 0, 0, z32, z32⟩
structure MsgI.ok (m : MsgI) : Prop where
 kd : 0 ≤ m.kd ∧ m.kd ≤ 255
 fr : 0 ≤ m.fr ∧ m.fr ≤ 18446744073709551615
 tt : 0 ≤ m.tt ∧ m.tt ≤ 18446744073709551615
 am : 0 ≤ m.am ∧ m.am ≤ 18446744073709551615
 no : 0 ≤ m.no ∧ m.no ≤ 18446744073709551615
 ky : m.ky.length = 32 ∧ ∀ x ∈ m.ky, 0 ≤ x ∧ x ≤ 255
 nx : m.nx.length = 32 ∧ ∀ x ∈ m.nx, 0 ≤ x ∧ x ≤ 255
theorem msgA_size {m : MsgI} (h1 : m.ky.length = 32) (h2 : m.nx.length = 32) : (msgA m).size = 69 := by
 simp [msgA, vB, h1, h2]
theorem msgA_arr {m : MsgI} (h1 : m.ky.length = 32) (h2 : m.nx.length = 32) : Arr 69 (msgA m) := by
 refine ⟨msgA_size h1 h2, all_oneCell_toArray ?_⟩
 intro v hv
 simp only [List.mem_append, List.mem_cons, List.not_mem_nil, or_false] at hv
 rcases hv with (rfl | rfl | rfl | rfl | rfl) | hv | hv
 ·rfl
 ·rfl
 ·rfl
 ·rfl
 ·rfl
 ·exact vB_one _ v hv
 ·exact vB_one _ v hv
def mayM (m : MsgI) : Bool :=
 if m.kd = 1 then decide (m.fr = 0) && decide (m.tt < 32) && decide (0 < m.am) && (decide (m.no = 0) && (m.ky == z32) && (m.nx == z32))
 else if m.kd = 2 then decide (m.fr < 32) && decide (m.tt < 32)
 else if m.kd = 3 then decide (m.fr < 32) && decide (0 < m.am) else false
def eqM (m n : MsgI) : Bool := (m.kd == n.kd) && ((m.fr == n.fr) && ((m.tt == n.tt) && ((m.am == n.am) && ((m.no == n.no) && ((m.ky == n.ky) && (m.nx == n.nx))))))
theorem part_scalar {P : Program} (t : TypeId) (d : TypeDesc) (ht : P.underlying t = some d) (hd : d.isRow = false) (cs : Array Value) (off : Nat) (v : Value) (hv : cs[off]? = some v) (w : World) : (part t cs off).run P w = .ok v w := by
 have hag : (isAgg t).run P w = .ok false w := by
  unfold isAgg
  rw [Sem.run_bind, run_underlying ht w]
  cases d <;> simp_all [TypeDesc.isRow]
 simp [part, hag, hv, go_sem]
theorem part_agg {P : Program} (t : TypeId) (d : TypeDesc) (ht : P.underlying t = some d) (hd : d.isRow = true) (cs : Array Value) (off n : Nat) (hs : (P.info? t).map (·.size) = some n) (w : World) : (part t cs off).run P w = .ok (.agg (cs.extract off (off + n))) w := by
 have hag : (isAgg t).run P w = .ok true w := by
  unfold isAgg
  rw [Sem.run_bind, run_underlying ht w]
  cases d <;> simp_all [TypeDesc.isRow]
 obtain ⟨ti, hti, hsz⟩ := Option.map_eq_some_iff.1 hs
 simp [part, hag, sizeOf, typeInfo, hti, hsz, go_sem]
theorem extract_mid (a s b : List Value) (o n : Nat) (ho : a.length = o) (hn : s.length = n) : ((a ++ (s ++ b)).toArray).extract o (o + n) = s.toArray := by
 subst ho hn
 rw [← Array.toArray_toList (xs := Array.extract _ _ _)]
 congr 1
 simp
def fieldsM : List (TypeId × Nat) := [(90, 0), (23, 1), (23, 2), (23, 3), (23, 4), (25, 5), (25, 37)]
theorem fieldsM_eq : (Try.prog.fieldsOf 92).toList.map (fun f => (f.name == "_", f.type, f.offset)) = fieldsM.map (fun x => (false, x.1, x.2)) := by kernel_rfl
theorem eqFields_map {P : Program} (d : Nat) (xs ys : Array Value) (w : World) : ∀ (fs : List Field) (l : List (TypeId × Nat)), fs.map (fun f => (f.name == "_", f.type, f.offset)) = l.map (fun x => (false, x.1, x.2)) →
 (Op.eqFields d xs ys fs).run P w = (l.foldr (fun x (k : Sem Bool) => do
  let a ← part x.1 xs x.2
  let b ← part x.1 ys x.2
  let r ← Op.equalIn d x.1 a b
  if (!r) = true then pure false else k) (pure true)).run P w
 | [], [], _ => rfl
 | [], _ :: _, h => by simp at h
 | _ :: _, [], h => by simp at h
 | f :: fs, (t, o) :: l, h => by
  simp only [List.map_cons, List.cons.injEq, Prod.mk.injEq] at h
  obtain ⟨⟨h1, h2, h3⟩, h4⟩ := h
  subst h2 h3
  have hn : f.name ≠ "_" := by simpa using h1
  simp only [Op.eqFields, if_pos hn, List.foldr_cons, Sem.run_bind]
  cases hq : (part f.type xs f.offset).run P w with
  | halt x w1 => rfl
  | ok a w1 =>
   simp only [Result.andThen_ok]
   cases hq2 : (part f.type ys f.offset).run P w1 with
   | halt x w2 => rfl
   | ok b w2 =>
    simp only [Result.andThen_ok]
    cases hq3 : (Op.equalIn d f.type a b).run P w2 with
    | halt x w3 => rfl
    | ok r w3 =>
     simp only [Result.andThen_ok]
     cases r
     ·rfl
     ·simp only [Bool.not_true, Bool.false_eq_true, if_false]
      exact eqFields_map d xs ys w3 fs l h4
theorem undM : Try.prog.underlying 92 = some (.struct (Try.prog.fieldsOf 92)) := by kernel_rfl
theorem stoodM : Try.prog.stoodInHeld 92 = false := by kernel_rfl
theorem partM_ky (x : MsgI) (h1 : x.ky.length = 32) (w : World) : (part 25 (msgA x) 5).run Try.prog w = .ok (.agg (cellsB x.ky)) w := by
 rw [part_agg _ _ Try.underlying25 rfl _ _ 32 sizeH]
 unfold msgA
 rw [extract_mid _ _ _ 5 32 rfl (by rw [vB_len, h1])]
 rfl
theorem partM_nx (x : MsgI) (h1 : x.ky.length = 32) (h2 : x.nx.length = 32) (w : World) : (part 25 (msgA x) 37).run Try.prog w = .ok (.agg (cellsB x.nx)) w := by
 rw [part_agg _ _ Try.underlying25 rfl _ _ 32 sizeH]
 unfold msgA
 rw [show ∀ (a b c : List Value), a ++ (b ++ c) = (a ++ b) ++ (c ++ []) from fun a b c => by simp, extract_mid _ _ _ 37 32 (by rw [List.length_append, vB_len, h1]; rfl) (by rw [vB_len, h2])]
 rfl
theorem partM_sc (x : MsgI) (w : World) : (part 90 (msgA x) 0).run Try.prog w = .ok (.int .u8 x.kd) w ∧ (part 23 (msgA x) 1).run Try.prog w = .ok (.int .u64 x.fr) w ∧ (part 23 (msgA x) 2).run Try.prog w = .ok (.int .u64 x.tt) w ∧ (part 23 (msgA x) 3).run Try.prog w = .ok (.int .u64 x.am) w ∧ (part 23 (msgA x) 4).run Try.prog w = .ok (.int .u64 x.no) w :=
 ⟨part_scalar _ _ Try.underlying90 rfl _ _ _ (by simp [msgA]) w, part_scalar _ _ Try.underlying23 rfl _ _ _ (by simp [msgA]) w, part_scalar _ _ Try.underlying23 rfl _ _ _ (by simp [msgA]) w, part_scalar _ _ Try.underlying23 rfl _ _ _ (by simp [msgA]) w, part_scalar _ _ Try.underlying23 rfl _ _ _ (by simp [msgA]) w⟩
theorem step_eq {P : Program} (d : Nat) (t : TypeId) (xs ys : Array Value) (off : Nat) (a b : Value) (r r2 : Bool) (w : World) (k : Sem Bool) (h1 : (part t xs off).run P w = .ok a w) (h2 : (part t ys off).run P w = .ok b w) (h3 : (Op.equalIn d t a b).run P w = .ok r w) (h4 : k.run P w = .ok r2 w) :
 (do
  let a ← part t xs off
  let b ← part t ys off
  let r ← Op.equalIn d t a b
  if (!r) = true then pure false else k : Sem Bool).run P w = .ok (r && r2) w := by
 simp only [Sem.run_bind, h1, h2, h3, Result.andThen_ok]
 cases r
 ·rfl
 ·simp [h4]
theorem run_eqM (d : Nat) (m n : MsgI) (hm1 : m.ky.length = 32) (hm2 : m.nx.length = 32) (hn1 : n.ky.length = 32) (hn2 : n.nx.length = 32) (w : World) :
 (Op.equalIn (d + 3) 92 (.agg (msgA m)) (.agg (msgA n))).run Try.prog w = .ok (eqM m n) w := by
 rw [run_equalIn_struct w (d + 2) _ _ _ undM stoodM, eqFields_map (d + 2) _ _ w _ fieldsM fieldsM_eq]
 obtain ⟨a1, a2, a3, a4, a5⟩ := partM_sc m w
 obtain ⟨b1, b2, b3, b4, b5⟩ := partM_sc n w
 have he := fun (t : TypeId) (k : IntKind) (x y : Int) (ht : Try.prog.underlying t = some (.int k)) => run_equalIn_int (P := Try.prog) w (d + 1) t k k x y ht
 have heH := fun (x y : List Int) (hx : x.length = 32) (hy : y.length = 32) => run_equalIn_B (P := Try.prog) d 25 5 32 Try.underlying25 Try.underlying5 size1B x y hx hy w
 have e : eqM m n = ((m.kd == n.kd) && ((m.fr == n.fr) && ((m.tt == n.tt) && ((m.am == n.am) && ((m.no == n.no) && ((m.ky == n.ky) && ((m.nx == n.nx) && true))))))) := by simp [eqM]
 rw [e]
 exact step_eq _ _ _ _ _ _ _ _ _ w _ a1 b1 (he _ _ _ _ Try.underlying90) (step_eq _ _ _ _ _ _ _ _ _ w _ a2 b2 (he _ _ _ _ Try.underlying23) (step_eq _ _ _ _ _ _ _ _ _ w _ a3 b3 (he _ _ _ _ Try.underlying23) (step_eq _ _ _ _ _ _ _ _ _ w _ a4 b4 (he _ _ _ _ Try.underlying23) (step_eq _ _ _ _ _ _ _ _ _ w _ a5 b5 (he _ _ _ _ Try.underlying23)
  (step_eq _ _ _ _ _ _ _ _ _ w _ (partM_ky m hm1 w) (partM_ky n hn1 w) (heH _ _ hm1 hn1) (step_eq _ _ _ _ _ _ _ _ _ w _ (partM_nx m hm1 hm2 w) (partM_nx n hn1 hn2 w) (heH _ _ hm2 hn2) rfl))))))
theorem guardM : Try.prog.eqGuardType Try.prog.depth 92 = false := by kernel_rfl
theorem sizeM : (Try.prog.info? 92).map (·.size) = some 69 := by kernel_rfl
theorem builtM0 : Try.prog.built 92 [] = some (msgA zeroM) := by kernel_rfl
theorem builtH0 : Try.prog.built 25 [] = some (cellsB z32) := by kernel_rfl
section
variable {ops : Array Oper} {rest : List Oper} {o : Oper} {a : Act} {Q : Exit → Act → World → Prop} {W : World}
theorem eq_M (hgd : o.guard = none) (u : TypeId) (x y : Operand) (ho : o.op = .binOp .eql 92 x y u) (m n : MsgI) (hx : a.eval x = .agg (msgA m)) (hy : a.eval y = .agg (msgA n)) (hm1 : m.ky.length = 32) (hm2 : m.nx.length = 32) (hn1 : n.ky.length = 32) (hn2 : n.nx.length = 32)
 (h : wpList Try.prog ops Q rest (a.put o.dst (.bool (eqM m n))) W) : wpList Try.prog ops Q (o :: rest) a W :=
 wpList_plain hgd fun _ hK => by
  have h1 : (Op.equal 92 (.agg (msgA m)) (.agg (msgA n))).run Try.prog W = .ok (eqM m n) W := run_eqM 9997 m n hm1 hm2 hn1 hn2 W
  have h2 : (eqGuard .eql 92 x y (.agg (msgA m)) (.agg (msgA n))).run Try.prog W = .ok () W := by simp [eqGuard, guardM, go_sem]
  have h3 : (binOp .eql 92 (.agg (msgA m)) (.agg (msgA n))).run Try.prog W = .ok (.bool (eqM m n)) W := by simp only [binOp]; simp [h1, go_sem]
  unfold Oper.wp execOp
  simp only [ho, hx, hy, Sem.run_bind, Sem.run_pure, h2, h3, Result.andThen_ok]
  exact hK _ _ h
end
end Go.Proofs.Ytocphkfkdadhaaa.H

namespace Go.Proofs.Ytocphkfkdadhaaa.H
open Go.RowKit Go.Proofs.YtocphkfkdadhaaaW.PrintWords Go.Proofs.YtocphkfkdadhaaaW.PrintLast Go.Proofs.YtocphkfkdadhaaaW.PrintMore
set_option linter.unusedVariables false
set_option linter.unusedSimpArgs false
theorem sizeM_of {cs : Array Value} (h : cs.size = 69) : (Try.prog.info? 92).map (·.size) = some cs.size := by rw [h]; exact sizeM
theorem z32_len : z32.length = 32 := rfl
theorem spl5 {a b c d e : Value} {K K' N : List Value} (h : K.length = K'.length) : (splice (([a, b, c, d, e] ++ (K ++ N)).toArray.toList) 5 K').toArray = ([a, b, c, d, e] ++ (K' ++ N)).toArray := by
 have := splice_mid [a, b, c, d, e] K K' N h
 exact congrArg List.toArray this
theorem spl37 {a b c d e : Value} {K N N' : List Value} (hk : K.length = 32) (h : N.length = N'.length) : (splice (([a, b, c, d, e] ++ (K ++ N)).toArray.toList) 37 N').toArray = ([a, b, c, d, e] ++ (K ++ N')).toArray := by
 have := splice_mid ([a, b, c, d, e] ++ K) N N' [] h
 have hl : ([a, b, c, d, e] ++ K).length = 37 := by rw [List.length_append, hk]; rfl
 rw [hl] at this
 simp only [List.append_nil, List.append_assoc] at this
 exact congrArg List.toArray this
set_option maxHeartbeats 4000000 in
set_option maxRecDepth 100000 in
theorem mmay_any (m : MsgI) (hm : m.ok) (w : World) : Calls Try.prog 136 #[.agg (msgA m)] w fun e w' => e = .returned (.bool (mayM m)) ∧ Below w.heap.size w w' := by
 obtain ⟨_, hfr, htt, ham, hno, ⟨hky, _⟩, ⟨hnx, _⟩⟩ := hm
 obtain ⟨kd, fr, tt, am, no, ky, nx⟩ := m
 dsimp only at *
 have H0 := Aside0.mk (Own.start w)
 have HSZ := Aside0.mk (msgA_size (m := ⟨kd, fr, tt, am, no, ky, nx⟩) hky hnx)
 have HAR := Aside0.mk (msgA_arr (m := ⟨kd, fr, tt, am, no, ky, nx⟩) hky hnx)
 have HAZ : Aside0 (Arr 69 (msgA zeroM)) := ⟨msgA_arr rfl rfl⟩
 have HK := Aside0.mk hky
 have HN := Aside0.mk hnx
 clear hky hnx
 obtain ⟨r, hr⟩ : ∃ r, r = mayM ⟨kd, fr, tt, am, no, ky, nx⟩ := ⟨_, rfl⟩
 rw [← hr]
 by_cases h2 : kd = 2
 ·simp only [mayM] at hr
  rw [if_neg (by omega), if_pos h2] at hr
  subst h2
  by_cases h3 : fr < 32
  ·have e3 : decide (32 ≤ fr) = false := decide_eq_false (by omega)
   by_cases h4 : tt < 32
   ·have e4 : decide (32 ≤ tt) = false := decide_eq_false (by omega)
    obtain rfl : r = true := by rw [hr, decide_eq_true h3, decide_eq_true h4]; rfl
    clear hr
    go_enter Try.func136, Try.ntmps136
    go_wp2_with (first
     | fail
     | ((with_reducible refine Gd 1 ?_); ( refine OB H0 92 ((msgA ⟨2, fr, tt, am, no, ky, nx⟩)) ?_; intro g1 w1 H1 B1))
     | ((with_reducible refine Gd 4 ?_); ( refine OV 1 H1 0 g1 92 rfl Try.underlying92 (sizeM_of HSZ.out) ?_))
     | ((with_reducible refine Gd 3 ?_); ( refine OA H1 92 (msgA zeroM) 69 ?_; intro g3 w2 H2 B2))
     | ((with_reducible refine Gs 92 3 ?_); ( refine OS 3 4 H2 0 g3 92 (msgA ⟨2, fr, tt, am, no, ky, nx⟩) 69 HAZ HAR ?_; intro w3 H3))
     | ((with_reducible refine Gd 6 ?_); ( refine OD 5 90 H3 1 g1 0 (.int .u8 2) Try.underlying90 ?_))
     | ((with_reducible refine Gd 13 ?_); ( refine OD 12 23 H3 1 g1 1 (.int .u64 fr) Try.underlying23 ?_))
     | ((with_reducible refine Gd 15 ?_); ( refine OU 25 [] (cellsB z32) rfl (builtH0) ?_))
     | ((with_reducible refine Gd 16 ?_); ( refine OU 25 [] (cellsB z32) rfl (builtH0) ?_))
     | ((with_reducible refine Gs 23 17 ?_); ( refine OT1 17 23 H3 0 g3 92 1 (.int .u64 0) (msgA ⟨2, 0, tt, am, no, ky, nx⟩) rfl (by simp [msgA, vB]; try omega) ?_; intro w4 H4))
     | ((with_reducible refine Gs 23 18 ?_); ( refine OT1 18 23 H4 0 g3 92 4 (.int .u64 0) (msgA ⟨2, 0, tt, am, 0, ky, nx⟩) rfl (by simp [msgA, vB]; try omega) ?_; intro w5 H5))
     | ((with_reducible refine Gs 25 19 ?_); ( refine OT 19 25 H5 0 g3 92 5 (vB z32) (.agg (cellsB z32)) (msgA ⟨2, 0, tt, am, 0, z32, nx⟩) rfl (by rw [msgA_size HK.out HN.out]; decide) (by kernel_rfl) (by exact vB_one _) (by exact spl5 (by rw [vB_len, vB_len, HK.out]; rfl)) ?_; intro w6 H6))
     | ((with_reducible refine Gs 25 20 ?_); ( refine OT 20 25 H6 0 g3 92 37 (vB z32) (.agg (cellsB z32)) (msgA ⟨2, 0, tt, am, 0, z32, z32⟩) rfl (by rw [msgA_size z32_len HN.out]; decide) (by kernel_rfl) (by exact vB_one _) (by exact spl37 (by rw [vB_len]; rfl) (by rw [vB_len, vB_len, HN.out]; rfl)) ?_; intro w7 H7))
     | ((with_reducible refine Gd 22 ?_); ( refine OD 21 90 H7 1 g1 0 (.int .u8 2) Try.underlying90 ?_))
     | ((with_reducible refine Gd 26 ?_); ( refine GD 25 23 H7 1 g1 2 (.int .u64 tt) Try.underlying23 ?_))
     | ((with_reducible refine Gd 31 ?_); ( refine GD 30 90 H7 1 g1 0 (.int .u8 2) Try.underlying90 ?_))
     | ((with_reducible refine Gd 35 ?_); ( refine GD 34 23 H7 1 g1 3 (.int .u64 am) Try.underlying23 ?_))
     | ((with_reducible refine Gs 90 39 ?_); ( refine OT1 39 90 H7 0 g3 92 0 (.int .u8 0) (msgA ⟨0, 0, tt, am, 0, z32, z32⟩) rfl (by simp [msgA, vB]; try omega) ?_; intro w8 H8))
     | ((with_reducible refine Gs 23 40 ?_); ( refine OT1 40 23 H8 0 g3 92 2 (.int .u64 0) (msgA ⟨0, 0, 0, am, 0, z32, z32⟩) rfl (by simp [msgA, vB]; try omega) ?_; intro w9 H9))
     | ((with_reducible refine Gs 23 41 ?_); ( refine OT1 41 23 H9 0 g3 92 3 (.int .u64 0) (msgA ⟨0, 0, 0, 0, 0, z32, z32⟩) rfl (by simp [msgA, vB]; try omega) ?_; intro w10 H10))
     | ((with_reducible refine Gd 42 ?_); ( refine OV 3 H10 0 g3 92 rfl Try.underlying92 (sizeM_of (msgA_size rfl rfl)) ?_))
     | ((with_reducible refine Gd 43 ?_); ( refine OU 92 [] (msgA zeroM) rfl (builtM0) ?_))
     | ((with_reducible refine gate_dst (N := 44) rfl ?_); refine eq_M rfl _ (.tmp 42) (.tmp 43) rfl ⟨0, 0, 0, 0, 0, z32, z32⟩ zeroM rfl rfl rfl rfl rfl rfl ?_)
     )
    go_ret
    exact ⟨rfl, H10.out.below⟩
   ·have e4 : decide (32 ≤ tt) = true := decide_eq_true (by omega)
    obtain rfl : r = false := by rw [hr, decide_eq_false h4]; simp
    clear hr
    go_enter Try.func136, Try.ntmps136
    go_wp2_with (first
     | fail
     | ((with_reducible refine Gd 1 ?_); ( refine OB H0 92 ((msgA ⟨2, fr, tt, am, no, ky, nx⟩)) ?_; intro g1 w1 H1 B1))
     | ((with_reducible refine Gd 4 ?_); ( refine OV 1 H1 0 g1 92 rfl Try.underlying92 (sizeM_of HSZ.out) ?_))
     | ((with_reducible refine Gd 3 ?_); ( refine OA H1 92 (msgA zeroM) 69 ?_; intro g3 w2 H2 B2))
     | ((with_reducible refine Gs 92 3 ?_); ( refine OS 3 4 H2 0 g3 92 (msgA ⟨2, fr, tt, am, no, ky, nx⟩) 69 HAZ HAR ?_; intro w3 H3))
     | ((with_reducible refine Gd 6 ?_); ( refine OD 5 90 H3 1 g1 0 (.int .u8 2) Try.underlying90 ?_))
     | ((with_reducible refine Gd 13 ?_); ( refine OD 12 23 H3 1 g1 1 (.int .u64 fr) Try.underlying23 ?_))
     | ((with_reducible refine Gd 15 ?_); ( refine OU 25 [] (cellsB z32) rfl (builtH0) ?_))
     | ((with_reducible refine Gd 16 ?_); ( refine OU 25 [] (cellsB z32) rfl (builtH0) ?_))
     | ((with_reducible refine Gs 23 17 ?_); ( refine OT1 17 23 H3 0 g3 92 1 (.int .u64 0) (msgA ⟨2, 0, tt, am, no, ky, nx⟩) rfl (by simp [msgA, vB]; try omega) ?_; intro w4 H4))
     | ((with_reducible refine Gs 23 18 ?_); ( refine OT1 18 23 H4 0 g3 92 4 (.int .u64 0) (msgA ⟨2, 0, tt, am, 0, ky, nx⟩) rfl (by simp [msgA, vB]; try omega) ?_; intro w5 H5))
     | ((with_reducible refine Gs 25 19 ?_); ( refine OT 19 25 H5 0 g3 92 5 (vB z32) (.agg (cellsB z32)) (msgA ⟨2, 0, tt, am, 0, z32, nx⟩) rfl (by rw [msgA_size HK.out HN.out]; decide) (by kernel_rfl) (by exact vB_one _) (by exact spl5 (by rw [vB_len, vB_len, HK.out]; rfl)) ?_; intro w6 H6))
     | ((with_reducible refine Gs 25 20 ?_); ( refine OT 20 25 H6 0 g3 92 37 (vB z32) (.agg (cellsB z32)) (msgA ⟨2, 0, tt, am, 0, z32, z32⟩) rfl (by rw [msgA_size z32_len HN.out]; decide) (by kernel_rfl) (by exact vB_one _) (by exact spl37 (by rw [vB_len]; rfl) (by rw [vB_len, vB_len, HN.out]; rfl)) ?_; intro w7 H7))
     | ((with_reducible refine Gd 22 ?_); ( refine OD 21 90 H7 1 g1 0 (.int .u8 2) Try.underlying90 ?_))
     | ((with_reducible refine Gd 26 ?_); ( refine GD 25 23 H7 1 g1 2 (.int .u64 tt) Try.underlying23 ?_))
     | ((with_reducible refine Gd 31 ?_); ( refine GD 30 90 H7 1 g1 0 (.int .u8 2) Try.underlying90 ?_))
     | ((with_reducible refine Gd 35 ?_); ( refine GD 34 23 H7 1 g1 3 (.int .u64 am) Try.underlying23 ?_))
     | ((with_reducible refine Gs 90 39 ?_); ( refine OT1 39 90 H7 0 g3 92 0 (.int .u8 0) (msgA ⟨0, 0, tt, am, 0, z32, z32⟩) rfl (by simp [msgA, vB]; try omega) ?_; intro w8 H8))
     | ((with_reducible refine Gs 23 40 ?_); ( refine OT1 40 23 H8 0 g3 92 2 (.int .u64 0) (msgA ⟨0, 0, 0, am, 0, z32, z32⟩) rfl (by simp [msgA, vB]; try omega) ?_; intro w9 H9))
     | ((with_reducible refine Gs 23 41 ?_); ( refine OT1 41 23 H9 0 g3 92 3 (.int .u64 0) (msgA ⟨0, 0, 0, 0, 0, z32, z32⟩) rfl (by simp [msgA, vB]; try omega) ?_; intro w10 H10))
     | ((with_reducible refine Gd 42 ?_); ( refine OV 3 H10 0 g3 92 rfl Try.underlying92 (sizeM_of (msgA_size rfl rfl)) ?_))
     | ((with_reducible refine Gd 43 ?_); ( refine OU 92 [] (msgA zeroM) rfl (builtM0) ?_))
     | ((with_reducible refine gate_dst (N := 44) rfl ?_); refine eq_M rfl _ (.tmp 42) (.tmp 43) rfl ⟨0, 0, 0, 0, 0, z32, z32⟩ zeroM rfl rfl rfl rfl rfl rfl ?_)
     )
    go_ret
    exact ⟨rfl, H7.out.below⟩
  ·have e3 : decide (32 ≤ fr) = true := decide_eq_true (by omega)
   obtain rfl : r = false := by rw [hr, decide_eq_false h3]; rfl
   clear hr
   go_enter Try.func136, Try.ntmps136
   go_wp2_with (first
    | fail
    | ((with_reducible refine Gd 1 ?_); ( refine OB H0 92 ((msgA ⟨2, fr, tt, am, no, ky, nx⟩)) ?_; intro g1 w1 H1 B1))
    | ((with_reducible refine Gd 4 ?_); ( refine OV 1 H1 0 g1 92 rfl Try.underlying92 (sizeM_of HSZ.out) ?_))
    | ((with_reducible refine Gd 3 ?_); ( refine OA H1 92 (msgA zeroM) 69 ?_; intro g3 w2 H2 B2))
    | ((with_reducible refine Gs 92 3 ?_); ( refine OS 3 4 H2 0 g3 92 (msgA ⟨2, fr, tt, am, no, ky, nx⟩) 69 HAZ HAR ?_; intro w3 H3))
    | ((with_reducible refine Gd 6 ?_); ( refine OD 5 90 H3 1 g1 0 (.int .u8 2) Try.underlying90 ?_))
    | ((with_reducible refine Gd 13 ?_); ( refine OD 12 23 H3 1 g1 1 (.int .u64 fr) Try.underlying23 ?_))
    | ((with_reducible refine Gd 15 ?_); ( refine OU 25 [] (cellsB z32) rfl (builtH0) ?_))
    | ((with_reducible refine Gd 16 ?_); ( refine OU 25 [] (cellsB z32) rfl (builtH0) ?_))
    | ((with_reducible refine Gs 23 17 ?_); ( refine OT1 17 23 H3 0 g3 92 1 (.int .u64 0) (msgA ⟨2, 0, tt, am, no, ky, nx⟩) rfl (by simp [msgA, vB]; try omega) ?_; intro w4 H4))
    | ((with_reducible refine Gs 23 18 ?_); ( refine OT1 18 23 H4 0 g3 92 4 (.int .u64 0) (msgA ⟨2, 0, tt, am, 0, ky, nx⟩) rfl (by simp [msgA, vB]; try omega) ?_; intro w5 H5))
    | ((with_reducible refine Gs 25 19 ?_); ( refine OT 19 25 H5 0 g3 92 5 (vB z32) (.agg (cellsB z32)) (msgA ⟨2, 0, tt, am, 0, z32, nx⟩) rfl (by rw [msgA_size HK.out HN.out]; decide) (by kernel_rfl) (by exact vB_one _) (by exact spl5 (by rw [vB_len, vB_len, HK.out]; rfl)) ?_; intro w6 H6))
    | ((with_reducible refine Gs 25 20 ?_); ( refine OT 20 25 H6 0 g3 92 37 (vB z32) (.agg (cellsB z32)) (msgA ⟨2, 0, tt, am, 0, z32, z32⟩) rfl (by rw [msgA_size z32_len HN.out]; decide) (by kernel_rfl) (by exact vB_one _) (by exact spl37 (by rw [vB_len]; rfl) (by rw [vB_len, vB_len, HN.out]; rfl)) ?_; intro w7 H7))
    | ((with_reducible refine Gd 22 ?_); ( refine OD 21 90 H7 1 g1 0 (.int .u8 2) Try.underlying90 ?_))
    | ((with_reducible refine Gd 26 ?_); ( refine GD 25 23 H7 1 g1 2 (.int .u64 tt) Try.underlying23 ?_))
    | ((with_reducible refine Gd 31 ?_); ( refine GD 30 90 H7 1 g1 0 (.int .u8 2) Try.underlying90 ?_))
    | ((with_reducible refine Gd 35 ?_); ( refine GD 34 23 H7 1 g1 3 (.int .u64 am) Try.underlying23 ?_))
    | ((with_reducible refine Gs 90 39 ?_); ( refine OT1 39 90 H7 0 g3 92 0 (.int .u8 0) (msgA ⟨0, 0, tt, am, 0, z32, z32⟩) rfl (by simp [msgA, vB]; try omega) ?_; intro w8 H8))
    | ((with_reducible refine Gs 23 40 ?_); ( refine OT1 40 23 H8 0 g3 92 2 (.int .u64 0) (msgA ⟨0, 0, 0, am, 0, z32, z32⟩) rfl (by simp [msgA, vB]; try omega) ?_; intro w9 H9))
    | ((with_reducible refine Gs 23 41 ?_); ( refine OT1 41 23 H9 0 g3 92 3 (.int .u64 0) (msgA ⟨0, 0, 0, 0, 0, z32, z32⟩) rfl (by simp [msgA, vB]; try omega) ?_; intro w10 H10))
    | ((with_reducible refine Gd 42 ?_); ( refine OV 3 H10 0 g3 92 rfl Try.underlying92 (sizeM_of (msgA_size rfl rfl)) ?_))
    | ((with_reducible refine Gd 43 ?_); ( refine OU 92 [] (msgA zeroM) rfl (builtM0) ?_))
    | ((with_reducible refine gate_dst (N := 44) rfl ?_); refine eq_M rfl _ (.tmp 42) (.tmp 43) rfl ⟨0, 0, 0, 0, 0, z32, z32⟩ zeroM rfl rfl rfl rfl rfl rfl ?_)
    )
   go_ret
   exact ⟨rfl, H3.out.below⟩
 by_cases h3 : kd = 3
 ·simp only [mayM] at hr
  rw [if_neg (by omega), if_neg h2, if_pos h3] at hr
  subst h3
  clear h2
  by_cases h3 : fr < 32
  ·have e3 : decide (32 ≤ fr) = false := decide_eq_false (by omega)
   by_cases h4 : 0 < am
   ·have e4 : (am == 0) = false := beq_eq_false_iff_ne.2 (by omega)
    obtain rfl : r = true := by rw [hr, decide_eq_true h3, decide_eq_true h4]; rfl
    clear hr
    go_enter Try.func136, Try.ntmps136
    go_wp2_with (first
     | fail
     | ((with_reducible refine Gd 1 ?_); ( refine OB H0 92 ((msgA ⟨3, fr, tt, am, no, ky, nx⟩)) ?_; intro g1 w1 H1 B1))
     | ((with_reducible refine Gd 4 ?_); ( refine OV 1 H1 0 g1 92 rfl Try.underlying92 (sizeM_of HSZ.out) ?_))
     | ((with_reducible refine Gd 3 ?_); ( refine OA H1 92 (msgA zeroM) 69 ?_; intro g3 w2 H2 B2))
     | ((with_reducible refine Gs 92 3 ?_); ( refine OS 3 4 H2 0 g3 92 (msgA ⟨3, fr, tt, am, no, ky, nx⟩) 69 HAZ HAR ?_; intro w3 H3))
     | ((with_reducible refine Gd 6 ?_); ( refine OD 5 90 H3 1 g1 0 (.int .u8 3) Try.underlying90 ?_))
     | ((with_reducible refine Gd 13 ?_); ( refine OD 12 23 H3 1 g1 1 (.int .u64 fr) Try.underlying23 ?_))
     | ((with_reducible refine Gd 15 ?_); ( refine OU 25 [] (cellsB z32) rfl (builtH0) ?_))
     | ((with_reducible refine Gd 16 ?_); ( refine OU 25 [] (cellsB z32) rfl (builtH0) ?_))
     | ((with_reducible refine Gs 23 17 ?_); ( refine OT1 17 23 H3 0 g3 92 1 (.int .u64 0) (msgA ⟨3, 0, tt, am, no, ky, nx⟩) rfl (by simp [msgA, vB]; try omega) ?_; intro w4 H4))
     | ((with_reducible refine Gs 23 18 ?_); ( refine OT1 18 23 H4 0 g3 92 4 (.int .u64 0) (msgA ⟨3, 0, tt, am, 0, ky, nx⟩) rfl (by simp [msgA, vB]; try omega) ?_; intro w5 H5))
     | ((with_reducible refine Gs 25 19 ?_); ( refine OT 19 25 H5 0 g3 92 5 (vB z32) (.agg (cellsB z32)) (msgA ⟨3, 0, tt, am, 0, z32, nx⟩) rfl (by rw [msgA_size HK.out HN.out]; decide) (by kernel_rfl) (by exact vB_one _) (by exact spl5 (by rw [vB_len, vB_len, HK.out]; rfl)) ?_; intro w6 H6))
     | ((with_reducible refine Gs 25 20 ?_); ( refine OT 20 25 H6 0 g3 92 37 (vB z32) (.agg (cellsB z32)) (msgA ⟨3, 0, tt, am, 0, z32, z32⟩) rfl (by rw [msgA_size z32_len HN.out]; decide) (by kernel_rfl) (by exact vB_one _) (by exact spl37 (by rw [vB_len]; rfl) (by rw [vB_len, vB_len, HN.out]; rfl)) ?_; intro w7 H7))
     | ((with_reducible refine Gd 22 ?_); ( refine OD 21 90 H7 1 g1 0 (.int .u8 3) Try.underlying90 ?_))
     | ((with_reducible refine Gd 26 ?_); ( refine GD 25 23 H7 1 g1 2 (.int .u64 tt) Try.underlying23 ?_))
     | ((with_reducible refine Gd 31 ?_); ( refine GD 30 90 H7 1 g1 0 (.int .u8 3) Try.underlying90 ?_))
     | ((with_reducible refine Gd 35 ?_); ( refine GD 34 23 H7 1 g1 3 (.int .u64 am) Try.underlying23 ?_))
     | ((with_reducible refine Gs 90 39 ?_); ( refine OT1 39 90 H7 0 g3 92 0 (.int .u8 0) (msgA ⟨0, 0, tt, am, 0, z32, z32⟩) rfl (by simp [msgA, vB]; try omega) ?_; intro w8 H8))
     | ((with_reducible refine Gs 23 40 ?_); ( refine OT1 40 23 H8 0 g3 92 2 (.int .u64 0) (msgA ⟨0, 0, 0, am, 0, z32, z32⟩) rfl (by simp [msgA, vB]; try omega) ?_; intro w9 H9))
     | ((with_reducible refine Gs 23 41 ?_); ( refine OT1 41 23 H9 0 g3 92 3 (.int .u64 0) (msgA ⟨0, 0, 0, 0, 0, z32, z32⟩) rfl (by simp [msgA, vB]; try omega) ?_; intro w10 H10))
     | ((with_reducible refine Gd 42 ?_); ( refine OV 3 H10 0 g3 92 rfl Try.underlying92 (sizeM_of (msgA_size rfl rfl)) ?_))
     | ((with_reducible refine Gd 43 ?_); ( refine OU 92 [] (msgA zeroM) rfl (builtM0) ?_))
     | ((with_reducible refine gate_dst (N := 44) rfl ?_); refine eq_M rfl _ (.tmp 42) (.tmp 43) rfl ⟨0, 0, 0, 0, 0, z32, z32⟩ zeroM rfl rfl rfl rfl rfl rfl ?_)
     )
    go_ret
    exact ⟨rfl, H10.out.below⟩
   ·have e4 : (am == 0) = true := beq_iff_eq.2 (by omega)
    obtain rfl : r = false := by rw [hr, decide_eq_false h4]; simp
    clear hr
    go_enter Try.func136, Try.ntmps136
    go_wp2_with (first
     | fail
     | ((with_reducible refine Gd 1 ?_); ( refine OB H0 92 ((msgA ⟨3, fr, tt, am, no, ky, nx⟩)) ?_; intro g1 w1 H1 B1))
     | ((with_reducible refine Gd 4 ?_); ( refine OV 1 H1 0 g1 92 rfl Try.underlying92 (sizeM_of HSZ.out) ?_))
     | ((with_reducible refine Gd 3 ?_); ( refine OA H1 92 (msgA zeroM) 69 ?_; intro g3 w2 H2 B2))
     | ((with_reducible refine Gs 92 3 ?_); ( refine OS 3 4 H2 0 g3 92 (msgA ⟨3, fr, tt, am, no, ky, nx⟩) 69 HAZ HAR ?_; intro w3 H3))
     | ((with_reducible refine Gd 6 ?_); ( refine OD 5 90 H3 1 g1 0 (.int .u8 3) Try.underlying90 ?_))
     | ((with_reducible refine Gd 13 ?_); ( refine OD 12 23 H3 1 g1 1 (.int .u64 fr) Try.underlying23 ?_))
     | ((with_reducible refine Gd 15 ?_); ( refine OU 25 [] (cellsB z32) rfl (builtH0) ?_))
     | ((with_reducible refine Gd 16 ?_); ( refine OU 25 [] (cellsB z32) rfl (builtH0) ?_))
     | ((with_reducible refine Gs 23 17 ?_); ( refine OT1 17 23 H3 0 g3 92 1 (.int .u64 0) (msgA ⟨3, 0, tt, am, no, ky, nx⟩) rfl (by simp [msgA, vB]; try omega) ?_; intro w4 H4))
     | ((with_reducible refine Gs 23 18 ?_); ( refine OT1 18 23 H4 0 g3 92 4 (.int .u64 0) (msgA ⟨3, 0, tt, am, 0, ky, nx⟩) rfl (by simp [msgA, vB]; try omega) ?_; intro w5 H5))
     | ((with_reducible refine Gs 25 19 ?_); ( refine OT 19 25 H5 0 g3 92 5 (vB z32) (.agg (cellsB z32)) (msgA ⟨3, 0, tt, am, 0, z32, nx⟩) rfl (by rw [msgA_size HK.out HN.out]; decide) (by kernel_rfl) (by exact vB_one _) (by exact spl5 (by rw [vB_len, vB_len, HK.out]; rfl)) ?_; intro w6 H6))
     | ((with_reducible refine Gs 25 20 ?_); ( refine OT 20 25 H6 0 g3 92 37 (vB z32) (.agg (cellsB z32)) (msgA ⟨3, 0, tt, am, 0, z32, z32⟩) rfl (by rw [msgA_size z32_len HN.out]; decide) (by kernel_rfl) (by exact vB_one _) (by exact spl37 (by rw [vB_len]; rfl) (by rw [vB_len, vB_len, HN.out]; rfl)) ?_; intro w7 H7))
     | ((with_reducible refine Gd 22 ?_); ( refine OD 21 90 H7 1 g1 0 (.int .u8 3) Try.underlying90 ?_))
     | ((with_reducible refine Gd 26 ?_); ( refine GD 25 23 H7 1 g1 2 (.int .u64 tt) Try.underlying23 ?_))
     | ((with_reducible refine Gd 31 ?_); ( refine GD 30 90 H7 1 g1 0 (.int .u8 3) Try.underlying90 ?_))
     | ((with_reducible refine Gd 35 ?_); ( refine GD 34 23 H7 1 g1 3 (.int .u64 am) Try.underlying23 ?_))
     | ((with_reducible refine Gs 90 39 ?_); ( refine OT1 39 90 H7 0 g3 92 0 (.int .u8 0) (msgA ⟨0, 0, tt, am, 0, z32, z32⟩) rfl (by simp [msgA, vB]; try omega) ?_; intro w8 H8))
     | ((with_reducible refine Gs 23 40 ?_); ( refine OT1 40 23 H8 0 g3 92 2 (.int .u64 0) (msgA ⟨0, 0, 0, am, 0, z32, z32⟩) rfl (by simp [msgA, vB]; try omega) ?_; intro w9 H9))
     | ((with_reducible refine Gs 23 41 ?_); ( refine OT1 41 23 H9 0 g3 92 3 (.int .u64 0) (msgA ⟨0, 0, 0, 0, 0, z32, z32⟩) rfl (by simp [msgA, vB]; try omega) ?_; intro w10 H10))
     | ((with_reducible refine Gd 42 ?_); ( refine OV 3 H10 0 g3 92 rfl Try.underlying92 (sizeM_of (msgA_size rfl rfl)) ?_))
     | ((with_reducible refine Gd 43 ?_); ( refine OU 92 [] (msgA zeroM) rfl (builtM0) ?_))
     | ((with_reducible refine gate_dst (N := 44) rfl ?_); refine eq_M rfl _ (.tmp 42) (.tmp 43) rfl ⟨0, 0, 0, 0, 0, z32, z32⟩ zeroM rfl rfl rfl rfl rfl rfl ?_)
     )
    go_ret
    exact ⟨rfl, H7.out.below⟩
  ·have e3 : decide (32 ≤ fr) = true := decide_eq_true (by omega)
   obtain rfl : r = false := by rw [hr, decide_eq_false h3]; rfl
   clear hr
   go_enter Try.func136, Try.ntmps136
   go_wp2_with (first
    | fail
    | ((with_reducible refine Gd 1 ?_); ( refine OB H0 92 ((msgA ⟨3, fr, tt, am, no, ky, nx⟩)) ?_; intro g1 w1 H1 B1))
    | ((with_reducible refine Gd 4 ?_); ( refine OV 1 H1 0 g1 92 rfl Try.underlying92 (sizeM_of HSZ.out) ?_))
    | ((with_reducible refine Gd 3 ?_); ( refine OA H1 92 (msgA zeroM) 69 ?_; intro g3 w2 H2 B2))
    | ((with_reducible refine Gs 92 3 ?_); ( refine OS 3 4 H2 0 g3 92 (msgA ⟨3, fr, tt, am, no, ky, nx⟩) 69 HAZ HAR ?_; intro w3 H3))
    | ((with_reducible refine Gd 6 ?_); ( refine OD 5 90 H3 1 g1 0 (.int .u8 3) Try.underlying90 ?_))
    | ((with_reducible refine Gd 13 ?_); ( refine OD 12 23 H3 1 g1 1 (.int .u64 fr) Try.underlying23 ?_))
    | ((with_reducible refine Gd 15 ?_); ( refine OU 25 [] (cellsB z32) rfl (builtH0) ?_))
    | ((with_reducible refine Gd 16 ?_); ( refine OU 25 [] (cellsB z32) rfl (builtH0) ?_))
    | ((with_reducible refine Gs 23 17 ?_); ( refine OT1 17 23 H3 0 g3 92 1 (.int .u64 0) (msgA ⟨3, 0, tt, am, no, ky, nx⟩) rfl (by simp [msgA, vB]; try omega) ?_; intro w4 H4))
    | ((with_reducible refine Gs 23 18 ?_); ( refine OT1 18 23 H4 0 g3 92 4 (.int .u64 0) (msgA ⟨3, 0, tt, am, 0, ky, nx⟩) rfl (by simp [msgA, vB]; try omega) ?_; intro w5 H5))
    | ((with_reducible refine Gs 25 19 ?_); ( refine OT 19 25 H5 0 g3 92 5 (vB z32) (.agg (cellsB z32)) (msgA ⟨3, 0, tt, am, 0, z32, nx⟩) rfl (by rw [msgA_size HK.out HN.out]; decide) (by kernel_rfl) (by exact vB_one _) (by exact spl5 (by rw [vB_len, vB_len, HK.out]; rfl)) ?_; intro w6 H6))
    | ((with_reducible refine Gs 25 20 ?_); ( refine OT 20 25 H6 0 g3 92 37 (vB z32) (.agg (cellsB z32)) (msgA ⟨3, 0, tt, am, 0, z32, z32⟩) rfl (by rw [msgA_size z32_len HN.out]; decide) (by kernel_rfl) (by exact vB_one _) (by exact spl37 (by rw [vB_len]; rfl) (by rw [vB_len, vB_len, HN.out]; rfl)) ?_; intro w7 H7))
    | ((with_reducible refine Gd 22 ?_); ( refine OD 21 90 H7 1 g1 0 (.int .u8 3) Try.underlying90 ?_))
    | ((with_reducible refine Gd 26 ?_); ( refine GD 25 23 H7 1 g1 2 (.int .u64 tt) Try.underlying23 ?_))
    | ((with_reducible refine Gd 31 ?_); ( refine GD 30 90 H7 1 g1 0 (.int .u8 3) Try.underlying90 ?_))
    | ((with_reducible refine Gd 35 ?_); ( refine GD 34 23 H7 1 g1 3 (.int .u64 am) Try.underlying23 ?_))
    | ((with_reducible refine Gs 90 39 ?_); ( refine OT1 39 90 H7 0 g3 92 0 (.int .u8 0) (msgA ⟨0, 0, tt, am, 0, z32, z32⟩) rfl (by simp [msgA, vB]; try omega) ?_; intro w8 H8))
    | ((with_reducible refine Gs 23 40 ?_); ( refine OT1 40 23 H8 0 g3 92 2 (.int .u64 0) (msgA ⟨0, 0, 0, am, 0, z32, z32⟩) rfl (by simp [msgA, vB]; try omega) ?_; intro w9 H9))
    | ((with_reducible refine Gs 23 41 ?_); ( refine OT1 41 23 H9 0 g3 92 3 (.int .u64 0) (msgA ⟨0, 0, 0, 0, 0, z32, z32⟩) rfl (by simp [msgA, vB]; try omega) ?_; intro w10 H10))
    | ((with_reducible refine Gd 42 ?_); ( refine OV 3 H10 0 g3 92 rfl Try.underlying92 (sizeM_of (msgA_size rfl rfl)) ?_))
    | ((with_reducible refine Gd 43 ?_); ( refine OU 92 [] (msgA zeroM) rfl (builtM0) ?_))
    | ((with_reducible refine gate_dst (N := 44) rfl ?_); refine eq_M rfl _ (.tmp 42) (.tmp 43) rfl ⟨0, 0, 0, 0, 0, z32, z32⟩ zeroM rfl rfl rfl rfl rfl rfl ?_)
    )
   go_ret
   exact ⟨rfl, H3.out.below⟩
 by_cases h1 : kd = 1
 ·simp only [mayM] at hr
  rw [if_pos h1] at hr
  subst h1
  clear h2 h3
  by_cases h4 : tt < 32
  ·have e4 : decide (32 ≤ tt) = false := decide_eq_false (by omega)
   by_cases h5 : 0 < am
   ·have e5 : (am == 0) = false := beq_eq_false_iff_ne.2 (by omega)
    have HE : Aside0 (eqM ⟨0, fr, 0, 0, no, ky, nx⟩ zeroM = r) := ⟨by
     rw [hr, decide_eq_true h4, decide_eq_true h5]
     simp only [eqM, zeroM, Bool.and_true]
     rw [show (fr == 0) = decide (fr = 0) from rfl, show (no == 0) = decide (no = 0) from rfl]
     cases decide (fr = 0) <;> simp [Bool.and_assoc]⟩
    clear hr
    go_enter Try.func136, Try.ntmps136
    go_wp2_with (first
     | fail
     | ((with_reducible refine Gd 1 ?_); ( refine OB H0 92 ((msgA ⟨1, fr, tt, am, no, ky, nx⟩)) ?_; intro g1 w1 H1 B1))
     | ((with_reducible refine Gd 4 ?_); ( refine OV 1 H1 0 g1 92 rfl Try.underlying92 (sizeM_of HSZ.out) ?_))
     | ((with_reducible refine Gd 3 ?_); ( refine OA H1 92 (msgA zeroM) 69 ?_; intro g3 w2 H2 B2))
     | ((with_reducible refine Gs 92 3 ?_); ( refine OS 3 4 H2 0 g3 92 (msgA ⟨1, fr, tt, am, no, ky, nx⟩) 69 HAZ HAR ?_; intro w3 H3))
     | ((with_reducible refine Gd 6 ?_); ( refine OD 5 90 H3 1 g1 0 (.int .u8 1) Try.underlying90 ?_))
     | ((with_reducible refine Gd 13 ?_); ( refine OD 12 23 H3 1 g1 1 (.int .u64 fr) Try.underlying23 ?_))
     | ((with_reducible refine Gd 15 ?_); ( refine OU 25 [] (cellsB z32) rfl (builtH0) ?_))
     | ((with_reducible refine Gd 16 ?_); ( refine OU 25 [] (cellsB z32) rfl (builtH0) ?_))
     | ((with_reducible refine Gs 23 17 ?_); ( refine OT1 17 23 H3 0 g3 92 1 (.int .u64 0) (msgA ⟨1, 0, tt, am, no, ky, nx⟩) rfl (by simp [msgA, vB]; try omega) ?_; intro w4 H4))
     | ((with_reducible refine Gs 23 18 ?_); ( refine OT1 18 23 H4 0 g3 92 4 (.int .u64 0) (msgA ⟨1, 0, tt, am, 0, ky, nx⟩) rfl (by simp [msgA, vB]; try omega) ?_; intro w5 H5))
     | ((with_reducible refine Gs 25 19 ?_); ( refine OT 19 25 H5 0 g3 92 5 (vB z32) (.agg (cellsB z32)) (msgA ⟨1, 0, tt, am, 0, z32, nx⟩) rfl (by rw [msgA_size HK.out HN.out]; decide) (by kernel_rfl) (by exact vB_one _) (by exact spl5 (by rw [vB_len, vB_len, HK.out]; rfl)) ?_; intro w6 H6))
     | ((with_reducible refine Gs 25 20 ?_); ( refine OT 20 25 H6 0 g3 92 37 (vB z32) (.agg (cellsB z32)) (msgA ⟨1, 0, tt, am, 0, z32, z32⟩) rfl (by rw [msgA_size z32_len HN.out]; decide) (by kernel_rfl) (by exact vB_one _) (by exact spl37 (by rw [vB_len]; rfl) (by rw [vB_len, vB_len, HN.out]; rfl)) ?_; intro w7 H7))
     | ((with_reducible refine Gd 22 ?_); ( refine OD 21 90 H3 1 g1 0 (.int .u8 1) Try.underlying90 ?_))
     | ((with_reducible refine Gd 26 ?_); ( refine GD 25 23 H3 1 g1 2 (.int .u64 tt) Try.underlying23 ?_))
     | ((with_reducible refine Gd 31 ?_); ( refine GD 30 90 H3 1 g1 0 (.int .u8 1) Try.underlying90 ?_))
     | ((with_reducible refine Gd 35 ?_); ( refine GD 34 23 H3 1 g1 3 (.int .u64 am) Try.underlying23 ?_))
     | ((with_reducible refine Gs 90 39 ?_); ( refine OT1 39 90 H3 0 g3 92 0 (.int .u8 0) (msgA ⟨0, fr, tt, am, no, ky, nx⟩) rfl (by simp [msgA, vB]; try omega) ?_; intro w8 H8))
     | ((with_reducible refine Gs 23 40 ?_); ( refine OT1 40 23 H8 0 g3 92 2 (.int .u64 0) (msgA ⟨0, fr, 0, am, no, ky, nx⟩) rfl (by simp [msgA, vB]; try omega) ?_; intro w9 H9))
     | ((with_reducible refine Gs 23 41 ?_); ( refine OT1 41 23 H9 0 g3 92 3 (.int .u64 0) (msgA ⟨0, fr, 0, 0, no, ky, nx⟩) rfl (by simp [msgA, vB]; try omega) ?_; intro w10 H10))
     | ((with_reducible refine Gd 42 ?_); ( refine OV 3 H10 0 g3 92 rfl Try.underlying92 (sizeM_of (msgA_size HK.out HN.out)) ?_))
     | ((with_reducible refine Gd 43 ?_); ( refine OU 92 [] (msgA zeroM) rfl (builtM0) ?_))
     | ((with_reducible refine gate_dst (N := 44) rfl ?_); refine eq_M rfl _ (.tmp 42) (.tmp 43) rfl ⟨0, fr, 0, 0, no, ky, nx⟩ zeroM rfl rfl HK.out HN.out rfl rfl ?_)
     )
    go_ret
    exact ⟨by rw [HE.out]; rfl, H10.out.below⟩
   ·have e5 : (am == 0) = true := beq_iff_eq.2 (by omega)
    obtain rfl : r = false := by rw [hr, decide_eq_false h5]; simp
    clear hr
    go_enter Try.func136, Try.ntmps136
    go_wp2_with (first
     | fail
     | ((with_reducible refine Gd 1 ?_); ( refine OB H0 92 ((msgA ⟨1, fr, tt, am, no, ky, nx⟩)) ?_; intro g1 w1 H1 B1))
     | ((with_reducible refine Gd 4 ?_); ( refine OV 1 H1 0 g1 92 rfl Try.underlying92 (sizeM_of HSZ.out) ?_))
     | ((with_reducible refine Gd 3 ?_); ( refine OA H1 92 (msgA zeroM) 69 ?_; intro g3 w2 H2 B2))
     | ((with_reducible refine Gs 92 3 ?_); ( refine OS 3 4 H2 0 g3 92 (msgA ⟨1, fr, tt, am, no, ky, nx⟩) 69 HAZ HAR ?_; intro w3 H3))
     | ((with_reducible refine Gd 6 ?_); ( refine OD 5 90 H3 1 g1 0 (.int .u8 1) Try.underlying90 ?_))
     | ((with_reducible refine Gd 13 ?_); ( refine OD 12 23 H3 1 g1 1 (.int .u64 fr) Try.underlying23 ?_))
     | ((with_reducible refine Gd 15 ?_); ( refine OU 25 [] (cellsB z32) rfl (builtH0) ?_))
     | ((with_reducible refine Gd 16 ?_); ( refine OU 25 [] (cellsB z32) rfl (builtH0) ?_))
     | ((with_reducible refine Gs 23 17 ?_); ( refine OT1 17 23 H3 0 g3 92 1 (.int .u64 0) (msgA ⟨1, 0, tt, am, no, ky, nx⟩) rfl (by simp [msgA, vB]; try omega) ?_; intro w4 H4))
     | ((with_reducible refine Gs 23 18 ?_); ( refine OT1 18 23 H4 0 g3 92 4 (.int .u64 0) (msgA ⟨1, 0, tt, am, 0, ky, nx⟩) rfl (by simp [msgA, vB]; try omega) ?_; intro w5 H5))
     | ((with_reducible refine Gs 25 19 ?_); ( refine OT 19 25 H5 0 g3 92 5 (vB z32) (.agg (cellsB z32)) (msgA ⟨1, 0, tt, am, 0, z32, nx⟩) rfl (by rw [msgA_size HK.out HN.out]; decide) (by kernel_rfl) (by exact vB_one _) (by exact spl5 (by rw [vB_len, vB_len, HK.out]; rfl)) ?_; intro w6 H6))
     | ((with_reducible refine Gs 25 20 ?_); ( refine OT 20 25 H6 0 g3 92 37 (vB z32) (.agg (cellsB z32)) (msgA ⟨1, 0, tt, am, 0, z32, z32⟩) rfl (by rw [msgA_size z32_len HN.out]; decide) (by kernel_rfl) (by exact vB_one _) (by exact spl37 (by rw [vB_len]; rfl) (by rw [vB_len, vB_len, HN.out]; rfl)) ?_; intro w7 H7))
     | ((with_reducible refine Gd 22 ?_); ( refine OD 21 90 H3 1 g1 0 (.int .u8 1) Try.underlying90 ?_))
     | ((with_reducible refine Gd 26 ?_); ( refine GD 25 23 H3 1 g1 2 (.int .u64 tt) Try.underlying23 ?_))
     | ((with_reducible refine Gd 31 ?_); ( refine GD 30 90 H3 1 g1 0 (.int .u8 1) Try.underlying90 ?_))
     | ((with_reducible refine Gd 35 ?_); ( refine GD 34 23 H3 1 g1 3 (.int .u64 am) Try.underlying23 ?_))
     | ((with_reducible refine Gs 90 39 ?_); ( refine OT1 39 90 H3 0 g3 92 0 (.int .u8 0) (msgA ⟨0, fr, tt, am, no, ky, nx⟩) rfl (by simp [msgA, vB]; try omega) ?_; intro w8 H8))
     | ((with_reducible refine Gs 23 40 ?_); ( refine OT1 40 23 H8 0 g3 92 2 (.int .u64 0) (msgA ⟨0, fr, 0, am, no, ky, nx⟩) rfl (by simp [msgA, vB]; try omega) ?_; intro w9 H9))
     | ((with_reducible refine Gs 23 41 ?_); ( refine OT1 41 23 H9 0 g3 92 3 (.int .u64 0) (msgA ⟨0, fr, 0, 0, no, ky, nx⟩) rfl (by simp [msgA, vB]; try omega) ?_; intro w10 H10))
     | ((with_reducible refine Gd 42 ?_); ( refine OV 3 H10 0 g3 92 rfl Try.underlying92 (sizeM_of (msgA_size HK.out HN.out)) ?_))
     | ((with_reducible refine Gd 43 ?_); ( refine OU 92 [] (msgA zeroM) rfl (builtM0) ?_))
     | ((with_reducible refine gate_dst (N := 44) rfl ?_); refine eq_M rfl _ (.tmp 42) (.tmp 43) rfl ⟨0, fr, 0, 0, no, ky, nx⟩ zeroM rfl rfl HK.out HN.out rfl rfl ?_)
     )
    go_ret
    exact ⟨rfl, H3.out.below⟩
  ·have e4 : decide (32 ≤ tt) = true := decide_eq_true (by omega)
   obtain rfl : r = false := by rw [hr, decide_eq_false h4]; simp
   clear hr
   go_enter Try.func136, Try.ntmps136
   go_wp2_with (first
    | fail
    | ((with_reducible refine Gd 1 ?_); ( refine OB H0 92 ((msgA ⟨1, fr, tt, am, no, ky, nx⟩)) ?_; intro g1 w1 H1 B1))
    | ((with_reducible refine Gd 4 ?_); ( refine OV 1 H1 0 g1 92 rfl Try.underlying92 (sizeM_of HSZ.out) ?_))
    | ((with_reducible refine Gd 3 ?_); ( refine OA H1 92 (msgA zeroM) 69 ?_; intro g3 w2 H2 B2))
    | ((with_reducible refine Gs 92 3 ?_); ( refine OS 3 4 H2 0 g3 92 (msgA ⟨1, fr, tt, am, no, ky, nx⟩) 69 HAZ HAR ?_; intro w3 H3))
    | ((with_reducible refine Gd 6 ?_); ( refine OD 5 90 H3 1 g1 0 (.int .u8 1) Try.underlying90 ?_))
    | ((with_reducible refine Gd 13 ?_); ( refine OD 12 23 H3 1 g1 1 (.int .u64 fr) Try.underlying23 ?_))
    | ((with_reducible refine Gd 15 ?_); ( refine OU 25 [] (cellsB z32) rfl (builtH0) ?_))
    | ((with_reducible refine Gd 16 ?_); ( refine OU 25 [] (cellsB z32) rfl (builtH0) ?_))
    | ((with_reducible refine Gs 23 17 ?_); ( refine OT1 17 23 H3 0 g3 92 1 (.int .u64 0) (msgA ⟨1, 0, tt, am, no, ky, nx⟩) rfl (by simp [msgA, vB]; try omega) ?_; intro w4 H4))
    | ((with_reducible refine Gs 23 18 ?_); ( refine OT1 18 23 H4 0 g3 92 4 (.int .u64 0) (msgA ⟨1, 0, tt, am, 0, ky, nx⟩) rfl (by simp [msgA, vB]; try omega) ?_; intro w5 H5))
    | ((with_reducible refine Gs 25 19 ?_); ( refine OT 19 25 H5 0 g3 92 5 (vB z32) (.agg (cellsB z32)) (msgA ⟨1, 0, tt, am, 0, z32, nx⟩) rfl (by rw [msgA_size HK.out HN.out]; decide) (by kernel_rfl) (by exact vB_one _) (by exact spl5 (by rw [vB_len, vB_len, HK.out]; rfl)) ?_; intro w6 H6))
    | ((with_reducible refine Gs 25 20 ?_); ( refine OT 20 25 H6 0 g3 92 37 (vB z32) (.agg (cellsB z32)) (msgA ⟨1, 0, tt, am, 0, z32, z32⟩) rfl (by rw [msgA_size z32_len HN.out]; decide) (by kernel_rfl) (by exact vB_one _) (by exact spl37 (by rw [vB_len]; rfl) (by rw [vB_len, vB_len, HN.out]; rfl)) ?_; intro w7 H7))
    | ((with_reducible refine Gd 22 ?_); ( refine OD 21 90 H3 1 g1 0 (.int .u8 1) Try.underlying90 ?_))
    | ((with_reducible refine Gd 26 ?_); ( refine GD 25 23 H3 1 g1 2 (.int .u64 tt) Try.underlying23 ?_))
    | ((with_reducible refine Gd 31 ?_); ( refine GD 30 90 H3 1 g1 0 (.int .u8 1) Try.underlying90 ?_))
    | ((with_reducible refine Gd 35 ?_); ( refine GD 34 23 H3 1 g1 3 (.int .u64 am) Try.underlying23 ?_))
    | ((with_reducible refine Gs 90 39 ?_); ( refine OT1 39 90 H3 0 g3 92 0 (.int .u8 0) (msgA ⟨0, fr, tt, am, no, ky, nx⟩) rfl (by simp [msgA, vB]; try omega) ?_; intro w8 H8))
    | ((with_reducible refine Gs 23 40 ?_); ( refine OT1 40 23 H8 0 g3 92 2 (.int .u64 0) (msgA ⟨0, fr, 0, am, no, ky, nx⟩) rfl (by simp [msgA, vB]; try omega) ?_; intro w9 H9))
    | ((with_reducible refine Gs 23 41 ?_); ( refine OT1 41 23 H9 0 g3 92 3 (.int .u64 0) (msgA ⟨0, fr, 0, 0, no, ky, nx⟩) rfl (by simp [msgA, vB]; try omega) ?_; intro w10 H10))
    | ((with_reducible refine Gd 42 ?_); ( refine OV 3 H10 0 g3 92 rfl Try.underlying92 (sizeM_of (msgA_size HK.out HN.out)) ?_))
    | ((with_reducible refine Gd 43 ?_); ( refine OU 92 [] (msgA zeroM) rfl (builtM0) ?_))
    | ((with_reducible refine gate_dst (N := 44) rfl ?_); refine eq_M rfl _ (.tmp 42) (.tmp 43) rfl ⟨0, fr, 0, 0, no, ky, nx⟩ zeroM rfl rfl HK.out HN.out rfl rfl ?_)
    )
   go_ret
   exact ⟨rfl, H3.out.below⟩
 ·simp only [mayM] at hr
  rw [if_neg h1, if_neg h2, if_neg h3] at hr
  subst hr
  have e1 : (kd == 1) = false := beq_eq_false_iff_ne.2 h1
  have e2 : (kd == 2) = false := beq_eq_false_iff_ne.2 h2
  have e3 : (kd == 3) = false := beq_eq_false_iff_ne.2 h3
  clear h1 h2 h3
  go_enter Try.func136, Try.ntmps136
  go_wp2_with (first
   | fail
   | ((with_reducible refine Gd 1 ?_); ( refine OB H0 92 ((msgA ⟨kd, fr, tt, am, no, ky, nx⟩)) ?_; intro g1 w1 H1 B1))
   | ((with_reducible refine Gd 4 ?_); ( refine OV 1 H1 0 g1 92 rfl Try.underlying92 (sizeM_of HSZ.out) ?_))
   | ((with_reducible refine Gd 3 ?_); ( refine OA H1 92 (msgA zeroM) 69 ?_; intro g3 w2 H2 B2))
   | ((with_reducible refine Gs 92 3 ?_); ( refine OS 3 4 H2 0 g3 92 (msgA ⟨kd, fr, tt, am, no, ky, nx⟩) 69 HAZ HAR ?_; intro w3 H3))
   | ((with_reducible refine Gd 6 ?_); ( refine OD 5 90 H3 1 g1 0 (.int .u8 kd) Try.underlying90 ?_))
   | ((with_reducible refine Gd 13 ?_); ( refine OD 12 23 H3 1 g1 1 (.int .u64 fr) Try.underlying23 ?_))
   | ((with_reducible refine Gd 15 ?_); ( refine OU 25 [] (cellsB z32) rfl (builtH0) ?_))
   | ((with_reducible refine Gd 16 ?_); ( refine OU 25 [] (cellsB z32) rfl (builtH0) ?_))
   | ((with_reducible refine Gs 23 17 ?_); ( refine OT1 17 23 H3 0 g3 92 1 (.int .u64 0) (msgA ⟨kd, 0, tt, am, no, ky, nx⟩) rfl (by simp [msgA, vB]; try omega) ?_; intro w4 H4))
   | ((with_reducible refine Gs 23 18 ?_); ( refine OT1 18 23 H4 0 g3 92 4 (.int .u64 0) (msgA ⟨kd, 0, tt, am, 0, ky, nx⟩) rfl (by simp [msgA, vB]; try omega) ?_; intro w5 H5))
   | ((with_reducible refine Gs 25 19 ?_); ( refine OT 19 25 H5 0 g3 92 5 (vB z32) (.agg (cellsB z32)) (msgA ⟨kd, 0, tt, am, 0, z32, nx⟩) rfl (by rw [msgA_size HK.out HN.out]; decide) (by kernel_rfl) (by exact vB_one _) (by exact spl5 (by rw [vB_len, vB_len, HK.out]; rfl)) ?_; intro w6 H6))
   | ((with_reducible refine Gs 25 20 ?_); ( refine OT 20 25 H6 0 g3 92 37 (vB z32) (.agg (cellsB z32)) (msgA ⟨kd, 0, tt, am, 0, z32, z32⟩) rfl (by rw [msgA_size z32_len HN.out]; decide) (by kernel_rfl) (by exact vB_one _) (by exact spl37 (by rw [vB_len]; rfl) (by rw [vB_len, vB_len, HN.out]; rfl)) ?_; intro w7 H7))
   | ((with_reducible refine Gd 22 ?_); ( refine OD 21 90 H7 1 g1 0 (.int .u8 kd) Try.underlying90 ?_))
   | ((with_reducible refine Gd 26 ?_); ( refine GD 25 23 H7 1 g1 2 (.int .u64 tt) Try.underlying23 ?_))
   | ((with_reducible refine Gd 31 ?_); ( refine GD 30 90 H7 1 g1 0 (.int .u8 kd) Try.underlying90 ?_))
   | ((with_reducible refine Gd 35 ?_); ( refine GD 34 23 H7 1 g1 3 (.int .u64 am) Try.underlying23 ?_))
   | ((with_reducible refine Gs 90 39 ?_); ( refine OT1 39 90 H7 0 g3 92 0 (.int .u8 0) (msgA ⟨0, 0, tt, am, 0, z32, z32⟩) rfl (by simp [msgA, vB]; try omega) ?_; intro w8 H8))
   | ((with_reducible refine Gs 23 40 ?_); ( refine OT1 40 23 H8 0 g3 92 2 (.int .u64 0) (msgA ⟨0, 0, 0, am, 0, z32, z32⟩) rfl (by simp [msgA, vB]; try omega) ?_; intro w9 H9))
   | ((with_reducible refine Gs 23 41 ?_); ( refine OT1 41 23 H9 0 g3 92 3 (.int .u64 0) (msgA ⟨0, 0, 0, 0, 0, z32, z32⟩) rfl (by simp [msgA, vB]; try omega) ?_; intro w10 H10))
   | ((with_reducible refine Gd 42 ?_); ( refine OV 3 H10 0 g3 92 rfl Try.underlying92 (sizeM_of (msgA_size rfl rfl)) ?_))
   | ((with_reducible refine Gd 43 ?_); ( refine OU 92 [] (msgA zeroM) rfl (builtM0) ?_))
   | ((with_reducible refine gate_dst (N := 44) rfl ?_); refine eq_M rfl _ (.tmp 42) (.tmp 43) rfl ⟨0, 0, 0, 0, 0, z32, z32⟩ zeroM rfl rfl rfl rfl rfl rfl ?_)
   )
  go_ret
  exact ⟨rfl, H3.out.below⟩
end Go.Proofs.Ytocphkfkdadhaaa.H

namespace Go.Proofs.Ytocphkfkdadhaaa.H
open Go.RowKit Go.Proofs.YtocphkfkdadhaaaW.PrintWords Go.Proofs.YtocphkfkdadhaaaW.PrintLast Go.Proofs.YtocphkfkdadhaaaW.PrintMore
set_option linter.unusedVariables false
set_option linter.unusedSimpArgs false
def wordU (b : List Int) (i j : Nat) : Nat := K.num (((b.take i).drop (8 * j)).take 8)
def wordsU (n : Nat) (b : List Int) (i : Nat) : List Nat := (List.range n).map fun j => wordU b i j
theorem wordsU_len (n : Nat) (b : List Int) (i : Nat) : (wordsU n b i).length = n := by simp [wordsU]
theorem wordsU_at (n : Nat) (b : List Int) (i j : Nat) (h : j < (wordsU n b i).length) : (wordsU n b i)[j] = wordU b i j := by simp [wordsU]
theorem wordU_snoc (b : List Int) (i : Nat) (h : i < b.length) : wordU b (i + 1) (i / 8) = wordU b i (i / 8) * 256 + b[i].toNat := by
 unfold wordU
 rw [List.take_succ_eq_append_getElem h, List.drop_append_of_le_length (by rw [List.length_take]; omega)]
 have hl : ((b.take i).drop (8 * (i / 8))).length ≤ 7 := by simp [List.length_take]; omega
 generalize (b.take i).drop (8 * (i / 8)) = t at *
 rw [List.take_of_length_le (l := t ++ _) (by simp; omega), List.take_of_length_le (l := t) (by omega), K.num_snoc]
theorem wordU_other (b : List Int) (i j : Nat) (h : i < b.length) (hj : j ≠ i / 8) : wordU b (i + 1) j = wordU b i j := by
 unfold wordU
 rw [List.take_succ_eq_append_getElem h]
 by_cases hlt : 8 * j ≤ i
 ·rw [List.drop_append_of_le_length (by rw [List.length_take]; omega), List.take_append_of_le_length (by simp [List.length_take]; omega)]
 ·rw [List.drop_of_length_le (by simp [List.length_take]; omega), List.drop_of_length_le (by simp [List.length_take]; omega)]
theorem wordsU_step (n : Nat) (b : List Int) (i : Nat) (h : i < b.length) (hi : i / 8 < n) : (wordsU n b i).set (i / 8) (wordU b i (i / 8) * 256 + b[i].toNat) = wordsU n b (i + 1) := by
 refine List.ext_getElem (by simp [wordsU]) fun j h1 h2 => ?_
 rw [wordsU_at, List.getElem_set]
 split
 ·rename_i he
  rw [← he, wordU_snoc b i h]
 ·rename_i he
  rw [wordsU_at, wordU_other b i j h (fun e => he e.symm)]
theorem wordsU_zero (n : Nat) (b : List Int) : wordsU n b 0 = List.replicate n 0 := by
 refine List.ext_getElem (by simp [wordsU]) fun j h1 h2 => ?_
 rw [wordsU_at, List.getElem_replicate]
 simp [wordU, K.num]
theorem wordU_lt (b : List Int) (i : Nat) (hb : ∀ x ∈ b, 0 ≤ x ∧ x ≤ 255) (hi : i < b.length) : wordU b i (i / 8) < 72057594037927936 := by
 have h1 : K.Byt (((b.take i).drop (8 * (i / 8))).take 8) := fun x hx => hb x (List.mem_of_mem_take (List.mem_of_mem_drop (List.mem_of_mem_take hx)))
 have h2 := K.num_lt _ h1
 have h3 : (((b.take i).drop (8 * (i / 8))).take 8).length ≤ 7 := by simp [List.length_take]; omega
 have h4 := K.pow256_le h3
 rw [K.pow256_7] at h4
 exact Nat.lt_of_lt_of_le h2 h4
def cellsN (l : List Nat) : Array Value := (l.map fun n : Nat => Value.int .u64 (n : Int)).toArray
theorem cellsN_size (l : List Nat) : (cellsN l).size = l.length := by simp [cellsN]
theorem cellsN_at (l : List Nat) (i : Nat) (h : i < l.length) : (cellsN l)[i]? = some (.int .u64 ((l[i] : Nat) : Int)) := by simp [cellsN, h]
theorem cellsN_set (l : List Nat) (i : Nat) (x : Nat) : (cellsN l).setIfInBounds i (.int .u64 (x : Int)) = cellsN (l.set i x) := by
 simp [cellsN, List.map_set]
theorem cellsN_arr {l : List Nat} {n : Nat} (h : l.length = n) : Arr n (cellsN l) := ⟨by rw [cellsN_size, h], all_oneCell_toArray (by
 intro v hv
 obtain ⟨x, _, rfl⟩ := List.mem_map.1 hv
 rfl)⟩
def wordsAll (n : Nat) (b : List Int) : List Nat := (List.range n).map fun j => K.num ((b.drop (8 * j)).take 8)
theorem wordsU_all (n : Nat) (b : List Int) (h : b.length = 8 * n) : wordsU n b (8 * n) = wordsAll n b := by
 refine List.ext_getElem (by simp [wordsU, wordsAll]) fun j h1 h2 => ?_
 rw [wordsU_at]
 simp only [wordsAll, List.getElem_map, List.getElem_range, wordU]
 rw [List.take_of_length_le (l := b) (by omega)]
theorem wordsAll_lt (n : Nat) (b : List Int) (hb : ∀ x ∈ b, 0 ≤ x ∧ x ≤ 255) : ∀ x ∈ wordsAll n b, x ≤ 18446744073709551615 := by
 intro x hx
 obtain ⟨j, _, rfl⟩ := List.mem_map.1 hx
 exact K.num_small _ (fun y hy => hb y (List.mem_of_mem_drop (List.mem_of_mem_take hy))) (by simp; omega)
theorem be8I_num (l : List Int) (hb : ∀ x ∈ l, 0 ≤ x ∧ x ≤ 255) (hl : l.length = 8) : be8I (K.num l) = l := by
 match l, hl with
 | [a, b, c, d, e, f, g, h], _ =>
  have ha := hb a (by simp); have hb' := hb b (by simp); have hc := hb c (by simp); have hd := hb d (by simp)
  have he := hb e (by simp); have hf := hb f (by simp); have hg := hb g (by simp); have hh := hb h (by simp)
  clear hb
  obtain ⟨a, rfl⟩ := Int.eq_ofNat_of_zero_le ha.1
  obtain ⟨b, rfl⟩ := Int.eq_ofNat_of_zero_le hb'.1
  obtain ⟨c, rfl⟩ := Int.eq_ofNat_of_zero_le hc.1
  obtain ⟨d, rfl⟩ := Int.eq_ofNat_of_zero_le hd.1
  obtain ⟨e, rfl⟩ := Int.eq_ofNat_of_zero_le he.1
  obtain ⟨f, rfl⟩ := Int.eq_ofNat_of_zero_le hf.1
  obtain ⟨g, rfl⟩ := Int.eq_ofNat_of_zero_le hg.1
  obtain ⟨h, rfl⟩ := Int.eq_ofNat_of_zero_le hh.1
  simp only [be8I, toI, be8, K.num, List.foldl_cons, List.foldl_nil, Int.toNat_natCast, List.map_cons, List.map_nil, Nat.zero_mul, Nat.zero_add]
  have h1 : (((((((a * 256 + b) * 256 + c) * 256 + d) * 256 + e) * 256 + f) * 256 + g) * 256 + h) = a * 72057594037927936 + b * 281474976710656 + c * 1099511627776 + d * 4294967296 + e * 16777216 + f * 65536 + g * 256 + h := by omega
  rw [h1]
  simp only [List.cons.injEq, and_true]
  refine ⟨?_, ?_, ?_, ?_, ?_, ?_, ?_, ?_⟩ <;> (congr 1; omega)
def bytesOf (ws : List Nat) : List Int := (ws.map be8I).flatten
theorem bytesOf_four (b : List Int) (hb : ∀ x ∈ b, 0 ≤ x ∧ x ≤ 255) (hl : b.length = 32) : bytesOf (wordsAll 4 b) = b := by
 have h (j : Nat) (hj : j < 4) : be8I (K.num ((b.drop (8 * j)).take 8)) = (b.drop (8 * j)).take 8 := be8I_num _ (fun y hy => hb y (List.mem_of_mem_drop (List.mem_of_mem_take hy))) (by simp; omega)
 have e : wordsAll 4 b = [K.num ((b.drop (8 * 0)).take 8), K.num ((b.drop (8 * 1)).take 8), K.num ((b.drop (8 * 2)).take 8), K.num ((b.drop (8 * 3)).take 8)] := rfl
 rw [e]
 simp only [bytesOf, List.map_cons, List.map_nil, List.flatten_cons, List.flatten_nil, h 0 (by omega), h 1 (by omega), h 2 (by omega), h 3 (by omega)]
 have e1 : b.drop (8 * 3) = (b.drop (8 * 3)).take 8 ++ [] := by rw [List.append_nil, List.take_of_length_le (by simp; omega)]
 have e2 : b.drop (8 * 2) = (b.drop (8 * 2)).take 8 ++ b.drop (8 * 3) := by
  rw [show 8 * 3 = 8 * 2 + 8 by omega, ← List.drop_drop, List.take_append_drop]
 have e3 : b.drop (8 * 1) = (b.drop (8 * 1)).take 8 ++ b.drop (8 * 2) := by
  rw [show 8 * 2 = 8 * 1 + 8 by omega, ← List.drop_drop, List.take_append_drop]
 have e4 : b = (b.drop (8 * 0)).take 8 ++ b.drop (8 * 1) := by
  rw [show 8 * 1 = 8 by omega, show 8 * 0 = 0 by omega, List.drop_zero, List.take_append_drop]
 rw [← e1, ← e2, ← e3, ← e4]
end Go.Proofs.Ytocphkfkdadhaaa.H

