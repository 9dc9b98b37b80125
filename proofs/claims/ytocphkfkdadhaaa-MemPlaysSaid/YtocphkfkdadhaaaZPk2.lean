import Derived.Test.YtocphkfkdadhaaaZPk1
import Derived.Deep.RegionHeld3
import Derived.Laws.CopyOwn
import Derived.Deep.RegionLaw
import Derived.WalkSpells
namespace Go.Proofs.Ytocphkfkdadhaaa.H
open Go.RowKit Go.Proofs.YtocphkfkdadhaaaW.PrintWords Go.Proofs.YtocphkfkdadhaaaW.PrintLast Go.Proofs.YtocphkfkdadhaaaW.PrintMore
set_option linter.unusedVariables false
set_option linter.unusedSimpArgs false
structure Item where
  P : World → (Nat → Prop) → Prop
  move : ∀ {W W1 : World} {S : Nat → Prop}, (∀ k, S k → W1.heap[k]? = W.heap[k]?) → P W S → P W1 S
  mono : ∀ {W : World} {S S' : Nat → Prop}, (∀ k, S k → S' k) → P W S → P W S'
def Item.blk (g : Nat) (cs : Array Value) (t : TypeId) : Item where
  P := fun W S => S g ∧ W.heap[g]? = some (.cells cs t (0, 0))
  move := fun hm h => ⟨h.1, (hm g h.1).trans h.2⟩
  mono := fun hm h => ⟨hm _ h.1, h.2⟩
def Item.row {α : Type} (d : Kd α) (e : Nat) (v : Value) (xs : List α) : Item where
  P := fun W S => Kd.R d e W 0 S v xs
  move := fun hm h => Kd.R_move h hm
  mono := fun hm h => Kd.R_mono h hm
def Item.mem {α : Type} (d : Kd α) (x : α) (cs : List Value) : Item where
  P := fun W S => d.M W 0 S x cs
  move := fun hm h => d.M_move hm h
  mono := fun hm h => d.M_mono hm h
def Sep (W : World) : List Item → (Nat → Prop) → Prop
  | [], _ => True
  | it :: L, U => ∃ S : Nat → Prop, (∀ i, S i → U i) ∧ it.P W S ∧ Sep W L (fun i => U i ∧ ¬ S i)
theorem Sep.imp {W : World} : ∀ {L : List Item} {U U' : Nat → Prop}, (∀ i, U i → U' i) → Sep W L U → Sep W L U'
  | [], _, _, _, _ => trivial
  | it :: L, _, _, h, ⟨S, h1, h2, h3⟩ => ⟨S, fun i hi => h i (h1 i hi), h2, Sep.imp (fun i hi => ⟨h i hi.1, hi.2⟩) h3⟩
theorem Sep.move {W W1 : World} : ∀ {L : List Item} {U : Nat → Prop}, (∀ k, U k → W1.heap[k]? = W.heap[k]?) → Sep W L U → Sep W1 L U
  | [], _, _, _ => trivial
  | it :: L, _, h, ⟨S, h1, h2, h3⟩ => ⟨S, h1, it.move (fun k hk => h k (h1 k hk)) h2, Sep.move (fun k hk => h k hk.1) h3⟩
theorem Sep.pick {W : World} {it : Item} : ∀ {L : List Item} {U : Nat → Prop} {k : Nat}, L[k]? = some it → Sep W L U → ∃ S : Nat → Prop, (∀ i, S i → U i) ∧ it.P W S ∧ Sep W (L.eraseIdx k) (fun i => U i ∧ ¬ S i)
  | [], _, k, hk, _ => by simp at hk
  | x :: L, U, 0, hk, ⟨S, h1, h2, h3⟩ => by
    obtain rfl : x = it := by simpa using hk
    exact ⟨S, h1, h2, h3⟩
  | x :: L, U, k + 1, hk, ⟨S0, h1, h2, h3⟩ => by
    obtain ⟨S, g1, g2, g3⟩ := Sep.pick (L := L) (k := k) (by simpa using hk) h3
    exact ⟨S, fun i hi => (g1 i hi).1, g2, S0, fun i hi => ⟨h1 i hi, fun hs => (g1 i hs).2 hi⟩, h2, Sep.imp (fun i hi => ⟨⟨hi.1.1, hi.2⟩, hi.1.2⟩) g3⟩
theorem Sep.unpick {W : World} {it : Item} : ∀ {L : List Item} {U S : Nat → Prop} {k : Nat}, k < L.length → (∀ i, S i → U i) → it.P W S → Sep W (L.eraseIdx k) (fun i => U i ∧ ¬ S i) → Sep W (L.set k it) U
  | [], _, _, k, hk, _, _, _ => by simp at hk
  | x :: L, U, S, 0, hk, h1, h2, h3 => ⟨S, h1, h2, h3⟩
  | x :: L, U, S, k + 1, hk, h1, h2, ⟨S0, g1, g2, g3⟩ => by
    refine ⟨S0, fun i hi => (g1 i hi).1, g2, Sep.unpick (L := L) (k := k) (S := S) (by simpa using hk) (fun i hi => ⟨h1 i hi, fun hs => (g1 i hs).2 hi⟩) h2 (Sep.imp (fun i hi => ⟨⟨hi.1.1, hi.2⟩, hi.1.2⟩) g3)⟩
theorem Sep.erase {W : World} {L : List Item} {U : Nat → Prop} (k : Nat) (h : Sep W L U) : Sep W (L.eraseIdx k) U := by
  by_cases hk : k < L.length
  · obtain ⟨S, _, _, h3⟩ := Sep.pick (k := k) (List.getElem?_eq_getElem hk) h
    exact Sep.imp (fun i hi => hi.1) h3
  · rw [List.eraseIdx_of_length_le (by omega)]; exact h
theorem Sep.append {W : World} : ∀ {L L' : List Item} {U U' : Nat → Prop}, (∀ i, U' i → ¬ U i) → Sep W L' U' → Sep W L U → Sep W (L' ++ L) (fun i => U i ∨ U' i)
  | L, [], U, U', _, _, h => Sep.imp (fun i hi => .inl hi) h
  | L, it :: L', U, U', hd, ⟨S, h1, h2, h3⟩, h => ⟨S, fun i hi => .inr (h1 i hi), h2,
      Sep.imp (fun i hi => ⟨hi.elim .inl (fun h => .inr h.1), fun hs => hi.elim (fun hu => hd i (h1 i hs) hu) (fun h => h.2 hs)⟩) (Sep.append (U' := fun i => U' i ∧ ¬ S i) (fun i hi => hd i hi.1) h3 h)⟩
structure Own (B : Nat) (w0 W : World) (L : List Item) : Prop where
  below : Below B w0 W
  base : B ≤ W.heap.size
  sep : Sep W L (fun i => B ≤ i ∧ i < W.heap.size)
namespace Own
variable {B : Nat} {w0 W W1 : World} {L L' : List Item}
theorem start (w : World) : Own w.heap.size w w [] := ⟨Below.refl _ _, Nat.le_refl _, trivial⟩
theorem of_below {w w' : World} (h : Below w.heap.size w w') : Own w.heap.size w w' [] := ⟨h, h.size, trivial⟩
theorem step (h : Own B w0 W L) (hb : Below W.heap.size W W1) : Own B w0 W1 L :=
  ⟨below_then h.below h.base hb, Nat.le_trans h.base hb.size, Sep.imp (fun i hi => ⟨hi.1, Nat.lt_of_lt_of_le hi.2 hb.size⟩) (Sep.move (fun k hk => hb.block k hk.2) h.sep)⟩
theorem drew (h : Own B w0 W L) : Own B w0 W.drew L := h.step (below_drew (Below.refl _ _))
theorem drewN (h : Own B w0 W L) (n : Nat) : Own B w0 (W.drewN n) L := h.step (pw_below_drewN (Below.refl _ _) n)
theorem alloc (h : Own B w0 W L) (o : Obj) : Own B w0 (W.alloc o) L := h.step (below_alloc (Below.refl _ _) _)
theorem call (h : Own B w0 W L) (h1 : Own W.heap.size W W1 L') : Own B w0 W1 (L' ++ L) := by
  have h2 := h.step h1.below
  refine ⟨h2.below, h2.base, Sep.imp ?_ (Sep.append (U := fun i => B ≤ i ∧ i < W.heap.size) (U' := fun i => W.heap.size ≤ i ∧ i < W1.heap.size) (fun i hi hu => by omega) h1.sep (Sep.move (fun k hk => h1.below.block k hk.2) h.sep))⟩
  have e1 := h.base
  have e2 := h1.base
  exact fun i hi => by omega
theorem erase (h : Own B w0 W L) (k : Nat) : Own B w0 W (L.eraseIdx k) := ⟨h.below, h.base, Sep.erase k h.sep⟩
theorem focus (h : Own B w0 W L) (k : Nat) {it : Item} (hk : L[k]? = some it) : ∃ S : Nat → Prop, (∀ i, S i → B ≤ i ∧ i < W.heap.size) ∧ it.P W S ∧
    ∀ (W1 : World) (it' : Item) (r : Option Nat), W.grownBy W1 r → (∀ g, r = some g → S g) → it'.P W1 (fun i => S i ∨ (W.heap.size ≤ i ∧ i < W1.heap.size)) → Own B w0 W1 (L.set k it') := by
  obtain ⟨S, h1, h2, h3⟩ := Sep.pick hk h.sep
  refine ⟨S, h1, h2, fun W1 it' r hg c1 c2 => ?_⟩
  have e1 := h.base
  have e2 := hg.size
  refine ⟨h.below.grown hg h.base (fun g hr => (h1 g (c1 g hr)).1), Nat.le_trans h.base hg.size, ?_⟩
  refine Sep.unpick (S := fun i => S i ∨ (W.heap.size ≤ i ∧ i < W1.heap.size)) (by have := (List.getElem?_eq_some_iff.1 hk).1; exact this) (fun i hi => ?_) c2 ?_
  · rcases hi with hi | hi
    · have := h1 i hi; omega
    · omega
  · refine Sep.imp (U := fun i => (B ≤ i ∧ i < W.heap.size) ∧ ¬ S i) (fun i hi => ⟨by omega, fun hs => ?_⟩) (Sep.move (fun i hi => hg.block i hi.1.2 (fun he => hi.2 (c1 i he.symm))) h3)
    rcases hs with hs | hs
    · exact hi.2 hs
    · omega
theorem change (h : Own B w0 W L) (k : Nat) {it it' : Item} (hk : L[k]? = some it) (r : Option Nat) (hg : W.grownBy W1 r)
    (hc : ∀ S : Nat → Prop, it.P W S → (∀ g, r = some g → S g) ∧ it'.P W1 (fun i => S i ∨ (W.heap.size ≤ i ∧ i < W1.heap.size))) : Own B w0 W1 (L.set k it') := by
  obtain ⟨S, _, h2, h3⟩ := h.focus k hk
  obtain ⟨c1, c2⟩ := hc S h2
  exact h3 W1 it' r hg c1 c2
theorem look (h : Own B w0 W L) (k : Nat) {it : Item} (hk : L[k]? = some it) : ∃ S : Nat → Prop, (∀ i, S i → B ≤ i ∧ i < W.heap.size) ∧ it.P W S := by
  obtain ⟨S, h1, h2, _⟩ := Sep.pick hk h.sep
  exact ⟨S, h1, h2⟩
theorem turn (h : Own B w0 W L) (k : Nat) {it it' : Item} (hk : L[k]? = some it) (hc : ∀ S : Nat → Prop, it.P W S → it'.P W S) : Own B w0 W (L.set k it') :=
  h.change k hk none (World.grownBy.refl W none) fun S hs => ⟨fun g hr => (by cases hr), it'.mono (fun i hi => .inl hi) (hc S hs)⟩
theorem fresh (h : Own B w0 W L) (hb : Below W.heap.size W W1) (it : Item) (hp : it.P W1 (fun i => W.heap.size ≤ i ∧ i < W1.heap.size)) : Own B w0 W1 (it :: L) :=
  h.call (L' := [it]) ⟨hb, hb.size, _, fun _ hi => hi, hp, trivial⟩
theorem null (h : Own B w0 W L) {α : Type} (d : Kd α) (e : Nat) : Own B w0 W (.row d e (.slice none 0 0) [] :: L) :=
  h.fresh (Below.refl _ _) (.row d e (.slice none 0 0) []) (Kd.R_nil _ _ _ _ _)
theorem get (h : Own B w0 W L) (k : Nat) {g : Nat} {cs : Array Value} {t : TypeId} (hk : L[k]? = some (.blk g cs t)) : W.heap[g]? = some (.cells cs t (0, 0)) := by
  obtain ⟨S, _, h2⟩ := h.look k hk
  exact h2.2
theorem le (h : Own B w0 W L) (k : Nat) {g : Nat} {cs : Array Value} {t : TypeId} (hk : L[k]? = some (.blk g cs t)) : B ≤ g := by
  obtain ⟨S, h1, h2⟩ := h.look k hk
  exact (h1 g h2.1).1
theorem cell (h : Own B w0 W L) (k : Nat) {g : Nat} {cs : Array Value} {t : TypeId} (hk : L[k]? = some (.blk g cs t)) (i : Nat) {v : Value} (hv : cs[i]? = some v) : W.cell? ⟨g, i, none⟩ = some v :=
  (blk_cell (h.get k hk) i).trans hv
theorem fz (h : Own B w0 W L) (k : Nat) {g : Nat} {cs : Array Value} {t : TypeId} (hk : L[k]? = some (.blk g cs t)) (i : Nat) : W.frozen? ⟨g, i, none⟩ = false := blk_frozen (h.get k hk) i
theorem new (h : Own B w0 W L) (cs : Array Value) (t : TypeId) : Own B w0 (W.alloc (.cells cs t)) (.blk W.heap.size cs t :: L) :=
  h.fresh (below_alloc (Below.refl _ _) _) (.blk W.heap.size cs t) ⟨⟨Nat.le_refl _, blk_lt (blk_new W _)⟩, blk_new W _⟩
theorem grown_cell (W : World) (g i : Nat) (v : Value) : W.grownBy (W.setCell ⟨g, i, none⟩ v) (some g) :=
  ⟨rfl, rfl, rfl, by simp [World.setCell], fun k _ hk => Below.heap_setCell W ⟨g, i, none⟩ v k (fun he => hk (by rw [he]))⟩
theorem grown_row (W : World) (g : Nat) (c' : Array Value) : W.grownBy (W.setRow g c') (some g) :=
  ⟨rfl, rfl, rfl, by simp, fun k _ hk => setRow_off W g k c' (fun he => hk (by rw [he]))⟩
theorem put (h : Own B w0 W L) (k : Nat) {g : Nat} {cs cs' : Array Value} {t : TypeId} (hk : L[k]? = some (.blk g cs t)) (i : Nat) (v : Value) (hv : cs.setIfInBounds i v = cs') : Own B w0 (W.setCell ⟨g, i, none⟩ v) (L.set k (.blk g cs' t)) := by
  subst hv
  exact h.change k hk (some g) (grown_cell W g i v) fun S hs => ⟨fun x hx => by injection hx with hx; exact hx ▸ hs.1, .inl hs.1, blk_set hs.2 i v⟩
theorem setRow (h : Own B w0 W L) (k : Nat) {g : Nat} {cs : Array Value} {t : TypeId} (hk : L[k]? = some (.blk g cs t)) (c' : Array Value) : Own B w0 (W.setRow g c') (L.set k (.blk g c' t)) :=
  h.change k hk (some g) (grown_row W g c') fun S hs => ⟨fun x hx => by injection hx with hx; exact hx ▸ hs.1, .inl hs.1, setRow_at hs.2 c'⟩
variable {α : Type} {d : Kd α} {e : Nat} {v : Value} {xs : List α}
theorem reads (h : Own B w0 W L) (k : Nat) (hk : L[k]? = some (.row d e v xs)) : ∃ A c, v = .slice A xs.length c ∧ xs.length ≤ c ∧ d.C W A xs.length xs := by
  obtain ⟨S, _, h2⟩ := h.look k hk
  exact Kd.R_reads h2
theorem form (h : Own B w0 W L) (k : Nat) (hk : L[k]? = some (.row d e v xs)) (hp : 0 < xs.length) : ∃ g cap, v = .slice (some ⟨g, 0, none⟩) xs.length cap ∧ xs.length ≤ cap := by
  obtain ⟨S, _, h2⟩ := h.look k hk
  obtain ⟨A, c, h3, h4, _⟩ := Kd.R_reads h2
  obtain ⟨g, cap, h5, _⟩ := Kd.R_form h2 hp
  rw [h5] at h3
  injection h3 with _ _ h6
  exact ⟨g, cap, h5, by omega⟩
theorem C_of (h : Own B w0 W L) (k : Nat) {A : Option Addr} {n c : Nat} (hk : L[k]? = some (.row d e (.slice A n c) xs)) : d.C W A n xs := by
  obtain ⟨A', c', he, _, h3⟩ := h.reads k hk
  injection he with h1 h2 h4
  subst h1; subst h2
  exact h3
end Own
theorem run_index_arr {P : Program} (t e : TypeId) (n : Nat) (k : IntKind) (ht : P.underlying t = some (.array n e)) (he : P.underlying e = some (.int k)) (hs : (P.info? e).map (·.size) = some 1) (cs : Array Value) (i : Nat) (hi : i < n) {v : Value} (hv : cs[i]? = some v) (w : World) :
    (Instr.index t (.agg cs) (.int .i64 (i : Int))).run P w = .ok v w := by
  obtain ⟨ti, hti, hsz⟩ := Option.map_eq_some_iff.1 hs
  have hn : (0 : Int) ≤ (i : Int) ∧ (i : Int) < (n : Int) := by omega
  have hag : (isAgg e).run P w = .ok false w := by
    unfold isAgg
    simp [run_underlying he, go_sem]
  simp only [Instr.index, asIntOf, Sem.run_bind, Sem.run_pure, Result.andThen_ok, run_underlying ht]
  rw [if_pos hn]
  simp [sizeOf, typeInfo, hti, hsz, part, hag, hv, go_sem]
def Flat {α : Type} (d : Kd α) : Prop := ∀ {W : World} {base : Nat} {x : α} {cs : List Value}, d.K W x cs → d.M W base (fun _ => False) x cs
theorem Flat_int (k : IntKind) : Flat (Kd.int k) := fun h => h
section
variable {P : Program} {ops : Array Oper} {rest : List Oper} {o : Oper} {a : Act} {Q : Exit → Act → World → Prop} {B : Nat} {w0 W : World} {L : List Item}
theorem own_alloc (H : Own B w0 W L) (hgd : o.guard = none) {N : Tmp} (hd : o.dst = some N) {t : TypeId} (ho : o.op = .alloc t) (cs : Array Value) (n : Nat)
    (hi : (P.info? t).map (fun i => (i.zero, i.size)) = some (some (.agg cs), n))
    (h : ∀ g w1, Own B w0 w1 (.blk g cs t :: L) → Below W.heap.size W w1 → wpList P ops Q rest (a.put o.dst (.pointer (some ⟨g, 0, none⟩))) w1) : wpList P ops Q (o :: rest) a W :=
  arr_alloc hgd hd ho cs n hi fun g w1 hg hge hb => h g w1 (H.fresh hb (.blk g cs t) ⟨⟨by omega, blk_lt hg⟩, hg⟩) hb
theorem own_box (H : Own B w0 W L) (hgd : o.guard = none) {N : Tmp} (hd : o.dst = some N) {t : TypeId} {x : Operand} (ho : o.op = .box t x) (v : Value) (hx : a.eval x = v)
    (h : ∀ g w1, Own B w0 w1 (.blk g v.cells t :: L) → Below W.heap.size W w1 → wpList P ops Q rest (a.put o.dst (.pointer (some ⟨g, 0, none⟩))) w1) : wpList P ops Q (o :: rest) a W := by
  refine Kd.event_run hgd (v := .pointer (some ⟨W.heap.size, 0, none⟩)) (w1 := W.alloc (.cells v.cells t (0, 0))) ?_ (h _ _ (H.new v.cells t) (below_alloc (Below.refl _ _) _))
  unfold execOp
  simp only [ho, hx]
  simp [Instr.box, newVar, go_sem]
theorem own_store (H : Own B w0 W L) (k : Nat) (g : Nat) (cs : Array Value) (ty : TypeId) (hk : L[k]? = some (.blk g cs ty)) (hgd : o.guard = none) (x y : Operand) (ho : o.op = .store ty x y) (cells : Array Value)
    (hx : a.eval x = .pointer (some ⟨g, 0, none⟩)) (hy : a.eval y = .agg cells) (n : Nat) (hn : Arr n cs) (h1 : Arr n cells)
    (hi : (P.info? ty).map (·.size) = some n)
    (h : ∀ w1, Own B w0 w1 (L.set k (.blk g cells ty)) → wpList P ops Q rest (a.put o.dst undef) w1) : wpList P ops Q (o :: rest) a W :=
  arr_store hgd ty x y ho g cs cells hx hy (H.get k hk) (hn.1.trans h1.1.symm) (by rw [h1.1]; exact hi) h1.2 fun w1 hw => h w1 (hw ▸ H.setRow k hk cells)
theorem own_load (H : Own B w0 W L) (k : Nat) (g : Nat) (cs : Array Value) (ty : TypeId) (hk : L[k]? = some (.blk g cs ty)) (hgd : o.guard = none) (x : Operand) (ho : o.op = .load ty x) {m : Nat} {el : TypeId}
    (hx : a.eval x = .pointer (some ⟨g, 0, none⟩)) (hu : P.underlying ty = some (.array m el)) (n : Nat) (hn : Arr n cs) (hi : (P.info? ty).map (·.size) = some n)
    (h : wpList P ops Q rest (a.put o.dst (.agg cs)) W) : wpList P ops Q (o :: rest) a W :=
  arr_load hgd ty x ho g cs m el hx (H.get k hk) hu (by rw [hn.1]; exact hi) h
variable {α : Type} (d : Kd α)
theorem own_append (hF : Flat d) (H : Own B w0 W L) (k : Nat) {v : Value} {xs : List α} {e : Nat} (hk : L[k]? = some (.row d e v xs)) (hgd : o.guard = none) (s x : Operand) (t : TypeId) (z : Value) (bytes : Nat)
    (ho : o.op = .call { callee := .builtin .append, args := #[s, x], argTypes := #[t, t] })
    (ht : P.underlying t = some (.slice e)) (hinfo : (P.info? e).map (fun i => (i.zero, i.size, i.bytes)) = some (some z, d.sz, bytes)) (hz : z.cells.size = d.sz) (hs0 : 0 < d.sz) (hb0 : 0 < bytes)
    (p : α) (cs : List Value) (hp : ∀ w, d.K w p cs) (hs : a.eval s = v) (hx : a.eval x = .slice (some ⟨W.heap.size, 0, none⟩) 1 1) (hl : (xs.length + 1) * bytes ≤ 140737488355328)
    (h : ∀ v1 w1, Own B w0 w1 (L.set k (.row d e v1 (xs ++ [p]))) → wpList P ops Q rest (a.put o.dst v1) w1) :
    wpList P ops Q (o :: rest) a (W.alloc (.cells cs.toArray e)) := by
  obtain ⟨S, hS, hR, hch⟩ := H.focus k hk
  have hR : Kd.R d e W 0 S v xs := hR
  refine Kd.R_append d 0 hgd s x t e z bytes ho ht hinfo hz hs0 hb0 v xs p cs (fun i => S i ∨ W.heap.size ≤ i) (fun _ => False) hs hx (hF (hp W)) (fun _ hk => hk.elim) (fun i hi => .inr hi) (Kd.R_mono hR fun i hi => .inl hi) (w0 := W) ⟨rfl, rfl, rfl, Nat.le_refl _, fun _ _ => rfl⟩ (Nat.zero_le _) hl ?_
  intro v1 w1 hR1 _ hg _
  refine h v1 w1 (hch w1 (.row d e v1 (xs ++ [p])) v.ownBlock hg (fun g hr => hR.1 g hr) ?_)
  exact Kd.R_mono (Kd.R_bound hR1) (fun i hi => by rcases hi with ⟨hi | hi, h2, h3, _⟩; exact .inl hi; exact .inr ⟨hi, h3⟩)
theorem own_append_row (hF : Flat d) (H : Own B w0 W L) (k : Nat) {v : Value} {xs : List α} {e : Nat} (hk : L[k]? = some (.row d e v xs)) (hgd : o.guard = none) (s x : Operand) (t : TypeId) (z : Value) (bytes : Nat)
    (ho : o.op = .call { callee := .builtin .append, args := #[s, x], argTypes := #[t, t] })
    (ht : P.underlying t = some (.slice e)) (hinfo : (P.info? e).map (fun i => (i.zero, i.size, i.bytes)) = some (some z, d.sz, bytes)) (hz : z.cells.size = d.sz) (hs0 : 0 < d.sz) (hb0 : 0 < bytes)
    (ys : List α) (A : Option Addr) (m c : Nat) (hs : a.eval s = v) (hx : a.eval x = .slice A m c) (hC : d.C W A m ys) (hl : (xs.length + m) * bytes ≤ 140737488355328)
    (h : ∀ v1 w1, Own B w0 w1 (L.set k (.row d e v1 (xs ++ ys))) → wpList P ops Q rest (a.put o.dst v1) w1) :
    wpList P ops Q (o :: rest) a W := by
  obtain ⟨S, hS, hR, hch⟩ := H.focus k hk
  have hR : Kd.R d e W 0 S v xs := hR
  refine Kd.R_append_rows d 0 hgd s x t e z bytes ho ht hinfo hz hs0 hb0 v xs ys A m c (fun i => S i ∨ W.heap.size ≤ i) (fun _ => False) hs hx (Kd.R_mono hR fun i hi => .inl hi) hC (fun x cs hk => hF hk) (fun _ hk => hk.elim) (fun i hi => .inr hi) (w0 := W) ⟨rfl, rfl, rfl, Nat.le_refl _, fun _ _ => rfl⟩ (Nat.zero_le _) hl ?_
  intro v1 w1 hR1 _ hg _
  refine h v1 w1 (hch w1 (.row d e v1 (xs ++ ys)) v.ownBlock hg (fun g hr => hR.1 g hr) ?_)
  exact Kd.R_mono (Kd.R_bound hR1) (fun i hi => by rcases hi with ⟨hi | hi, h2, h3, _⟩; exact .inl hi; exact .inr ⟨hi, h3⟩)
theorem own_lit (hF : Flat d) (H : Own B w0 W L) (e : Nat) (hgd : o.guard = none) {N : Tmp} (hd : o.dst = some N) {xs : List α} {inner : List Value}
    (hrun : (execOp a.eval o).run P W = .ok (.value (.slice (some ⟨W.heap.size, 0, none⟩) xs.length xs.length)) (W.alloc (.cells inner.toArray e)))
    (hrep : Reps (d.K W) d.sz xs inner) (hm : xs.length ≤ 9223372036854775807)
    (h : ∀ A c w1, Own B w0 w1 (.row d e (.slice A xs.length c) xs :: L) → Below W.heap.size W w1 → wpList P ops Q rest (a.put o.dst (.slice A xs.length c)) w1) : wpList P ops Q (o :: rest) a W := by
  refine Kd.R_lit d W.heap.size e hgd hd (ok := fun _ => True) (okp := fun _ => False) (w0 := W) hrun (hrep.imp_ fun _ _ hk => hF hk) (fun _ h => h.elim) trivial (Below.refl _ _) (Nat.le_refl _) hm ?_
  intro v1 w1 hR1 hb _ _
  obtain ⟨A, c, rfl⟩ := Kd.R_slice hR1
  exact h A c w1 (H.fresh hb (.row d e (.slice A xs.length c) xs) (Kd.R_lower (Kd.R_mono (Kd.R_bound hR1) fun i hi => ⟨hi.2.1, hi.2.2.1⟩) (Nat.zero_le _))) hb
end
theorem own_result {fn : Func} {p : Tmp} {ty : TypeId} (h : fn.results = #[.cell p ty]) (tmps : Array Value) {B : Nat} {w0 W : World} {L : List Item} (H : Own B w0 W L) (k : Nat) (g : Nat) (cs : Array Value) (hk : L[k]? = some (.blk g cs ty))
    (hp : tmps.getD p undef = .pointer (some ⟨g, 0, none⟩)) {P : Program} {m : Nat} {el : TypeId} (hu : P.underlying ty = some (.array m el)) (n : Nat) (hn : Arr n cs) (hi : (P.info? ty).map (·.size) = some n) :
    (results fn tmps).run P W = .ok (.agg cs) W := results_cell_row h tmps W g ty cs (0, 0) _ hp (H.get k hk) hu rfl (by rw [hn.1]; exact hi)
end Go.Proofs.Ytocphkfkdadhaaa.H

namespace Go.Proofs.Ytocphkfkdadhaaa.H
open Go.RowKit Go.Proofs.YtocphkfkdadhaaaW.PrintWords Go.Proofs.YtocphkfkdadhaaaW.PrintLast Go.Proofs.YtocphkfkdadhaaaW.PrintMore
set_option linter.unusedVariables false
set_option linter.unusedSimpArgs false
def stR (h ws : List Nat) : Nat → List Nat
  | 0 => h
  | t + 1 => roundP (stR h ws t) (KS.getD t 0) (ws.getD t 0)
theorem stR_len (h ws : List Nat) (hh : h.length = 8) : ∀ t, (stR h ws t).length = 8
  | 0 => hh
  | t + 1 => rfl
theorem eight {l : List Nat} (h : l.length = 8) : ∃ a b c d e f g i, l = [a, b, c, d, e, f, g, i] := by
  match l, h with
  | [a, b, c, d, e, f, g, i], _ => exact ⟨a, b, c, d, e, f, g, i, rfl⟩
theorem add32_lt (a b : Nat) : add32 a b < 4294967296 := Nat.mod_lt _ (by decide)
theorem roundP_lt (s : List Nat) (hs : ∀ x ∈ s, x < 4294967296) (k w : Nat) : ∀ x ∈ roundP s k w, x < 4294967296 := by
  have hg : ∀ i, s.getD i 0 < 4294967296 := fun i => by
    by_cases h : i < s.length
    · rw [getD_at _ _ h]; exact hs _ (List.getElem_mem h)
    · simp [List.getElem?_eq_none (Nat.le_of_not_lt h)]
  intro x hx
  simp only [roundP, List.mem_cons, List.not_mem_nil, or_false] at hx
  rcases hx with rfl | rfl | rfl | rfl | rfl | rfl | rfl | rfl
  · exact add32_lt _ _
  · exact hg _
  · exact hg _
  · exact hg _
  · exact add32_lt _ _
  · exact hg _
  · exact hg _
  · exact hg _
theorem stR_lt (h ws : List Nat) (hh : ∀ x ∈ h, x < 4294967296) : ∀ t, ∀ x ∈ stR h ws t, x < 4294967296
  | 0 => hh
  | t + 1 => roundP_lt _ (stR_lt h ws hh t) _ _
theorem not32_xor (a : Nat) (h : a < 4294967296) : 4294967295 ^^^ a = 4294967295 - a := by
  have h1 := congrArg BitVec.toNat (BitVec.allOnes_xor (x := BitVec.ofNat 32 a))
  rw [BitVec.toNat_xor, BitVec.toNat_not, BitVec.toNat_allOnes, BitVec.toNat_ofNat, Nat.mod_eq_of_lt (by omega)] at h1
  simpa using h1
theorem not32_lt (a : Nat) : not32 a < 4294967296 := by unfold not32; omega
theorem u32_not (a : Nat) (h : a < 4294967296) : bits .xor .u32 IntKind.u32.max (a : Int) = ((not32 a : Nat) : Int) := by
  have := u32_xor_nat 4294967295 a (by decide) h
  rw [not32_xor a h] at this
  exact this
theorem and_lt32 {a b : Nat} (ha : a < 4294967296) : a &&& b < 4294967296 := Nat.lt_of_le_of_lt Nat.and_le_left ha
theorem add32_mod (a b : Nat) : ((a : Int) + (b : Int)) % 4294967296 = ((add32 a b : Nat) : Int) := by unfold add32; omega
theorem add32_wrap (a b : Nat) : IntKind.u32.wrap ((a : Int) + (b : Int)) = ((add32 a b : Nat) : Int) := by rw [IntKind.wrap_u32']; unfold add32; omega
theorem roundsP_snoc : ∀ (l : List (Nat × Nat)) (k w : Nat) (s : List Nat), roundsP (l ++ [(k, w)]) s = roundP (roundsP l s) k w
  | [], _, _, _ => rfl
  | (a, b) :: l, k, w, s => by show roundsP (l ++ [(k, w)]) _ = _; rw [roundsP_snoc l]; rfl
theorem stR_eq (h ws : List Nat) (hw : ws.length = 64) : ∀ t, t ≤ 64 → stR h ws t = roundsP ((KS.zip ws).take t) h
  | 0, _ => rfl
  | t + 1, ht => by
    have hl : (KS.zip ws).length = 64 := by rw [List.length_zip, hw]; rfl
    have hk : t < KS.length := by show t < 64; omega
    rw [List.take_succ_eq_append_getElem (by omega), List.getElem_zip, roundsP_snoc, ← stR_eq h ws hw t (by omega), ← getD_at KS t hk, ← getD_at ws t (by omega)]
    rfl
def addT (h s : List Nat) (i : Nat) : List Nat := List.zipWith add32 (h.take i) (s.take i) ++ h.drop i
theorem addT_at (h s : List Nat) (hh : h.length = 8) (hs : s.length = 8) (i : Nat) (hi : i < 8) :
    (cellsW (addT h s i))[i]? = some (.int .u32 (h.getD i 0 : Int)) ∧ (cellsW s)[i]? = some (.int .u32 (s.getD i 0 : Int)) ∧ (cellsW (addT h s i)).setIfInBounds i (.int .u32 (add32 (h.getD i 0) (s.getD i 0) : Int)) = cellsW (addT h s (i + 1)) := by
  obtain ⟨h0, h1, h2, h3, h4, h5, h6, h7, rfl⟩ := eight hh
  obtain ⟨s0, s1, s2, s3, s4, s5, s6, s7, rfl⟩ := eight hs
  have : i = 0 ∨ i = 1 ∨ i = 2 ∨ i = 3 ∨ i = 4 ∨ i = 5 ∨ i = 6 ∨ i = 7 := by omega
  rcases this with rfl | rfl | rfl | rfl | rfl | rfl | rfl | rfl <;> exact ⟨rfl, rfl, rfl⟩
theorem addT_end (h s : List Nat) (hh : h.length = 8) (hs : s.length = 8) : addT h s 8 = List.zipWith add32 h s := by
  unfold addT
  rw [List.take_of_length_le (by omega), List.take_of_length_le (by omega), List.drop_eq_nil_of_le (by omega), List.append_nil]
set_option maxHeartbeats 4000000 in
set_option maxRecDepth 100000 in
theorem through_any (q b : List Nat) (hh : q.length = 8) (hh2 : ∀ x ∈ q, x < 4294967296) (hb : b.length = 64) (hb2 : ∀ x ∈ b, x < 256) (gk gb ob c : Nat) (hc : 64 ≤ c) (w : World)
    (hK : w.heap[gk]? = some (.cells (cellsW KS) 185 (0, 0)))
    (hC : ∀ i (h : i < b.length), w.cell? ⟨gb, ob + i, none⟩ = some (.int .u8 (b[i] : Int))) :
    Calls Try.prog 126 #[.agg (cellsW q), .pointer (some ⟨gk, 0, none⟩), .slice (some ⟨gb, ob, none⟩) 64 c] w fun e w' => e = .returned (.agg (cellsW (blockP q b))) ∧ Below w.heap.size w w' := by
  have HC := Aside0.mk hC
  have HK := Aside0.mk hK
  clear hC hK
  have H0 := Aside0.mk (Holds.start w)
  have HS := Aside0.mk (fun W h => spread_any b hb hb2 gb ob c hc W h)
  have HW : Aside0 (Arr 64 (cellsW (spreadP b))) := ⟨Arr_W (spreadP_len b)⟩
  have Hh : Aside0 (Arr 8 (cellsW q)) := ⟨Arr_W hh⟩
  have R8 : Aside0 (Arr 8 (Array.replicate 8 (.int .u32 0))) := ⟨Arr_rep _ _ rfl⟩
  have R64 : Aside0 (Arr 64 (Array.replicate 64 (.int .u32 0))) := ⟨Arr_rep _ _ rfl⟩
  have HL := Aside0.mk (spreadP_len b)
  generalize hws : spreadP b = ws at *
  have HWS := Aside0.mk hws
  clear hws
  go_enter Try.func126, Try.ntmps126
  go_wp2_with (first
    | fail
    | ((with_reducible refine gate_dst (N := 3) rfl ?_); refine hold_box H0.out rfl (N := 3) rfl (t := 187) rfl (cellsW q) rfl ?_; intro g3 w1 H1 B1; replace H1 := Aside0.mk H1; replace B1 := Aside0.mk B1)
    | ((with_reducible refine gate_dst (N := 6) rfl ?_); refine hold_alloc H1.out rfl (N := 6) rfl (t := 187) rfl (Array.replicate 8 (.int .u32 0)) 8 (by kernel_rfl) ?_; intro g6 w2 H2 B2; replace H2 := Aside0.mk H2; replace B2 := Aside0.mk B2)
    | (go_at_call 153; refine (HS.out _ (fun i hi => pw_cell_below B2.out (pw_cell_below B1.out (HC.out i hi)))).mono ?_; rintro e w3 ⟨rfl, hB3⟩; have H3 := Aside0.mk (H2.out.step hB3))
    | ((with_reducible refine gate_dst (N := 7) rfl ?_); refine hold_alloc H3.out rfl (N := 7) rfl (t := 185) rfl (Array.replicate 64 (.int .u32 0)) 64 (by kernel_rfl) ?_; intro g7 w4 H4 B4; replace H4 := Aside0.mk H4; replace B4 := Aside0.mk B4)
    | ((with_reducible refine hold_store H4.out 0 g7 _ 185 rfl rfl (.tmp 7) (.tmp 16) rfl (cellsW ws) ?_ ?_ 64 R64.out HW.out (by kernel_rfl) ?_); (case _ => rfl); (case _ => rfl); intro w5 H5; replace H5 := Aside0.mk H5)
    | ((with_reducible refine gate_dst (N := 17) rfl ?_); refine hold_load H5.out 2 g3 _ 187 rfl rfl (.tmp 3) rfl (by rfl) Try.underlying187 8 Hh.out (by kernel_rfl) ?_)
    | ((with_reducible refine gate_dst (N := 8) rfl ?_); refine hold_alloc H5.out rfl (N := 8) rfl (t := 187) rfl (Array.replicate 8 (.int .u32 0)) 8 (by kernel_rfl) ?_; intro g8 w6 H6 B6; replace H6 := Aside0.mk H6; replace B6 := Aside0.mk B6)
    | ((with_reducible refine hold_store H6.out 0 g8 _ 187 rfl rfl (.tmp 8) (.tmp 17) rfl (cellsW q) ?_ ?_ 8 R8.out Hh.out (by kernel_rfl) ?_); (case _ => rfl); (case _ => rfl); intro w7 H7; replace H7 := Aside0.mk H7)
    )
  have HKE := Aside0.mk (show ∀ t, t < 64 → (cellsW KS)[t]? = some (.int .u32 (KS.getD t 0 : Int)) from fun t ht => by rw [cellsW_at _ _ (by exact ht), getD_at _ _ (by exact ht)])
  have HWE := Aside0.mk (show ∀ t, t < 64 → (cellsW ws)[t]? = some (.int .u32 (ws.getD t 0 : Int)) from fun t ht => by rw [cellsW_at _ _ (by rw [HL.out]; exact ht), getD_at _ _ (by rw [HL.out]; exact ht)])
  go_loopw [18] (fun v18 wr => ∃ t : Nat, t ≤ 64 ∧ v18 = .int .i64 (t : Int) ∧ Aside0 (Holds w.heap.size w wr [(g8, cellsW (stR q ws t), 187), (g7, cellsW ws, 185), (g6, Array.replicate 8 (.int .u32 0), 187), (g3, cellsW q, 187)])) (fun v18 _ => 64 - (intOf v18).toNat)
  case atStart => exact ⟨0, Nat.zero_le _, rfl, H7⟩
  case round =>
    obtain ⟨t, ht, rfl, HR⟩ := hrel
    by_cases hlt : t < 64
    · have hdl : decide (t < 64) = true := decide_eq_true hlt
      have HN := Aside0.mk (show stR q ws (t + 1) = roundP (stR q ws t) (KS.getD t 0) (ws.getD t 0) from rfl)
      have HSL := Aside0.mk (stR_lt q ws hh2 t)
      obtain ⟨s0, s1, s2, s3, s4, s5, s6, s7, hs⟩ := eight (stR_len q ws hh t)
      rw [hs] at HR HN HSL
      clear hs
      have b0 : s0 < 4294967296 := HSL.out _ (by simp)
      have b1 : s1 < 4294967296 := HSL.out _ (by simp)
      have b2 : s2 < 4294967296 := HSL.out _ (by simp)
      have b4 : s4 < 4294967296 := HSL.out _ (by simp)
      have b5 : s5 < 4294967296 := HSL.out _ (by simp)
      have b6 : s6 < 4294967296 := HSL.out _ (by simp)
      have c0 : wr.cell? ⟨g8, 0, none⟩ = some (.int .u32 (s0 : Int)) := HR.out.cell 0 rfl 0 rfl
      have c4 : wr.cell? ⟨g8, 4, none⟩ = some (.int .u32 (s4 : Int)) := HR.out.cell 0 rfl 4 rfl
      have c7 : wr.cell? ⟨g8, 7, none⟩ = some (.int .u32 (s7 : Int)) := HR.out.cell 0 rfl 7 rfl
      go_wp2_with fail
      go_region
      go_wp2_with fail
      have H8 := Aside0.mk HR.out.drew
      generalize wr.drew = w8 at *
      clear c0 c4 c7 HR
      have c7 : w8.cell? ⟨g8, 7, none⟩ = some (.int .u32 (s7 : Int)) := H8.out.cell 0 rfl 7 rfl
      have HLA := Aside0.mk (lit_at w8 [6, 11, 25] 3)
      have HT := Aside0.mk (fun g W h => turned_any s4 [6, 11, 25] b4 (by decide) (by decide) g 3 W h)
      generalize hy1 : turnedP s4 [6, 11, 25] = y1 at *
      have HY1 := Aside0.mk hy1
      clear hy1
      obtain ⟨v1, hv1⟩ : ∃ v1, v1 = add32 s7 y1 := ⟨_, rfl⟩
      have ha1 : IntKind.u32.wrap ((s7 : Int) + (y1 : Int)) = (v1 : Int) := by rw [hv1, IntKind.wrap_u32']; unfold add32; omega
      have HV1 := Aside0.mk hv1
      clear hv1
      go_region_held3 (fun W => W.cell? ⟨g8, 7, none⟩ = some (.int .u32 (s7 : Int))) (go_keep) (first
        | (go_at_call 154; refine (HT.out _ _ HLA.out).mono ?_; rintro e w9 ⟨rfl, rfl⟩))
      have H9 := Aside0.mk (H8.out.alloc (.cells #[.int .i64 6, .int .i64 11, .int .i64 25] 3)).drew
      clear H8 c7 HLA HT ha1
      generalize (w8.alloc (.cells #[.int .i64 6, .int .i64 11, .int .i64 25] 3)).drew = w9 at *
      have c5 : w9.cell? ⟨g8, 5, none⟩ = some (.int .u32 (s5 : Int)) := H9.out.cell 0 rfl 5 rfl
      have c6 : w9.cell? ⟨g8, 6, none⟩ = some (.int .u32 (s6 : Int)) := H9.out.cell 0 rfl 6 rfl
      have n1 := u32_and_nat s4 s5 b4 b5
      have n2 := u32_not s4 b4
      have l2 := not32_lt s4
      have HX0 : Aside0 ((s4 &&& s5) ^^^ (not32 s4 &&& s6) = (s4 &&& s5) ^^^ (not32 s4 &&& s6)) := ⟨rfl⟩
      obtain ⟨z2, hz2⟩ : ∃ z, z = not32 s4 := ⟨_, rfl⟩
      rw [← hz2] at n2 l2
      have n3 := u32_and_nat z2 s6 l2 b6
      have n4 := u32_xor_nat (s4 &&& s5) (z2 &&& s6) (and_lt32 b4) (and_lt32 l2)
      obtain ⟨x2, hx2⟩ : ∃ z, z = (s4 &&& s5) ^^^ (z2 &&& s6) := ⟨_, rfl⟩
      rw [← hx2] at n4
      obtain ⟨v2, hv2⟩ : ∃ z, z = add32 v1 x2 := ⟨_, rfl⟩
      have n5 := add32_mod v1 x2
      rw [← hv2] at n5
      have HZ2 := Aside0.mk hz2
      have HX2 := Aside0.mk hx2
      have HV2 := Aside0.mk hv2
      clear hz2 hx2 hv2 HX0
      go_wp2_with fail
      clear n1 n2 n3 n4 n5 c5 c6
      have ck : w9.cell? ⟨gk, t, none⟩ = some (.int .u32 (KS.getD t 0 : Int)) := by
        have h0 : w.cell? ⟨gk, t, none⟩ = some (.int .u32 (KS.getD t 0 : Int)) := (blk_cell HK.out t).trans (HKE.out t hlt)
        exact (H9.out.below.cell (blk_lt HK.out)).trans h0
      have cw : w9.cell? ⟨g7, t, none⟩ = some (.int .u32 (ws.getD t 0 : Int)) := H9.out.cell 1 rfl t (HWE.out t hlt)
      generalize KS.getD t 0 = kt at *
      generalize ws.getD t 0 = wt at *
      have n1 := add32_mod kt wt
      generalize hy3 : add32 kt wt = y3 at *
      have n2 := add32_mod v2 y3
      obtain ⟨v3, hv3⟩ : ∃ z, z = add32 v2 y3 := ⟨_, rfl⟩
      rw [← hv3] at n2
      have HY3 := Aside0.mk hy3
      have HV3 := Aside0.mk hv3
      clear hy3 hv3
      go_region
      rw [n2]
      have H10 := Aside0.mk H9.out.drew
      clear n1 n2 ck cw H9
      generalize w9.drew = w10 at *
      go_wp2_with (first
        | ((with_reducible refine gate_dst (N := 55) rfl ?_); refine ints_lit rfl (N := 55) rfl [2, 13, 22] (t := 3) ?hr55 ?_; (case hr55 => first | (go_simp; done) | (go_simp; rfl)); intro g11 w11 HC11 HB11; replace HC11 := Aside0.mk HC11; replace HB11 := Aside0.mk HB11))
      refine (turned_any s0 [2, 13, 22] b0 (by decide) (by decide) g11 3 w11 HC11.out).mono ?_
      rintro e w12 ⟨rfl, rfl⟩
      have H12 := Aside0.mk (H10.out.step HB11.out)
      have c1 : w12.cell? ⟨g8, 1, none⟩ = some (.int .u32 (s1 : Int)) := H12.out.cell 0 rfl 1 rfl
      have c2 : w12.cell? ⟨g8, 2, none⟩ = some (.int .u32 (s2 : Int)) := H12.out.cell 0 rfl 2 rfl
      generalize hy4 : turnedP s0 [2, 13, 22] = y4 at *
      have HY4 := Aside0.mk hy4
      clear hy4
      have n1 := u32_and_nat s0 s1 b0 b1
      have n2 := u32_and_nat s0 s2 b0 b2
      have n3 := u32_and_nat s1 s2 b1 b2
      have n4 := u32_xor_nat (s0 &&& s1) (s0 &&& s2) (and_lt32 b0) (and_lt32 b0)
      have n5 := u32_xor_nat ((s0 &&& s1) ^^^ (s0 &&& s2)) (s1 &&& s2) (xor_lt32 (and_lt32 b0) (and_lt32 b0)) (and_lt32 b1)
      obtain ⟨x5, hx5⟩ : ∃ z, z = (s0 &&& s1) ^^^ (s0 &&& s2) ^^^ (s1 &&& s2) := ⟨_, rfl⟩
      rw [← hx5] at n5
      have n6 := add32_mod y4 x5
      obtain ⟨v5, hv5⟩ : ∃ z, z = add32 y4 x5 := ⟨_, rfl⟩
      rw [← hv5] at n6
      have HX5 := Aside0.mk hx5
      have HV5 := Aside0.mk hv5
      clear hx5 hv5
      go_wp2_with fail
      rw [n6]
      clear n1 n2 n3 n4 n5 n6 c1 c2
      have H13 := Aside0.mk H12.out.drew
      have hsrc : ∀ j v, ([s0, s1, s2, s3, s4, s5, s6].map fun x : Nat => Value.int .u32 (x : Int))[j]? = some v → w12.drew.cell? ((⟨g8, 0, none⟩ : Addr).add j) = some v := fun j v hj => by
        rw [add_plain]
        refine H13.out.cell 0 rfl j ?_
        have h7 : j < 7 := by have := (List.getElem?_eq_some_iff.1 hj).1; simpa using this
        rw [← hj]
        have : j = 0 ∨ j = 1 ∨ j = 2 ∨ j = 3 ∨ j = 4 ∨ j = 5 ∨ j = 6 := by omega
        rcases this with rfl | rfl | rfl | rfl | rfl | rfl | rfl <;> rfl
      replace hsrc := Aside0.mk hsrc
      have hone : Aside0 (∀ v ∈ [s0, s1, s2, s3, s4, s5, s6].map (fun x : Nat => Value.int .u32 (x : Int)), v.oneCell' = true) := ⟨fun v hv => by obtain ⟨x, _, rfl⟩ := List.mem_map.1 hv; rfl⟩
      go_region_law ((refine step_copy_hold H13.out 0 g8 ([s0, s1, s2, s3, s4, s5, s6, s7].map fun x : Nat => Value.int .u32 (x : Int)) 187 rfl rfl (.tmp 74) (.tmp 75) 219 219 rfl 183 Try.underlying219 (by kernel_rfl) 1 ⟨g8, 0, none⟩ 7 7 7 8 (by rfl) (by rfl) ([s0, s1, s2, s3, s4, s5, s6].map fun x : Nat => Value.int .u32 (x : Int)) (by rfl) hsrc.out (by simp) hone.out ?_; intro w14 H14; replace H14 := Aside0.mk H14))
      clear hsrc hone H13
      have c4 : w14.cell? ⟨g8, 4, none⟩ = some (.int .u32 (s3 : Int)) := H14.out.cell 0 rfl 4 rfl
      have f4 : w14.frozen? ⟨g8, 4, none⟩ = false := H14.out.fz 0 rfl 4
      have n1 := add32_mod s3 v3
      have n2 := add32_mod v3 v5
      obtain ⟨v6, hv6⟩ : ∃ z, z = add32 s3 v3 := ⟨_, rfl⟩
      obtain ⟨v7, hv7⟩ : ∃ z, z = add32 v3 v5 := ⟨_, rfl⟩
      rw [← hv6] at n1
      rw [← hv7] at n2
      have HV6 := Aside0.mk hv6
      have HV7 := Aside0.mk hv7
      clear hv6 hv7
      have H15 := Aside0.mk (H14.out.put 0 rfl 4 (.int .u32 (v6 : Int)) rfl)
      have c0 : (w14.setCell ⟨g8, 4, none⟩ (.int .u32 (v6 : Int))).cell? ⟨g8, 0, none⟩ = some (.int .u32 (s0 : Int)) := H15.out.cell 0 rfl 0 rfl
      have f0 : (w14.setCell ⟨g8, 4, none⟩ (.int .u32 (v6 : Int))).frozen? ⟨g8, 0, none⟩ = false := H15.out.fz 0 rfl 0
      have H16 := Aside0.mk (H15.out.put 0 rfl 0 (.int .u32 (v7 : Int)) rfl)
      go_wp2_with fail
      clear c4 f4 n1 n2 c0 f0
      have HE : Aside0 (Holds w.heap.size w ((w14.setCell ⟨g8, 4, none⟩ (.int .u32 (v6 : Int))).setCell ⟨g8, 0, none⟩ (.int .u32 (v7 : Int))) [(g8, cellsW (stR q ws (t + 1)), 187), (g7, cellsW ws, 185), (g6, Array.replicate 8 (.int .u32 0), 187), (g3, cellsW q, 187)]) := ⟨by
        have h := H16.out
        rw [HN.out]
        have e : roundP [s0, s1, s2, s3, s4, s5, s6, s7] kt wt = [v7, s0, s1, s2, v6, s4, s5, s6] := by
          rw [HV7.out, HV6.out, HV5.out, HV3.out, HV2.out, HV1.out, ← HY3.out, HX5.out, HX2.out, HZ2.out, ← HY1.out, ← HY4.out]
          rfl
        rw [e]
        exact h⟩
      go_roundw
      case rel => exact ⟨t + 1, hlt, by go_num, HE⟩
      case measure => simp [intOf]; omega
    · have hdl : decide (t < 64) = false := decide_eq_false hlt
      have he : t = 64 := by omega
      subst he
      clear hlt
      go_wp2_with fail
      have Hs8 := Aside0.mk (stR_len q ws hh 64)
      have HFIN : Aside0 (List.zipWith add32 q (stR q ws 64) = blockP q b) := ⟨by
        rw [stR_eq q ws HL.out 64 (by decide), List.take_of_length_le (by rw [List.length_zip, HL.out]; decide), ← HWS.out]; rfl⟩
      generalize stR q ws 64 = s at *
      go_loopw [87] (fun v87 wk => ∃ i : Nat, i ≤ 8 ∧ v87 = .int .i64 (i : Int) ∧ Aside0 (Holds w.heap.size w wk [(g8, cellsW s, 187), (g7, cellsW ws, 185), (g6, Array.replicate 8 (.int .u32 0), 187), (g3, cellsW (addT q s i), 187)])) (fun v87 _ => 8 - (intOf v87).toNat)
      case atStart => exact ⟨0, Nat.zero_le _, rfl, HR⟩
      case round =>
        obtain ⟨i, hi, rfl, HI⟩ := hrel
        by_cases hlt : i < 8
        · have hdl : decide (i < 8) = true := decide_eq_true hlt
          have HAT := Aside0.mk (addT_at q s hh Hs8.out i hlt)
          have ca : wr.cell? ⟨g3, i, none⟩ = some (.int .u32 (q.getD i 0 : Int)) := HI.out.cell 3 rfl i HAT.out.1
          have cb : wr.cell? ⟨g8, i, none⟩ = some (.int .u32 (s.getD i 0 : Int)) := HI.out.cell 0 rfl i HAT.out.2.1
          have fa : wr.frozen? ⟨g3, i, none⟩ = false := HI.out.fz 3 rfl i
          have HI2 := Aside0.mk (HI.out.put 3 rfl i (.int .u32 (add32 (q.getD i 0) (s.getD i 0) : Int)) HAT.out.2.2).drew
          generalize q.getD i 0 = x at *
          generalize s.getD i 0 = y at *
          have n1 := add32_mod x y
          generalize add32 x y = z at *
          go_wp2_with fail
          go_region
          go_wp2_with fail
          go_roundw
          case rel => exact ⟨i + 1, hlt, by go_num, HI2⟩
          case measure => simp [intOf]; omega
        · have hdl : decide (i < 8) = false := decide_eq_false hlt
          have he : i = 8 := by omega
          subst he
          clear hlt
          have HZ : Aside0 (Arr 8 (cellsW (addT q s 8))) := ⟨Arr_W (by rw [addT_end q s hh Hs8.out, List.length_zipWith, hh, Hs8.out]; rfl)⟩
          have HFE : Aside0 (addT q s 8 = blockP q b) := ⟨(addT_end q s hh Hs8.out).trans HFIN.out⟩
          generalize addT q s 8 = res at *
          go_wp2_with (first
            | fail
            | ((with_reducible refine gate_dst (N := 99) rfl ?_); refine hold_load HI.out 3 g3 _ 187 rfl rfl (.tmp 3) rfl (by rfl) Try.underlying187 8 HZ.out (by kernel_rfl) ?_)
            | ((with_reducible refine hold_store HI.out 2 g6 _ 187 rfl rfl (.tmp 6) (.tmp 99) rfl (cellsW res) ?_ ?_ 8 R8.out HZ.out (by kernel_rfl) ?_); (case _ => rfl); (case _ => rfl); intro w20 H20; replace H20 := Aside0.mk H20)
            )
          refine bodyPost_ret (hold_result rfl _ H20.out 2 g6 (cellsW res) rfl rfl Try.underlying187 8 HZ.out (by kernel_rfl)) rfl ?_
          exact ⟨by rw [HFE.out], H20.out.below⟩
end Go.Proofs.Ytocphkfkdadhaaa.H

namespace Go.Proofs.Ytocphkfkdadhaaa.H
open Go.RowKit Go.Proofs.YtocphkfkdadhaaaW.PrintWords Go.Proofs.YtocphkfkdadhaaaW.PrintLast Go.Proofs.YtocphkfkdadhaaaW.PrintMore
set_option linter.unusedVariables false
set_option linter.unusedSimpArgs false
abbrev kB : Kd Int := Kd.int .u8
theorem Flat_B : Flat kB := Flat_int .u8
theorem infoB : (Try.prog.info? 5).map (fun i => (i.zero, i.size, i.bytes)) = some (some (.int .u8 0), 1, 1) := by kernel_rfl
def Byt (l : List Int) : Prop := ∀ x ∈ l, 0 ≤ x ∧ x ≤ 255
def toN (l : List Int) : List Nat := l.map Int.toNat
def toI (l : List Nat) : List Int := l.map fun x : Nat => (x : Int)
theorem toN_toI (l : List Nat) : toN (toI l) = l := by
  simp only [toI, toN, List.map_map]
  conv => rhs; rw [← List.map_id l]
  exact List.map_congr_left fun x _ => by simp
theorem toN_lt {l : List Int} (h : Byt l) : ∀ x ∈ toN l, x < 256 := by
  intro x hx
  obtain ⟨y, hy, rfl⟩ := List.mem_map.1 hx
  have := h y hy
  omega
theorem toI_byt {l : List Nat} (h : ∀ x ∈ l, x < 256) : Byt (toI l) := by
  intro x hx
  obtain ⟨y, hy, rfl⟩ := List.mem_map.1 hx
  have := h y hy
  omega
def shaI (l : List Int) : List Int := toI (shaP (toN l))
def leafI (l : List Int) : List Int := shaI (0 :: l)
def pairI (x y : List Int) : List Int := shaI (1 :: x ++ y)
def cellsB (l : List Int) : Array Value := (l.map (Value.int .u8)).toArray
theorem Arr_B {l : List Int} {n : Nat} (h : l.length = n) : Arr n (cellsB l) := ⟨by simp [cellsB, h], all_oneCell_toArray (by
  intro v hv
  obtain ⟨x, _, rfl⟩ := List.mem_map.1 hv
  rfl)⟩
def kH : Kd (List Int) where
  sz := 32
  E := []
  K := fun _ x cs => x.length = 32 ∧ cs = x.map (Value.int .u8)
  M := fun _ _ _ x cs => x.length = 32 ∧ cs = x.map (Value.int .u8)
  K_len := fun h => by rw [h.2, List.length_map, h.1]
  K_one := fun h u hu => by
    rw [h.2] at hu
    obtain ⟨x, _, rfl⟩ := List.mem_map.1 hu
    rfl
  K_below := fun _ h => h
  K_of_M := fun h => h
  M_mono := fun _ h => h
  M_bound := fun h => h
  M_move := fun _ h => h
  M_lower := fun _ h => h
theorem Flat_H : Flat kH := fun h => h
def lenV : Value → Nat
  | .slice _ n _ => n
  | _ => 0
theorem cloneB_any (A : Option Addr) (c : Nat) (l : List Int) (w : World) (hr : Kd.C kB w A l.length l) (hc : l.length ≤ c) (hl : l.length ≤ 140737488355327) :
    Calls Try.prog 152 #[.slice A l.length c] w fun e w' => ∃ v : Value, e = .returned v ∧ Own w.heap.size w w' [.row kB 5 v l] := by
  have HR := Aside0.mk hr
  have HC := Aside0.mk hc
  have HL := Aside0.mk hl
  clear hr hc hl
  have H0 := Aside0.mk (Own.start w)
  have hq := fun W => Lib.run_eql_slice_nil (P := Try.prog) W 74 5 A l.length c 0 0 Try.underlying74
  cases A with
  | none =>
    simp only [Option.isNone_none] at hq
    have h0 : l = [] := by
      cases l with
      | nil => rfl
      | cons x l => obtain ⟨ad, h, _⟩ := HR.out.2.2 (by simp); cases h
    subst h0
    simp only [List.length_nil] at hq ⊢
    go_enter Try.func152, Try.ntmps152
    go_wp2
    go_ret
    exact ⟨_, rfl, H0.out.null kB 5⟩
  | some ad =>
    simp only [Option.isNone_some] at hq
    go_enter Try.func152, Try.ntmps152
    go_wp2_with (first
      | fail
      | ((with_reducible refine gate_dst (N := 5) rfl ?_); refine own_lit kB Flat_B H0.out 5 rfl (N := 5) rfl (xs := ([] : List Int)) (inner := (([] : List Int)).map (Value.int .u8)) ?hr5 (Kd.reps_scalar _) (by simp) ?_; (case hr5 => first | (go_simp; done) | (go_simp; rfl)); intro A1 c1 w1 H1 B1; replace H1 := Aside0.mk H1; replace B1 := Aside0.mk B1)
      | ((with_reducible refine gate_dst (N := 7) rfl ?_); (with_reducible refine gate_builtin (b := .append) (xs := #[.tmp 5, .tmp 6]) rfl ?_); refine own_append_row kB Flat_B H1.out 0 rfl rfl (.tmp 5) (.tmp 6) 74 (.int .u8 0) 1 rfl Try.underlying74 infoB rfl (by decide) (by decide) (l) _ _ _ rfl rfl (Kd.C_below HR.out B1.out) ?_ ?_; (case _ => (have := HL.out; simp; omega)); intro v2 w2 H2; replace H2 := Aside0.mk H2)
      )
    go_ret
    exact ⟨_, rfl, H2.out⟩
end Go.Proofs.Ytocphkfkdadhaaa.H

namespace Go.Proofs.Ytocphkfkdadhaaa.H
open Go.RowKit Go.Proofs.YtocphkfkdadhaaaW.PrintWords Go.Proofs.YtocphkfkdadhaaaW.PrintLast Go.Proofs.YtocphkfkdadhaaaW.PrintMore
set_option linter.unusedVariables false
set_option linter.unusedSimpArgs false
def be8I (n : Nat) : List Int := toI (be8 n)
def padI (l : List Int) : List Int := l ++ [128] ++ List.replicate (zerosP l.length) 0 ++ be8I (l.length * 8)
theorem be8_len (n : Nat) : (be8 n).length = 8 := rfl
theorem padI_toN (l : List Int) : toN (padI l) = paddedP (toN l) := by
  have h : toN (List.replicate (zerosP l.length) 0) = List.replicate (zerosP l.length) 0 := by simp [toN]
  unfold padI paddedP
  simp only [toN, List.map_append] at h ⊢
  rw [h]
  have h2 : (be8I (l.length * 8)).map Int.toNat = be8 (l.length * 8) := toN_toI _
  rw [h2, List.length_map]
  rfl
theorem padI_byt {l : List Int} (h : Byt l) : Byt (padI l) := by
  intro x hx
  simp only [padI, List.mem_append, List.mem_singleton, List.mem_replicate] at hx
  rcases hx with ((hx | hx) | hx) | hx
  · exact h x hx
  · omega
  · omega
  · refine toI_byt ?_ x hx
    intro y hy
    simp only [be8, List.mem_cons, List.not_mem_nil, or_false] at hy
    omega
theorem be8_at (n j : Nat) (h : j < 8) : (be8I n)[j]? = some ((n / 2 ^ (56 - 8 * j) % 256 : Nat) : Int) := by
  have : j = 0 ∨ j = 1 ∨ j = 2 ∨ j = 3 ∨ j = 4 ∨ j = 5 ∨ j = 6 ∨ j = 7 := by omega
  rcases this with rfl | rfl | rfl | rfl | rfl | rfl | rfl | rfl <;> first | rfl | simp [be8I, toI, be8]
theorem be8_take (n j : Nat) (h : j < 8) : (be8I n).take (j + 1) = (be8I n).take j ++ [((n / 2 ^ (56 - 8 * j) % 256 : Nat) : Int)] := by
  have h1 := be8_at n j h
  obtain ⟨hl, he⟩ := List.getElem?_eq_some_iff.1 h1
  rw [List.take_succ_eq_append_getElem hl, he]
theorem be8_tlen (n j : Nat) (h : j ≤ 8) : ((be8I n).take j).length = j := by
  rw [List.length_take, show (be8I n).length = 8 by simp [be8I, toI, be8_len]]
  omega
theorem cast_shr8 (m k : Nat) : ((m / 2 ^ k % 256 : Nat) : Int) = (m : Int) / 2 ^ k % 256 := by
  simp only [Int.natCast_emod, Int.natCast_ediv, Int.natCast_pow]; rfl
theorem zeros_test (n z : Nat) (hz : z ≤ zerosP n) : ((((n + 1 + z : Nat) : Int) % 64 != 56) = true) ↔ z < zerosP n := by
  rw [bne_iff_ne]
  unfold zerosP at *
  omega
set_option maxHeartbeats 2000000 in
set_option maxRecDepth 100000 in
theorem padded_any (A : Option Addr) (c : Nat) (l : List Int) (w : World) (hC : Kd.C kB w A l.length l) (hc : l.length ≤ c) (hl : l.length ≤ 140737488355200) :
    Calls Try.prog 125 #[.slice A l.length c] w fun e w' => ∃ v : Value, e = .returned v ∧ Own w.heap.size w w' [.row kB 5 v (padI l)] := by
  have HZT := Aside0.mk (zeros_test l.length)
  have HZL : Aside0 (zerosP l.length ≤ 63) := ⟨by unfold zerosP; omega⟩
  have HP : Aside0 (padI l = l ++ [128] ++ List.replicate (zerosP l.length) 0 ++ be8I (l.length * 8)) := ⟨rfl⟩
  have HCL := Aside0.mk (cloneB_any A c l w hC hc (by omega))
  obtain ⟨n, hn⟩ : ∃ n, n = l.length := ⟨_, rfl⟩
  have HN := Aside0.mk hn
  rw [← hn] at HZT HZL HP hl HCL ⊢
  clear hn hC hc
  generalize padI l = res at *
  generalize zerosP n = zn at *
  go_enter Try.func125, Try.ntmps125
  go_wp2_with fail
  refine HCL.out.mono ?_
  rintro e w1 ⟨v1, rfl, H1⟩
  replace H1 := Aside0.mk H1
  go_wp2_with (first
    | fail
    | ((with_reducible refine gate_dst (N := 9) rfl ?_); (with_reducible refine gate_builtin (b := .append) (xs := #[.tmp 7, .tmp 8]) rfl ?_); refine own_append kB Flat_B H1.out 0 rfl rfl (.tmp 7) (.tmp 8) 74 (.int .u8 0) 1 rfl Try.underlying74 infoB rfl (by decide) (by decide) (128) [.int .u8 (128)] (fun _ => rfl) rfl rfl ?_ ?_; (case _ => (have := HN.out; omega)); intro v2 w2 H2; replace H2 := Aside0.mk H2)
    )
  go_loopw [3] (fun v3 wr => ∃ z n3 A c, z ≤ zn ∧ n3 = n + 1 + z ∧ v3 = .slice A n3 c ∧ Aside0 (Own w.heap.size w wr [.row kB 5 (.slice A n3 c) (l ++ [128] ++ List.replicate z 0)])) (fun v3 _ => n + 1 + zn - lenV v3)
  case atStart =>
    obtain ⟨A2, c2, rfl, _⟩ := H2.out.reads 0 rfl
    exact ⟨0, _, A2, c2, Nat.zero_le _, by have := HN.out; simp; omega, rfl, ⟨by simpa using H2.out⟩⟩
  case round =>
    obtain ⟨z, n3, A3, c3, hz, hn3, rfl, H3⟩ := hrel
    have hzt := HZT.out z hz
    rw [← hn3] at hzt
    by_cases hlt : z < zn
    · have hdl := hzt.2 hlt
      have HL3 : Aside0 ((l ++ [128] ++ List.replicate z 0).length = n3) := ⟨by have := HN.out; simp; omega⟩
      clear hzt
      have HN3 := Aside0.mk hn3
      clear hn3
      go_wp2_with (first
        | fail
        | ((with_reducible refine gate_dst (N := 16) rfl ?_); (with_reducible refine gate_builtin (b := .append) (xs := #[.tmp 14, .tmp 15]) rfl ?_); refine own_append kB Flat_B H3.out 0 rfl rfl (.tmp 14) (.tmp 15) 74 (.int .u8 0) 1 rfl Try.underlying74 infoB rfl (by decide) (by decide) (0) [.int .u8 (0)] (fun _ => rfl) rfl rfl ?_ ?_; (case _ => (have := HL3.out; have := HN3.out; have := HZL.out; omega)); intro v4 w4 H4; replace H4 := Aside0.mk H4)
        )
      obtain ⟨A4, c4, rfl, _⟩ := H4.out.reads 0 rfl
      have HL4 : Aside0 ((l ++ [128] ++ List.replicate z 0 ++ [0]).length = n3 + 1) := ⟨by have := HL3.out; rw [List.length_append, this]; rfl⟩
      have HE : Aside0 (l ++ [128] ++ List.replicate z 0 ++ [0] = l ++ [128] ++ List.replicate (z + 1) 0) := ⟨by rw [List.append_assoc, List.replicate_succ']⟩
      rw [HL4.out] at H4 ⊢
      rw [HE.out] at H4
      go_roundw
      case rel => exact ⟨z + 1, n3 + 1, A4, c4, hlt, by have := HN3.out; omega, rfl, H4⟩
      case measure => simp [lenV]; have := HN3.out; omega
    · have hdl : (((n3 : Nat) : Int) % 64 != 56) = false := by
        cases h : (((n3 : Nat) : Int) % 64 != 56)
        · rfl
        · exact absurd (hzt.1 h) hlt
      have hze : z = zn := by omega
      subst hze
      clear hzt hlt
      have HN3 := Aside0.mk hn3
      clear hn3
      go_wp2_with fail
      have hn64 : (n : Int) * 8 ≤ 18446744073709551615 := by omega
      have HXL : Aside0 ((l ++ [128] ++ List.replicate z 0).length = n3) := ⟨by have := HN.out; have := HN3.out; simp; omega⟩
      generalize l ++ [128] ++ List.replicate z 0 = xs at *
      have HB8 := Aside0.mk (fun j h => be8_take (n * 8) j h)
      have HBL := Aside0.mk (fun j h => be8_tlen (n * 8) j h)
      have HB9 : Aside0 ((be8I (n * 8)).take 8 = be8I (n * 8)) := ⟨List.take_of_length_le (by simp [be8I, toI, be8_len])⟩
      generalize be8I (n * 8) = b8 at *
      have e8 : (n : Int) * 8 = ((n * 8 : Nat) : Int) := by omega
      rw [e8]
      clear hz hdl e8 hn64
      generalize n * 8 = m at *
      go_loopw [3, 5] (fun v3 v5 wr => ∃ j n4 A c, j ≤ 8 ∧ n4 = n3 + j ∧ v5 = .int .i64 (56 - 8 * (j : Int)) ∧ v3 = .slice A n4 c ∧ Aside0 (Own w.heap.size w wr [.row kB 5 (.slice A n4 c) (xs ++ b8.take j)])) (fun v3 v5 _ => n3 + 8 - lenV v3)
      case atStart => exact ⟨0, n3, A3, c3, by decide, rfl, rfl, rfl, ⟨by simpa using H3.out⟩⟩
      case round =>
        obtain ⟨j, n4, A4, c4, hj, hn4, rfl, rfl, H4⟩ := hrel
        have HN4 := Aside0.mk hn4
        clear hn4
        by_cases hlt : j < 8
        · have HT := Aside0.mk ((HB8.out j hlt).trans (by rw [cast_shr8 m (56 - 8 * j)]))
          have HL4 : Aside0 ((xs ++ b8.take j).length + 1 ≤ 140737488355328) := ⟨by have := HXL.out; have := HBL.out j hj; have := HN3.out; have := HZL.out; rw [List.length_append]; omega⟩
          have HL5 : Aside0 ((xs ++ b8.take (j + 1)).length = n4 + 1) := ⟨by have := HXL.out; have := HBL.out (j + 1) (by omega); have := HN4.out; rw [List.length_append]; omega⟩
          have hge : (0 : Int) ≤ 56 - 8 * (j : Int) := by omega
          go_wp2_with (first
            | fail
            | ((with_reducible refine gate_dst (N := 31) rfl ?_); (with_reducible refine gate_builtin (b := .append) (xs := #[.tmp 25, .tmp 30]) rfl ?_); refine own_append kB Flat_B H4.out 0 rfl rfl (.tmp 25) (.tmp 30) 74 (.int .u8 0) 1 rfl Try.underlying74 infoB rfl (by decide) (by decide) ((m : Int) / 2 ^ (56 - 8 * j) % 256) [.int .u8 ((m : Int) / 2 ^ (56 - 8 * j) % 256)] (fun _ => rfl) rfl rfl ?_ ?_; (case _ => (have := HL4.out; omega)); intro v5 w5 H5; replace H5 := Aside0.mk H5)
            )
          obtain ⟨A5, c5, rfl, _⟩ := H5.out.reads 0 rfl
          have HE : Aside0 (xs ++ b8.take j ++ [(m : Int) / 2 ^ (56 - 8 * j) % 256] = xs ++ b8.take (j + 1)) := ⟨by rw [HT.out, List.append_assoc]⟩
          rw [HE.out] at H5 ⊢
          rw [HL5.out] at H5 ⊢
          go_wp2_with fail
          go_roundw
          case rel => exact ⟨j + 1, n4 + 1, A5, c5, hlt, by have := HN4.out; omega, by go_num, rfl, H5⟩
          case measure => simp [lenV]; have := HN4.out; omega
        · have hje : j = 8 := by omega
          subst hje
          clear hlt
          go_wp2_with fail
          go_ret
          exact ⟨_, rfl, by have h := H4.out; rw [HB9.out, ← HP.out] at h; exact h⟩
end Go.Proofs.Ytocphkfkdadhaaa.H

namespace Go.Proofs.Ytocphkfkdadhaaa.H
open Go.RowKit Go.Proofs.YtocphkfkdadhaaaW.PrintWords Go.Proofs.YtocphkfkdadhaaaW.PrintLast Go.Proofs.YtocphkfkdadhaaaW.PrintMore
set_option linter.unusedVariables false
set_option linter.unusedSimpArgs false
set_option maxHeartbeats 2000000 in
set_option maxRecDepth 100000 in
theorem rpadded_any (A : Option Addr) (c : Nat) (l : List Int) (w : World) (hC : Kd.C kB w A l.length l) (hc : l.length ≤ c) (hl : l.length ≤ 140737488355200) :
    Calls Try.prog 127 #[.slice A l.length c] w fun e w' => ∃ v : Value, e = .returned v ∧ Own w.heap.size w w' [.row kB 5 v (padI l)] := by
  have HZT := Aside0.mk (zeros_test l.length)
  have HZL : Aside0 (zerosP l.length ≤ 63) := ⟨by unfold zerosP; omega⟩
  have HP : Aside0 (padI l = l ++ [128] ++ List.replicate (zerosP l.length) 0 ++ be8I (l.length * 8)) := ⟨rfl⟩
  have HCC := Aside0.mk hC
  have H0 := Aside0.mk (Own.start w)
  obtain ⟨n, hn⟩ : ∃ n, n = l.length := ⟨_, rfl⟩
  have HN := Aside0.mk hn
  rw [← hn] at HZT HZL HP hl HCC ⊢
  clear hn hC hc
  generalize padI l = res at *
  generalize zerosP n = zn at *
  go_enter Try.func127, Try.ntmps127
  go_wp2_with (first
    | fail
    | ((with_reducible refine gate_dst (N := 6) rfl ?_); refine own_lit kB Flat_B H0.out 5 rfl (N := 6) rfl (xs := ([] : List Int)) (inner := (([] : List Int)).map (Value.int .u8)) ?hr6 (Kd.reps_scalar _) (by simp) ?_; (case hr6 => first | (go_simp; done) | (go_simp; rfl)); intro A1 c1 w1 H1 B1; replace H1 := Aside0.mk H1; replace B1 := Aside0.mk B1)
    | ((with_reducible refine gate_dst (N := 8) rfl ?_); (with_reducible refine gate_builtin (b := .append) (xs := #[.tmp 6, .tmp 7]) rfl ?_); refine own_append_row kB Flat_B H1.out 0 rfl rfl (.tmp 6) (.tmp 7) 74 (.int .u8 0) 1 rfl Try.underlying74 infoB rfl (by decide) (by decide) (l) _ _ _ rfl rfl (Kd.C_below HCC.out B1.out) ?_ ?_; (case _ => (have := HN.out; simp; omega)); intro v1 w1' H1'; replace H1' := Aside0.mk H1')
    | ((with_reducible refine gate_dst (N := 10) rfl ?_); (with_reducible refine gate_builtin (b := .append) (xs := #[.tmp 8, .tmp 9]) rfl ?_); refine own_append kB Flat_B H1'.out 0 rfl rfl (.tmp 8) (.tmp 9) 74 (.int .u8 0) 1 rfl Try.underlying74 infoB rfl (by decide) (by decide) (128) [.int .u8 (128)] (fun _ => rfl) rfl rfl ?_ ?_; (case _ => (have := HN.out; simp; omega)); intro v2 w2 H2; replace H2 := Aside0.mk H2)
    )
  go_loopw [3] (fun v3 wr => ∃ z n3 A c, z ≤ zn ∧ n3 = n + 1 + z ∧ v3 = .slice A n3 c ∧ Aside0 (Own w.heap.size w wr [.row kB 5 (.slice A n3 c) (l ++ [128] ++ List.replicate z 0)])) (fun v3 _ => n + 1 + zn - lenV v3)
  case atStart =>
    obtain ⟨A2, c2, rfl, _⟩ := H2.out.reads 0 rfl
    exact ⟨0, _, A2, c2, Nat.zero_le _, by have := HN.out; simp; omega, rfl, ⟨by simpa using H2.out⟩⟩
  case round =>
    obtain ⟨z, n3, A3, c3, hz, hn3, rfl, H3⟩ := hrel
    have hzt := HZT.out z hz
    rw [← hn3] at hzt
    by_cases hlt : z < zn
    · have hdl := hzt.2 hlt
      have HL3 : Aside0 ((l ++ [128] ++ List.replicate z 0).length = n3) := ⟨by have := HN.out; simp; omega⟩
      clear hzt
      have HN3 := Aside0.mk hn3
      clear hn3
      go_wp2_with (first
        | fail
        | ((with_reducible refine gate_dst (N := 17) rfl ?_); (with_reducible refine gate_builtin (b := .append) (xs := #[.tmp 15, .tmp 16]) rfl ?_); refine own_append kB Flat_B H3.out 0 rfl rfl (.tmp 15) (.tmp 16) 74 (.int .u8 0) 1 rfl Try.underlying74 infoB rfl (by decide) (by decide) (0) [.int .u8 (0)] (fun _ => rfl) rfl rfl ?_ ?_; (case _ => (have := HL3.out; have := HN3.out; have := HZL.out; omega)); intro v4 w4 H4; replace H4 := Aside0.mk H4)
        )
      obtain ⟨A4, c4, rfl, _⟩ := H4.out.reads 0 rfl
      have HL4 : Aside0 ((l ++ [128] ++ List.replicate z 0 ++ [0]).length = n3 + 1) := ⟨by have := HL3.out; rw [List.length_append, this]; rfl⟩
      have HE : Aside0 (l ++ [128] ++ List.replicate z 0 ++ [0] = l ++ [128] ++ List.replicate (z + 1) 0) := ⟨by rw [List.append_assoc, List.replicate_succ']⟩
      rw [HL4.out] at H4 ⊢
      rw [HE.out] at H4
      go_roundw
      case rel => exact ⟨z + 1, n3 + 1, A4, c4, hlt, by have := HN3.out; omega, rfl, H4⟩
      case measure => simp [lenV]; have := HN3.out; omega
    · have hdl : (((n3 : Nat) : Int) % 64 != 56) = false := by
        cases h : (((n3 : Nat) : Int) % 64 != 56)
        · rfl
        · exact absurd (hzt.1 h) hlt
      have hze : z = zn := by omega
      subst hze
      clear hzt hlt
      have HN3 := Aside0.mk hn3
      clear hn3
      go_wp2_with fail
      have hn64 : (n : Int) * 8 ≤ 18446744073709551615 := by omega
      have HXL : Aside0 ((l ++ [128] ++ List.replicate z 0).length = n3) := ⟨by have := HN.out; have := HN3.out; simp; omega⟩
      generalize l ++ [128] ++ List.replicate z 0 = xs at *
      have HB8 := Aside0.mk (fun j h => be8_take (n * 8) j h)
      have HBL := Aside0.mk (fun j h => be8_tlen (n * 8) j h)
      have HB9 : Aside0 ((be8I (n * 8)).take 8 = be8I (n * 8)) := ⟨List.take_of_length_le (by simp [be8I, toI, be8_len])⟩
      generalize be8I (n * 8) = b8 at *
      have e8 : (n : Int) * 8 = ((n * 8 : Nat) : Int) := by omega
      rw [e8]
      clear hz hdl e8 hn64
      generalize n * 8 = m at *
      go_loopw [3, 5] (fun v3 v5 wr => ∃ j n4 A c, j ≤ 8 ∧ n4 = n3 + j ∧ v5 = .int .i64 (7 - (j : Int)) ∧ v3 = .slice A n4 c ∧ Aside0 (Own w.heap.size w wr [.row kB 5 (.slice A n4 c) (xs ++ b8.take j)])) (fun v3 v5 _ => n3 + 8 - lenV v3)
      case atStart => exact ⟨0, n3, A3, c3, by decide, rfl, rfl, rfl, ⟨by simpa using H3.out⟩⟩
      case round =>
        obtain ⟨j, n4, A4, c4, hj, hn4, rfl, rfl, H4⟩ := hrel
        have HN4 := Aside0.mk hn4
        clear hn4
        by_cases hlt : j < 8
        · have HT := Aside0.mk ((HB8.out j hlt).trans (by rw [show 56 - 8 * j = 8 * (7 - j) by omega, cast_shr8 m (8 * (7 - j))]))
          have HL4 : Aside0 ((xs ++ b8.take j).length + 1 ≤ 140737488355328) := ⟨by have := HXL.out; have := HBL.out j hj; have := HN3.out; have := HZL.out; rw [List.length_append]; omega⟩
          have HL5 : Aside0 ((xs ++ b8.take (j + 1)).length = n4 + 1) := ⟨by have := HXL.out; have := HBL.out (j + 1) (by omega); have := HN4.out; rw [List.length_append]; omega⟩
          have hge : (0 : Int) ≤ 7 - (j : Int) := by omega
          go_wp2_with (first
            | fail
            | ((with_reducible refine gate_dst (N := 34) rfl ?_); (with_reducible refine gate_builtin (b := .append) (xs := #[.tmp 26, .tmp 33]) rfl ?_); refine own_append kB Flat_B H4.out 0 rfl rfl (.tmp 26) (.tmp 33) 74 (.int .u8 0) 1 rfl Try.underlying74 infoB rfl (by decide) (by decide) ((m : Int) / 2 ^ (8 * (7 - j)) % 256) [.int .u8 ((m : Int) / 2 ^ (8 * (7 - j)) % 256)] (fun _ => rfl) rfl rfl ?_ ?_; (case _ => (have := HL4.out; omega)); intro v5 w5 H5; replace H5 := Aside0.mk H5)
            )
          obtain ⟨A5, c5, rfl, _⟩ := H5.out.reads 0 rfl
          have HE : Aside0 (xs ++ b8.take j ++ [(m : Int) / 2 ^ (8 * (7 - j)) % 256] = xs ++ b8.take (j + 1)) := ⟨by rw [HT.out, List.append_assoc]⟩
          rw [HE.out] at H5 ⊢
          rw [HL5.out] at H5 ⊢
          go_wp2_with fail
          go_roundw
          case rel => exact ⟨j + 1, n4 + 1, A5, c5, hlt, by have := HN4.out; omega, by go_num, rfl, H5⟩
          case measure => simp [lenV]; have := HN4.out; omega
        · have hje : j = 8 := by omega
          subst hje
          clear hlt
          go_wp2_with fail
          go_ret
          exact ⟨_, rfl, by have h := H4.out; rw [HB9.out, ← HP.out] at h; exact h⟩
end Go.Proofs.Ytocphkfkdadhaaa.H

namespace Go.Proofs.Ytocphkfkdadhaaa.H
open Go.RowKit Go.Proofs.YtocphkfkdadhaaaW.PrintWords Go.Proofs.YtocphkfkdadhaaaW.PrintLast Go.Proofs.YtocphkfkdadhaaaW.PrintMore
set_option linter.unusedVariables false
set_option linter.unusedSimpArgs false
theorem Own.put8 {B : Nat} {w0 W : World} {L : List Item} (h : Own B w0 W L) (k : Nat) {g : Nat} {t : TypeId} {a0 a1 a2 a3 a4 a5 a6 a7 : Value} (hk : L[k]? = some (.blk g #[a0, a1, a2, a3, a4, a5, a6, a7] t)) (b0 b1 b2 b3 b4 b5 b6 b7 : Value) :
    Own B w0 ((((((((W.setCell ⟨g, 0, none⟩ b0).setCell ⟨g, 1, none⟩ b1).setCell ⟨g, 2, none⟩ b2).setCell ⟨g, 3, none⟩ b3).setCell ⟨g, 4, none⟩ b4).setCell ⟨g, 5, none⟩ b5).setCell ⟨g, 6, none⟩ b6).setCell ⟨g, 7, none⟩ b7) (L.set k (.blk g #[b0, b1, b2, b3, b4, b5, b6, b7] t)) := by
  have hl : k < L.length := (List.getElem?_eq_some_iff.1 hk).1
  have hs : ∀ it : Item, (L.set k it)[k]? = some it := fun it => by rw [List.getElem?_set_self hl]
  have h0 := h.put k hk 0 b0 (cs' := #[b0, a1, a2, a3, a4, a5, a6, a7]) rfl
  have h1 := h0.put k (hs _) 1 b1 (cs' := #[b0, b1, a2, a3, a4, a5, a6, a7]) rfl
  have h2 := h1.put k (by rw [List.set_set]; exact hs _) 2 b2 (cs' := #[b0, b1, b2, a3, a4, a5, a6, a7]) rfl
  have h3 := h2.put k (by simp only [List.set_set]; exact hs _) 3 b3 (cs' := #[b0, b1, b2, b3, a4, a5, a6, a7]) rfl
  have h4 := h3.put k (by simp only [List.set_set]; exact hs _) 4 b4 (cs' := #[b0, b1, b2, b3, b4, a5, a6, a7]) rfl
  have h5 := h4.put k (by simp only [List.set_set]; exact hs _) 5 b5 (cs' := #[b0, b1, b2, b3, b4, b5, a6, a7]) rfl
  have h6 := h5.put k (by simp only [List.set_set]; exact hs _) 6 b6 (cs' := #[b0, b1, b2, b3, b4, b5, b6, a7]) rfl
  have h7 := h6.put k (by simp only [List.set_set]; exact hs _) 7 b7 (cs' := #[b0, b1, b2, b3, b4, b5, b6, b7]) rfl
  simpa only [List.set_set] using h7
def hsP (p : List Nat) : Nat → List Nat
  | 0 => HS
  | i + 1 => blockP (hsP p i) ((p.drop (64 * i)).take 64)
theorem blockP_len {h b : List Nat} (hh : h.length = 8) (hb : b.length = 64) : (blockP h b).length = 8 := by
  unfold blockP
  rw [List.length_zipWith, hh, ← List.take_of_length_le (l := KS.zip (spreadP b)) (i := 64) (by rw [List.length_zip, spreadP_len]; decide), ← stR_eq h (spreadP b) (spreadP_len b) 64 (by decide), stR_len h _ hh]
  rfl
theorem zipWith_lt : ∀ (a b : List Nat), ∀ x ∈ List.zipWith add32 a b, x < 4294967296
  | [], _, _, h => by simp at h
  | _ :: _, [], _, h => by simp at h
  | a :: ta, b :: tb, x, h => by
    simp only [List.zipWith_cons_cons, List.mem_cons] at h
    rcases h with rfl | h
    · exact add32_lt _ _
    · exact zipWith_lt ta tb x h
theorem blockP_lt (h b : List Nat) : ∀ x ∈ blockP h b, x < 4294967296 := zipWith_lt _ _
theorem hsP_ok (p : List Nat) (n : Nat) (hp : p.length = 64 * n) : ∀ i, i ≤ n → (hsP p i).length = 8 ∧ ∀ x ∈ hsP p i, x < 4294967296
  | 0, _ => ⟨rfl, show ∀ x ∈ HS, x < 4294967296 by decide⟩
  | i + 1, hi => ⟨blockP_len (hsP_ok p n hp i (by omega)).1 (by rw [List.length_take, List.length_drop]; omega), blockP_lt _ _⟩
theorem hsP_eq (p : List Nat) : ∀ (n i : Nat), blocksP n (hsP p i) (p.drop (64 * i)) = hsP p (i + n)
  | 0, i => rfl
  | n + 1, i => by
    show blocksP n (blockP (hsP p i) ((p.drop (64 * i)).take 64)) ((p.drop (64 * i)).drop 64) = _
    rw [List.drop_drop, show 64 * i + 64 = 64 * (i + 1) by omega, show blockP (hsP p i) ((p.drop (64 * i)).take 64) = hsP p (i + 1) from rfl, hsP_eq p n (i + 1)]
    congr 1; omega
theorem padI_len (l : List Int) : ∃ n, (padI l).length = 64 * n ∧ n ≤ l.length / 64 + 2 := by
  unfold padI zerosP
  simp only [List.length_append, List.length_replicate, List.length_singleton]
  rw [show (be8I (l.length * 8)).length = 8 by simp [be8I, toI, be8_len]]
  refine ⟨(l.length + 1 + (119 - l.length % 64) % 64 + 8) / 64, ?_, ?_⟩ <;> omega
theorem shaI_eq (l : List Int) (n : Nat) (hn : (padI l).length = 64 * n) : shaI l = toI ((hsP (toN (padI l)) n).flatMap bytes4) := by
  unfold shaI shaP
  rw [← padI_toN, show (toN (padI l)).length = 64 * n by rw [toN, List.length_map, hn], Nat.mul_div_cancel_left _ (by decide)]
  have := hsP_eq (toN (padI l)) n 0
  rw [Nat.mul_zero, List.drop_zero, Nat.zero_add] at this
  rw [show HS = hsP (toN (padI l)) 0 from rfl, this]
theorem shaI_len (l : List Int) : (shaI l).length = 32 := by
  obtain ⟨n, hn, _⟩ := padI_len l
  rw [shaI_eq l n hn]
  obtain ⟨a, b, c, d, e, f, g, i, h⟩ := eight (hsP_ok (toN (padI l)) n (by rw [toN, List.length_map, hn]) n (Nat.le_refl _)).1
  rw [h]; rfl
theorem shaI_byt (l : List Int) : Byt (shaI l) := by
  refine toI_byt fun x hx => ?_
  unfold shaP at hx
  obtain ⟨y, _, hy⟩ := List.mem_flatMap.1 hx
  simp only [bytes4, List.mem_cons, List.not_mem_nil, or_false] at hy
  omega
end Go.Proofs.Ytocphkfkdadhaaa.H

namespace Go.Proofs.Ytocphkfkdadhaaa.H
open Go.RowKit Go.Proofs.YtocphkfkdadhaaaW.PrintWords Go.Proofs.YtocphkfkdadhaaaW.PrintLast Go.Proofs.YtocphkfkdadhaaaW.PrintMore
set_option linter.unusedVariables false
set_option linter.unusedSimpArgs false
theorem Arr_KS : Arr 64 (cellsW KS) := Arr_W rfl
theorem Arr_HS : Arr 8 (cellsW HS) := Arr_W rfl
theorem row_cells {L : List Item} {B : Nat} {w0 W : World} (H : Own B w0 W L) (k : Nat) {g n c : Nat} {p : List Int} (hk : L[k]? = some (.row kB 5 (.slice (some ⟨g, 0, none⟩) n c) p)) (i : Nat) (hi : i < p.length) : W.cell? ⟨g, i, none⟩ = some (.int .u8 p[i]) := by
  have hC := H.C_of k hk
  have hn : p.length = n := hC.1
  obtain ⟨ad, he, hc⟩ := Kd.at_int hC (i : Int) (Int.natCast_nonneg i) (by omega)
  injection he with he
  subst he
  rw [Int.toNat_natCast, add_plain] at hc
  rw [hc]
  simp [rd, hi]
theorem chunk_cell (p : List Int) (hp : Byt p) (o i : Nat) (hi : i < ((toN p).drop o |>.take 64).length) : (((((toN p).drop o).take 64)[i] : Nat) : Int) = p[o + i]'(by simp [toN] at hi; omega) := by
  have h : o + i < p.length := by simp [toN] at hi; omega
  have : (((toN p).drop o).take 64)[i] = (p[o + i]).toNat := by simp [toN]
  rw [this]
  have := hp _ (List.getElem_mem h)
  omega
theorem fill_at (hs : List Nat) (h : hs.length = 8) (k j : Nat) (hk : k < 8) (hj : j < 4) : (toI (hs.flatMap bytes4)).getD (4 * k + j) 0 = ((hs.getD k 0 / 2 ^ (24 - 8 * j) % 256 : Nat) : Int) := by
  obtain ⟨h0, h1, h2, h3, h4, h5, h6, h7, rfl⟩ := eight h
  have e : ∀ x : Nat, bytes4 x = [x / 2 ^ 24 % 256, x / 2 ^ 16 % 256, x / 2 ^ 8 % 256, x / 2 ^ 0 % 256] := fun x => by simp [bytes4]
  have hk8 : k = 0 ∨ k = 1 ∨ k = 2 ∨ k = 3 ∨ k = 4 ∨ k = 5 ∨ k = 6 ∨ k = 7 := by omega
  have hj4 : j = 0 ∨ j = 1 ∨ j = 2 ∨ j = 3 := by omega
  simp only [List.flatMap_cons, List.flatMap_nil, e]
  rcases hk8 with rfl | rfl | rfl | rfl | rfl | rfl | rfl | rfl <;> rcases hj4 with rfl | rfl | rfl | rfl <;> rfl
theorem fill_put (full : List Int) (k : Nat) (hl : full.length = 32) (hk : k < 32) :
    (cellsB (full.take k ++ List.replicate (32 - k) 0))[k]? = some (.int .u8 0) ∧ (cellsB (full.take k ++ List.replicate (32 - k) 0)).setIfInBounds k (.int .u8 (full.getD k 0)) = cellsB (full.take (k + 1) ++ List.replicate (32 - (k + 1)) 0) := by
  have ht : (full.take k).length = k := by rw [List.length_take]; omega
  have e : List.replicate (32 - k) (0 : Int) = 0 :: List.replicate (32 - (k + 1)) 0 := by rw [show 32 - k = (32 - (k + 1)) + 1 by omega, List.replicate_succ]
  have hg : full.getD k 0 = full[k]'(by omega) := by simp [show k < full.length by omega]
  rw [e]
  constructor
  · simp only [cellsB, List.getElem?_toArray, List.map_append, List.map_cons]
    rw [List.getElem?_append_right (by rw [List.length_map, ht]; exact Nat.le_refl _), List.length_map, ht, Nat.sub_self]
    rfl
  · simp only [cellsB, List.setIfInBounds_toArray, List.map_append, List.map_cons]
    rw [List.set_append_right _ _ (by rw [List.length_map, ht]; exact Nat.le_refl _), List.length_map, ht, Nat.sub_self, List.set_cons_zero, List.take_succ_eq_append_getElem (by omega), hg]
    simp only [List.map_append, List.map_cons, List.map_nil, List.append_assoc, List.cons_append, List.nil_append]
set_option maxHeartbeats 4000000 in
set_option maxRecDepth 100000 in
theorem sum_any (A : Option Addr) (c : Nat) (l : List Int) (w : World) (hB : Byt l) (hC : Kd.C kB w A l.length l) (hc : l.length ≤ c) (hl : l.length ≤ 140737488355200) :
    Calls Try.prog 78 #[.slice A l.length c] w fun e w' => e = .returned (.agg (cellsB (shaI l))) ∧ Below w.heap.size w w' := by
  obtain ⟨nb, hnb, hnb2⟩ := padI_len l
  have HSH := Aside0.mk (shaI_eq l nb hnb)
  have HPB := Aside0.mk (padI_byt hB)
  have HPD := Aside0.mk (fun W h => padded_any A c l W h hc hl)
  have HC := Aside0.mk hC
  have HSL := Aside0.mk (shaI_len l)
  have HOK := Aside0.mk (hsP_ok (toN (padI l)) nb (by rw [toN, List.length_map, hnb]))
  have HNB := Aside0.mk hnb
  have HPP : Aside0 (0 < (padI l).length) := ⟨by simp [padI]; omega⟩
  have hnl : nb ≤ 2199023255560 := by omega
  have H0 := Aside0.mk (Own.start w)
  have HA1 := Aside0.mk Arr_KS
  have HA2 := Aside0.mk Arr_HS
  have R8 : Aside0 (Arr 8 (Array.replicate 8 (.int .u32 0))) := ⟨Arr_rep _ _ rfl⟩
  have R64 : Aside0 (Arr 64 (Array.replicate 64 (.int .u32 0))) := ⟨Arr_rep _ _ rfl⟩
  have R32 : Aside0 (Arr 32 (Array.replicate 32 (.int .u8 0))) := ⟨Arr_rep _ _ rfl⟩
  generalize padI l = p at *
  generalize shaI l = res at *
  clear hC hB hnb hnb2
  have HL := Aside0.mk hc
  clear hc
  generalize l.length = n at *
  go_enter Try.func78, Try.ntmps78
  go_wp2_with (first
    | fail
    | ((with_reducible refine gate_dst (N := 2) rfl ?_); refine own_alloc H0.out rfl (N := 2) rfl (t := 25) rfl (Array.replicate 32 (.int .u8 0)) 32 (by kernel_rfl) ?_; intro g2 w1 H1 B1; replace H1 := Aside0.mk H1; replace B1 := Aside0.mk B1)
    | (go_at_call 123; refine (factors_any _).mono ?_; rintro e w2 ⟨rfl, hB2⟩; have H2 := Aside0.mk (H1.out.step hB2); replace hB2 := Aside0.mk hB2)
    | (go_at_call 124; refine (first_any _).mono ?_; rintro e w3 ⟨rfl, hB3⟩; have H3 := Aside0.mk (H2.out.step hB3); replace hB3 := Aside0.mk hB3)
    | ((with_reducible refine gate_dst (N := 3) rfl ?_); refine own_alloc H3.out rfl (N := 3) rfl (t := 185) rfl (Array.replicate 64 (.int .u32 0)) 64 (by kernel_rfl) ?_; intro g3 w4 H4 B4; replace H4 := Aside0.mk H4; replace B4 := Aside0.mk B4)
    | ((with_reducible refine gate_dst (N := 4) rfl ?_); refine own_alloc H4.out rfl (N := 4) rfl (t := 187) rfl (Array.replicate 8 (.int .u32 0)) 8 (by kernel_rfl) ?_; intro g4 w5 H5 B5; replace H5 := Aside0.mk H5; replace B5 := Aside0.mk B5)
    | ((with_reducible refine own_store H5.out 1 g3 _ 185 rfl rfl (.tmp 3) (.tmp 10) rfl (cellsW KS) ?_ ?_ 64 R64.out HA1.out (by kernel_rfl) ?_); (case _ => rfl); (case _ => rfl); intro w6 H6; replace H6 := Aside0.mk H6)
    | ((with_reducible refine own_store H6.out 0 g4 _ 187 rfl rfl (.tmp 4) (.tmp 11) rfl (cellsW HS) ?_ ?_ 8 R8.out HA2.out (by kernel_rfl) ?_); (case _ => rfl); (case _ => rfl); intro w7 H7; replace H7 := Aside0.mk H7)
    | (go_at_call 125; refine (HPD.out _ (Kd.C_below HC.out H7.out.below)).mono ?_; rintro e w8 ⟨v8, rfl, hO8⟩; have H8 := Aside0.mk (H7.out.call hO8); replace hO8 := Aside0.mk hO8)
    )
  have hnb0 : 0 < nb := by have := HPP.out; have := HNB.out; omega
  obtain ⟨g8, c8, rfl, hc8⟩ := H8.out.form 0 rfl (by have := HNB.out; omega)
  rw [HNB.out] at H8 hO8 hc8 ⊢
  have HC8 := Aside0.mk hc8
  clear hc8 hO8
  go_loopw [5] (fun v5 wr => ∃ i A5 n5 c5, i ≤ nb ∧ n5 = 64 * (nb - i) ∧ v5 = .slice A5 n5 c5 ∧ n5 ≤ c5 ∧ Aside0 (i < nb → A5 = some ⟨g8, 64 * i, none⟩) ∧ Aside0 (Own w.heap.size w wr [.row kB 5 (.slice (some ⟨g8, 0, none⟩) (64 * nb) c8) p, .blk g4 (cellsW (hsP (toN p) i)) 187, .blk g3 (cellsW KS) 185, .blk g2 (Array.replicate 32 (.int .u8 0)) 25])) (fun v5 _ => lenV v5)
  case atStart => exact ⟨0, _, _, c8, Nat.zero_le _, by omega, rfl, HC8.out, ⟨fun _ => rfl⟩, H8⟩
  case round =>
    obtain ⟨i, A5, n5, c5, hi, hn5, rfl, hc5, HA5, HR⟩ := hrel
    by_cases hlt : i < nb
    · obtain rfl : A5 = some ⟨g8, 64 * i, none⟩ := HA5.out hlt
      have hn64 : 64 ≤ n5 := by omega
      have hdl : decide (0 < n5) = true := decide_eq_true (by omega)
      have hN5 := Aside0.mk hn5
      clear hn5 HA5
      have HX := Aside0.mk (HOK.out i hi)
      have HBL : Aside0 ((((toN p).drop (64 * i)).take 64).length = 64) := ⟨by have := HNB.out; simp [toN]; omega⟩
      have HTH := Aside0.mk (fun (W : World) hk (hrow : ∀ k (h : k < p.length), W.cell? ⟨g8, k, none⟩ = some (Value.int .u8 p[k])) => through_any (hsP (toN p) i) (((toN p).drop (64 * i)).take 64) HX.out.1 HX.out.2 HBL.out (fun x hx => toN_lt HPB.out x (List.mem_of_mem_drop (List.mem_of_mem_take hx))) g3 g8 (64 * i) 64 (Nat.le_refl _) W hk (fun j hj => by rw [chunk_cell p HPB.out (64 * i) j hj]; exact hrow _ _))
      have HNX : Aside0 (hsP (toN p) (i + 1) = blockP (hsP (toN p) i) (((toN p).drop (64 * i)).take 64)) := ⟨rfl⟩
      have HOKn := Aside0.mk (HOK.out (i + 1) hlt)
      generalize ((toN p).drop (64 * i)).take 64 = b at *
      obtain ⟨h0, h1, h2, h3, h4, h5, h6, h7, he⟩ := eight HX.out.1
      obtain ⟨r0, r1, r2, r3, r4, r5, r6, r7, hr⟩ := eight HOKn.out.1
      rw [hr] at HNX
      rw [he] at HR HTH HNX
      rw [← HNX.out] at HTH
      have HRR := Aside0.mk hr
      clear he hr HNX
      have c0 : wr.cell? ⟨g4, 0, none⟩ = some (.int .u32 (h0 : Int)) := HR.out.cell 1 rfl 0 rfl
      have c1 : wr.cell? ⟨g4, 1, none⟩ = some (.int .u32 (h1 : Int)) := HR.out.cell 1 rfl 1 rfl
      have c2 : wr.cell? ⟨g4, 2, none⟩ = some (.int .u32 (h2 : Int)) := HR.out.cell 1 rfl 2 rfl
      have c3 : wr.cell? ⟨g4, 3, none⟩ = some (.int .u32 (h3 : Int)) := HR.out.cell 1 rfl 3 rfl
      have c4 : wr.cell? ⟨g4, 4, none⟩ = some (.int .u32 (h4 : Int)) := HR.out.cell 1 rfl 4 rfl
      have c5' : wr.cell? ⟨g4, 5, none⟩ = some (.int .u32 (h5 : Int)) := HR.out.cell 1 rfl 5 rfl
      have c6 : wr.cell? ⟨g4, 6, none⟩ = some (.int .u32 (h6 : Int)) := HR.out.cell 1 rfl 6 rfl
      have c7 : wr.cell? ⟨g4, 7, none⟩ = some (.int .u32 (h7 : Int)) := HR.out.cell 1 rfl 7 rfl
      have HK : Aside0 (wr.heap[g3]? = some (.cells (cellsW KS) 185 (0, 0))) := ⟨HR.out.get 2 rfl⟩
      have hcl : (0 : Int) ≤ 64 ∧ (64 : Int) ≤ (c5 : Int) := by omega
      go_wp2_with fail
      go_region_with (first
        | (go_at_call 126; refine (HTH.out wr.drew HK.out (fun j hj => row_cells HR.out.drew 0 rfl j hj)).mono ?_; rintro e w9 ⟨he9, hB9⟩; obtain rfl : e = .returned (.agg #[.int .u32 (r0 : Int), .int .u32 (r1 : Int), .int .u32 (r2 : Int), .int .u32 (r3 : Int), .int .u32 (r4 : Int), .int .u32 (r5 : Int), .int .u32 (r6 : Int), .int .u32 (r7 : Int)]) := he9; have H9 := Aside0.mk (HR.out.drew.step hB9); have d0 : w9.cell? ⟨g4, 0, none⟩ = some (.int .u32 (h0 : Int)) := H9.out.cell 1 rfl 0 rfl; have f0 : w9.frozen? ⟨g4, 0, none⟩ = false := H9.out.fz 1 rfl 0; have d1 : w9.cell? ⟨g4, 1, none⟩ = some (.int .u32 (h1 : Int)) := H9.out.cell 1 rfl 1 rfl; have f1 : w9.frozen? ⟨g4, 1, none⟩ = false := H9.out.fz 1 rfl 1; have d2 : w9.cell? ⟨g4, 2, none⟩ = some (.int .u32 (h2 : Int)) := H9.out.cell 1 rfl 2 rfl; have f2 : w9.frozen? ⟨g4, 2, none⟩ = false := H9.out.fz 1 rfl 2; have d3 : w9.cell? ⟨g4, 3, none⟩ = some (.int .u32 (h3 : Int)) := H9.out.cell 1 rfl 3 rfl; have f3 : w9.frozen? ⟨g4, 3, none⟩ = false := H9.out.fz 1 rfl 3; have d4 : w9.cell? ⟨g4, 4, none⟩ = some (.int .u32 (h4 : Int)) := H9.out.cell 1 rfl 4 rfl; have f4 : w9.frozen? ⟨g4, 4, none⟩ = false := H9.out.fz 1 rfl 4; have d5 : w9.cell? ⟨g4, 5, none⟩ = some (.int .u32 (h5 : Int)) := H9.out.cell 1 rfl 5 rfl; have f5 : w9.frozen? ⟨g4, 5, none⟩ = false := H9.out.fz 1 rfl 5; have d6 : w9.cell? ⟨g4, 6, none⟩ = some (.int .u32 (h6 : Int)) := H9.out.cell 1 rfl 6 rfl; have f6 : w9.frozen? ⟨g4, 6, none⟩ = false := H9.out.fz 1 rfl 6; have d7 : w9.cell? ⟨g4, 7, none⟩ = some (.int .u32 (h7 : Int)) := H9.out.cell 1 rfl 7 rfl; have f7 : w9.frozen? ⟨g4, 7, none⟩ = false := H9.out.fz 1 rfl 7))
      have H10 := Aside0.mk (show Own w.heap.size w _ [.row kB 5 (.slice (some ⟨g8, 0, none⟩) (64 * nb) c8) p, .blk g4 (cellsW (hsP (toN p) (i + 1))) 187, .blk g3 (cellsW KS) 185, .blk g2 (Array.replicate 32 (.int .u8 0)) 25] from by
        rw [HRR.out]; exact H9.out.put8 1 rfl (.int .u32 (r0 : Int)) (.int .u32 (r1 : Int)) (.int .u32 (r2 : Int)) (.int .u32 (r3 : Int)) (.int .u32 (r4 : Int)) (.int .u32 (r5 : Int)) (.int .u32 (r6 : Int)) (.int .u32 (r7 : Int)))
      generalize ((((((((w9.setCell ⟨g4, 0, none⟩ (.int .u32 (r0 : Int))).setCell ⟨g4, 1, none⟩ (.int .u32 (r1 : Int))).setCell ⟨g4, 2, none⟩ (.int .u32 (r2 : Int))).setCell ⟨g4, 3, none⟩ (.int .u32 (r3 : Int))).setCell ⟨g4, 4, none⟩ (.int .u32 (r4 : Int))).setCell ⟨g4, 5, none⟩ (.int .u32 (r5 : Int))).setCell ⟨g4, 6, none⟩ (.int .u32 (r6 : Int))).setCell ⟨g4, 7, none⟩ (.int .u32 (r7 : Int))) = w10 at *
      clear c0 c1 c2 c3 c4 c5' c6 c7 d0 d1 d2 d3 d4 d5 d6 d7 f0 f1 f2 f3 f4 f5 f6 f7 HK H9 hB9 HR HTH hdl
      have hcn : (64 : Int) ≤ (n5 : Int) ∧ (n5 : Int) ≤ (c5 : Int) := by omega
      by_cases hlast : n5 = 64
      · go_wp2_with fail
        go_roundw
        case rel => exact ⟨i + 1, _, _, 0, hlt, by have := hN5.out; omega, rfl, Nat.le_refl _, ⟨fun h => absurd h (by have := hN5.out; omega)⟩, H10⟩
        case measure => simp [lenV]; omega
      · go_wp2_with fail
        go_roundw
        case rel => exact ⟨i + 1, _, _, _, hlt, by have := hN5.out; omega, rfl, Nat.le_refl _, ⟨fun h => by rw [Nat.mul_add]⟩, H10⟩
        case measure => simp [lenV]; omega
    · have hie : i = nb := by omega
      subst hie
      have h0 : n5 = 0 := by omega
      subst h0
      clear hlt HA5 hn5
      have hdl : decide (0 < 0) = false := by decide
      have HFL := Aside0.mk (fill_at (hsP (toN p) i) (HOK.out i (Nat.le_refl _)).1)
      have H8L := Aside0.mk (Arr_W (HOK.out i (Nat.le_refl _)).1)
      have HIX := Aside0.mk (show ∀ (m : Nat), m < 8 → (cellsW (hsP (toN p) i))[m]? = some (.int .u32 ((hsP (toN p) i).getD m 0 : Int)) from fun m hm => by rw [cellsW_at _ _ (by rw [(HOK.out i (Nat.le_refl _)).1]; exact hm), getD_at _ _ (by rw [(HOK.out i (Nat.le_refl _)).1]; exact hm)])
      have HFN : Aside0 ((toI ((hsP (toN p) i).flatMap bytes4)).length = 32) := ⟨by rw [← HSH.out]; exact HSL.out⟩
      have HRES := HSH.out
      generalize hsP (toN p) i = hs at *
      generalize toI (hs.flatMap bytes4) = full at *
      subst HRES
      go_wp2_with (first
        | fail
        | ((with_reducible refine gate_dst (N := 6) rfl ?_); refine own_alloc HR.out rfl (N := 6) rfl (t := 25) rfl (Array.replicate 32 (.int .u8 0)) 32 (by kernel_rfl) ?_; intro g6 w20 H20 B20; replace H20 := Aside0.mk H20; replace B20 := Aside0.mk B20)
        | ((with_reducible refine gate_dst (N := 27) rfl ?_); refine own_load H20.out 2 g4 _ 187 rfl rfl (.tmp 4) rfl (by rfl) Try.underlying187 8 H8L.out (by kernel_rfl) ?_)
        )
      have H21 : Aside0 (Own w.heap.size w w20 [.blk g6 (cellsB (res.take (4 * 0) ++ List.replicate (32 - 4 * 0) 0)) 25, .blk g2 (Array.replicate 32 (.int .u8 0)) 25]) := ⟨by
        have h := ((H20.out.erase 1).erase 1).erase 1
        have e : cellsB (res.take (4 * 0) ++ List.replicate (32 - 4 * 0) 0) = Array.replicate 32 (.int .u8 0) := rfl
        rw [e]; exact h⟩
      go_loopw [28] (fun v28 wk => ∃ k : Nat, k ≤ 8 ∧ v28 = .int .i64 (k : Int) ∧ Aside0 (Own w.heap.size w wk [.blk g6 (cellsB (res.take (4 * k) ++ List.replicate (32 - 4 * k) 0)) 25, .blk g2 (Array.replicate 32 (.int .u8 0)) 25])) (fun v28 _ => 8 - (intOf v28).toNat)
      case atStart => exact ⟨0, Nat.zero_le _, rfl, H21⟩
      case round =>
        obtain ⟨k, hk, rfl, HO⟩ := hrel
        by_cases hlt : k < 8
        · have hdl : decide (k < 8) = true := decide_eq_true hlt
          have hix := fun W : World => run_index_arr (P := Try.prog) 187 183 8 .u32 Try.underlying187 Try.underlying183 (by kernel_rfl) (cellsW hs) k hlt (HIX.out k hlt) W
          have HX1 := Aside0.mk (fun j hj => HFL.out k j hlt hj)
          generalize hs.getD k 0 = x at *
          go_wp2_with fail
          clear hix
          obtain ⟨wo, hwo⟩ : ∃ wo : World, wo = wr := ⟨_, rfl⟩
          go_loopw [32] (fun v32 wk => ∃ j : Nat, j ≤ 4 ∧ v32 = .int .i64 (j : Int) ∧ Aside0 (Own w.heap.size w wk [.blk g6 (cellsB (res.take (4 * k + j) ++ List.replicate (32 - (4 * k + j)) 0)) 25, .blk g2 (Array.replicate 32 (.int .u8 0)) 25])) (fun v32 _ => 4 - (intOf v32).toNat)
          case atStart => exact ⟨0, Nat.zero_le _, rfl, HO⟩
          case round =>
            obtain ⟨j, hj, rfl, HP2⟩ := hrel
            by_cases hlt2 : j < 4
            · have hdl2 : decide (j < 4) = true := decide_eq_true hlt2
              obtain ⟨q0, q1⟩ := fill_put res (4 * k + j) HFN.out (by omega)
              have hx := HX1.out j hlt2
              rw [hx] at q1
              rw [show 4 * k + j = k * 4 + j by omega] at HP2 q0 q1
              have ca := HP2.out.cell 0 rfl (k * 4 + j) q0
              have fa := HP2.out.fz 0 rfl (k * 4 + j)
              rw [cast_shr8 x (24 - 8 * j)] at q1
              have HP3 := Aside0.mk (HP2.out.put 0 rfl (k * 4 + j) _ q1)
              clear q0 q1 hx
              go_wp2_with fail
              rw [show k * 4 + j + 1 = 4 * k + (j + 1) by omega] at HP3
              go_roundw
              case rel => exact ⟨j + 1, hlt2, by go_num, HP3⟩
              case measure => simp [intOf]; omega
            · have hdl2 : decide (j < 4) = false := decide_eq_false hlt2
              have he : j = 4 := by omega
              subst he
              clear hlt2
              go_wp2_with fail
              rw [show 4 * k + 4 = 4 * (k + 1) by omega] at HP2
              go_roundw
              case rel => exact ⟨k + 1, hlt, by go_num, HP2⟩
              case measure => simp [intOf]; omega
        · have hdl : decide (k < 8) = false := decide_eq_false hlt
          have he : k = 8 := by omega
          subst he
          clear hlt
          have HF : Aside0 (Own w.heap.size w wr [.blk g6 (cellsB res) 25, .blk g2 (Array.replicate 32 (.int .u8 0)) 25]) := ⟨by
            have h := HO.out
            rw [show res.take (4 * 8) ++ List.replicate (32 - 4 * 8) 0 = res by rw [List.take_of_length_le (by rw [HFN.out]; decide)]; simp] at h
            exact h⟩
          have HA6 := Aside0.mk (Arr_B HFN.out)
          go_wp2_with (first
            | fail
            | ((with_reducible refine gate_dst (N := 48) rfl ?_); refine own_load HF.out 0 g6 _ 25 rfl rfl (.tmp 6) rfl (by rfl) Try.underlying25 32 HA6.out (by kernel_rfl) ?_)
            | ((with_reducible refine own_store HF.out 1 g2 _ 25 rfl rfl (.tmp 2) (.tmp 48) rfl (cellsB res) ?_ ?_ 32 R32.out HA6.out (by kernel_rfl) ?_); (case _ => rfl); (case _ => rfl); intro w30 H30; replace H30 := Aside0.mk H30)
            )
          refine bodyPost_ret (own_result rfl _ H30.out 1 g2 (cellsB res) rfl rfl Try.underlying25 32 HA6.out (by kernel_rfl)) rfl ?_
          exact ⟨rfl, H30.out.below⟩
end Go.Proofs.Ytocphkfkdadhaaa.H

