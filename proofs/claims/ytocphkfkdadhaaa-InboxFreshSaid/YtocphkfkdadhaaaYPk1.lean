import Derived.Test.YtocphkfkdadhaaaYPk0
import Derived.Test.YtocphkfkdadhaaaProg
import Derived.WalkKit
import Derived.IntWalk
import Derived.Laws.BitsAllLaws
import Derived.Laws.DeepBits32
import Derived.Deep.WholeRow
import Derived.Deep.MidRow
import Derived.BigRegion
import Derived.Laws.CopyOwn
import Derived.Deep.RegionHeld3
import Derived.Deep.RegionLaw
import Derived.WalkSpells
import Derived.Deep.QuietTactic
import Derived.StillTail
import Derived.Great.BuildSlice
import Derived.Laws.StructEq
import Derived.BigQuiet
import Derived.Deep.DeepCutAuto
import Derived.Laws.EntriesVeiled
import Derived.Lib.SmallJoins
import Derived.ChangeSlices
import Derived.ChangeArms
import Derived.OpenShut
import Derived.SizedLaws
import Derived.ProofKit
set_option linter.unusedVariables false
set_option linter.unusedSimpArgs false
namespace Go.Proofs.YtocphkfkdadhaaaW.PrintWords
open Go.RowKit
namespace Kd
def tag {α : Type} (f : Nat → Nat) (d : Kd α) : Kd (α × Nat) where
 sz := d.sz
 E := d.E
 K := fun w x cs => d.K w x.1 cs
 M := fun w base ok x cs => d.M w base (fun k => ok k ∧ f k = x.2) x.1 cs
 K_len := fun h => d.K_len h
 K_one := fun h => d.K_one h
 K_below := fun hb h => d.K_below hb h
 K_of_M := fun h => d.K_of_M h
 M_mono := fun hok h => d.M_mono (fun k hk => ⟨hok k hk.1, hk.2⟩) h
 M_bound := fun h => d.M_mono (fun _ hk => ⟨⟨hk.1.1, hk.2⟩, hk.1.2⟩) (d.M_bound h)
 M_move := fun hm h => d.M_move (fun k hk => hm k hk.1) h
 M_lower := fun hb h => d.M_lower hb h
def raw (sz : Nat) : Kd (List Value) where
 sz := sz
 E := []
 K := fun _ x cs => cs = x ∧ cs.length = sz ∧ ∀ u ∈ cs, u.oneCell' = true
 M := fun _ _ _ x cs => cs = x ∧ cs.length = sz ∧ ∀ u ∈ cs, u.oneCell' = true
 K_len := fun h => h.2.1
 K_one := fun h => h.2.2
 K_below := fun _ h => h
 K_of_M := fun h => h
 M_mono := fun _ h => h
 M_bound := fun h => h
 M_move := fun _ h => h
 M_lower := fun _ h => h
def S {α : Type} (d : Kd α) (e : Nat) (w : World) (base : Nat) (ok : Nat → Prop) (v : Value) (xs : List α) : Prop := ∃ f, (tag f d).R e w base ok v xs.zipIdx
section
variable {α β : Type} {d : Kd α} {d' : Kd β} {e e' : Nat} {w w1 W : World} {base b : Nat} {ok ok' okv oku : Nat → Prop} {u v : Value} {xs : List α} {ys : List β}
theorem zip_at {xs : List α} {j : Nat} {p : α} (h : xs[j]? = some p) : xs.zipIdx[j]? = some (p, j) := by rw [List.getElem?_zipIdx, h, Nat.zero_add]; rfl
theorem S_R (h : S d e w base ok v xs) : d.R e w base ok v xs := by
 obtain ⟨f, h0, inner, ho, hr⟩ := h
 rw [List.length_zipIdx] at ho
 exact ⟨h0, inner, ho, by have := hr.1; rw [List.length_zipIdx] at this; exact this, fun j p hj => d.M_mono (fun _ hk => hk.1) (hr.2 j (p, j) (zip_at hj))⟩
theorem R_tight (hE : d.E = []) (h : d.R e w base ok v xs) : d.R e w base (fun k => some k = v.ownBlock) v xs := by
 obtain ⟨h0, inner, ho, hr⟩ := h
 refine ⟨fun k hk => hk.symm, inner, ho, hr.imp_ (fun p c hp => d.M_mono (fun k hk => ?_) (d.M_bound hp))⟩
 obtain ⟨_, _, _, q, hq, _⟩ := hk
 rw [hE] at hq
 cases hq
theorem S_nil (d : Kd α) (e : Nat) (w : World) (base : Nat) (ok : Nat → Prop) : S d e w base ok (.slice none 0 0) [] := ⟨fun _ => 0, R_nil _ _ _ _ _⟩
theorem S_mono (h : S d e w base ok v xs) (hok : ∀ k, ok k → ok' k) : S d e w base ok' v xs := by
 obtain ⟨f, h⟩ := h
 exact ⟨f, R_mono h hok⟩
theorem S_bound (h : S d e w base ok v xs) : S d e w base (fun k => ok k ∧ base ≤ k ∧ k < w.heap.size ∧ ∃ q, q ∈ e :: d.E ∧ ∃ cells, w.heap[k]? = some (.cells cells q (0, 0))) v xs := by
 obtain ⟨f, h⟩ := h
 exact ⟨f, R_bound h⟩
theorem S_move (h : S d e w base ok v xs) (hm : ∀ k, ok k → w1.heap[k]? = w.heap[k]?) : S d e w1 base ok v xs := by
 obtain ⟨f, h⟩ := h
 exact ⟨f, R_move h hm⟩
theorem S_step (h : S d e w base ok v xs) (hm : ∀ k, ok k → k < w.heap.size → w1.heap[k]? = w.heap[k]?) : S d e w1 base ok v xs :=
 S_mono (S_move (S_bound h) (fun k hk => hm k hk.1 hk.2.2.1)) (fun _ hk => hk.1)
theorem S_below (h : S d e w base ok v xs) (hb : Below w.heap.size w w1) : S d e w1 base ok v xs := S_step h (fun k _ hk => hb.block k hk)
theorem S_alloc (h : S d e w base ok v xs) (o : Obj) : S d e (w.alloc o) base ok v xs := S_below h (below_alloc (Below.refl _ _) o)
theorem S_drew (h : S d e w base ok v xs) : S d e w.drew base ok v xs := S_below h (below_drew (Below.refl _ _))
theorem S_drewN (h : S d e w base ok v xs) (m : Nat) : S d e (w.drewN m) base ok v xs := S_below h (pw_below_drewN (Below.refl _ _) m)
theorem S_typed (h : S d e w base ok v xs) : ∀ k, v.ownBlock = some k → ∃ cells, w.heap[k]? = some (.cells cells e (0, 0)) := R_typed (S_R h)
theorem S_elder' (h : S d e W base ok u xs) (hbase : ∀ k, v.ownBlock = some k → W.heap.size ≤ k) (hb : Below W.heap.size W w1) : S d e w1 base (fun k => ok k ∧ some k ≠ v.ownBlock) u xs := by
 obtain ⟨f, h⟩ := h
 exact ⟨f, R_elder' h hbase hb⟩
theorem R_tag {f f' : Nat → Nat} {zs : List (α × Nat)} (h : (tag f d).R e w base ok v zs) (hf : ∀ k, ok k → k < w.heap.size → f' k = f k) : (tag f' d).R e w base ok v zs := by
 obtain ⟨h0, inner, ho, hr⟩ := R_bound h
 exact ⟨fun k hk => (h0 k hk).1, inner, ho, hr.1, fun j p hj => d.M_mono (fun k hk => ⟨⟨hk.1.1.1, hk.1.2⟩, (hf k hk.1.1.1 hk.1.1.2.2.1).trans hk.2⟩) (hr.2 j p hj)⟩
end
section
variable {α β : Type} {d : Kd α} {d' : Kd β} {e e' g : Nat} {w w1 W : World} {base b : Nat} {ok ok' okv oku : Nat → Prop} {u v : Value} {xs : List α} {ys : List β}
theorem zip_snoc (xs : List α) (p : α) : (xs ++ [p]).zipIdx = xs.zipIdx ++ [(p, xs.length)] := by rw [List.zipIdx_append]; simp
end
section
open Classical in
theorem S_tag {α : Type} {d : Kd α} {e base : Nat} {okv : Nat → Prop} {w : World} {v : Value} {xs : List α} (h : S d e w base okv v xs) (m : Nat) (okp : Nat → Prop) (hap : ∀ k, okp k → ¬ okv k) : ∃ f, (∀ k, okp k → f k = m) ∧ (tag f d).R e w base okv v xs.zipIdx := by
 obtain ⟨f, h⟩ := h
 exact ⟨fun k => if okp k then m else f k, fun k hk => if_pos hk, R_tag h (fun k hk _ => if_neg (fun h2 => hap k h2 hk))⟩
variable {P : Program} {ops : Array Oper} {rest : List Oper} {o : Oper} {a : Act} {Q : Exit → Act → World → Prop} {Kc : Act → World → Prop} {α : Type}
theorem S_append (d : Kd α) {w0 W : World} (base : Nat) (hgd : o.guard = none) (s x : Operand) (t e : TypeId) (z : Value) (bytes : Nat)
 (ho : o.op = .call { callee := .builtin .append, args := #[s, x], argTypes := #[t, t] })
 (ht : P.underlying t = some (.slice e)) (hinfo : (P.info? e).map (fun i => (i.zero, i.size, i.bytes)) = some (some z, d.sz, bytes)) (hz : z.cells.size = d.sz) (hs0 : 0 < d.sz) (hb0 : 0 < bytes)
 (v : Value) (xs : List α) (p : α) (cs : List Value) (ok okp : Nat → Prop) (hs : a.eval s = v) (hx : a.eval x = .slice (some ⟨W.heap.size, 0, none⟩) 1 1) (hp : d.M W base okp p cs) (hokp : ∀ k, okp k → ok k ∧ some k ≠ v.ownBlock) (hfresh : ∀ k, W.heap.size ≤ k → ok k)
 (HO : S d e W base (fun k => ok k ∧ ¬ okp k) v xs) (HB : Below base w0 W) (hbase : base ≤ W.heap.size) (hl : (xs.length + 1) * bytes ≤ 140737488355328)
 (h : ∀ v1 w1, S d e w1 base ok v1 (xs ++ [p]) → Below base w0 w1 → W.grownBy w1 v.ownBlock → (v1.ownBlock = v.ownBlock ∨ ∃ b, v1.ownBlock = some b ∧ W.heap.size ≤ b) → wpList P ops Q rest (a.put o.dst v1) w1) :
 wpList P ops Q (o :: rest) a (W.alloc (.cells cs.toArray e)) := by
 obtain ⟨f, hf, hR⟩ := S_tag HO xs.length okp (fun _ hk h2 => h2.2 hk)
 refine R_append (tag f d) base hgd s x t e z bytes ho ht hinfo hz hs0 hb0 v xs.zipIdx (p, xs.length) cs ok okp hs hx (d.M_mono (fun k hk => ⟨hk, hf k hk⟩) hp) hokp hfresh (R_mono hR (fun _ hk => hk.1)) HB hbase (by rw [List.length_zipIdx]; exact hl) ?_
 intro v1 w1 hr
 rw [← zip_snoc] at hr
 exact h v1 w1 ⟨f, hr⟩
end
def gap {α : Type} (f : Nat → Nat) (d : Kd α) (i : Nat) (c : List Value) : Kd (α × Nat) where
 sz := d.sz
 E := d.E
 K := fun w x cs => (x.2 = i → cs = c ∧ cs.length = d.sz ∧ ∀ u ∈ cs, u.oneCell' = true) ∧ (x.2 ≠ i → d.K w x.1 cs)
 M := fun w base ok x cs => (x.2 = i → cs = c ∧ cs.length = d.sz ∧ ∀ u ∈ cs, u.oneCell' = true) ∧ (x.2 ≠ i → d.M w base (fun k => ok k ∧ f k = x.2) x.1 cs)
 K_len := fun {w x cs} h => by
  by_cases hx : x.2 = i
  ·exact (h.1 hx).2.1
  ·exact d.K_len (h.2 hx)
 K_one := fun {w x cs} h => by
  by_cases hx : x.2 = i
  ·exact (h.1 hx).2.2
  ·exact d.K_one (h.2 hx)
 K_below := fun hb h => ⟨h.1, fun hx => d.K_below hb (h.2 hx)⟩
 K_of_M := fun h => ⟨h.1, fun hx => d.K_of_M (h.2 hx)⟩
 M_mono := fun hok h => ⟨h.1, fun hx => d.M_mono (fun k hk => ⟨hok k hk.1, hk.2⟩) (h.2 hx)⟩
 M_bound := fun h => ⟨h.1, fun hx => d.M_mono (fun _ hk => ⟨⟨hk.1.1, hk.2⟩, hk.1.2⟩) (d.M_bound (h.2 hx))⟩
 M_move := fun hm h => ⟨h.1, fun hx => d.M_move (fun k hk => hm k hk.1) (h.2 hx)⟩
 M_lower := fun hb h => ⟨h.1, fun hx => d.M_lower hb (h.2 hx)⟩
def H {α : Type} (d : Kd α) (e : Nat) (w : World) (base : Nat) (ok : Nat → Prop) (v : Value) (xs : List α) (i : Int) (oki : Nat → Prop) (c : List Value) : Prop :=
 (∀ k, oki k → ok k) ∧ ∃ f, (gap f d i.toNat c).R e w base (fun k => ok k ∧ ¬ oki k) v xs.zipIdx
section
variable {α β : Type} {d : Kd α} {e e' g n cap : Nat} {w w1 W : World} {base : Nat} {ok ok' oki okp : Nat → Prop} {u v : Value} {xs : List α} {i : Int} {c : List Value}
end
section
variable {P : Program} {ops : Array Oper} {rest : List Oper} {o : Oper} {a : Act} {Q : Exit → Act → World → Prop} {α : Type}
end
end Kd
namespace Kd
structure Heap {α : Type} (d : Kd α) : Prop where
 K : ∀ {w w1 : World} {x : α} {cs : List Value}, (∀ k, k < w.heap.size → w1.heap[k]? = w.heap[k]?) → d.K w x cs → d.K w1 x cs
section
variable {α : Type} {d : Kd α} {e base g n c : Nat} {ok : Nat → Prop} {w w0 W : World} {A : Option Addr} {xs : List α}
end
end Kd
def Kept (w W : World) (S : Nat → Prop) : Prop := w.heap.size ≤ W.heap.size ∧ ∀ i, i < w.heap.size → ¬ S i → W.heap[i]? = w.heap[i]?
section
variable {w W W2 : World} {S S2 S' : Nat → Prop}
theorem Kept.refl (w : World) (S : Nat → Prop) : Kept w w S := ⟨Nat.le_refl _, fun _ _ _ => rfl⟩
theorem Kept.of_below (h : Below w.heap.size w W) (S : Nat → Prop) : Kept w W S := ⟨h.size, fun i hi _ => h.block i hi⟩
theorem Kept.then_ (h : Kept w W S) (k : Kept W W2 S2) (hs : ∀ k, S2 k → S k ∨ w.heap.size ≤ k) : Kept w W2 S :=
 ⟨Nat.le_trans h.1 k.1, fun i hi hn => (k.2 i (Nat.lt_of_lt_of_le hi h.1) (fun h2 => (hs i h2).elim hn (fun h3 => by omega))).trans (h.2 i hi hn)⟩
theorem Kept.of_grown {row : Option Nat} (hg : W.grownBy W2 row) (h : Kept w W S) (hr : ∀ k, row = some k → S k ∨ w.heap.size ≤ k) : Kept w W2 S :=
 h.then_ (S2 := fun k => row = some k) ⟨hg.size, fun i hi hn => hg.block i hi (fun he => hn he.symm)⟩ hr
theorem Kept.below (h : Kept w W S) (hb : Below W.heap.size W W2) : Kept w W2 S := h.then_ (Kept.of_below hb (fun _ => False)) (fun _ hk => hk.elim)
theorem Kept.drewN (h : Kept w W S) (m : Nat) : Kept w (W.drewN m) S := h
theorem Kept.setCell (h : Kept w W S) {p : Addr} (hp : S p.block ∨ w.heap.size ≤ p.block) (u : Value) : Kept w (W.setCell p u) S :=
 h.then_ (S2 := fun k => k = p.block) ⟨by simp [World.setCell], fun i _ hn => Below.heap_setCell W p u i hn⟩ (fun k hk => by rw [hk]; exact hp)
end
namespace Kd
section
variable {α : Type} {d : Kd α} {e base n c : Nat} {ok oki S S2 : Nat → Prop} {w w0 W W1 W2 : World} {v : Value} {A : Option Addr} {xs : List α} {i : Int} {cs : List Value}
end
end Kd
def Foot (P : World → Prop) (W : World) (ok : Nat → Prop) : Prop := ∀ W' : World, (∀ k, ok k → k < W.heap.size → W'.heap[k]? = W.heap[k]?) → P W'
namespace Foot
variable {P Q : World → Prop} {W W1 : World} {ok ok' : Nat → Prop}
end Foot
namespace Kd
def F {α : Type} (d : Kd α) (W : World) (ok : Nat → Prop) (A : Option Addr) (n : Nat) (xs : List α) : Prop := Foot (fun W => d.C W A n xs) W ok
def FK {α : Type} (d : Kd α) (W : World) (ok : Nat → Prop) (x : α) (c : List Value) : Prop := Foot (fun W => d.K W x c) W ok
section
variable {α β : Type} {d : Kd α} {e base n n' cc g N : Nat} {ok ok' okp S : Nat → Prop} {w w0 w1 W W1 : World} {A A' : Option Addr} {u v v1 : Value} {xs : List α} {xs' : List β} {d' : Kd β} {x : α} {c : List Value}
theorem F_nil (d : Kd α) (W : World) (ok : Nat → Prop) : F d W ok none ([] : List α).length [] := fun W' _ => C_nil d W'
theorem FK_of_M (h : d.M W base ok x c) : FK d W ok x c := fun _ hW => d.K_of_M (M_step h hW)
end
end Kd
namespace Kd
def chunks (sz : Nat) (n : Nat) (inner : List Value) : List (List Value) := (List.range n).map fun j => (inner.drop (j * sz)).take sz
theorem chunks_length (sz n : Nat) (inner : List Value) : (chunks sz n inner).length = n := by simp [chunks]
theorem chunks_at {sz n : Nat} {inner : List Value} {j : Nat} (hj : j < n) : (chunks sz n inner)[j]? = some ((inner.drop (j * sz)).take sz) := by simp [chunks, hj]
theorem chunks_get {sz n : Nat} {inner : List Value} {j : Nat} {c : List Value} (h : (chunks sz n inner)[j]? = some c) : c = (inner.drop (j * sz)).take sz := by
 have hj : j < n := by have := (List.getElem?_eq_some_iff.1 h).1; rwa [chunks_length] at this
 rw [chunks_at hj] at h
 injection h with h
 exact h.symm
theorem reps_raw {α : Type} {Rr : α → List Value → Prop} {sz : Nat} {xs : List α} {inner : List Value} (h : Reps Rr sz xs inner) (hR : ∀ x c, Rr x c → c.length = sz ∧ ∀ u ∈ c, u.oneCell' = true) : Reps (fun x cs => cs = x ∧ cs.length = sz ∧ ∀ u ∈ cs, u.oneCell' = true) sz (chunks sz xs.length inner) inner := by
 refine ⟨by rw [chunks_length]; exact h.1, fun j p hj => ?_⟩
 have hjl : j < xs.length := by have := (List.getElem?_eq_some_iff.1 hj).1; rwa [chunks_length] at this
 have hp := chunks_get hj
 exact ⟨hp.symm, hR _ _ (h.2 j _ (List.getElem?_eq_getElem hjl))⟩
section
variable {α : Type} {d : Kd α} {e base n cc g : Nat} {ok ok' okp S : Nat → Prop} {w w1 W W1 : World} {A : Option Addr} {u v v1 : Value} {xs : List α} {x : α} {c : List Value}
def N {α : Type} (d : Kd α) (e : Nat) (w : World) (base : Nat) (ok : Nat → Prop) (v : Value) (xs : List α) : Prop :=
 (∀ k, v.ownBlock = some k → ok k) ∧ ∃ rows : List (List Value), rows.length = xs.length ∧ (raw d.sz).R e w base (fun k => some k = v.ownBlock) v rows ∧ ∀ (j : Nat) (x : α) (c : List Value), xs[j]? = some x → rows[j]? = some c → FK d w (fun k => ok k ∧ some k ≠ v.ownBlock) x c
theorem R_N (h : d.R e w base ok v xs) : N d e w base ok v xs := by
 obtain ⟨h0, inner, ho, hr⟩ := h
 refine ⟨h0, chunks d.sz xs.length inner, chunks_length _ _ _, ⟨fun k hk => hk.symm, inner, by rw [chunks_length]; exact ho, reps_raw hr (fun x c hp => ⟨d.K_len (d.K_of_M hp), d.K_one (d.K_of_M hp)⟩)⟩, fun j x c hx hc => ?_⟩
 rw [chunks_get hc]
 exact FK_of_M (hr.2 j x hx)
theorem N_nil (d : Kd α) (e : Nat) (w : World) (base : Nat) (ok : Nat → Prop) : N d e w base ok (.slice none 0 0) [] := R_N (R_nil _ _ _ _ _)
end
end Kd
end Go.Proofs.YtocphkfkdadhaaaW.PrintWords
namespace Go.Proofs.YtocphkfkdadhaaaW.PrintMore
open Go.RowKit Go.Proofs.YtocphkfkdadhaaaW.PrintWords
namespace Kd
open Go.Proofs.YtocphkfkdadhaaaW.PrintWords.Kd
end Kd
namespace Kd
open Go.Proofs.YtocphkfkdadhaaaW.PrintWords.Kd
section
variable {α : Type} {d : Kd α} {e base g N : Nat} {ok : Nat → Prop} {W w1 : World} {u v : Value} {xs : List α}
end
end Kd
theorem max2_int (k k' : IntKind) (x y : Int) : Builtin.max2 (.int k x) (.int k' y) = pure (.int k (if x < y then y else x)) := by simp only [Builtin.max2, gt_iff_lt]
theorem min2_int (k k' : IntKind) (x y : Int) : Builtin.min2 (.int k x) (.int k' y) = pure (.int k (if y < x then y else x)) := by simp only [Builtin.min2]
theorem max_two (ats : Array TypeId) (ty : TypeId) (a b : Value) : Builtin.max_ ats ty #[a, b] = (Builtin.max2 a b >>= fun s => pure s) := by simp only [Builtin.max_, List.foldlM_cons, List.foldlM_nil]
theorem min_two (ats : Array TypeId) (ty : TypeId) (a b : Value) : Builtin.min_ ats ty #[a, b] = (Builtin.min2 a b >>= fun s => pure s) := by simp only [Builtin.min_, List.foldlM_cons, List.foldlM_nil]
theorem max_three (ats : Array TypeId) (ty : TypeId) (a b c : Value) : Builtin.max_ ats ty #[a, b, c] = (Builtin.max2 a b >>= fun s => Builtin.max2 s c >>= fun s => pure s) := by simp only [Builtin.max_, List.foldlM_cons, List.foldlM_nil]
theorem min_three (ats : Array TypeId) (ty : TypeId) (a b c : Value) : Builtin.min_ ats ty #[a, b, c] = (Builtin.min2 a b >>= fun s => Builtin.min2 s c >>= fun s => pure s) := by simp only [Builtin.min_, List.foldlM_cons, List.foldlM_nil]
theorem max_four (ats : Array TypeId) (ty : TypeId) (a b c d : Value) : Builtin.max_ ats ty #[a, b, c, d] = (Builtin.max2 a b >>= fun s => Builtin.max2 s c >>= fun s => Builtin.max2 s d >>= fun s => pure s) := by simp only [Builtin.max_, List.foldlM_cons, List.foldlM_nil]
theorem min_four (ats : Array TypeId) (ty : TypeId) (a b c d : Value) : Builtin.min_ ats ty #[a, b, c, d] = (Builtin.min2 a b >>= fun s => Builtin.min2 s c >>= fun s => Builtin.min2 s d >>= fun s => pure s) := by simp only [Builtin.min_, List.foldlM_cons, List.foldlM_nil]
end Go.Proofs.YtocphkfkdadhaaaW.PrintMore
namespace Go.Proofs.YtocphkfkdadhaaaW.PrintWords
open Go.RowKit
section
variable {P : Program} {ops : Array Oper} {rest : List Oper} {o : Oper} {a : Act} {Q : Exit → Act → World → Prop} {W : World}
theorem gate_callee {f : FuncId} {as_ : Array Operand} {ts : Array TypeId} (_ho : o.op = .call { callee := .value (.func f), args := as_, argTypes := ts }) (h : wpList P ops Q (o :: rest) a W) : wpList P ops Q (o :: rest) a W := h
theorem gate_builtin {b : Builtin} {xs : Array Operand} {ts : Array TypeId} (_ho : o.op = .call { callee := .builtin b, args := xs, argTypes := ts }) (h : wpList P ops Q (o :: rest) a W) : wpList P ops Q (o :: rest) a W := h
end
namespace Kd
section
variable {α : Type} {d : Kd α} {e base : Nat} {ok : Nat → Prop} {W w1 : World} {v : Value} {xs : List α}
end
section
variable {α : Type} {d : Kd α} {e base g n cap : Nat} {ok oki okp : Nat → Prop} {W : World} {xs : List α} {i : Int} {c : List Value}
end
section
variable {α : Type} {d : Kd α} {e base b b' g N : Nat} {ok ok1 : Nat → Prop} {W W2 w1 : World} {u v : Value} {xs ys : List α} {S : Nat → Prop}
end
end Kd
namespace Kd
def V {α : Type} (d : Kd α) (_e : Nat) (W : World) (_base : Nat) (ok : Nat → Prop) (v : Value) (xs : List α) : Prop := ∃ A c, v = .slice A xs.length c ∧ xs.length ≤ c ∧ F d W ok A xs.length xs
section
variable {α β : Type} {d : Kd α} {e base base' n m c g N' lo hi : Nat} {ok ok' S : Nat → Prop} {w W w1 : World} {A : Option Addr} {ad : Addr} {u v v1 : Value} {xs : List α}
theorem V_nil (d : Kd α) (e : Nat) (W : World) (base : Nat) (ok : Nat → Prop) : V d e W base ok (.slice none 0 0) [] := ⟨none, 0, rfl, Nat.le_refl _, F_nil d W ok⟩
theorem R_newM {M : Nat → Prop} (h : d.R e w1 W.heap.size ok v xs) (hle : w.heap.size ≤ W.heap.size) (hM : ∀ k, w.heap.size ≤ k → M k) : d.R e w1 W.heap.size (fun k => M k ∧ ok k) v xs := R_mono (R_bound h) (fun k hk => ⟨hM k (Nat.le_trans hle hk.2.1), hk.1⟩)
end
end Kd
end Go.Proofs.YtocphkfkdadhaaaW.PrintWords
namespace Go.Proofs.Ytocphkfkdadhaaa.H
open Go.RowKit Go.Proofs.YtocphkfkdadhaaaW.PrintWords Go.Proofs.YtocphkfkdadhaaaW.PrintLast Go.Proofs.YtocphkfkdadhaaaW.PrintMore
def rotl (x m : Nat) : Nat := (x * 2 ^ m % 4294967296) ||| (x / 2 ^ (32 - m))
def rotr (x n : Nat) : Nat := rotl x (32 - n)
def turnedP (x : Nat) (l : List Nat) : Nat := l.foldl (fun y n => y ^^^ rotr x n) 0
theorem setRow_at {w : World} {g : Nat} {cs : Array Value} {t : TypeId} (h : w.heap[g]? = some (.cells cs t (0, 0))) (c' : Array Value) : (w.setRow g c').heap[g]? = some (.cells c' t (0, 0)) := by
 simp only [World.setRow, Array.getElem?_modify, if_true, h, Option.map_some]
theorem setRow_off (w : World) (g k : Nat) (c' : Array Value) (h : k ≠ g) : (w.setRow g c').heap[k]? = w.heap[k]? := by
 simp only [World.setRow, Array.getElem?_modify]
 rw [if_neg (by omega)]
section
variable {P : Program} {ops : Array Oper} {rest : List Oper} {o : Oper} {a : Act} {Q : Exit → Act → World → Prop}
theorem arr_alloc {W : World} (hgd : o.guard = none) {N : Tmp} (hd : o.dst = some N) {t : TypeId} (ho : o.op = .alloc t) (cs : Array Value) (n : Nat)
 (hi : (P.info? t).map (fun i => (i.zero, i.size)) = some (some (.agg cs), n))
 (h : ∀ g w1, w1.heap[g]? = some (.cells cs t (0, 0)) → g = W.heap.size → Below W.heap.size W w1 → wpList P ops Q rest (a.put o.dst (.pointer (some ⟨g, 0, none⟩))) w1) : wpList P ops Q (o :: rest) a W := by
 refine Kd.event_run hgd (v := .pointer (some ⟨W.heap.size, 0, none⟩)) (w1 := W.alloc (.cells cs t (0, 0))) ?_ (h _ _ (blk_new W _) rfl (below_alloc (Below.refl _ _) _))
 obtain ⟨hz, hs⟩ := zero_of_info hi
 unfold execOp
 simp only [ho]
 simp [Instr.alloc, hz, newVar, Value.cells, go_sem]
theorem arr_store {W : World} (hgd : o.guard = none) (ty : TypeId) (x y : Operand) (ho : o.op = .store ty x y) (g : Nat) (cs cells : Array Value)
 (hx : a.eval x = .pointer (some ⟨g, 0, none⟩)) (hy : a.eval y = .agg cells) (hb : W.heap[g]? = some (.cells cs ty (0, 0))) (hn : cs.size = cells.size)
 (hi : (P.info? ty).map (·.size) = some cells.size) (h1 : cells.all (·.oneCell') = true)
 (h : ∀ w1, w1 = W.setRow g cells → wpList P ops Q rest (a.put o.dst undef) w1) : wpList P ops Q (o :: rest) a W :=
 wpList_plain hgd fun _ hK => by
  unfold Oper.wp execOp
  simp only [ho, hx, hy, Instr.storeAt, Instr.sureAddr, Sem.run_bind, Sem.run_pure, Result.andThen_ok, run_storeVar_row W g ty ty cs cells hb hi hn h1]
  exact hK _ _ (h _ rfl)
theorem arr_load {W : World} (hgd : o.guard = none) (ty : TypeId) (x : Operand) (ho : o.op = .load ty x) (g : Nat) (cs : Array Value) (m : Nat) (el : TypeId)
 (hx : a.eval x = .pointer (some ⟨g, 0, none⟩)) (hb : W.heap[g]? = some (.cells cs ty (0, 0)))
 (hu : P.underlying ty = some (.array m el)) (hi : (P.info? ty).map (·.size) = some cs.size)
 (h : wpList P ops Q rest (a.put o.dst (.agg cs)) W) : wpList P ops Q (o :: rest) a W :=
 wpList_plain hgd fun _ hK => by
  unfold Oper.wp execOp
  simp only [ho, hx, Instr.loadAt, Instr.sureAddr, Sem.run_bind, Sem.run_pure, Result.andThen_ok, run_loadVar_row W g ty ty cs (0, 0) _ hb hu rfl hi]
  exact hK _ _ h
end
def HS : List Nat := [0x6a09e667, 0xbb67ae85, 0x3c6ef372, 0xa54ff53a, 0x510e527f, 0x9b05688c, 0x1f83d9ab, 0x5be0cd19]
def KS : List Nat := [
 0x428a2f98, 0x71374491, 0xb5c0fbcf, 0xe9b5dba5, 0x3956c25b, 0x59f111f1, 0x923f82a4, 0xab1c5ed5,
 0xd807aa98, 0x12835b01, 0x243185be, 0x550c7dc3, 0x72be5d74, 0x80deb1fe, 0x9bdc06a7, 0xc19bf174,
 0xe49b69c1, 0xefbe4786, 0x0fc19dc6, 0x240ca1cc, 0x2de92c6f, 0x4a7484aa, 0x5cb0a9dc, 0x76f988da,
 0x983e5152, 0xa831c66d, 0xb00327c8, 0xbf597fc7, 0xc6e00bf3, 0xd5a79147, 0x06ca6351, 0x14292967,
 0x27b70a85, 0x2e1b2138, 0x4d2c6dfc, 0x53380d13, 0x650a7354, 0x766a0abb, 0x81c2c92e, 0x92722c85,
 0xa2bfe8a1, 0xa81a664b, 0xc24b8b70, 0xc76c51a3, 0xd192e819, 0xd6990624, 0xf40e3585, 0x106aa070,
 0x19a4c116, 0x1e376c08, 0x2748774c, 0x34b0bcb5, 0x391c0cb3, 0x4ed8aa4a, 0x5b9cca4f, 0x682e6ff3,
 0x748f82ee, 0x78a5636f, 0x84c87814, 0x8cc70208, 0x90befffa, 0xa4506ceb, 0xbef9a3f7, 0xc67178f2]
end Go.Proofs.Ytocphkfkdadhaaa.H
namespace Go.Proofs.Ytocphkfkdadhaaa.H
def add32 (a b : Nat) : Nat := (a + b) % 4294967296
def not32 (a : Nat) : Nat := 4294967295 - a
def wordAt (b : List Nat) (t : Nat) : Nat := ((b.getD (4 * t) 0 * 256 + b.getD (4 * t + 1) 0) * 256 + b.getD (4 * t + 2) 0) * 256 + b.getD (4 * t + 3) 0
def words16 (b : List Nat) : List Nat := (List.range 16).map (wordAt b)
def nextW (w : List Nat) (t : Nat) : Nat :=
 add32 (add32 (add32 (turnedP (w.getD (t - 2) 0) [17, 19] ^^^ w.getD (t - 2) 0 / 1024) (w.getD (t - 7) 0)) (turnedP (w.getD (t - 15) 0) [7, 18] ^^^ w.getD (t - 15) 0 / 8)) (w.getD (t - 16) 0)
def spreadFrom : Nat → Nat → List Nat → List Nat
 | 0, _, w => w
 | n + 1, t, w => spreadFrom n (t + 1) (w ++ [nextW w t])
def spreadP (b : List Nat) : List Nat := spreadFrom 48 16 (words16 b)
def roundP (s : List Nat) (k w : Nat) : List Nat :=
 let a := s.getD 0 0; let e := s.getD 4 0
 let t1 := add32 (add32 (add32 (s.getD 7 0) (turnedP e [6, 11, 25])) ((e &&& s.getD 5 0) ^^^ (not32 e &&& s.getD 6 0))) (add32 k w)
 let t2 := add32 (turnedP a [2, 13, 22]) ((a &&& s.getD 1 0) ^^^ (a &&& s.getD 2 0) ^^^ (s.getD 1 0 &&& s.getD 2 0))
 [add32 t1 t2, a, s.getD 1 0, s.getD 2 0, add32 (s.getD 3 0) t1, e, s.getD 5 0, s.getD 6 0]
def roundsP : List (Nat × Nat) → List Nat → List Nat
 | [], s => s
 | (k, w) :: r, s => roundsP r (roundP s k w)
def blockP (h b : List Nat) : List Nat := List.zipWith add32 h (roundsP (KS.zip (spreadP b)) h)
def blocksP : Nat → List Nat → List Nat → List Nat
 | 0, h, _ => h
 | n + 1, h, b => blocksP n (blockP h (b.take 64)) (b.drop 64)
def be8 (n : Nat) : List Nat := [n / 2 ^ 56 % 256, n / 2 ^ 48 % 256, n / 2 ^ 40 % 256, n / 2 ^ 32 % 256, n / 2 ^ 24 % 256, n / 2 ^ 16 % 256, n / 2 ^ 8 % 256, n % 256]
def zerosP (n : Nat) : Nat := (119 - n % 64) % 64
def paddedP (b : List Nat) : List Nat := b ++ [128] ++ List.replicate (zerosP b.length) 0 ++ be8 (b.length * 8)
def bytes4 (x : Nat) : List Nat := [x / 16777216 % 256, x / 65536 % 256, x / 256 % 256, x % 256]
def shaP (b : List Nat) : List Nat := (blocksP ((paddedP b).length / 64) HS (paddedP b)).flatMap bytes4
def leafP (b : List Nat) : List Nat := shaP (0 :: b)
def pairP (x y : List Nat) : List Nat := shaP (1 :: x ++ y)
example : (shaP [97, 98, 99]).take 4 = [0xba, 0x78, 0x16, 0xbf] := by decide +kernel
example : pairP (leafP [0, 0, 0, 0, 0, 0, 0, 1]) (leafP [0, 0, 0, 0, 0, 0, 0, 2]) ≠ pairP (leafP [0, 0, 0, 0, 0, 0, 0, 1]) (leafP [0, 0, 0, 0, 0, 0, 0, 3]) := by decide +kernel
end Go.Proofs.Ytocphkfkdadhaaa.H
namespace Go.Proofs.Ytocphkfkdadhaaa.H
open Go.RowKit Go.Proofs.YtocphkfkdadhaaaW.PrintWords Go.Proofs.YtocphkfkdadhaaaW.PrintLast Go.Proofs.YtocphkfkdadhaaaW.PrintMore
def Arr (n : Nat) (cs : Array Value) : Prop := cs.size = n ∧ cs.all (·.oneCell') = true
theorem Arr_rep (n : Nat) (v : Value) (h : v.oneCell' = true) : Arr n (Array.replicate n v) := ⟨by simp, by
 rw [Array.all_eq_true]; intro i hi; simpa using h⟩
abbrev Blk := Nat × Array Value × TypeId
structure Holds (B : Nat) (w0 W : World) (L : List Blk) : Prop where
 below : Below B w0 W
 base : B ≤ W.heap.size
 at_ : ∀ x ∈ L, B ≤ x.1 ∧ W.heap[x.1]? = some (.cells x.2.1 x.2.2 (0, 0))
 ne : (L.map (·.1)).Nodup
namespace Holds
variable {B : Nat} {w0 W W1 : World} {L : List Blk}
end Holds
section
variable {P : Program} {ops : Array Oper} {rest : List Oper} {o : Oper} {a : Act} {Q : Exit → Act → World → Prop}
end
structure Item where
 P : World → (Nat → Prop) → Prop
 move : ∀ {W W1 : World} {S : Nat → Prop}, (∀ k, S k → W1.heap[k]? = W.heap[k]?) → P W S → P W1 S
 mono : ∀ {W : World} {S S' : Nat → Prop}, (∀ k, S k → S' k) → P W S → P W S'
def Item.blk (g : Nat) (cs : Array Value) (t : TypeId) : Item where
 P := fun W S => S g ∧ W.heap[g]? = some (.cells cs t (0, 0))
 move := fun hm h => ⟨h.1, (hm g h.1).trans h.2⟩
 mono := fun hm h => ⟨hm _ h.1, h.2⟩
def Item.row {α : Type} (d : Kd α) (e : Nat) (v : Value) (xs : List α) : Item where
 P := fun W S => Kd.R d e W 0 S v xs
 move := fun hm h => Kd.R_move h hm
 mono := fun hm h => Kd.R_mono h hm
def Sep (W : World) : List Item → (Nat → Prop) → Prop
 | [], _ => True
 | it :: L, U => ∃ S : Nat → Prop, (∀ i, S i → U i) ∧ it.P W S ∧ Sep W L (fun i => U i ∧ ¬ S i)
theorem Sep.imp {W : World} : ∀ {L : List Item} {U U' : Nat → Prop}, (∀ i, U i → U' i) → Sep W L U → Sep W L U'
 | [], _, _, _, _ => trivial
 | it :: L, _, _, h, ⟨S, h1, h2, h3⟩ => ⟨S, fun i hi => h i (h1 i hi), h2, Sep.imp (fun i hi => ⟨h i hi.1, hi.2⟩) h3⟩
theorem Sep.move {W W1 : World} : ∀ {L : List Item} {U : Nat → Prop}, (∀ k, U k → W1.heap[k]? = W.heap[k]?) → Sep W L U → Sep W1 L U
 | [], _, _, _ => trivial
 | it :: L, _, h, ⟨S, h1, h2, h3⟩ => ⟨S, h1, it.move (fun k hk => h k (h1 k hk)) h2, Sep.move (fun k hk => h k hk.1) h3⟩
theorem Sep.pick {W : World} {it : Item} : ∀ {L : List Item} {U : Nat → Prop} {k : Nat}, L[k]? = some it → Sep W L U → ∃ S : Nat → Prop, (∀ i, S i → U i) ∧ it.P W S ∧ Sep W (L.eraseIdx k) (fun i => U i ∧ ¬ S i)
 | [], _, k, hk, _ => by simp at hk
 | x :: L, U, 0, hk, ⟨S, h1, h2, h3⟩ => by
  obtain rfl : x = it := by simpa using hk
  exact ⟨S, h1, h2, h3⟩
 | x :: L, U, k + 1, hk, ⟨S0, h1, h2, h3⟩ => by
  obtain ⟨S, g1, g2, g3⟩ := Sep.pick (L := L) (k := k) (by simpa using hk) h3
  exact ⟨S, fun i hi => (g1 i hi).1, g2, S0, fun i hi => ⟨h1 i hi, fun hs => (g1 i hs).2 hi⟩, h2, Sep.imp (fun i hi => ⟨⟨hi.1.1, hi.2⟩, hi.1.2⟩) g3⟩
theorem Sep.unpick {W : World} {it : Item} : ∀ {L : List Item} {U S : Nat → Prop} {k : Nat}, k < L.length → (∀ i, S i → U i) → it.P W S → Sep W (L.eraseIdx k) (fun i => U i ∧ ¬ S i) → Sep W (L.set k it) U
 | [], _, _, k, hk, _, _, _ => by simp at hk
 | x :: L, U, S, 0, hk, h1, h2, h3 => ⟨S, h1, h2, h3⟩
 | x :: L, U, S, k + 1, hk, h1, h2, ⟨S0, g1, g2, g3⟩ => by
  refine ⟨S0, fun i hi => (g1 i hi).1, g2, Sep.unpick (L := L) (k := k) (S := S) (by simpa using hk) (fun i hi => ⟨h1 i hi, fun hs => (g1 i hs).2 hi⟩) h2 (Sep.imp (fun i hi => ⟨⟨hi.1.1, hi.2⟩, hi.1.2⟩) g3)⟩
theorem Sep.erase {W : World} {L : List Item} {U : Nat → Prop} (k : Nat) (h : Sep W L U) : Sep W (L.eraseIdx k) U := by
 by_cases hk : k < L.length
 ·obtain ⟨S, _, _, h3⟩ := Sep.pick (k := k) (List.getElem?_eq_getElem hk) h
  exact Sep.imp (fun i hi => hi.1) h3
 ·rw [List.eraseIdx_of_length_le (by omega)]; exact h
theorem Sep.append {W : World} : ∀ {L L' : List Item} {U U' : Nat → Prop}, (∀ i, U' i → ¬ U i) → Sep W L' U' → Sep W L U → Sep W (L' ++ L) (fun i => U i ∨ U' i)
 | L, [], U, U', _, _, h => Sep.imp (fun i hi => .inl hi) h
 | L, it :: L', U, U', hd, ⟨S, h1, h2, h3⟩, h => ⟨S, fun i hi => .inr (h1 i hi), h2,
  Sep.imp (fun i hi => ⟨hi.elim .inl (fun h => .inr h.1), fun hs => hi.elim (fun hu => hd i (h1 i hs) hu) (fun h => h.2 hs)⟩) (Sep.append (U' := fun i => U' i ∧ ¬ S i) (fun i hi => hd i hi.1) h3 h)⟩
structure Own (B : Nat) (w0 W : World) (L : List Item) : Prop where
 below : Below B w0 W
 base : B ≤ W.heap.size
 sep : Sep W L (fun i => B ≤ i ∧ i < W.heap.size)
namespace Own
variable {B : Nat} {w0 W W1 : World} {L L' : List Item}
theorem start (w : World) : Own w.heap.size w w [] := ⟨Below.refl _ _, Nat.le_refl _, trivial⟩
theorem step (h : Own B w0 W L) (hb : Below W.heap.size W W1) : Own B w0 W1 L :=
 ⟨below_then h.below h.base hb, Nat.le_trans h.base hb.size, Sep.imp (fun i hi => ⟨hi.1, Nat.lt_of_lt_of_le hi.2 hb.size⟩) (Sep.move (fun k hk => hb.block k hk.2) h.sep)⟩
theorem drew (h : Own B w0 W L) : Own B w0 W.drew L := h.step (below_drew (Below.refl _ _))
theorem drewN (h : Own B w0 W L) (n : Nat) : Own B w0 (W.drewN n) L := h.step (pw_below_drewN (Below.refl _ _) n)
theorem alloc (h : Own B w0 W L) (o : Obj) : Own B w0 (W.alloc o) L := h.step (below_alloc (Below.refl _ _) _)
theorem call (h : Own B w0 W L) (h1 : Own W.heap.size W W1 L') : Own B w0 W1 (L' ++ L) := by
 have h2 := h.step h1.below
 refine ⟨h2.below, h2.base, Sep.imp ?_ (Sep.append (U := fun i => B ≤ i ∧ i < W.heap.size) (U' := fun i => W.heap.size ≤ i ∧ i < W1.heap.size) (fun i hi hu => by omega) h1.sep (Sep.move (fun k hk => h1.below.block k hk.2) h.sep))⟩
 have e1 := h.base
 have e2 := h1.base
 exact fun i hi => by omega
theorem erase (h : Own B w0 W L) (k : Nat) : Own B w0 W (L.eraseIdx k) := ⟨h.below, h.base, Sep.erase k h.sep⟩
theorem focus (h : Own B w0 W L) (k : Nat) {it : Item} (hk : L[k]? = some it) : ∃ S : Nat → Prop, (∀ i, S i → B ≤ i ∧ i < W.heap.size) ∧ it.P W S ∧
 ∀ (W1 : World) (it' : Item) (r : Option Nat), W.grownBy W1 r → (∀ g, r = some g → S g) → it'.P W1 (fun i => S i ∨ (W.heap.size ≤ i ∧ i < W1.heap.size)) → Own B w0 W1 (L.set k it') := by
 obtain ⟨S, h1, h2, h3⟩ := Sep.pick hk h.sep
 refine ⟨S, h1, h2, fun W1 it' r hg c1 c2 => ?_⟩
 have e1 := h.base
 have e2 := hg.size
 refine ⟨h.below.grown hg h.base (fun g hr => (h1 g (c1 g hr)).1), Nat.le_trans h.base hg.size, ?_⟩
 refine Sep.unpick (S := fun i => S i ∨ (W.heap.size ≤ i ∧ i < W1.heap.size)) (by have := (List.getElem?_eq_some_iff.1 hk).1; exact this) (fun i hi => ?_) c2 ?_
 ·rcases hi with hi | hi
  ·have := h1 i hi; omega
  ·omega
 ·refine Sep.imp (U := fun i => (B ≤ i ∧ i < W.heap.size) ∧ ¬ S i) (fun i hi => ⟨by omega, fun hs => ?_⟩) (Sep.move (fun i hi => hg.block i hi.1.2 (fun he => hi.2 (c1 i he.symm))) h3)
  rcases hs with hs | hs
  ·exact hi.2 hs
  ·omega
theorem change (h : Own B w0 W L) (k : Nat) {it it' : Item} (hk : L[k]? = some it) (r : Option Nat) (hg : W.grownBy W1 r)
 (hc : ∀ S : Nat → Prop, it.P W S → (∀ g, r = some g → S g) ∧ it'.P W1 (fun i => S i ∨ (W.heap.size ≤ i ∧ i < W1.heap.size))) : Own B w0 W1 (L.set k it') := by
 obtain ⟨S, _, h2, h3⟩ := h.focus k hk
 obtain ⟨c1, c2⟩ := hc S h2
 exact h3 W1 it' r hg c1 c2
theorem look (h : Own B w0 W L) (k : Nat) {it : Item} (hk : L[k]? = some it) : ∃ S : Nat → Prop, (∀ i, S i → B ≤ i ∧ i < W.heap.size) ∧ it.P W S := by
 obtain ⟨S, h1, h2, _⟩ := Sep.pick hk h.sep
 exact ⟨S, h1, h2⟩
theorem turn (h : Own B w0 W L) (k : Nat) {it it' : Item} (hk : L[k]? = some it) (hc : ∀ S : Nat → Prop, it.P W S → it'.P W S) : Own B w0 W (L.set k it') :=
 h.change k hk none (World.grownBy.refl W none) fun S hs => ⟨fun g hr => (by cases hr), it'.mono (fun i hi => .inl hi) (hc S hs)⟩
theorem fresh (h : Own B w0 W L) (hb : Below W.heap.size W W1) (it : Item) (hp : it.P W1 (fun i => W.heap.size ≤ i ∧ i < W1.heap.size)) : Own B w0 W1 (it :: L) :=
 h.call (L' := [it]) ⟨hb, hb.size, _, fun _ hi => hi, hp, trivial⟩
theorem null (h : Own B w0 W L) {α : Type} (d : Kd α) (e : Nat) : Own B w0 W (.row d e (.slice none 0 0) [] :: L) :=
 h.fresh (Below.refl _ _) (.row d e (.slice none 0 0) []) (Kd.R_nil _ _ _ _ _)
theorem get (h : Own B w0 W L) (k : Nat) {g : Nat} {cs : Array Value} {t : TypeId} (hk : L[k]? = some (.blk g cs t)) : W.heap[g]? = some (.cells cs t (0, 0)) := by
 obtain ⟨S, _, h2⟩ := h.look k hk
 exact h2.2
theorem cell (h : Own B w0 W L) (k : Nat) {g : Nat} {cs : Array Value} {t : TypeId} (hk : L[k]? = some (.blk g cs t)) (i : Nat) {v : Value} (hv : cs[i]? = some v) : W.cell? ⟨g, i, none⟩ = some v :=
 (blk_cell (h.get k hk) i).trans hv
theorem fz (h : Own B w0 W L) (k : Nat) {g : Nat} {cs : Array Value} {t : TypeId} (hk : L[k]? = some (.blk g cs t)) (i : Nat) : W.frozen? ⟨g, i, none⟩ = false := blk_frozen (h.get k hk) i
theorem new (h : Own B w0 W L) (cs : Array Value) (t : TypeId) : Own B w0 (W.alloc (.cells cs t)) (.blk W.heap.size cs t :: L) :=
 h.fresh (below_alloc (Below.refl _ _) _) (.blk W.heap.size cs t) ⟨⟨Nat.le_refl _, blk_lt (blk_new W _)⟩, blk_new W _⟩
theorem grown_cell (W : World) (g i : Nat) (v : Value) : W.grownBy (W.setCell ⟨g, i, none⟩ v) (some g) :=
 ⟨rfl, rfl, rfl, by simp [World.setCell], fun k _ hk => Below.heap_setCell W ⟨g, i, none⟩ v k (fun he => hk (by rw [he]))⟩
theorem grown_row (W : World) (g : Nat) (c' : Array Value) : W.grownBy (W.setRow g c') (some g) :=
 ⟨rfl, rfl, rfl, by simp, fun k _ hk => setRow_off W g k c' (fun he => hk (by rw [he]))⟩
theorem put (h : Own B w0 W L) (k : Nat) {g : Nat} {cs cs' : Array Value} {t : TypeId} (hk : L[k]? = some (.blk g cs t)) (i : Nat) (v : Value) (hv : cs.setIfInBounds i v = cs') : Own B w0 (W.setCell ⟨g, i, none⟩ v) (L.set k (.blk g cs' t)) := by
 subst hv
 exact h.change k hk (some g) (grown_cell W g i v) fun S hs => ⟨fun x hx => by injection hx with hx; exact hx ▸ hs.1, .inl hs.1, blk_set hs.2 i v⟩
theorem setRow (h : Own B w0 W L) (k : Nat) {g : Nat} {cs : Array Value} {t : TypeId} (hk : L[k]? = some (.blk g cs t)) (c' : Array Value) : Own B w0 (W.setRow g c') (L.set k (.blk g c' t)) :=
 h.change k hk (some g) (grown_row W g c') fun S hs => ⟨fun x hx => by injection hx with hx; exact hx ▸ hs.1, .inl hs.1, setRow_at hs.2 c'⟩
variable {α : Type} {d : Kd α} {e : Nat} {v : Value} {xs : List α}
theorem reads (h : Own B w0 W L) (k : Nat) (hk : L[k]? = some (.row d e v xs)) : ∃ A c, v = .slice A xs.length c ∧ xs.length ≤ c ∧ d.C W A xs.length xs := by
 obtain ⟨S, _, h2⟩ := h.look k hk
 exact Kd.R_reads h2
theorem form (h : Own B w0 W L) (k : Nat) (hk : L[k]? = some (.row d e v xs)) (hp : 0 < xs.length) : ∃ g cap, v = .slice (some ⟨g, 0, none⟩) xs.length cap ∧ xs.length ≤ cap := by
 obtain ⟨S, _, h2⟩ := h.look k hk
 obtain ⟨A, c, h3, h4, _⟩ := Kd.R_reads h2
 obtain ⟨g, cap, h5, _⟩ := Kd.R_form h2 hp
 rw [h5] at h3
 injection h3 with _ _ h6
 exact ⟨g, cap, h5, by omega⟩
theorem C_of (h : Own B w0 W L) (k : Nat) {A : Option Addr} {n c : Nat} (hk : L[k]? = some (.row d e (.slice A n c) xs)) : d.C W A n xs := by
 obtain ⟨A', c', he, _, h3⟩ := h.reads k hk
 injection he with h1 h2 h4
 subst h1; subst h2
 exact h3
end Own
def Flat {α : Type} (d : Kd α) : Prop := ∀ {W : World} {base : Nat} {x : α} {cs : List Value}, d.K W x cs → d.M W base (fun _ => False) x cs
theorem Flat_int (k : IntKind) : Flat (Kd.int k) := fun h => h
section
variable {P : Program} {ops : Array Oper} {rest : List Oper} {o : Oper} {a : Act} {Q : Exit → Act → World → Prop} {B : Nat} {w0 W : World} {L : List Item}
theorem own_alloc (H : Own B w0 W L) (hgd : o.guard = none) {N : Tmp} (hd : o.dst = some N) {t : TypeId} (ho : o.op = .alloc t) (cs : Array Value) (n : Nat)
 (hi : (P.info? t).map (fun i => (i.zero, i.size)) = some (some (.agg cs), n))
 (h : ∀ g w1, Own B w0 w1 (.blk g cs t :: L) → Below W.heap.size W w1 → wpList P ops Q rest (a.put o.dst (.pointer (some ⟨g, 0, none⟩))) w1) : wpList P ops Q (o :: rest) a W :=
 arr_alloc hgd hd ho cs n hi fun g w1 hg hge hb => h g w1 (H.fresh hb (.blk g cs t) ⟨⟨by omega, blk_lt hg⟩, hg⟩) hb
theorem own_alloc1 (H : Own B w0 W L) (hgd : o.guard = none) {N : Tmp} (hd : o.dst = some N) {t : TypeId} (ho : o.op = .alloc t) (z : Value) (hz : z.cells = #[z])
 (hi : (P.info? t).map (fun i => (i.zero, i.size)) = some (some z, 1))
 (h : ∀ g w1, Own B w0 w1 (.blk g #[z] t :: L) → Below W.heap.size W w1 → wpList P ops Q rest (a.put o.dst (.pointer (some ⟨g, 0, none⟩))) w1) : wpList P ops Q (o :: rest) a W := by
 refine Kd.event_run hgd (v := .pointer (some ⟨W.heap.size, 0, none⟩)) (w1 := W.alloc (.cells #[z] t (0, 0))) ?_ (h _ _ (H.new #[z] t) (below_alloc (Below.refl _ _) _))
 obtain ⟨hz', hs⟩ := zero_of_info hi
 unfold execOp
 simp only [ho]
 simp [Instr.alloc, hz', newVar, go_sem]
 rw [← hz]; rfl
theorem own_box (H : Own B w0 W L) (hgd : o.guard = none) {N : Tmp} (hd : o.dst = some N) {t : TypeId} {x : Operand} (ho : o.op = .box t x) (v : Value) (hx : a.eval x = v)
 (h : ∀ g w1, Own B w0 w1 (.blk g v.cells t :: L) → Below W.heap.size W w1 → wpList P ops Q rest (a.put o.dst (.pointer (some ⟨g, 0, none⟩))) w1) : wpList P ops Q (o :: rest) a W := by
 refine Kd.event_run hgd (v := .pointer (some ⟨W.heap.size, 0, none⟩)) (w1 := W.alloc (.cells v.cells t (0, 0))) ?_ (h _ _ (H.new v.cells t) (below_alloc (Below.refl _ _) _))
 unfold execOp
 simp only [ho, hx]
 simp [Instr.box, newVar, go_sem]
theorem own_store (H : Own B w0 W L) (k : Nat) (g : Nat) (cs : Array Value) (ty : TypeId) (hk : L[k]? = some (.blk g cs ty)) (hgd : o.guard = none) (x y : Operand) (ho : o.op = .store ty x y) (cells : Array Value)
 (hx : a.eval x = .pointer (some ⟨g, 0, none⟩)) (hy : a.eval y = .agg cells) (n : Nat) (hn : Arr n cs) (h1 : Arr n cells)
 (hi : (P.info? ty).map (·.size) = some n)
 (h : ∀ w1, Own B w0 w1 (L.set k (.blk g cells ty)) → wpList P ops Q rest (a.put o.dst undef) w1) : wpList P ops Q (o :: rest) a W :=
 arr_store hgd ty x y ho g cs cells hx hy (H.get k hk) (hn.1.trans h1.1.symm) (by rw [h1.1]; exact hi) h1.2 fun w1 hw => h w1 (hw ▸ H.setRow k hk cells)
theorem own_load (H : Own B w0 W L) (k : Nat) (g : Nat) (cs : Array Value) (ty : TypeId) (hk : L[k]? = some (.blk g cs ty)) (hgd : o.guard = none) (x : Operand) (ho : o.op = .load ty x) {m : Nat} {el : TypeId}
 (hx : a.eval x = .pointer (some ⟨g, 0, none⟩)) (hu : P.underlying ty = some (.array m el)) (n : Nat) (hn : Arr n cs) (hi : (P.info? ty).map (·.size) = some n)
 (h : wpList P ops Q rest (a.put o.dst (.agg cs)) W) : wpList P ops Q (o :: rest) a W :=
 arr_load hgd ty x ho g cs m el hx (H.get k hk) hu (by rw [hn.1]; exact hi) h
variable {α : Type} (d : Kd α)
theorem own_append_row (hF : Flat d) (H : Own B w0 W L) (k : Nat) {v : Value} {xs : List α} {e : Nat} (hk : L[k]? = some (.row d e v xs)) (hgd : o.guard = none) (s x : Operand) (t : TypeId) (z : Value) (bytes : Nat)
 (ho : o.op = .call { callee := .builtin .append, args := #[s, x], argTypes := #[t, t] })
 (ht : P.underlying t = some (.slice e)) (hinfo : (P.info? e).map (fun i => (i.zero, i.size, i.bytes)) = some (some z, d.sz, bytes)) (hz : z.cells.size = d.sz) (hs0 : 0 < d.sz) (hb0 : 0 < bytes)
 (ys : List α) (A : Option Addr) (m c : Nat) (hs : a.eval s = v) (hx : a.eval x = .slice A m c) (hC : d.C W A m ys) (hl : (xs.length + m) * bytes ≤ 140737488355328)
 (h : ∀ v1 w1, Own B w0 w1 (L.set k (.row d e v1 (xs ++ ys))) → wpList P ops Q rest (a.put o.dst v1) w1) :
 wpList P ops Q (o :: rest) a W := by
 obtain ⟨S, hS, hR, hch⟩ := H.focus k hk
 have hR : Kd.R d e W 0 S v xs := hR
 refine Kd.R_append_rows d 0 hgd s x t e z bytes ho ht hinfo hz hs0 hb0 v xs ys A m c (fun i => S i ∨ W.heap.size ≤ i) (fun _ => False) hs hx (Kd.R_mono hR fun i hi => .inl hi) hC (fun x cs hk => hF hk) (fun _ hk => hk.elim) (fun i hi => .inr hi) (w0 := W) ⟨rfl, rfl, rfl, Nat.le_refl _, fun _ _ => rfl⟩ (Nat.zero_le _) hl ?_
 intro v1 w1 hR1 _ hg _
 refine h v1 w1 (hch w1 (.row d e v1 (xs ++ ys)) v.ownBlock hg (fun g hr => hR.1 g hr) ?_)
 exact Kd.R_mono (Kd.R_bound hR1) (fun i hi => by rcases hi with ⟨hi | hi, h2, h3, _⟩; exact .inl hi; exact .inr ⟨hi, h3⟩)
theorem own_lit (hF : Flat d) (H : Own B w0 W L) (e : Nat) (hgd : o.guard = none) {N : Tmp} (hd : o.dst = some N) {xs : List α} {inner : List Value}
 (hrun : (execOp a.eval o).run P W = .ok (.value (.slice (some ⟨W.heap.size, 0, none⟩) xs.length xs.length)) (W.alloc (.cells inner.toArray e)))
 (hrep : Reps (d.K W) d.sz xs inner) (hm : xs.length ≤ 9223372036854775807)
 (h : ∀ A c w1, Own B w0 w1 (.row d e (.slice A xs.length c) xs :: L) → Below W.heap.size W w1 → wpList P ops Q rest (a.put o.dst (.slice A xs.length c)) w1) : wpList P ops Q (o :: rest) a W := by
 refine Kd.R_lit d W.heap.size e hgd hd (ok := fun _ => True) (okp := fun _ => False) (w0 := W) hrun (hrep.imp_ fun _ _ hk => hF hk) (fun _ h => h.elim) trivial (Below.refl _ _) (Nat.le_refl _) hm ?_
 intro v1 w1 hR1 hb _ _
 obtain ⟨A, c, rfl⟩ := Kd.R_slice hR1
 exact h A c w1 (H.fresh hb (.row d e (.slice A xs.length c) xs) (Kd.R_lower (Kd.R_mono (Kd.R_bound hR1) fun i hi => ⟨hi.2.1, hi.2.2.1⟩) (Nat.zero_le _))) hb
end
abbrev kB : Kd Int := Kd.int .u8
theorem Flat_B : Flat kB := Flat_int .u8
theorem infoB : (Try.prog.info? 5).map (fun i => (i.zero, i.size, i.bytes)) = some (some (.int .u8 0), 1, 1) := by kernel_rfl
def toN (l : List Int) : List Nat := l.map Int.toNat
def toI (l : List Nat) : List Int := l.map fun x : Nat => (x : Int)
def shaI (l : List Int) : List Int := toI (shaP (toN l))
def pairI (x y : List Int) : List Int := shaI (1 :: x ++ y)
def cellsB (l : List Int) : Array Value := (l.map (Value.int .u8)).toArray
theorem Arr_B {l : List Int} {n : Nat} (h : l.length = n) : Arr n (cellsB l) := ⟨by simp [cellsB, h], all_oneCell_toArray (by
 intro v hv
 obtain ⟨x, _, rfl⟩ := List.mem_map.1 hv
 rfl)⟩
def be8I (n : Nat) : List Int := toI (be8 n)
theorem be8_at (n j : Nat) (h : j < 8) : (be8I n)[j]? = some ((n / 2 ^ (56 - 8 * j) % 256 : Nat) : Int) := by
 have : j = 0 ∨ j = 1 ∨ j = 2 ∨ j = 3 ∨ j = 4 ∨ j = 5 ∨ j = 6 ∨ j = 7 := by omega
 rcases this with rfl | rfl | rfl | rfl | rfl | rfl | rfl | rfl <;> first | rfl | simp [be8I, toI, be8]
section
variable {P : Program} {ops : Array Oper} {rest : List Oper} {o : Oper} {a : Act} {Q : Act → Prop} {C : World → Prop}
theorem qs (hg : o.guard = none) (h : ∃ v, (∀ w, C w → o.quietAt P a C w v) ∧ wpQuiet P ops C Q rest (a.put o.dst v)) : wpQuiet P ops C Q (o :: rest) a := by
 unfold wpQuiet
 rw [if_pos (by simp [Region.wanted, hg])]
 exact h
end
section
variable {P : Program} {ops : Array Oper} {rest : List Oper} {o : Oper} {a : Act} {Q : Act → Prop} {w : World}
theorem ss (hg : o.guard = none) (h : o.still P a w (wpStill P ops w Q rest)) : wpStill P ops w Q (o :: rest) a := by
 unfold wpStill
 rw [if_pos (by simp [Region.wanted, hg])]
 exact h
end
theorem Own.setCells {B : Nat} {w0 W : World} {L : List Item} (h : Own B w0 W L) (k : Nat) {g : Nat} {cur : Array Value} {t : TypeId} (hk : L[k]? = some (.blk g cur t)) (vs : List Value) (hl : vs.length = cur.size) : Own B w0 (W.setCells g 0 vs) (L.set k (.blk g vs.toArray t)) := by
 obtain ⟨s1, s2, s3, s4⟩ := setCells_same g vs 0 W
 obtain ⟨cur', h1, h2, h3⟩ := setCells_row vs 0 W cur (h.get k hk) (by omega)
 have he : cur' = vs.toArray := by
  apply Array.toList_inj.1
  rw [h3, Nat.zero_add, List.take_zero, List.nil_append, List.drop_eq_nil_of_le (by rw [Array.length_toList]; omega), List.append_nil]
 subst he
 refine h.change k hk (some g) ⟨s1, s2, s3, by omega, fun i _ hi => setCells_far vs 0 i (fun e => hi (by rw [e]))⟩ fun S hs => ⟨fun x hx => by injection hx with hx; exact hx ▸ hs.1, .inl hs.1, h1⟩
theorem Sep.perm {W : World} {L L' : List Item} (hp : L.Perm L') : ∀ {U : Nat → Prop}, Sep W L U → Sep W L' U := by
 induction hp with
 | nil => intro U h; exact h
 | cons x _ ih => intro U ⟨S, h1, h2, h3⟩; exact ⟨S, h1, h2, ih h3⟩
 | swap x y l =>
  intro U ⟨S, h1, h2, S', g1, g2, g3⟩
  exact ⟨S', fun i hi => (g1 i hi).1, g2, S, fun i hi => ⟨h1 i hi, fun hs => (g1 i hs).2 hi⟩, h2, Sep.imp (fun i hi => ⟨⟨hi.1.1, hi.2⟩, hi.1.2⟩) g3⟩
 | trans _ _ ih1 ih2 => intro U h; exact ih2 (ih1 h)
theorem Own.perm {B : Nat} {w0 W : World} {L L' : List Item} (h : Own B w0 W L) (hp : L.Perm L') : Own B w0 W L' := ⟨h.below, h.base, Sep.perm hp h.sep⟩
theorem beq_drop (x y : List Int) (hl : x.length = y.length) (s : Nat) (h : s < x.length) : (x.drop s == y.drop s) = (x[s] == y[s]'(by omega) && (x.drop (s + 1) == y.drop (s + 1))) := by
 rw [List.drop_eq_getElem_cons h, List.drop_eq_getElem_cons (by omega : s < y.length)]
 rfl
section
variable {P : Program}
theorem run_part_B (e : TypeId) (he : P.underlying e = some (.int .u8)) (xs : List Int) (i : Nat) (h : i < xs.length) (w : World) : (part e (cellsB xs) i).run P w = .ok (.int .u8 xs[i]) w := by
 have hag : (isAgg e).run P w = .ok false w := by
  unfold isAgg
  simp [run_underlying he, go_sem]
 have hg : (cellsB xs)[i]? = some (.int .u8 xs[i]) := by simp [cellsB, h]
 simp [part, hag, hg, go_sem]
theorem run_equalIn_B (d : Nat) (t e : TypeId) (n : Nat) (ht : P.underlying t = some (.array n e)) (he : P.underlying e = some (.int .u8)) (hs : (P.info? e).map (·.size) = some 1) (xs ys : List Int) (hx : xs.length = n) (hy : ys.length = n) (w : World) :
 (Op.equalIn (d + 2) t (.agg (cellsB xs)) (.agg (cellsB ys))).run P w = .ok (xs == ys) w := by
 obtain ⟨ti, hti, hsz⟩ := Option.map_eq_some_iff.1 hs
 have hso : (sizeOf e).run P w = .ok 1 w := by simp [sizeOf, typeInfo, hti, hsz, go_sem]
 rw [Op.equalIn]
 simp only [Sem.run_bind, run_underlying ht, Result.andThen_ok, hso, Nat.mul_one]
 rw [Std.Legacy.Range.forIn_eq_forIn_range']
 simp only [Std.Legacy.Range.size]
 have key : ∀ (k s : Nat), s + k = n → ((forIn (m := Sem) (List.range' s k 1) ((none, ()) : Option Bool × PUnit) fun i r => do
  let a ← part e (cellsB xs) i
  let b ← part e (cellsB ys) i
  let q ← Op.equalIn (d + 1) e a b
  if (!q) = true then pure (ForInStep.done (some false, ())) else pure (ForInStep.yield (none, ())))).run P w = .ok (if (xs.drop s == ys.drop s) = true then (none, ()) else (some false, ())) w := by
  intro k
  induction k with
  | zero =>
   intro s hsn
   rw [List.drop_eq_nil_of_le (by omega), List.drop_eq_nil_of_le (by omega)]
   simp
  | succ k ih =>
   intro s hsn
   rw [List.range'_succ, List.forIn_cons]
   have h1 : s < xs.length := by omega
   have h2 : s < ys.length := by omega
   have he2 := run_equalIn_int (P := P) w d e .u8 .u8 xs[s] ys[s] he
   simp only [Sem.run_bind, run_part_B e he xs s h1 w, run_part_B e he ys s h2 w, Result.andThen_ok, he2]
   rw [beq_drop xs ys (by omega) s h1]
   cases hq : (xs[s] == ys[s])
   ·simp
   ·have := ih (s + 1) (by omega)
    simp only [Bool.not_true, Bool.false_eq_true, if_false, Sem.run_pure, Result.andThen_ok, Bool.true_and]
    exact this
 have := key n 0 (by omega)
 simp only [List.drop_zero] at this
 simp only [show (n - 0 + 1 - 1) / 1 = n by omega]
 rw [this]
 by_cases hxy : (xs == ys) = true
 ·simp [hxy]
 ·simp [hxy]
end
section
variable {P : Program} {ops : Array Oper} {rest : List Oper} {o : Oper} {a : Act} {Q : Exit → Act → World → Prop} {W : World}
theorem run_loadVar_at (p : Addr) (ty : TypeId) (cs : List Value) (d : TypeDesc) (hc : ∀ j v, cs[j]? = some v → W.cell? (p.add j) = some v) (hu : P.underlying ty = some d) (hd : (match d with | .struct _ | .array _ _ => true | _ => false) = true) (hi : (P.info? ty).map (·.size) = some cs.length) :
 (loadVar ty p).run P W = .ok (.agg cs.toArray) W := by
 have hl : (loadCells p cs.length).run P W = .ok cs.toArray W := run_loadCells_list (P := P) W p cs hc
 cases hq : P.info? ty with
 | none => simp [hq] at hi
 | some i =>
  have hs : i.size = cs.length := by simpa [hq] using hi
  have hagg : (isAgg ty).run P W = .ok true W := by
   unfold isAgg
   rw [Sem.run_bind, run_underlying hu W]
   cases d <;> simp_all
  simp [loadVar, Sem.run_bind, hagg, sizeOf, typeInfo, hq, hs, hl]
end
section
variable {P : Program}
end
theorem size1B : (Try.prog.info? 5).map (·.size) = some 1 := by kernel_rfl
theorem sizeH : (Try.prog.info? 25).map (·.size) = some 32 := by kernel_rfl
def zero32 : List Int := List.replicate 32 0
def rootP : Nat → List (List Int) → List Int
 | 0, ls => ls.getD 0 zero32
 | d + 1, ls => if ls.length = 0 then pairI (rootP d []) (rootP d []) else if ls.length ≤ 2 ^ d then pairI (rootP d ls) (rootP d []) else pairI (rootP d (ls.take (2 ^ d))) (rootP d (ls.drop (2 ^ d)))
theorem R_block {α : Type} {d : Kd α} {e : Nat} {W : World} {base : Nat} {ok : Nat → Prop} {g n cap : Nat} {xs : List α} (h : d.R e W base ok (.slice (some ⟨g, 0, none⟩) n cap) xs) :
 n = xs.length ∧ ∃ cur inner, W.heap[g]? = some (.cells cur e (0, 0)) ∧ cur.size = cap * d.sz ∧ n ≤ cap ∧ cur.toList.take (n * d.sz) = inner ∧ Reps (d.M W base (fun k => ok k ∧ some k ≠ (Value.slice (some ⟨g, 0, none⟩) n cap).ownBlock)) d.sz xs inner := by
 have hn := (Kd.R_reads' h).1
 obtain ⟨hok, inner, ho, hr⟩ := h
 refine ⟨hn, ?_⟩
 rcases ho.2 with ⟨he, _⟩ | ⟨g', cap', cur, he, hb, hh, hc1, hc2, hc3, hc4⟩
 ·cases he
 ·injection he with h1 h2 h3
  injection h1 with h1
  injection h1 with h1
  subst h1 h3 hn
  exact ⟨cur, inner, hh, hc3, hc1, hc4, hr⟩
theorem R_there {α : Type} {d : Kd α} {e : Nat} {W : World} {base : Nat} {ok : Nat → Prop} {g n cap : Nat} {xs : List α} (h : d.R e W base ok (.slice (some ⟨g, 0, none⟩) n cap) xs) (i : Nat) (hi : i < n) : W.there g (i * d.sz) d.sz := by
 obtain ⟨hn, cur, inner, hh, hc3, hc1, hc4, hr⟩ := R_block h
 have hm : i * d.sz + d.sz ≤ cap * d.sz := by rw [← Nat.succ_mul]; exact Nat.mul_le_mul_right _ (by omega)
 intro j hj
 refine ⟨?_, blk_frozen hh _⟩
 rw [blk_cell hh, Array.getElem?_eq_getElem (by omega)]
 rfl
namespace Own
variable {B : Nat} {w0 W : World} {L : List Item} {α : Type} {d : Kd α}
theorem there_row (h : Own B w0 W L) (k : Nat) {g n cap e : Nat} {xs : List α} (hk : L[k]? = some (.row d e (.slice (some ⟨g, 0, none⟩) n cap) xs)) (i : Nat) (hi : i < n) : W.there g (i * d.sz) d.sz := by
 obtain ⟨S, _, hR⟩ := h.look k hk
 exact R_there (d := d) hR i hi
end Own
section
variable {P : Program} {ops : Array Oper} {rest : List Oper} {o : Oper} {a : Act} {Q : Exit → Act → World → Prop} {B : Nat} {w0 W : World} {L : List Item}
end
abbrev at0 (ss : List (List Int)) (i : Nat) : List Int := ss.getD i []
structure Tree (n : Nat) (lf : List (List Int)) (ss : List (List Int)) (out : Nat → Prop) : Prop where
 len : ss.length = 2 * n
 lfn : lf.length = n
 leaf : ∀ i, i < n → at0 ss (n + i) = at0 lf i
 node : ∀ i, 1 ≤ i → i < n → ¬ out i → at0 ss i = pairI (at0 ss (2 * i)) (at0 ss (2 * i + 1))
theorem Tree.sub {D : Nat} {lf ss : List (List Int)} (h : Tree (2 ^ D) lf ss (fun _ => False)) : ∀ k, k ≤ D → ∀ j, j < 2 ^ (D - k) →
 at0 ss (2 ^ (D - k) + j) = rootP k ((lf.drop (j * 2 ^ k)).take (2 ^ k)) := by
 intro k
 induction k with
 | zero =>
  intro _ j hj
  rw [Nat.sub_zero] at hj ⊢
  rw [h.leaf j hj, Nat.pow_zero, Nat.mul_one]
  have hjl : j < lf.length := by rw [h.lfn]; exact hj
  unfold rootP at0
  rw [List.getD_eq_getElem?_getD, List.getD_eq_getElem?_getD, List.getElem?_take, List.getElem?_drop, Nat.add_zero, if_pos (by decide), List.getElem?_eq_getElem hjl]
  rfl
 | succ k ih =>
  intro hk j hj
  have e2 : 2 ^ (D - k) = 2 * 2 ^ (D - (k + 1)) := by rw [show D - k = (D - (k + 1)) + 1 by omega, Nat.pow_succ, Nat.mul_comm]
  have e3 : 2 ^ (D - (k + 1)) * 2 ^ (k + 1) = 2 ^ D := by rw [← Nat.pow_add, Nat.sub_add_cancel hk]
  have e4 : 2 ^ (k + 1) = 2 ^ k + 2 ^ k := by rw [Nat.pow_succ]; omega
  have hp : 0 < 2 ^ (D - (k + 1)) := Nat.two_pow_pos _
  have hq : 0 < 2 ^ k := Nat.two_pow_pos _
  have hle : 2 ^ (D - (k + 1)) + j < 2 ^ D := by
   have : 2 ^ (D - k) ≤ 2 ^ D := Nat.pow_le_pow_right (by decide) (Nat.sub_le _ _)
   omega
  rw [h.node _ (by omega) hle (fun x => x)]
  have i1 := ih (by omega) (2 * j) (by omega)
  have i2 := ih (by omega) (2 * j + 1) (by omega)
  rw [show 2 * (2 ^ (D - (k + 1)) + j) = 2 ^ (D - k) + 2 * j by omega, i1, show 2 ^ (D - k) + 2 * j + 1 = 2 ^ (D - k) + (2 * j + 1) by omega, i2]
  have hjm : (j + 1) * 2 ^ (k + 1) ≤ 2 ^ D := by rw [← e3]; exact Nat.mul_le_mul_right _ (by omega)
  have hjm' : j * 2 ^ (k + 1) + 2 ^ (k + 1) ≤ 2 ^ D := by rw [← Nat.succ_mul]; exact hjm
  have hlen : ((lf.drop (j * 2 ^ (k + 1))).take (2 ^ (k + 1))).length = 2 ^ (k + 1) := by
   rw [List.length_take, List.length_drop, h.lfn]; omega
  conv => rhs; unfold rootP
  rw [hlen, if_neg (by omega), if_neg (by omega), List.take_take, List.drop_take, List.drop_drop, Nat.min_eq_left (by omega)]
  have a1 : 2 * j * 2 ^ k = j * 2 ^ (k + 1) := by rw [Nat.pow_succ, Nat.mul_comm 2 j, Nat.mul_assoc, Nat.mul_comm 2 (2 ^ k)]
  have a2 : (2 * j + 1) * 2 ^ k = j * 2 ^ (k + 1) + 2 ^ k := by rw [Nat.add_mul, a1, Nat.one_mul]
  rw [a1, a2, show 2 ^ (k + 1) - 2 ^ k = 2 ^ k by omega]
def isAggD : TypeDesc → Bool
 | .struct _ => true
 | .array _ _ => true
 | _ => false
section
variable {P : Program} {ops : Array Oper} {rest : List Oper} {o : Oper} {a : Act} {Q : Exit → Act → World → Prop} {B : Nat} {w0 W : World} {L : List Item}
theorem own_loadV (H : Own B w0 W L) (k : Nat) (g : Nat) (cs : Array Value) (ty : TypeId) (hk : L[k]? = some (.blk g cs ty)) (hgd : o.guard = none) (x : Operand) (ho : o.op = .load ty x) (d : TypeDesc)
 (hx : a.eval x = .pointer (some ⟨g, 0, none⟩)) (hu : P.underlying ty = some d) (hd : isAggD d = true) (hi : (P.info? ty).map (·.size) = some cs.size)
 (h : wpList P ops Q rest (a.put o.dst (.agg cs)) W) : wpList P ops Q (o :: rest) a W :=
 wpList_load_row hgd ty x ho g hx ty cs (0, 0) d (H.get k hk) hu (by cases d <;> first | rfl | cases hd) hi h
end
theorem own_resultV {fn : Func} {p : Tmp} {ty : TypeId} (h : fn.results = #[.cell p ty]) (tmps : Array Value) {B : Nat} {w0 W : World} {L : List Item} (H : Own B w0 W L) (k : Nat) (g : Nat) (cs : Array Value) (hk : L[k]? = some (.blk g cs ty))
 (hp : tmps.getD p undef = .pointer (some ⟨g, 0, none⟩)) {P : Program} (d : TypeDesc) (hu : P.underlying ty = some d) (hd : isAggD d = true) (hi : (P.info? ty).map (·.size) = some cs.size) :
 (results fn tmps).run P W = .ok (.agg cs) W := results_cell_row h tmps W g ty cs (0, 0) d hp (H.get k hk) hu (by cases d <;> first | rfl | cases hd) hi
theorem own_resultV_t {fn : Func} {p u : Tmp} {ty : TypeId} (h : fn.results = #[.cell p ty, .tmp u]) (tmps : Array Value) {B : Nat} {w0 W : World} {L : List Item} (H : Own B w0 W L) (k : Nat) (g : Nat) (cs : Array Value) (hk : L[k]? = some (.blk g cs ty))
 (hp : tmps.getD p undef = .pointer (some ⟨g, 0, none⟩)) {P : Program} (d : TypeDesc) (hu : P.underlying ty = some d) (hd : isAggD d = true) (hi : (P.info? ty).map (·.size) = some cs.size) (v : Value) (hv : tmps.getD u undef = v) :
 (results fn tmps).run P W = .ok (.tuple #[.agg cs, v]) W := by
 subst hv
 exact results_ct h tmps W g ty cs (0, 0) d hp (H.get k hk) hu (by cases d <;> first | rfl | cases hd) hi
theorem perm_front {α : Type} : ∀ (l : List α) (k : Nat) (x : α), l[k]? = some x → l.Perm (x :: l.eraseIdx k)
 | [], k, x, h => by simp at h
 | y :: l, 0, x, h => by
  obtain rfl : y = x := by simpa using h
  exact List.Perm.refl _
 | y :: l, k + 1, x, h => ((perm_front l k x (by simpa using h)).cons y).trans (List.Perm.swap x y _)
theorem Own.bring {B : Nat} {w0 W : World} {L : List Item} (h : Own B w0 W L) (k : Nat) {it : Item} (hk : L[k]? = some it) : Own B w0 W (it :: L.eraseIdx k) := h.perm (perm_front L k it hk)
namespace Own
variable {B : Nat} {w0 W : World} {L : List Item} {α : Type} {d : Kd α}
theorem apart {g : Nat} {cs : Array Value} {t : TypeId} (h : Own B w0 W (.blk g cs t :: L)) (k : Nat) {g1 o n cap e : Nat} {xs : List α} (hk : L[k]? = some (.row d e (.slice (some ⟨g1, o, none⟩) n cap) xs)) : ¬ g = g1 := by
 obtain ⟨S, h1, h2, h3⟩ := h.sep
 obtain ⟨S2, h4, h5, _⟩ := Sep.pick hk h3
 have hR : Kd.R d e W 0 S2 _ xs := h5
 intro he
 subst he
 exact (h4 g (hR.1 g rfl)).2 h2.1
end Own
def Anc (k j : Nat) : Prop := ∃ s, j = k / 2 ^ s
theorem Anc.zero {j : Nat} (h : Anc 0 j) : j = 0 := by
 obtain ⟨s, rfl⟩ := h
 exact Nat.zero_div _
section
variable {P : Program} {ops : Array Oper} {S : World → Prop} {o : Oper} {a : Act}
theorem yif_loadV (hw : Region.wanted o (yielded ops a.tmps) = true) (ty : TypeId) (x : Operand) (ho : o.op = .load ty x) (g : Nat) (cs : Array Value) (hx : a.eval x = .pointer (some ⟨g, 0, none⟩))
 (hS : ∀ w, S w → w.heap[g]? = some (.cells cs ty (0, 0))) (d : TypeDesc) (hu : P.underlying ty = some d) (hd : isAggD d = true) (hi : (P.info? ty).map (·.size) = some cs.size) : YieldsIf P ops S o (.agg cs) a :=
 .inl ⟨hw, fun w h => by
  unfold execOp
  simp only [ho, hx, Instr.loadAt, Instr.sureAddr, Sem.run_bind, Sem.run_pure, Result.andThen_ok, run_loadVar_row w g ty ty cs (0, 0) d (hS w h) hu (by cases d <;> first | rfl | cases hd) hi]⟩
end
theorem step_of_run {P : Program} {ops : Array Oper} {o : Oper} {a : Act} {Q : Exit → Act → World → Prop} {Kc : Act → World → Prop} {W W1 : World} {v : Value} (hw : Region.wanted o (yielded ops a.tmps) = true) (hrun : (execOp a.eval o).run P W = .ok (.value v) W1) (h : Kc (a.put o.dst v) W1) :
 if Region.wanted o (yielded ops a.tmps) = true then Oper.wp P o a W Kc Q else Kc (a.put o.dst undef) W := by
 rw [if_pos hw]
 unfold Oper.wp
 rw [hrun]
 exact h
end Go.Proofs.Ytocphkfkdadhaaa.H
namespace Go.Proofs.Ytocphkfkdadhaaa.H
open Go.RowKit Go.Proofs.YtocphkfkdadhaaaW.PrintWords Go.Proofs.YtocphkfkdadhaaaW.PrintLast Go.Proofs.YtocphkfkdadhaaaW.PrintMore
open Go.ChangeShapes Go.WideShapes Go.ChangeAt
theorem choose_list {α : Type} (Q : Nat → α → Prop) : ∀ n : Nat, (∀ i, i < n → ∃ y, Q i y) → ∃ xs : List α, xs.length = n ∧ ∀ i p, xs[i]? = some p → Q i p
 | 0, _ => ⟨[], rfl, fun i p h => by simp at h⟩
 | n + 1, h => by
  obtain ⟨xs, hl, hx⟩ := choose_list Q n (fun i hi => h i (by omega))
  obtain ⟨y, hy⟩ := h n (by omega)
  refine ⟨xs ++ [y], by rw [List.length_append, hl]; rfl, fun i p hp => ?_⟩
  by_cases hi : i < xs.length
  ·rw [List.getElem?_append_left hi] at hp
   exact hx i p hp
  ·rw [List.getElem?_append_right (by omega)] at hp
   by_cases h0 : i - xs.length = 0
   ·rw [h0] at hp
    simp at hp
    subst hp
    rw [show i = n by omega]
    exact hy
   ·rw [List.getElem?_eq_none (by simp; omega)] at hp
    cases hp
def Opens {α : Type} (T : TypeId) (d : Kd α) (ok : α → Prop) : Prop :=
 ∀ {H : Type} {enc : TypeId × Value → H} {W : World} {fuel : Nat} {cs : List Value} {x : DataW H × List MemPlace}, DataW.trod enc Try.prog W 0 (fun _ => true) true fuel T cs = some x → ∃ y, d.K W y cs ∧ ok y
theorem opens_int {T : TypeId} {k : IntKind} (hT : Try.prog.underlying T = some (.int k)) : Opens T (Kd.int k) (fun n => (Lit.int k n).wf = true) := by
 intro H enc W fuel cs x h
 obtain ⟨n, e, _, w⟩ := DataW.trod_int hT h
 exact ⟨n, e, w⟩
def kA (n : Nat) (k : IntKind) : Kd (List Int) where
 sz := n
 E := []
 K := fun _ x cs => x.length = n ∧ cs = x.map (Value.int k)
 M := fun _ _ _ x cs => x.length = n ∧ cs = x.map (Value.int k)
 K_len := fun h => by rw [h.2, List.length_map, h.1]
 K_one := fun h u hu => by
  rw [h.2] at hu
  obtain ⟨x, _, rfl⟩ := List.mem_map.1 hu
  rfl
 K_below := fun _ h => h
 K_of_M := fun h => h
 M_mono := fun _ h => h
 M_bound := fun h => h
 M_move := fun _ h => h
 M_lower := fun _ h => h
noncomputable def offs : List TypeId → Nat → Nat
 | [] => fun _ => 0
 | t :: ts => fun i => match i with
  | 0 => 0
  | i + 1 => Try.prog.cellsOf t + offs ts i
end Go.Proofs.Ytocphkfkdadhaaa.H
namespace Go.Proofs.Ytocphkfkdadhaaa.H
open Go.RowKit Go.Proofs.YtocphkfkdadhaaaW.PrintWords Go.Proofs.YtocphkfkdadhaaaW.PrintLast Go.Proofs.YtocphkfkdadhaaaW.PrintMore
def splice (cs : List Value) (o : Nat) (seg : List Value) : List Value := cs.take o ++ seg ++ cs.drop (o + seg.length)
theorem splice_mid (a s s' b : List Value) (h : s.length = s'.length) : splice (a ++ (s ++ b)) a.length s' = a ++ (s' ++ b) := by
 unfold splice
 rw [List.take_left' rfl, ← h, ← List.append_assoc, List.drop_left' (by simp), List.append_assoc]
theorem fold_splice : ∀ (v : List Value) (o s : Nat) (cs : Array Value), o + s + v.length ≤ cs.size → ((v.zipIdx s).foldl (fun (cs : Array Value) (x : Value × Nat) => cs.setIfInBounds (o + x.2) x.1) cs).toList = splice cs.toList (o + s) v
 | [], o, s, cs, h => by simp [splice]
 | x :: v, o, s, cs, h => by
  simp only [List.length_cons] at h
  rw [List.zipIdx_cons, List.foldl_cons, fold_splice v o (s + 1) _ (by simp only [Array.size_setIfInBounds]; omega)]
  unfold splice
  simp only [Array.toList_setIfInBounds, List.length_cons]
  have hl : o + s < cs.toList.length := by rw [Array.length_toList]; omega
  rw [show o + (s + 1) = o + s + 1 by omega, show o + s + (v.length + 1) = o + s + 1 + v.length by omega, List.take_succ_eq_append_getElem (by rw [List.length_set]; exact hl), List.take_set_of_le (Nat.le_refl _), List.getElem_set_self, List.drop_set_of_lt (by omega)]
  simp
theorem fill_step {place : Nat → Option (Nat × Nat)} {cs : Array Value} {i o n : Nat} {v : Value} {rest : List (Nat × Value)} (hp : place i = some (o, n)) (hn : v.cells.size = n) (hl : o + n ≤ cs.size) :
 Instr.fill place cs ((i, v) :: rest) = Instr.fill place (splice cs.toList o v.cells.toList).toArray rest := by
 rw [Instr.fill]
 simp only [hp]
 rw [if_neg (by rw [hn]; simp; omega)]
 congr 1
 have h := fold_splice v.cells.toList o 0 cs (by rw [Array.length_toList]; omega)
 rw [Nat.add_zero] at h
 rw [← h, Array.toArray_toList]
 rw [← Array.foldl_toList, Array.toList_zipIdx]
namespace Own
variable {B : Nat} {w0 W : World} {L : List Item}
theorem there_blk (h : Own B w0 W L) (k : Nat) {g : Nat} {cs : Array Value} {t : TypeId} (hk : L[k]? = some (.blk g cs t)) (o n : Nat) (hl : o + n ≤ cs.size) : W.there g o n := by
 intro j hj
 refine ⟨?_, h.fz k hk _⟩
 rw [h.cell k hk (o + j) (Array.getElem?_eq_getElem (by omega))]
 rfl
theorem putSeg (h : Own B w0 W L) (k : Nat) {g : Nat} {cs : Array Value} {t : TypeId} (hk : L[k]? = some (.blk g cs t)) (o : Nat) (seg : List Value) (hl : o + seg.length ≤ cs.size) : Own B w0 (W.setCells g o seg) (L.set k (.blk g (splice cs.toList o seg).toArray t)) := by
 obtain ⟨s1, s2, s3, s4⟩ := setCells_same g seg o W
 have hgr : W.grownBy (W.setCells g o seg) (some g) := ⟨s1, s2, s3, by omega, fun k _ hk => setCells_far seg _ k (fun e => hk (by rw [e]))⟩
 refine h.change k hk (some g) hgr fun S hs => ⟨fun x hx => by injection hx with hx; exact hx ▸ hs.1, .inl hs.1, ?_⟩
 obtain ⟨cur', h1, h2, h3⟩ := setCells_row (e := t) seg o W cs hs.2 (by rw [Array.length_toList]; omega)
 rw [h1]
 congr 2
 rw [← Array.toArray_toList (xs := cur'), h3]
 rfl
end Own
section
variable {P : Program} {ops : Array Oper} {rest : List Oper} {o : Oper} {a : Act} {Q : Exit → Act → World → Prop} {B : Nat} {w0 W : World} {L : List Item}
theorem run_storeVar_cells (ty : TypeId) (p : Addr) (v : Value) (w : World) : (storeVar ty p v).run P w = (storeVar ty p (.agg v.cells)).run P w := rfl
theorem own_st (H : Own B w0 W L) (k : Nat) (g : Nat) (cs cs' : Array Value) (t : TypeId) (hk : L[k]? = some (.blk g cs t)) (hgd : o.guard = none) (ty : TypeId) (x y : Operand) (ho : o.op = .store ty x y) (off : Nat) (seg : List Value) (v : Value)
 (hx : a.eval x = .pointer (some ⟨g, off, none⟩)) (hy : a.eval y = v) (hvc : v.cells = seg.toArray) (hl : off + seg.length ≤ cs.size) (hi : (P.info? ty).map (·.size) = some seg.length) (h1 : ∀ v ∈ seg, v.oneCell' = true) (hcs : (splice cs.toList off seg).toArray = cs')
 (h : ∀ w1, Own B w0 w1 (L.set k (.blk g cs' t)) → wpList P ops Q rest (a.put o.dst undef) w1) : wpList P ops Q (o :: rest) a W := by
 subst hcs
 refine wpList_plain hgd fun _ hK => ?_
 have hr := run_storeVar_mid (P := P) W g off ty seg.toArray (by have := H.there_blk k hk off seg.length hl; simpa using this) (by simpa using hi) (all_oneCell_toArray h1)
 unfold Oper.wp execOp
 simp only [ho, hx, hy, Instr.storeAt, Instr.sureAddr, Sem.run_bind, Sem.run_pure, Result.andThen_ok]
 rw [run_storeVar_cells, hvc, hr]
 refine hK _ _ (h _ ?_)
 have := H.putSeg k hk off seg hl
 simpa using this
theorem own_ld1 (H : Own B w0 W L) (k : Nat) (g : Nat) (cs : Array Value) (t : TypeId) (hk : L[k]? = some (.blk g cs t)) (hgd : o.guard = none) (ty : TypeId) (x : Operand) (ho : o.op = .load ty x) (off : Nat) (v : Value) (d : TypeDesc)
 (hx : a.eval x = .pointer (some ⟨g, off, none⟩)) (hl : cs[off]? = some v) (hu : P.underlying ty = some d) (hd : d.isRow = false)
 (h : wpList P ops Q rest (a.put o.dst v) W) : wpList P ops Q (o :: rest) a W := by
 have hc := H.cell k hk off hl
 refine wpList_plain hgd fun _ hK => ?_
 have hag : (isAgg ty).run P W = .ok false W := by
  unfold isAgg
  rw [Sem.run_bind, run_underlying hu W]
  cases d <;> simp_all [TypeDesc.isRow]
 have hr : (loadVar ty ⟨g, off, none⟩).run P W = .ok v W := by
  unfold loadVar
  rw [Sem.run_bind, hag]
  simp [go_sem, hc]
 unfold Oper.wp execOp
 simp only [ho, hx, Instr.loadAt, Instr.sureAddr, Sem.run_bind, Sem.run_pure, Result.andThen_ok, hr]
 exact hK _ _ h
theorem own_alloc_step {Kc : Act → World → Prop} (H : Own B w0 W L) (hw : Region.wanted o (yielded ops a.tmps) = true) {N : Tmp} (hd : o.dst = some N) {t : TypeId} (ho : o.op = .alloc t) (cs : Array Value) (n : Nat)
 (hi : (P.info? t).map (fun i => (i.zero, i.size)) = some (some (.agg cs), n))
 (h : ∀ g w1, Own B w0 w1 (.blk g cs t :: L) → Kc (a.put o.dst (.pointer (some ⟨g, 0, none⟩))) w1) :
 if Region.wanted o (yielded ops a.tmps) = true then Oper.wp P o a W Kc Q else Kc (a.put o.dst undef) W := by
 rw [if_pos hw]
 obtain ⟨hz', hs⟩ := zero_of_info hi
 have hr : (execOp a.eval o).run P W = .ok (.value (.pointer (some ⟨W.heap.size, 0, none⟩))) (W.alloc (.cells cs t (0, 0))) := by
  unfold execOp
  simp only [ho]
  simp [Instr.alloc, hz', newVar, Value.cells, go_sem]
 unfold Oper.wp
 rw [hr]
 exact h _ _ (H.new cs t)
theorem own_st_step {Kc : Act → World → Prop} (H : Own B w0 W L) (k : Nat) (g : Nat) (cs cs' : Array Value) (t : TypeId) (hk : L[k]? = some (.blk g cs t)) (hw : Region.wanted o (yielded ops a.tmps) = true) (ty : TypeId) (x y : Operand) (ho : o.op = .store ty x y) (off : Nat) (seg : List Value) (v : Value)
 (hx : a.eval x = .pointer (some ⟨g, off, none⟩)) (hy : a.eval y = v) (hvc : v.cells = seg.toArray) (hl : off + seg.length ≤ cs.size) (hi : (P.info? ty).map (·.size) = some seg.length) (h1 : ∀ v ∈ seg, v.oneCell' = true) (hcs : (splice cs.toList off seg).toArray = cs')
 (h : ∀ w1, Own B w0 w1 (L.set k (.blk g cs' t)) → Kc (a.put o.dst undef) w1) :
 if Region.wanted o (yielded ops a.tmps) = true then Oper.wp P o a W Kc Q else Kc (a.put o.dst undef) W := by
 subst hcs
 rw [if_pos hw]
 have hr := run_storeVar_mid (P := P) W g off ty seg.toArray (by have := H.there_blk k hk off seg.length hl; simpa using this) (by simpa using hi) (all_oneCell_toArray h1)
 unfold Oper.wp execOp
 simp only [ho, hx, hy, Instr.storeAt, Instr.sureAddr, Sem.run_bind, Sem.run_pure, Result.andThen_ok]
 rw [run_storeVar_cells, hvc, hr]
 have := H.putSeg k hk off seg hl
 exact h _ (by simpa using this)
theorem build_ (hgd : o.guard = none) (t : TypeId) (parts : List (Nat × Operand)) (ho : o.op = .build t parts.toArray) (ps : List (Nat × Value)) (hps : parts.map (fun x => (x.1, a.eval x.2)) = ps) (cells : Array Value) (hf : P.built t ps = some cells)
 (h : wpList P ops Q rest (a.put o.dst (.agg cells)) W) : wpList P ops Q (o :: rest) a W := by
 refine wpList_buildTo hgd t parts.toArray ho o.dst rfl cells ?_ h
 rw [← hps] at hf
 simpa using hf
end
def shK {α : Type} (d : Kd α) (w0 : World) : Kd α where
 sz := d.sz
 E := []
 K := fun _ x cs => d.K w0 x cs
 M := fun _ _ _ x cs => d.K w0 x cs
 K_len := d.K_len
 K_one := d.K_one
 K_below := fun _ h => h
 K_of_M := fun h => h
 M_mono := fun _ h => h
 M_bound := fun h => h
 M_move := fun _ h => h
 M_lower := fun _ h => h
theorem Flat_sh {α : Type} (d : Kd α) (w0 : World) : Flat (shK d w0) := fun h => h
def mixK {α : Type} (d : Kd α) (w0 : World) : Kd (Bool × α) where
 sz := d.sz
 E := d.E
 K := fun w p cs => (p.1 = true → d.K w p.2 cs) ∧ (p.1 = false → d.K w0 p.2 cs)
 M := fun w base ok p cs => (p.1 = true → d.M w base ok p.2 cs) ∧ (p.1 = false → d.K w0 p.2 cs)
 K_len := fun {w p cs} h => by
  obtain ⟨b, x⟩ := p
  cases b
  ·exact d.K_len (h.2 rfl)
  ·exact d.K_len (h.1 rfl)
 K_one := fun {w p cs} h => by
  obtain ⟨b, x⟩ := p
  cases b
  ·exact d.K_one (h.2 rfl)
  ·exact d.K_one (h.1 rfl)
 K_below := fun hb h => ⟨fun hp => d.K_below hb (h.1 hp), h.2⟩
 K_of_M := fun h => ⟨fun hp => d.K_of_M (h.1 hp), h.2⟩
 M_mono := fun hk h => ⟨fun hp => d.M_mono hk (h.1 hp), h.2⟩
 M_bound := fun h => ⟨fun hp => d.M_bound (h.1 hp), h.2⟩
 M_move := fun hm h => ⟨fun hp => d.M_move hm (h.1 hp), h.2⟩
 M_lower := fun hb h => ⟨fun hp => d.M_lower hb (h.1 hp), h.2⟩
theorem Reps.map_ {α β : Type} {R : α → List Value → Prop} {R' : β → List Value → Prop} {s : Nat} {f : α → β} {xs : List α} {cs : List Value} (h : Reps R s xs cs) (hf : ∀ x cs, R x cs → R' (f x) cs) : Reps R' s (xs.map f) cs := by
 refine ⟨by rw [List.length_map]; exact h.1, fun j p hj => ?_⟩
 rw [List.getElem?_map] at hj
 obtain ⟨x, hx, rfl⟩ := Option.map_eq_some_iff.1 hj
 exact hf x _ (h.2 j x hx)
theorem R_as {α β : Type} {d : Kd α} {d' : Kd β} {f : α → β} (hs : d.sz = d'.sz) (hM : ∀ w base ok x cs, d.M w base ok x cs → d'.M w base ok (f x) cs) {e : Nat} {w : World} {base : Nat} {ok : Nat → Prop} {v : Value} {xs : List α} (h : d.R e w base ok v xs) : d'.R e w base ok v (xs.map f) := by
 obtain ⟨h0, inner, ho, hr⟩ := h
 exact ⟨h0, inner, by rw [List.length_map, ← hs]; exact ho, by rw [← hs]; exact Reps.map_ hr (fun x cs hx => hM _ _ _ x cs hx)⟩
theorem R_as' {α β : Type} {d : Kd α} {d' : Kd β} {f : α → β} (hs : d.sz = d'.sz) {e : Nat} {w : World} {base : Nat} {ok : Nat → Prop} {v : Value} {xs : List α} (hM : ∀ base ok cs, ∀ x, d'.M w base ok (f x) cs → d.M w base ok x cs) (h : d'.R e w base ok v (xs.map f)) : d.R e w base ok v xs := by
 obtain ⟨h0, inner, ho, hr⟩ := h
 refine ⟨h0, inner, by rw [List.length_map, ← hs] at ho; exact ho, ?_⟩
 rw [← hs] at hr
 refine ⟨by rw [hr.1, List.length_map], fun j p hj => ?_⟩
 exact hM _ _ _ _ (hr.2 j (f p) (by rw [List.getElem?_map, hj]; rfl))
namespace Own
variable {B : Nat} {w0 W W1 : World} {L : List Item} {α β : Type}
theorem sh_mix (h : Own B w0 W L) (k : Nat) {d : Kd α} {wa : World} {e : Nat} {v : Value} {xs : List α} (hk : L[k]? = some (.row (shK d wa) e v xs)) : Own B w0 W (L.set k (.row (mixK d wa) e v (xs.map fun x => (false, x)))) :=
 h.turn k hk fun S hs => R_as (d := shK d wa) (d' := mixK d wa) (f := fun x => (false, x)) rfl (fun _ _ _ _ _ h => ⟨fun hp => (by cases hp), fun _ => h⟩) hs
theorem mix_own (h : Own B w0 W L) (k : Nat) {d : Kd α} {wa : World} {e : Nat} {v : Value} {xs : List α} (hk : L[k]? = some (.row (mixK d wa) e v (xs.map fun x => (true, x)))) : Own B w0 W (L.set k (.row d e v xs)) :=
 h.turn k hk fun S hs => R_as' (d := d) (d' := mixK d wa) (f := fun x => (true, x)) rfl (fun _ _ _ _ h => h.1 rfl) hs
end Own
theorem reps_set1 {α : Type} {R : α → List Value → Prop} {size : Nat} {ps : List α} {cs : List Value} (h : Reps R size ps cs) {i : Nat} (hi : i < ps.length) {j : Nat} (hj : j < size) {x : α} {u : Value}
 (hx : R x (((cs.drop (i * size)).take size).set j u)) : Reps R size (ps.set i x) (cs.set (i * size + j) u) := by
 refine ⟨by rw [List.length_set, List.length_set]; exact h.1, fun m p hm => ?_⟩
 by_cases hmi : m = i
 ·subst hmi
  rw [List.getElem?_set_self hi] at hm
  injection hm with hm
  subst hm
  rw [List.drop_set, if_neg (by omega), List.take_set, show m * size + j - m * size = j by omega]
  exact hx
 ·rw [List.getElem?_set_ne (Ne.symm hmi)] at hm
  have hq := h.2 m p hm
  have e : ((cs.set (i * size + j) u).drop (m * size)).take size = (cs.drop (m * size)).take size := by
   rw [List.drop_set]
   by_cases hlt : i < m
   ·have : (i + 1) * size ≤ m * size := Nat.mul_le_mul_right _ hlt
    rw [Nat.succ_mul] at this
    rw [if_pos (by omega)]
   ·have : (m + 1) * size ≤ i * size := Nat.mul_le_mul_right _ (by omega)
    rw [Nat.succ_mul] at this
    rw [if_neg (by omega), List.take_set, List.set_eq_of_length_le]
    rw [List.length_take]
    omega
  rw [e]
  exact hq
theorem R_put1 {α : Type} {d : Kd α} {e : Nat} {W : World} {base : Nat} {ok : Nat → Prop} {g n cap : Nat} {xs : List α} (h : d.R e W base ok (.slice (some ⟨g, 0, none⟩) n cap) xs) (i : Nat) (hi : i < n) (j : Nat) (hj : j < d.sz) {x x0 : α} {u : Value} (hx0 : xs[i]? = some x0)
 (hM : ∀ cs, d.M W base (fun k => ok k ∧ some k ≠ (Value.slice (some ⟨g, 0, none⟩) n cap).ownBlock) x0 cs → d.M (W.setCell ⟨g, i * d.sz + j, none⟩ u) base (fun k => ok k ∧ some k ≠ (Value.slice (some ⟨g, 0, none⟩) n cap).ownBlock) x (cs.set j u)) :
 d.R e (W.setCell ⟨g, i * d.sz + j, none⟩ u) base ok (.slice (some ⟨g, 0, none⟩) n cap) (xs.set i x) := by
 have hb := R_block h
 obtain ⟨hok, inner0, ho, _⟩ := h
 obtain ⟨hn, cur, inner, hh, hc3, hc1, hc4, hr⟩ := hb
 have hm : i * d.sz + d.sz ≤ n * d.sz := by rw [← Nat.succ_mul]; exact Nat.mul_le_mul_right _ (by omega)
 have hm2 : n * d.sz ≤ cap * d.sz := Nat.mul_le_mul_right _ hc1
 have hcl : cur.toList.length = cap * d.sz := by rw [Array.length_toList, hc3]
 have h1 := blk_set hh (i * d.sz + j) u
 have hr2 := reps_set1 (Reps.imp_ (R' := d.M (W.setCell ⟨g, i * d.sz + j, none⟩ u) base (fun k => ok k ∧ some k ≠ (Value.slice (some ⟨g, 0, none⟩) n cap).ownBlock)) hr fun p cs hp => d.M_move (fun k hk => Below.heap_setCell W _ u k fun e => hk.2 (by rw [e]; rfl)) hp) (i := i) (by omega) hj (x := x) (u := u) (hM _ (hr.2 i x0 hx0))
 have hln : (xs.set i x).length = n := by rw [List.length_set, ← hn]
 refine ⟨hok, _, ?_, hr2⟩
 rw [hln]
 refine ⟨?_, .inr ⟨g, cap, cur.setIfInBounds (i * d.sz + j) u, rfl, ?_, h1, hc1, ?_, ?_, ?_⟩⟩
 ·rw [hr2.1, List.length_set, ← hn]
 ·rcases ho.2 with ⟨he, _⟩ | ⟨g', cap', _, he, hb, _⟩
  ·cases he
  ·injection he with h1 h2 h3
   injection h1 with h1
   injection h1 with h1
   subst h1
   exact hb
 ·rcases ho.2 with ⟨he, _⟩ | ⟨g', cap', _, he, hb, _, _, hmx, _⟩
  ·cases he
  ·injection he with h1 h2 h3
   subst h3
   exact hmx
 ·rw [Array.size_setIfInBounds, hc3]
 ·rw [Array.toList_setIfInBounds, List.take_set, ← hc4]
def Item.two (a b : Item) : Item where
 P := fun W S => ∃ S1 S2 : Nat → Prop, (∀ i, S1 i → S i) ∧ (∀ i, S2 i → S i) ∧ (∀ i, S1 i → ¬ S2 i) ∧ a.P W S1 ∧ b.P W S2
 move := fun hm ⟨S1, S2, h1, h2, h3, h4, h5⟩ => ⟨S1, S2, h1, h2, h3, a.move (fun k hk => hm k (h1 k hk)) h4, b.move (fun k hk => hm k (h2 k hk)) h5⟩
 mono := fun hm ⟨S1, S2, h1, h2, h3, h4, h5⟩ => ⟨S1, S2, fun i hi => hm i (h1 i hi), fun i hi => hm i (h2 i hi), h3, h4, h5⟩
theorem Own.join {B : Nat} {w0 W : World} {L : List Item} {a b : Item} (h : Own B w0 W (a :: b :: L)) : Own B w0 W (.two a b :: L) := by
 obtain ⟨h1, h2, S1, c1, c2, S2, c3, c4, c5⟩ := h
 refine ⟨h1, h2, fun i => S1 i ∨ S2 i, fun i hi => hi.elim (c1 i) (fun h => (c3 i h).1), ⟨S1, S2, fun i hi => .inl hi, fun i hi => .inr hi, fun i hi hj => (c3 i hj).2 hi, c2, c4⟩, ?_⟩
 exact Sep.imp (fun i hi => ⟨hi.1.1, fun h => h.elim hi.1.2 hi.2⟩) c5
theorem Own.put1 {B : Nat} {w0 W : World} {L : List Item} {α β : Type} {d : Kd α} {d2 : Kd β} {e e2 : Nat} {g n cap : Nat} {xs : List α} {v2 : Value} {ys : List β} (h : Own B w0 W (.row d e (.slice (some ⟨g, 0, none⟩) n cap) xs :: .row d2 e2 v2 ys :: L))
 (i : Nat) (hi : i < n) (j : Nat) (hj : j < d.sz) {x x0 : α} {u : Value} (hx0 : xs[i]? = some x0)
 (hM : ∀ (W W1 : World) (ok : Nat → Prop) cs, d.M W 0 ok x0 cs → d2.R e2 W1 0 ok v2 ys → d.M W1 0 ok x (cs.set j u)) :
 Own B w0 (W.setCell ⟨g, i * d.sz + j, none⟩ u) (.row d e (.slice (some ⟨g, 0, none⟩) n cap) (xs.set i x) :: L) := by
 refine h.join.change 0 rfl (some g) (Own.grown_cell W g _ u) ?_
 rintro S ⟨S1, S2, h1, h2, h3, h4, h5⟩
 have h4 : d.R e W 0 S1 _ xs := h4
 have h5 : d2.R e2 W 0 S2 v2 ys := h5
 have hg := h4.1 g rfl
 refine ⟨fun g' he => by injection he with he; subst he; exact h1 _ hg, ?_⟩
 refine Kd.R_mono (ok := S) ?_ fun i hi => .inl hi
 refine R_put1 (Kd.R_mono h4 h1) i hi j hj hx0 fun cs hcs => hM W _ _ cs hcs ?_
 refine Kd.R_mono (Kd.R_far h5 (p := ⟨g, i * d.sz + j, none⟩) (fun k hk he => h3 k (by rw [he]; exact hg) hk) u) fun k hk => ⟨h2 k hk, fun he => ?_⟩
 have : g = k := by simpa [Value.ownBlock] using he.symm
 exact h3 g hg (by rw [this]; exact hk)
end Go.Proofs.Ytocphkfkdadhaaa.H
