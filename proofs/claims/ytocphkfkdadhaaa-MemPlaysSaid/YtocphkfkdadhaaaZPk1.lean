import Derived.Test.YtocphkfkdadhaaaZPk0
import Derived.Test.YtocphkfkdadhaaaProg
import Derived.WalkKit
import Derived.IntWalk
import Derived.Laws.BitsAllLaws
import Derived.Laws.DeepBits32
import Derived.Deep.WholeRow
import Derived.Deep.MidRow
import Derived.BigRegion
import Derived.Laws.CopyOwn
namespace Go.Proofs.YtocphkfkdadhaaaW.PrintWords
open Go.RowKit
section
variable {P : Program}
theorem run_append_zeros (w : World) (base : Nat) (t ti ty e : TypeId) (i : TypeInfo) (z : Value) (size bytes : Nat) (ht : P.underlying t = some (.slice e)) {k : IntKind} (hti : P.underlying ti = some (.int k)) (hi : P.info? e = some i) (hz : i.zero = some z)
    (hsize : i.size = size) (hby : i.bytes = bytes) (hzs : z.cells.size = size) (hsz : 0 < size) (hb0 : 0 < bytes)
    (v : Value) (n : Nat) (xs : List Value) (hown : w.ownsRow base e size v n xs) (kx : IntKind) (m : Nat) (h1 : ∀ u ∈ (Builtin.zeroCells z.cells m).toList, u.oneCell' = true)
    (hbytes : (n + m) * bytes ≤ 140737488355328) (hbase : base ≤ w.heap.size) :
    ∃ v' w', (Builtin.append_ #[t, ti] ty #[v, .int kx m]).run P w = .ok v' w' ∧ w'.ownsRow base e size v' (n + m) (xs ++ (Builtin.zeroCells z.cells m).toList) ∧ w.grownBy w' v.ownBlock ∧
      (v'.ownBlock = v.ownBlock ∨ v'.ownBlock = some w.heap.size) := by
  subst hsize
  subst hby
  have hle : n + m ≤ 140737488355328 := Nat.le_trans (Nat.le_mul_of_pos_right _ hb0) hbytes
  have h63 : n + m ≤ maxLen := by simp only [maxLen]; omega
  have hw : IntKind.i64.wrap (m : Int) = m := by rw [IntKind.wrap_i64]; omega
  have hw0 : IntKind.i64.wrap 0 = 0 := by rw [IntKind.wrap_i64]; rfl
  have hneg : ¬ ((m : Int) < 0) := by omega
  have hmb : m * i.bytes ≤ 140737488355328 := Nat.le_trans (Nat.mul_le_mul_right _ (Nat.le_add_left m n)) hbytes
  have hbig : ¬ (281474976710656 < (m : Int) * (i.bytes : Int)) := by
    rw [← Int.natCast_mul]
    omega
  have hsn : i.size ≠ 0 := by omega
  obtain ⟨news, hnews⟩ : ∃ news, news = (Builtin.zeroCells z.cells m).toList := ⟨_, rfl⟩
  rw [← hnews] at h1 ⊢
  have hl : news.length = m * i.size := by rw [hnews, Array.length_toList, size_zeroCells, hzs]
  have hna : Builtin.zeroCells z.cells m = news.toArray := by rw [hnews]
  have hlen : (xs ++ news).length = (n + m) * i.size := by rw [List.length_append, hown.1, hl, Nat.add_mul]
  have hnil : m = 0 → news = [] := fun h => List.eq_nil_of_length_eq_zero (by rw [hl, h, Nat.zero_mul])
  have grown : ∀ (old : Nat), old < n + m → ∀ (row : Option Nat),
      (w.drew.alloc (.cells (xs.toArray ++ news.toArray ++ Builtin.zeroCells z.cells (grownCap w (n + m) old e - (n + m))) e)).ownsRow base e i.size
        (.slice (some ⟨w.heap.size, 0, none⟩) (n + m) (grownCap w (n + m) old e)) (n + m) (xs ++ news) ∧
      w.grownBy (w.drew.alloc (.cells (xs.toArray ++ news.toArray ++ Builtin.zeroCells z.cells (grownCap w (n + m) old e - (n + m))) e)) row := by
    intro old ho row
    have hge := grownCap_ge w (n + m) old e
    have hcm : grownCap w (n + m) old e ≤ maxLen := grownCap_le_maxLen w (n + m) old e h63
    refine ⟨⟨hlen, .inr ⟨w.heap.size, _, _, rfl, hbase, heap_alloc_new w.drew _, hge, hcm, ?_, ?_⟩⟩, ⟨rfl, rfl, rfl, by simp, fun k hk _ => heap_alloc_old w.drew _ hk⟩⟩
    · simp only [Array.size_append, List.size_toArray, size_zeroCells, hzs, hown.1, hl, ← Nat.add_mul]
      congr 1
      omega
    · simp only [Array.toList_append, List.append_assoc]
      rw [← List.append_assoc, ← hlen]
      exact List.take_left
  have runs : ∀ (A : Option Addr) (cap : Nat), cap < n + m → (Builtin.firstCells i.size n (.slice A n cap)).run P w.drew = .ok xs.toArray w.drew → (Builtin.append_ #[t, ti] ty #[.slice A n cap, .int kx m]).run P w =
      .ok (.slice (some ⟨w.heap.size, 0, none⟩) (n + m) (grownCap w (n + m) cap e)) (w.drew.alloc (.cells (xs.toArray ++ news.toArray ++ Builtin.zeroCells z.cells (grownCap w (n + m) cap e - (n + m))) e)) := by
    intro A cap hcap hfo
    have hn : ¬ (n + m ≤ cap) := by omega
    have h63' : ¬ (9223372036854775807 < ((n : Int) + (m : Int))) := by omega
    have hfit := growslice_fits hcap hbytes
    have h48' : ¬ (281474976710656 < Builtin.nextslicecap (n + m) cap * i.bytes) := by omega
    by_cases hm : m = 0
    · have hnl := hnil hm
      subst hm
      rw [hnl]
      simp only [Nat.add_zero] at hn h63' h48' ⊢
      have h63'' : ¬ (9223372036854775807 < (n : Int)) := by omega
      simp [Builtin.append_, run_underlying ht, run_underlying hti, sizeOf, typeInfo, zeroValue, hi, hz, asInt, asIntOf, hw0, hn, h63'', h48', Question.forced, hfo, newRow, grownCap]
    · have hmz : ¬ (m * i.size = 0) := Nat.mul_ne_zero hm hsn
      simp [Builtin.append_, run_underlying ht, run_underlying hti, sizeOf, typeInfo, zeroValue, hi, hz, asInt, asIntOf, hw, hneg, hbig, hn, h63', h48', Question.forced, hfo, newRow, grownCap, hmz, hna]
      congr 2
      apply Array.ext'
      simp [List.append_assoc]
  rcases hown.2 with ⟨rfl, rfl⟩ | ⟨g, cap, cur, rfl, hbg, hg, hnc, hcm, hcs, htake⟩
  · have hx : xs = [] := List.eq_nil_of_length_eq_zero (by simpa using hown.1)
    subst hx
    by_cases hm : m = 0
    · have hnl := hnil hm
      subst hm
      rw [hnl]
      refine ⟨.slice none 0 0, w, ?_, World.ownsRow_nil w base e i.size, ⟨rfl, rfl, rfl, Nat.le_refl _, fun _ _ _ => rfl⟩, Or.inl rfl⟩
      simp [Builtin.append_, run_underlying ht, run_underlying hti, sizeOf, typeInfo, hi, asInt, asIntOf, hw0]
    · have hgr := grown 0 (by omega) (Value.ownBlock (.slice none 0 0))
      exact ⟨_, _, runs none 0 (by omega) (by simp [Builtin.firstCells]), hgr.1, hgr.2, Or.inr rfl⟩
  · by_cases hroom : n + m ≤ cap
    · have hfit : n * i.size + news.length ≤ cur.size := by rw [hl, hcs, ← Nat.add_mul]; exact Nat.mul_le_mul_right _ hroom
      obtain ⟨cur', h3, h4, h5⟩ := setCells_row news (n * i.size) w cur hg hfit
      obtain ⟨s1, s2, s3, s4⟩ := setCells_same g news (n * i.size) w
      have hst := run_storeCells_cells (P := P) g (n * i.size) news 0 w (fun j hj => by rw [cell_of_row w g _ cur e (0, 0) hg]; simp; omega) (fun j _ => blk_frozen hg _) h1
      simp only [Nat.add_zero] at hst
      refine ⟨.slice (some ⟨g, 0, none⟩) (n + m) cap, w.setCells g (n * i.size) news, ?_, ⟨hlen, .inr ⟨g, cap, cur', rfl, hbg, h3, hroom, hcm, by rw [h4, hcs], ?_⟩⟩, ⟨s1, s2, s3, by rw [s4]; exact Nat.le_refl _, fun k _ hk => setCells_far news _ k (fun e => hk (by simp [Value.ownBlock, e]))⟩, Or.inl rfl⟩
      · by_cases hm : m = 0
        · have hnl := hnil hm
          subst hm
          rw [hnl] at hst ⊢
          simp [Builtin.append_, run_underlying ht, run_underlying hti, sizeOf, typeInfo, hi, asInt, asIntOf, hw0, hnc, add_plain, hst]
        · have hmz : ¬ (m * i.size = 0) := Nat.mul_ne_zero hm hsn
          simp [Builtin.append_, run_underlying ht, run_underlying hti, sizeOf, typeInfo, zeroValue, hi, hz, asInt, asIntOf, hw, hneg, hbig, hroom, hmz, hna, add_plain, hst]
      · rw [h5]
        have h6 : cur.toList.take (n * i.size) = xs := htake
        rw [h6, ← hlen]
        exact List.take_left
    · have holds : ∀ j u, xs[j]? = some u → w.cell? ((⟨g, 0, none⟩ : Addr).add j) = some u := hown.cells (g := g) rfl
      have hgr := grown cap (by omega) (Value.ownBlock (.slice (some ⟨g, 0, none⟩) n cap))
      exact ⟨_, _, runs (some ⟨g, 0, none⟩) cap (by omega) (run_firstCells_some (P := P) w.drew i.size n _ n cap xs hown.1 (by simpa using holds)), hgr.1, hgr.2, Or.inr rfl⟩
end
namespace Kd
theorem reps_zeros {α : Type} {R : α → List Value → Prop} {z : Value} {size : Nat} {z0 : α} (hz : z.cells.size = size) (hs : 0 < size) (h0 : R z0 z.cells.toList) (m : Nat) : Reps R size (List.replicate m z0) (Builtin.zeroCells z.cells m).toList := by
  have h := reps_made hz hs h0 m
  rw [show Builtin.zeroCells z.cells m = madeCells z.cells (m * size) by unfold Builtin.zeroCells madeCells; rw [hz]]
  exact h
section
variable {P : Program} {ops : Array Oper} {rest : List Oper} {o : Oper} {a : Act} {Q : Exit → Act → World → Prop} {Kc : Act → World → Prop} {α : Type}
theorem R_zeros_run (d : Kd α) {W : World} (base : Nat) (t ti ty e : TypeId) (z : Value) (bytes : Nat) (ht : P.underlying t = some (.slice e)) {k : IntKind} (hti : P.underlying ti = some (.int k)) (hinfo : (P.info? e).map (fun i => (i.zero, i.size, i.bytes)) = some (some z, d.sz, bytes)) (hz : z.cells.size = d.sz) (hs0 : 0 < d.sz) (hb0 : 0 < bytes)
    (v : Value) (xs : List α) (z0 : α) {ok : Nat → Prop} (hzero : d.M W base (fun _ => False) z0 z.cells.toList) (hfresh : ∀ k, W.heap.size ≤ k → ok k) (HO : d.R e W base ok v xs) (kx : IntKind) (n : Int) (h0 : 0 ≤ n) (hl : (xs.length + n.toNat) * bytes ≤ 140737488355328) (hbase : base ≤ W.heap.size) :
    ∃ v1 w1, (Builtin.append_ #[t, ti] ty #[v, .int kx n]).run P W = .ok v1 w1 ∧ d.R e w1 base ok v1 (xs ++ List.replicate n.toNat z0) ∧ W.grownBy w1 v.ownBlock ∧ (v1.ownBlock = v.ownBlock ∨ ∃ b, v1.ownBlock = some b ∧ W.heap.size ≤ b) := by
  obtain ⟨m, rfl⟩ := Int.eq_ofNat_of_zero_le h0
  simp only [Int.toNat_natCast] at hl ⊢
  obtain ⟨i0, hi, hzz⟩ := Option.map_eq_some_iff.1 hinfo
  simp only [Prod.mk.injEq] at hzz
  obtain ⟨hz0, hz1, hz2⟩ := hzz
  obtain ⟨hok, inner, hown, hr⟩ := HO
  have hnM : Reps (d.M W base (fun _ => False)) d.sz (List.replicate m z0) (Builtin.zeroCells z.cells m).toList := reps_zeros hz hs0 hzero m
  obtain ⟨v1, w1, hrun, h2, hg, hat⟩ := run_append_zeros (P := P) W base t ti ty e i0 z d.sz bytes ht hti hi hz0 hz1 hz2 hz hs0 hb0 v xs.length inner hown kx m (reps_one hnM hs0 (fun _ _ hp => d.K_one (d.K_of_M hp))) hl hbase
  have hat' : v1.ownBlock = v.ownBlock ∨ ∃ b, v1.ownBlock = some b ∧ W.heap.size ≤ b := by
    rcases hat with hat | hat
    · exact .inl hat
    · exact .inr ⟨_, hat, Nat.le_refl _⟩
  have hne : ∀ k, some k ≠ v.ownBlock → k < W.heap.size → some k ≠ v1.ownBlock := by
    intro k hk hlt
    rcases hat' with hat | ⟨b, hb, hle⟩
    · rw [hat]; exact hk
    · rw [hb]
      intro he
      injection he with he
      omega
  have step : ∀ {q : α} {c : List Value} {o : Nat → Prop}, d.M W base o q c → (∀ k, o k → ok k ∧ some k ≠ v.ownBlock) → d.M w1 base (fun k => ok k ∧ some k ≠ v1.ownBlock) q c := by
    intro q c o hq ho
    have h1 := d.M_move (w1 := w1) (fun k hk => hg.block k hk.2.2.1 (ho k hk.1).2) (d.M_bound hq)
    exact d.M_mono (fun k hk => ⟨(ho k hk.1).1, hne k (ho k hk.1).2 hk.2.2.1⟩) h1
  refine ⟨v1, w1, hrun, ⟨fun k hk => ?_, inner ++ (Builtin.zeroCells z.cells m).toList, by rw [List.length_append, List.length_replicate]; exact h2, reps_append (hr.imp_ (fun _ _ hq => step hq (fun _ hk => hk))) (hnM.imp_ (fun _ _ hq => step hq (fun _ hk => hk.elim)))⟩, hg, hat'⟩
  rcases hat' with hat | ⟨b, hb, hle⟩
  · exact hok k (hat ▸ hk)
  · rw [hb] at hk
    injection hk with hk
    exact hfresh k (by omega)
theorem R_append_zeros (d : Kd α) {w0 W : World} (base : Nat) (hgd : o.guard = none) (s x : Operand) (t ti e : TypeId) (z : Value) (bytes : Nat)
    (ho : o.op = .call { callee := .builtin .append, args := #[s, x], argTypes := #[t, ti] })
    (ht : P.underlying t = some (.slice e)) {k : IntKind} (hti : P.underlying ti = some (.int k)) (hinfo : (P.info? e).map (fun i => (i.zero, i.size, i.bytes)) = some (some z, d.sz, bytes)) (hz : z.cells.size = d.sz) (hs0 : 0 < d.sz) (hb0 : 0 < bytes)
    (v : Value) (xs : List α) (z0 : α) {kx : IntKind} (n : Int) (ok : Nat → Prop) (hs : a.eval s = v) (hx : a.eval x = .int kx n) (hzero : d.M W base (fun _ => False) z0 z.cells.toList) (hfresh : ∀ k, W.heap.size ≤ k → ok k)
    (HO : d.R e W base ok v xs) (h0 : 0 ≤ n) (HB : Below base w0 W) (hbase : base ≤ W.heap.size) (hl : (xs.length + n.toNat) * bytes ≤ 140737488355328)
    (h : ∀ v1 w1, d.R e w1 base ok v1 (xs ++ List.replicate n.toNat z0) → Below base w0 w1 → W.grownBy w1 v.ownBlock → (v1.ownBlock = v.ownBlock ∨ ∃ b, v1.ownBlock = some b ∧ W.heap.size ≤ b) → wpList P ops Q rest (a.put o.dst v1) w1) :
    wpList P ops Q (o :: rest) a W := by
  obtain ⟨v1, w1, hr1, h1, hg, hat⟩ := R_zeros_run (P := P) d base t ti o.type e z bytes ht hti hinfo hz hs0 hb0 v xs z0 hzero hfresh HO kx n h0 hl hbase
  refine wpList_plain hgd fun K hK => ?_
  unfold Oper.wp execOp
  simp only [ho, resolve, invoke, builtin, Sem.run_bind, Sem.run_pure, Result.andThen_ok, List.map_toArray, List.map_cons, List.map_nil, hs, hx, hr1]
  exact hK _ _ (h v1 w1 h1 (HB.grown hg hbase (R_base HO)) hg hat)
end
section
variable {α : Type} {d : Kd α} {e : Nat} {w : World} {base : Nat} {ok : Nat → Prop} {v : Value} {xs : List α}
end
section
variable {P : Program} {ops : Array Oper} {rest : List Oper} {o : Oper} {a : Act} {Q : Exit → Act → World → Prop} {Kc : Act → World → Prop} {α : Type}
end
end Kd
end Go.Proofs.YtocphkfkdadhaaaW.PrintWords

namespace Go.Proofs.YtocphkfkdadhaaaW.PrintWords
open Go.RowKit
namespace Kd
structure Heap {α : Type} (d : Kd α) : Prop where
  K : ∀ {w w1 : World} {x : α} {cs : List Value}, (∀ k, k < w.heap.size → w1.heap[k]? = w.heap[k]?) → d.K w x cs → d.K w1 x cs
theorem cell_heap {w w1 : World} (hb : ∀ k, k < w.heap.size → w1.heap[k]? = w.heap[k]?) {a : Addr} {v : Value} (h : w.cell? a = some v) : w1.cell? a = some v := by
  have := hb a.block (World.block_lt_of_cell? w a h)
  simpa [World.cell?, this] using h
theorem Heap.C {α : Type} {d : Kd α} (hd : Heap d) {w w1 : World} {A : Option Addr} {n : Nat} {xs : List α} (hb : ∀ k, k < w.heap.size → w1.heap[k]? = w.heap[k]?) (h : d.C w A n xs) : d.C w1 A n xs :=
  ⟨h.1, h.2.1, fun hn => by
    obtain ⟨ad, e, hc⟩ := h.2.2 hn
    refine ⟨ad, e, fun j p hj => ?_⟩
    obtain ⟨c, hs, hr, hcell⟩ := hc j p hj
    exact ⟨c, hs, hd.K hb hr, fun i u hu => cell_heap hb (hcell i u hu)⟩⟩
section
variable {α : Type} {d : Kd α} {e base g n c : Nat} {ok : Nat → Prop} {w w0 W : World} {A : Option Addr} {xs : List α}
end
end Kd
end Go.Proofs.YtocphkfkdadhaaaW.PrintWords

namespace Go.Proofs.YtocphkfkdadhaaaW.PrintWords
open Go.RowKit
def Kept (w W : World) (S : Nat → Prop) : Prop := w.heap.size ≤ W.heap.size ∧ ∀ i, i < w.heap.size → ¬ S i → W.heap[i]? = w.heap[i]?
section
variable {w W W2 : World} {S S2 S' : Nat → Prop}
theorem Kept.refl (w : World) (S : Nat → Prop) : Kept w w S := ⟨Nat.le_refl _, fun _ _ _ => rfl⟩
theorem Kept.of_below (h : Below w.heap.size w W) (S : Nat → Prop) : Kept w W S := ⟨h.size, fun i hi _ => h.block i hi⟩
theorem Kept.mono (h : Kept w W S) (hs : ∀ k, S k → S' k) : Kept w W S' := ⟨h.1, fun i hi hn => h.2 i hi (fun hk => hn (hs i hk))⟩
theorem Kept.then_ (h : Kept w W S) (k : Kept W W2 S2) (hs : ∀ k, S2 k → S k ∨ w.heap.size ≤ k) : Kept w W2 S :=
  ⟨Nat.le_trans h.1 k.1, fun i hi hn => (k.2 i (Nat.lt_of_lt_of_le hi h.1) (fun h2 => (hs i h2).elim hn (fun h3 => by omega))).trans (h.2 i hi hn)⟩
theorem Kept.below (h : Kept w W S) (hb : Below W.heap.size W W2) : Kept w W2 S := h.then_ (Kept.of_below hb (fun _ => False)) (fun _ hk => hk.elim)
theorem Kept.alloc (h : Kept w W S) (o : Obj) : Kept w (W.alloc o) S := h.below (below_alloc (Below.refl _ _) o)
theorem Kept.drew (h : Kept w W S) : Kept w W.drew S := h
theorem Kept.drewN (h : Kept w W S) (m : Nat) : Kept w (W.drewN m) S := h
theorem Kept.setCell (h : Kept w W S) {p : Addr} (hp : S p.block ∨ w.heap.size ≤ p.block) (u : Value) : Kept w (W.setCell p u) S :=
  h.then_ (S2 := fun k => k = p.block) ⟨by simp [World.setCell], fun i _ hn => Below.heap_setCell W p u i hn⟩ (fun k hk => by rw [hk]; exact hp)
end
namespace Kd
section
variable {α : Type} {d : Kd α} {e base n c : Nat} {ok oki S S2 : Nat → Prop} {w w0 W W1 W2 : World} {v : Value} {A : Option Addr} {xs : List α} {i : Int} {cs : List Value}
end
end Kd
end Go.Proofs.YtocphkfkdadhaaaW.PrintWords

namespace Go.Proofs.YtocphkfkdadhaaaW.PrintWords
open Go.RowKit
def Foot (P : World → Prop) (W : World) (ok : Nat → Prop) : Prop := ∀ W' : World, (∀ k, ok k → k < W.heap.size → W'.heap[k]? = W.heap[k]?) → P W'
theorem heap_lt {W W1 : World} {k : Nat} (h : W1.heap[k]? = W.heap[k]?) (hlt : k < W.heap.size) : k < W1.heap.size := by
  rw [Array.getElem?_eq_getElem hlt] at h
  exact (Array.getElem?_eq_some_iff.1 h).1
namespace Foot
variable {P Q : World → Prop} {W W1 : World} {ok ok' : Nat → Prop}
theorem mono (h : Foot P W ok) (hok : ∀ k, ok k → ok' k) : Foot P W ok' := fun W' hW => h W' (fun k hk hlt => hW k (hok k hk) hlt)
theorem bound (h : Foot P W ok) : Foot P W (fun k => ok k ∧ k < W.heap.size) := fun W' hW => h W' (fun k hk hlt => hW k ⟨hk, hlt⟩ hlt)
theorem step (h : Foot P W ok) (hm : ∀ k, ok k → k < W.heap.size → W1.heap[k]? = W.heap[k]?) : Foot P W1 ok := fun W' hW => h W' (fun k hk hlt => (hW k hk (heap_lt (hm k hk hlt) hlt)).trans (hm k hk hlt))
theorem imp (h : Foot P W ok) (hi : ∀ W', P W' → Q W') : Foot Q W ok := fun W' hW => hi W' (h W' hW)
theorem old (h : Foot P W ok) (hb : Below W.heap.size W W1) : Foot P W1 (fun k => ok k ∧ k < W.heap.size) := (h.bound).step (fun k _ hlt => hb.block k hlt)
end Foot
namespace Kd
def F {α : Type} (d : Kd α) (W : World) (ok : Nat → Prop) (A : Option Addr) (n : Nat) (xs : List α) : Prop := Foot (fun W => d.C W A n xs) W ok
def FK {α : Type} (d : Kd α) (W : World) (ok : Nat → Prop) (x : α) (c : List Value) : Prop := Foot (fun W => d.K W x c) W ok
section
variable {α β : Type} {d : Kd α} {e base n n' cc g N : Nat} {ok ok' okp S : Nat → Prop} {w w0 w1 W W1 : World} {A A' : Option Addr} {u v v1 : Value} {xs : List α} {xs' : List β} {d' : Kd β} {x : α} {c : List Value}
end
end Kd
end Go.Proofs.YtocphkfkdadhaaaW.PrintWords

namespace Go.Proofs.YtocphkfkdadhaaaW.PrintWords
open Go.RowKit
namespace Kd
section
variable {α : Type} {d : Kd α} {e base n cc g : Nat} {ok ok' okp S : Nat → Prop} {w w1 W W1 : World} {A : Option Addr} {u v v1 : Value} {xs : List α} {x : α} {c : List Value}
def N {α : Type} (d : Kd α) (e : Nat) (w : World) (base : Nat) (ok : Nat → Prop) (v : Value) (xs : List α) : Prop :=
  (∀ k, v.ownBlock = some k → ok k) ∧ ∃ rows : List (List Value), rows.length = xs.length ∧ (raw d.sz).R e w base (fun k => some k = v.ownBlock) v rows ∧ ∀ (j : Nat) (x : α) (c : List Value), xs[j]? = some x → rows[j]? = some c → FK d w (fun k => ok k ∧ some k ≠ v.ownBlock) x c
end
end Kd
end Go.Proofs.YtocphkfkdadhaaaW.PrintWords

namespace Go.Proofs.YtocphkfkdadhaaaW.PrintMore
open Go.RowKit Go.Proofs.YtocphkfkdadhaaaW.PrintWords
namespace Kd
open Go.Proofs.YtocphkfkdadhaaaW.PrintWords.Kd
end Kd
namespace Kd
open Go.Proofs.YtocphkfkdadhaaaW.PrintWords.Kd
section
variable {α : Type} {d : Kd α} {e base g N : Nat} {ok : Nat → Prop} {W w1 : World} {u v : Value} {xs : List α}
end
end Kd
end Go.Proofs.YtocphkfkdadhaaaW.PrintMore
namespace Go.Proofs.YtocphkfkdadhaaaW.PrintWords
open Go.RowKit
section
variable {P : Program} {ops : Array Oper} {rest : List Oper} {o : Oper} {a : Act} {Q : Exit → Act → World → Prop} {W : World}
theorem gate_builtin {b : Builtin} {xs : Array Operand} {ts : Array TypeId} (_ho : o.op = .call { callee := .builtin b, args := xs, argTypes := ts }) (h : wpList P ops Q (o :: rest) a W) : wpList P ops Q (o :: rest) a W := h
end
def shl (k : IntKind) (x y : Int) : Int := k.wrap (x * 2 ^ min y.toNat k.bits)
def shr (k : IntKind) (x y : Int) : Int := x / 2 ^ min y.toNat k.bits
namespace Kd
section
variable {α : Type} {d : Kd α} {e base : Nat} {ok : Nat → Prop} {W w1 : World} {v : Value} {xs : List α}
end
section
variable {α : Type} {d : Kd α} {e base g n cap : Nat} {ok oki okp : Nat → Prop} {W : World} {xs : List α} {i : Int} {c : List Value}
end
section
variable {α : Type} {d : Kd α} {e base b b' g N : Nat} {ok ok1 : Nat → Prop} {W W2 w1 : World} {u v : Value} {xs ys : List α} {S : Nat → Prop}
end
end Kd
end Go.Proofs.YtocphkfkdadhaaaW.PrintWords
namespace Go.Proofs.YtocphkfkdadhaaaW.PrintWords
open Go.RowKit
namespace Kd
section
variable {α β : Type} {d : Kd α} {e base base' n m c g N' lo hi : Nat} {ok ok' S : Nat → Prop} {w W w1 : World} {A : Option Addr} {ad : Addr} {u v v1 : Value} {xs : List α}
end
end Kd
end Go.Proofs.YtocphkfkdadhaaaW.PrintWords

namespace Go.Proofs.Ytocphkfkdadhaaa.H
open Go.RowKit Go.Proofs.YtocphkfkdadhaaaW.PrintWords Go.Proofs.YtocphkfkdadhaaaW.PrintLast Go.Proofs.YtocphkfkdadhaaaW.PrintMore
set_option linter.unusedVariables false
set_option linter.unusedSimpArgs false
def rotl (x m : Nat) : Nat := (x * 2 ^ m % 4294967296) ||| (x / 2 ^ (32 - m))
theorem rotl_lt (x m : Nat) (hx : x < 4294967296) : rotl x m < 4294967296 := by
  unfold rotl
  exact Nat.or_lt_two_pow (n := 32) (Nat.mod_lt _ (by decide)) (Nat.lt_of_le_of_lt (Nat.div_le_self _ _) hx)
theorem neg_and (n : Nat) (h1 : 1 ≤ n) (h2 : n ≤ 31) : bits .and .u64 (IntKind.u64.wrap (-(n : Int))) 31 = ((32 - n : Nat) : Int) := by
  have h : ∀ m : Fin 31, bits .and .u64 (IntKind.u64.wrap (-((m.val + 1 : Nat) : Int))) 31 = ((32 - (m.val + 1) : Nat) : Int) := by decide
  have := h ⟨n - 1, by omega⟩
  simpa [Nat.sub_add_cancel h1] using this
theorem run_shl32 {P : Program} (x m : Nat) (hm : m ≤ 32) (w : World) :
    Op.shift .shl .u32 (x : Int) .u64 (m : Int) = pure (.int .u32 ((x * 2 ^ m % 4294967296 : Nat) : Int)) := by
  rw [shift_shl_any _ _ _ _ (Int.natCast_nonneg m)]
  simp only [Int.toNat_natCast, IntKind.bits, Nat.min_eq_left hm, IntKind.wrap_u32', Int.natCast_emod, Int.natCast_mul, Int.natCast_pow]
  rfl
theorem run_shr32 {P : Program} (x m : Nat) (hm : m ≤ 32) (w : World) :
    Op.shift .shr .u32 (x : Int) .u64 (m : Int) = pure (.int .u32 ((x / 2 ^ m : Nat) : Int)) := by
  rw [shift_shr_any _ _ _ _ (Int.natCast_nonneg m)]
  simp only [Int.toNat_natCast, IntKind.bits, Nat.min_eq_left hm, Int.natCast_ediv, Int.natCast_pow]
  rfl
theorem cast_shl (x m : Nat) : (((x * 2 ^ m % 4294967296 : Nat)) : Int) = (x : Int) * 2 ^ m % 4294967296 := by
  simp only [Int.natCast_emod, Int.natCast_mul, Int.natCast_pow]; rfl
theorem cast_shr (x m : Nat) : ((x / 2 ^ m : Nat) : Int) = (x : Int) / 2 ^ m := by
  simp only [Int.natCast_ediv, Int.natCast_pow]; rfl
set_option maxHeartbeats 800000 in
theorem rot_any (x n : Nat) (hx : x < 4294967296) (h1 : 1 ≤ n) (h2 : n ≤ 31) (w : World) :
    Calls Try.prog 167 #[.int .u32 x, .int .i64 (-(n : Int))] w fun e w' => e = .returned (.int .u32 ((rotl x (32 - n) : Nat) : Int)) ∧ w' = w := by
  have e1 := neg_and n h1 h2
  have e2 : (32 : Int) - ((32 - n : Nat) : Int) = ((32 - (32 - n) : Nat) : Int) := by omega
  have e3 : IntKind.u64.wrap ((32 - (32 - n) : Nat) : Int) = ((32 - (32 - n) : Nat) : Int) := by
    rw [IntKind.wrap_u64]; omega
  have r1 := run_shl32 (P := Try.prog) x (32 - n) (by omega) w
  have r2 := run_shr32 (P := Try.prog) x (32 - (32 - n)) (by omega) w
  have r3 := u32_or_nat (x * 2 ^ (32 - n) % 4294967296) (x / 2 ^ (32 - (32 - n))) (Nat.mod_lt _ (by decide)) (Nat.lt_of_le_of_lt (Nat.div_le_self _ _) hx)
  have r4 : ((rotl x (32 - n) : Nat) : Int) = ((x * 2 ^ (32 - n) % 4294967296 ||| (x / 2 ^ (32 - (32 - n))) : Nat) : Int) := rfl
  rw [← r4] at r3
  generalize rotl x (32 - n) = r at *
  rw [cast_shl] at r3 r1; rw [cast_shr] at r3 r2
  clear r4
  generalize 32 - (32 - n) = m' at *
  generalize 32 - n = m at *
  go_enter Try.func167, Try.ntmps167
  go_wp2
  go_ret
  exact ⟨rfl, rfl⟩
end Go.Proofs.Ytocphkfkdadhaaa.H

namespace Go.Proofs.Ytocphkfkdadhaaa.H
open Go.RowKit Go.Proofs.YtocphkfkdadhaaaW.PrintWords Go.Proofs.YtocphkfkdadhaaaW.PrintLast Go.Proofs.YtocphkfkdadhaaaW.PrintMore
set_option linter.unusedVariables false
set_option linter.unusedSimpArgs false
def rotr (x n : Nat) : Nat := rotl x (32 - n)
theorem rotr_lt (x n : Nat) (hx : x < 4294967296) : rotr x n < 4294967296 := rotl_lt x _ hx
theorem xor_lt32 {a b : Nat} (ha : a < 4294967296) (hb : b < 4294967296) : a ^^^ b < 4294967296 := Nat.xor_lt_two_pow (n := 32) ha hb
set_option maxHeartbeats 800000 in
theorem turn_any (x n : Nat) (hx : x < 4294967296) (h1 : 1 ≤ n) (h2 : n ≤ 31) (w : World) :
    Calls Try.prog 156 #[.int .u32 x, .int .u64 n] w fun e w' => e = .returned (.int .u32 ((rotr x n : Nat) : Int)) ∧ w' = w := by
  have e2 : (32 : Int) - (n : Int) = ((32 - n : Nat) : Int) := by omega
  have e3 : IntKind.u64.wrap ((32 - n : Nat) : Int) = ((32 - n : Nat) : Int) := by
    rw [IntKind.wrap_u64]; omega
  have r1 := run_shl32 (P := Try.prog) x (32 - n) (by omega) w
  have r2 := run_shr32 (P := Try.prog) x n (by omega) w
  have r3 := u32_or_nat (x / 2 ^ n) (x * 2 ^ (32 - n) % 4294967296) (Nat.lt_of_le_of_lt (Nat.div_le_self _ _) hx) (Nat.mod_lt _ (by decide))
  have r4 : ((rotr x n : Nat) : Int) = ((x / 2 ^ n ||| x * 2 ^ (32 - n) % 4294967296 : Nat) : Int) := by
    unfold rotr rotl
    rw [show 32 - (32 - n) = n by omega, Nat.or_comm]
  rw [← r4] at r3
  generalize rotr x n = r at *
  rw [cast_shl] at r3 r1; rw [cast_shr] at r3 r2
  clear r4
  generalize 32 - n = m at *
  go_enter Try.func156, Try.ntmps156
  go_wp2
  go_ret
  exact ⟨rfl, rfl⟩
def turnedP (x : Nat) (l : List Nat) : Nat := l.foldl (fun y n => y ^^^ rotr x n) 0
theorem foldl_lt (x : Nat) (hx : x < 4294967296) : ∀ (l : List Nat) (y : Nat), y < 4294967296 → l.foldl (fun y n => y ^^^ rotr x n) y < 4294967296
  | [], _, h => h
  | n :: l, y, h => foldl_lt x hx l _ (xor_lt32 h (rotr_lt x n hx))
theorem turnedP_lt (x : Nat) (hx : x < 4294967296) (l : List Nat) : turnedP x l < 4294967296 := foldl_lt x hx l 0 (by decide)
theorem turnedP_succ (x : Nat) (l : List Nat) (i : Nat) (hi : i < l.length) : turnedP x (l.take (i + 1)) = turnedP x (l.take i) ^^^ rotr x l[i] := by
  unfold turnedP
  rw [List.take_succ_eq_append_getElem hi, List.foldl_append]
  rfl
set_option maxHeartbeats 800000 in
theorem turned_any (x : Nat) (l : List Nat) (hx : x < 4294967296) (hl : ∀ n ∈ l, 1 ≤ n ∧ n ≤ 31) (hm : l.length ≤ 8) (g c : Nat) (w : World)
    (hC : ∀ i (h : i < l.length), w.cell? ⟨g, i, none⟩ = some (.int .i64 (l[i] : Int))) :
    Calls Try.prog 154 #[.int .u32 x, .slice (some ⟨g, 0, none⟩) l.length c] w fun e w' => e = .returned (.int .u32 ((turnedP x l : Nat) : Int)) ∧ w' = w := by
  have HC := Aside0.mk hC
  have HL := Aside0.mk hl
  clear hC hl
  obtain ⟨n, hn⟩ : ∃ n, n = l.length := ⟨_, rfl⟩
  have HN := Aside0.mk hn
  rw [← hn] at hm ⊢
  clear hn
  go_enter Try.func154, Try.ntmps154
  go_wp2
  go_loopw [5, 10] (fun v5 v10 wr => ∃ i y : Nat, i ≤ n ∧ v10 = .int .i64 (i : Int) ∧ v5 = .int .u32 (y : Int) ∧ Aside0 (y = turnedP x (l.take i)) ∧ wr = w) (fun _ v10 _ => n - (intOf v10).toNat)
  case atStart => exact ⟨0, 0, Nat.zero_le _, rfl, rfl, ⟨rfl⟩, rfl⟩
  case round =>
    obtain ⟨i, y, hi, rfl, rfl, HY, rfl⟩ := hrel
    by_cases hlt : i < n
    · have hdl : decide (i < n) = true := decide_eq_true hlt
      have hl1 : i < l.length := by have := HN.out; omega
      have hc := HC.out i hl1
      have hb := HL.out _ (List.getElem_mem hl1)
      have hs := turnedP_succ x l i hl1
      have hy : y < 4294967296 := by rw [HY.out]; exact turnedP_lt x hx _
      rw [← HY.out] at hs
      have hr := rotr_lt x l[i] hx
      have HR := Aside0.mk (rot_any x l[i] hx hb.1 hb.2 wr)
      have hxo := u32_xor_nat y (rotr x l[i]) hy hr
      rw [← hs] at hxo
      unfold rotr at *
      generalize rotl x (32 - l[i]) = r at *
      generalize l[i] = k at *
      have HS := Aside0.mk hs
      clear hs hl1
      obtain ⟨y', hy'⟩ : ∃ y', y' = turnedP x (l.take (i + 1)) := ⟨_, rfl⟩
      rw [← hy'] at HS hxo
      have HY' := Aside0.mk hy'
      clear hy'
      go_wp2_with fail
      refine HR.out.mono ?_
      rintro e w3 ⟨rfl, rfl⟩
      go_wp2
      go_roundw
      case rel => exact ⟨i + 1, y', hlt, by go_num, rfl, HY', by trivial⟩
      case measure => simp [intOf]; omega
    · have hdl : decide (i < n) = false := decide_eq_false hlt
      have he : l.take i = l := List.take_of_length_le (by have := HN.out; omega)
      rw [he] at HY
      have hz := HY.out
      subst hz
      go_wp2
      go_ret
      exact ⟨rfl, rfl⟩
end Go.Proofs.Ytocphkfkdadhaaa.H

namespace Go.Proofs.Ytocphkfkdadhaaa.H
open Go.RowKit Go.Proofs.YtocphkfkdadhaaaW.PrintWords Go.Proofs.YtocphkfkdadhaaaW.PrintLast Go.Proofs.YtocphkfkdadhaaaW.PrintMore
set_option linter.unusedVariables false
set_option linter.unusedSimpArgs false
theorem setRow_at {w : World} {g : Nat} {cs : Array Value} {t : TypeId} (h : w.heap[g]? = some (.cells cs t (0, 0))) (c' : Array Value) : (w.setRow g c').heap[g]? = some (.cells c' t (0, 0)) := by
  simp only [World.setRow, Array.getElem?_modify, if_true, h, Option.map_some]
theorem setRow_off (w : World) (g k : Nat) (c' : Array Value) (h : k ≠ g) : (w.setRow g c').heap[k]? = w.heap[k]? := by
  simp only [World.setRow, Array.getElem?_modify]
  rw [if_neg (by omega)]
theorem below_row {B : Nat} {w W : World} {g : Nat} (h : Below B w W) (hg : B ≤ g) (c' : Array Value) : Below B w (W.setRow g c') :=
  h.trans ⟨rfl, rfl, rfl, by simp [World.setRow], fun k hk => setRow_off _ _ _ _ (by omega)⟩
section
variable {P : Program} {ops : Array Oper} {rest : List Oper} {o : Oper} {a : Act} {Q : Exit → Act → World → Prop}
theorem arr_alloc {W : World} (hgd : o.guard = none) {N : Tmp} (hd : o.dst = some N) {t : TypeId} (ho : o.op = .alloc t) (cs : Array Value) (n : Nat)
    (hi : (P.info? t).map (fun i => (i.zero, i.size)) = some (some (.agg cs), n))
    (h : ∀ g w1, w1.heap[g]? = some (.cells cs t (0, 0)) → g = W.heap.size → Below W.heap.size W w1 → wpList P ops Q rest (a.put o.dst (.pointer (some ⟨g, 0, none⟩))) w1) : wpList P ops Q (o :: rest) a W := by
  refine Kd.event_run hgd (v := .pointer (some ⟨W.heap.size, 0, none⟩)) (w1 := W.alloc (.cells cs t (0, 0))) ?_ (h _ _ (blk_new W _) rfl (below_alloc (Below.refl _ _) _))
  obtain ⟨hz, hs⟩ := zero_of_info hi
  unfold execOp
  simp only [ho]
  simp [Instr.alloc, hz, newVar, Value.cells, go_sem]
theorem arr_store {W : World} (hgd : o.guard = none) (ty : TypeId) (x y : Operand) (ho : o.op = .store ty x y) (g : Nat) (cs cells : Array Value)
    (hx : a.eval x = .pointer (some ⟨g, 0, none⟩)) (hy : a.eval y = .agg cells) (hb : W.heap[g]? = some (.cells cs ty (0, 0))) (hn : cs.size = cells.size)
    (hi : (P.info? ty).map (·.size) = some cells.size) (h1 : cells.all (·.oneCell') = true)
    (h : ∀ w1, w1 = W.setRow g cells → wpList P ops Q rest (a.put o.dst undef) w1) : wpList P ops Q (o :: rest) a W :=
  wpList_plain hgd fun _ hK => by
    unfold Oper.wp execOp
    simp only [ho, hx, hy, Instr.storeAt, Instr.sureAddr, Sem.run_bind, Sem.run_pure, Result.andThen_ok, run_storeVar_row W g ty ty cs cells hb hi hn h1]
    exact hK _ _ (h _ rfl)
theorem arr_load {W : World} (hgd : o.guard = none) (ty : TypeId) (x : Operand) (ho : o.op = .load ty x) (g : Nat) (cs : Array Value) (m : Nat) (el : TypeId)
    (hx : a.eval x = .pointer (some ⟨g, 0, none⟩)) (hb : W.heap[g]? = some (.cells cs ty (0, 0)))
    (hu : P.underlying ty = some (.array m el)) (hi : (P.info? ty).map (·.size) = some cs.size)
    (h : wpList P ops Q rest (a.put o.dst (.agg cs)) W) : wpList P ops Q (o :: rest) a W :=
  wpList_plain hgd fun _ hK => by
    unfold Oper.wp execOp
    simp only [ho, hx, Instr.loadAt, Instr.sureAddr, Sem.run_bind, Sem.run_pure, Result.andThen_ok, run_loadVar_row W g ty ty cs (0, 0) _ hb hu rfl hi]
    exact hK _ _ h
end
end Go.Proofs.Ytocphkfkdadhaaa.H

namespace Go.Proofs.Ytocphkfkdadhaaa.H
open Go.RowKit Go.Proofs.YtocphkfkdadhaaaW.PrintWords Go.Proofs.YtocphkfkdadhaaaW.PrintLast Go.Proofs.YtocphkfkdadhaaaW.PrintMore
set_option linter.unusedVariables false
set_option linter.unusedSimpArgs false
def cellsW (l : List Nat) : Array Value := (l.map fun x : Nat => Value.int .u32 (x : Int)).toArray
theorem cellsW_size (l : List Nat) : (cellsW l).size = l.length := by simp [cellsW]
theorem cellsW_one (l : List Nat) : (cellsW l).all (·.oneCell') = true := all_oneCell_toArray (by
  intro v hv
  obtain ⟨x, _, rfl⟩ := List.mem_map.1 hv
  rfl)
theorem cellsW_at (l : List Nat) (i : Nat) (h : i < l.length) : (cellsW l)[i]? = some (.int .u32 (l[i] : Int)) := by simp [cellsW, h]
theorem cellsW_set (l : List Nat) (i x : Nat) : (cellsW l).setIfInBounds i (.int .u32 (x : Int)) = cellsW (l.set i x) := by
  simp [cellsW, List.map_set]
def HS : List Nat := [0x6a09e667, 0xbb67ae85, 0x3c6ef372, 0xa54ff53a, 0x510e527f, 0x9b05688c, 0x1f83d9ab, 0x5be0cd19]
def KS : List Nat := [
  0x428a2f98, 0x71374491, 0xb5c0fbcf, 0xe9b5dba5, 0x3956c25b, 0x59f111f1, 0x923f82a4, 0xab1c5ed5,
  0xd807aa98, 0x12835b01, 0x243185be, 0x550c7dc3, 0x72be5d74, 0x80deb1fe, 0x9bdc06a7, 0xc19bf174,
  0xe49b69c1, 0xefbe4786, 0x0fc19dc6, 0x240ca1cc, 0x2de92c6f, 0x4a7484aa, 0x5cb0a9dc, 0x76f988da,
  0x983e5152, 0xa831c66d, 0xb00327c8, 0xbf597fc7, 0xc6e00bf3, 0xd5a79147, 0x06ca6351, 0x14292967,
  0x27b70a85, 0x2e1b2138, 0x4d2c6dfc, 0x53380d13, 0x650a7354, 0x766a0abb, 0x81c2c92e, 0x92722c85,
  0xa2bfe8a1, 0xa81a664b, 0xc24b8b70, 0xc76c51a3, 0xd192e819, 0xd6990624, 0xf40e3585, 0x106aa070,
  0x19a4c116, 0x1e376c08, 0x2748774c, 0x34b0bcb5, 0x391c0cb3, 0x4ed8aa4a, 0x5b9cca4f, 0x682e6ff3,
  0x748f82ee, 0x78a5636f, 0x84c87814, 0x8cc70208, 0x90befffa, 0xa4506ceb, 0xbef9a3f7, 0xc67178f2]
set_option maxHeartbeats 800000 in
theorem first_any (w : World) :
    Calls Try.prog 124 #[] w fun e w' => e = .returned (.agg (cellsW HS)) ∧ Below w.heap.size w w' := by
  go_enter Try.func124, Try.ntmps124
  go_wp2_with fail
  refine bodyPost_ret (results_cell_row rfl _ _ w.heap.size 187 (cellsW HS) (0, 0) _ rfl (blk_new w _) Try.underlying187 rfl (by kernel_rfl)) rfl ?_
  exact ⟨rfl, below_alloc (Below.refl _ _) _⟩
set_option maxHeartbeats 8000000 in
set_option maxRecDepth 100000 in
theorem factors_any (w : World) :
    Calls Try.prog 123 #[] w fun e w' => e = .returned (.agg (cellsW KS)) ∧ Below w.heap.size w w' := by
  obtain ⟨ks, hks⟩ : ∃ ks, ks = cellsW KS := ⟨_, rfl⟩
  have hkr := Aside0.mk (show ks.size = 64 ∧ ks.all (·.oneCell') = true from by subst hks; exact ⟨by rw [cellsW_size]; rfl, cellsW_one _⟩)
  have HKS := Aside0.mk hks
  rw [← hks]
  clear hks
  go_enter Try.func123, Try.ntmps123
  go_wp2_with (first
    | ((with_reducible refine gate_dst (N := 0) rfl ?_); refine arr_alloc rfl (N := 0) rfl (t := 185) rfl (Array.replicate 64 (.int .u32 0)) 64 (by kernel_rfl) ?_; intro g w1 HG HGe HB1; replace HG := Aside0.mk HG; replace HB1 := Aside0.mk HB1)
    | ((with_reducible refine gate_dst (N := 1) rfl ?_); refine Kd.event_run (v := .agg ks) rfl (w1 := w1) (by rw [HKS.out]; kernel_rfl) ?_)
    | ((with_reducible refine arr_store rfl 185 _ _ rfl g (Array.replicate 64 (.int .u32 0)) ks ?_ ?_ HG.out ?_ ?_ hkr.out.2 ?_); (case _ => rfl); (case _ => rfl); (case _ => rw [hkr.out.1]; rfl); (case _ => rw [hkr.out.1]; kernel_rfl); intro w2 hw2; have HG2 := Aside0.mk (setRow_at HG.out ks); have HB2 := Aside0.mk (below_row HB1.out (Nat.le_of_eq HGe.symm) ks); rw [← hw2] at HG2 HB2))
  refine bodyPost_ret (results_cell_row rfl _ _ g 185 ks (0, 0) _ rfl HG2.out Try.underlying185 rfl (by rw [hkr.out.1]; kernel_rfl)) rfl ?_
  exact ⟨rfl, HB2.out⟩
set_option maxHeartbeats 8000000 in
set_option maxRecDepth 100000 in
theorem kays_any (w : World) :
    Calls Try.prog 155 #[] w fun e w' => e = .returned (.agg (cellsW KS)) ∧ Below w.heap.size w w' := by
  obtain ⟨ks, hks⟩ : ∃ ks, ks = cellsW KS := ⟨_, rfl⟩
  have hkr := Aside0.mk (show ks.size = 64 ∧ ks.all (·.oneCell') = true from by subst hks; exact ⟨by rw [cellsW_size]; rfl, cellsW_one _⟩)
  have HKS := Aside0.mk hks
  rw [← hks]
  clear hks
  go_enter Try.func155, Try.ntmps155
  go_wp2_with (first
    | ((with_reducible refine gate_dst (N := 0) rfl ?_); refine arr_alloc rfl (N := 0) rfl (t := 185) rfl (Array.replicate 64 (.int .u32 0)) 64 (by kernel_rfl) ?_; intro g w1 HG HGe HB1; replace HG := Aside0.mk HG; replace HB1 := Aside0.mk HB1)
    | ((with_reducible refine gate_dst (N := 1) rfl ?_); refine Kd.event_run (v := .agg ks) rfl (w1 := w1) (by rw [HKS.out]; kernel_rfl) ?_)
    | ((with_reducible refine arr_store rfl 185 _ _ rfl g (Array.replicate 64 (.int .u32 0)) ks ?_ ?_ HG.out ?_ ?_ hkr.out.2 ?_); (case _ => rfl); (case _ => rfl); (case _ => rw [hkr.out.1]; rfl); (case _ => rw [hkr.out.1]; kernel_rfl); intro w2 hw2; have HG2 := Aside0.mk (setRow_at HG.out ks); have HB2 := Aside0.mk (below_row HB1.out (Nat.le_of_eq HGe.symm) ks); rw [← hw2] at HG2 HB2))
  refine bodyPost_ret (results_cell_row rfl _ _ g 185 ks (0, 0) _ rfl HG2.out Try.underlying185 rfl (by rw [hkr.out.1]; kernel_rfl)) rfl ?_
  exact ⟨rfl, HB2.out⟩
end Go.Proofs.Ytocphkfkdadhaaa.H

namespace Go.Proofs.Ytocphkfkdadhaaa.H
def add32 (a b : Nat) : Nat := (a + b) % 4294967296
def not32 (a : Nat) : Nat := 4294967295 - a
def wordAt (b : List Nat) (t : Nat) : Nat := ((b.getD (4 * t) 0 * 256 + b.getD (4 * t + 1) 0) * 256 + b.getD (4 * t + 2) 0) * 256 + b.getD (4 * t + 3) 0
def words16 (b : List Nat) : List Nat := (List.range 16).map (wordAt b)
def nextW (w : List Nat) (t : Nat) : Nat :=
  add32 (add32 (add32 (turnedP (w.getD (t - 2) 0) [17, 19] ^^^ w.getD (t - 2) 0 / 1024) (w.getD (t - 7) 0)) (turnedP (w.getD (t - 15) 0) [7, 18] ^^^ w.getD (t - 15) 0 / 8)) (w.getD (t - 16) 0)
def spreadFrom : Nat → Nat → List Nat → List Nat
  | 0, _, w => w
  | n + 1, t, w => spreadFrom n (t + 1) (w ++ [nextW w t])
def spreadP (b : List Nat) : List Nat := spreadFrom 48 16 (words16 b)
def roundP (s : List Nat) (k w : Nat) : List Nat :=
  let a := s.getD 0 0; let e := s.getD 4 0
  let t1 := add32 (add32 (add32 (s.getD 7 0) (turnedP e [6, 11, 25])) ((e &&& s.getD 5 0) ^^^ (not32 e &&& s.getD 6 0))) (add32 k w)
  let t2 := add32 (turnedP a [2, 13, 22]) ((a &&& s.getD 1 0) ^^^ (a &&& s.getD 2 0) ^^^ (s.getD 1 0 &&& s.getD 2 0))
  [add32 t1 t2, a, s.getD 1 0, s.getD 2 0, add32 (s.getD 3 0) t1, e, s.getD 5 0, s.getD 6 0]
def roundsP : List (Nat × Nat) → List Nat → List Nat
  | [], s => s
  | (k, w) :: r, s => roundsP r (roundP s k w)
def blockP (h b : List Nat) : List Nat := List.zipWith add32 h (roundsP (KS.zip (spreadP b)) h)
def blocksP : Nat → List Nat → List Nat → List Nat
  | 0, h, _ => h
  | n + 1, h, b => blocksP n (blockP h (b.take 64)) (b.drop 64)
def be8 (n : Nat) : List Nat := [n / 2 ^ 56 % 256, n / 2 ^ 48 % 256, n / 2 ^ 40 % 256, n / 2 ^ 32 % 256, n / 2 ^ 24 % 256, n / 2 ^ 16 % 256, n / 2 ^ 8 % 256, n % 256]
def zerosP (n : Nat) : Nat := (119 - n % 64) % 64
def paddedP (b : List Nat) : List Nat := b ++ [128] ++ List.replicate (zerosP b.length) 0 ++ be8 (b.length * 8)
def bytes4 (x : Nat) : List Nat := [x / 16777216 % 256, x / 65536 % 256, x / 256 % 256, x % 256]
def shaP (b : List Nat) : List Nat := (blocksP ((paddedP b).length / 64) HS (paddedP b)).flatMap bytes4
def leafP (b : List Nat) : List Nat := shaP (0 :: b)
def pairP (x y : List Nat) : List Nat := shaP (1 :: x ++ y)
example : (shaP [97, 98, 99]).take 4 = [0xba, 0x78, 0x16, 0xbf] := by decide +kernel
example : pairP (leafP [0, 0, 0, 0, 0, 0, 0, 1]) (leafP [0, 0, 0, 0, 0, 0, 0, 2]) ≠ pairP (leafP [0, 0, 0, 0, 0, 0, 0, 1]) (leafP [0, 0, 0, 0, 0, 0, 0, 3]) := by decide +kernel
end Go.Proofs.Ytocphkfkdadhaaa.H

namespace Go.Proofs.Ytocphkfkdadhaaa.H
open Go.RowKit Go.Proofs.YtocphkfkdadhaaaW.PrintWords Go.Proofs.YtocphkfkdadhaaaW.PrintLast Go.Proofs.YtocphkfkdadhaaaW.PrintMore
set_option linter.unusedVariables false
set_option linter.unusedSimpArgs false
def stepA (w : List Nat) (i c : Nat) : List Nat := w.set (i / 4) (w.getD (i / 4) 0 * 256 % 4294967296 ||| c)
def stA (b : List Nat) : Nat → List Nat
  | 0 => List.replicate 64 0
  | i + 1 => stepA (stA b i) i (b.getD i 0)
theorem stA_len (b : List Nat) : ∀ i, (stA b i).length = 64
  | 0 => by simp [stA]
  | i + 1 => by simp [stA, stepA, stA_len b i]
theorem getD_at (l : List Nat) (i : Nat) (h : i < l.length) : l.getD i 0 = l[i] := by simp [h]
theorem or_join (x y : Nat) (hx : x < 16777216) (hy : y < 256) : (x * 256 % 4294967296 ||| y) = x * 256 + y := by
  rw [Nat.mod_eq_of_lt (by omega)]
  exact nat_join 8 _ _ (by omega) (by simpa using hy)
theorem getD_lt (b : List Nat) (hb2 : ∀ x ∈ b, x < 256) (i : Nat) : b.getD i 0 < 256 := by
  by_cases h : i < b.length
  · rw [getD_at b i h]; exact hb2 _ (List.getElem_mem h)
  · simp [List.getElem?_eq_none (Nat.le_of_not_lt h)]
theorem stA_four (b : List Nat) (hb2 : ∀ x ∈ b, x < 256) : ∀ t, t ≤ 16 → stA b (4 * t) = (words16 b).take t ++ List.replicate (64 - t) 0
  | 0, _ => by simp [stA]
  | t + 1, h => by
    have ih := stA_four b hb2 t (by omega)
    have hl : ((words16 b).take t).length = t := by simp [words16]; omega
    have h0 := getD_lt b hb2 (4 * t)
    have h1 := getD_lt b hb2 (4 * t + 1)
    have h2 := getD_lt b hb2 (4 * t + 2)
    have h3 := getD_lt b hb2 (4 * t + 3)
    have hs : ∀ x y : Nat, ((words16 b).take t ++ x :: List.replicate (64 - (t + 1)) 0).set t y = (words16 b).take t ++ y :: List.replicate (64 - (t + 1)) 0 := fun x y => by
      rw [List.set_append_right _ _ (by omega), hl, Nat.sub_self]; rfl
    have hg : ∀ x : Nat, ((words16 b).take t ++ x :: List.replicate (64 - (t + 1)) 0).getD t 0 = x := fun x => by
      rw [List.getD_eq_getElem?_getD, List.getElem?_append_right (by omega), hl, Nat.sub_self]; rfl
    have e0 : List.replicate (64 - t) 0 = 0 :: List.replicate (64 - (t + 1)) 0 := by
      rw [show 64 - t = (64 - (t + 1)) + 1 by omega, List.replicate_succ]
    show stA b (4 * t + 3 + 1) = _
    simp only [stA, stepA]
    rw [show (4 * t + 3) / 4 = t by omega, show (4 * t + 2) / 4 = t by omega, show (4 * t + 1) / 4 = t by omega, show 4 * t / 4 = t by omega, ih, e0]
    simp only [hs, hg]
    rw [or_join 0 _ (by decide) h0, or_join _ _ (by omega) h1, or_join _ _ (by omega) h2, or_join _ _ (by omega) h3]
    rw [List.take_succ_eq_append_getElem (by simp [words16]; omega), List.append_assoc]
    congr 1
    simp [words16, wordAt]
theorem stA_end (b : List Nat) (hb2 : ∀ x ∈ b, x < 256) : stA b 64 = words16 b ++ List.replicate 48 0 := by
  have := stA_four b hb2 16 (by decide)
  rw [List.take_of_length_le (by simp [words16])] at this
  exact this
theorem spreadFrom_len : ∀ n t w, (spreadFrom n t w).length = w.length + n
  | 0, _, w => rfl
  | n + 1, t, w => by simp only [spreadFrom]; rw [spreadFrom_len n]; simp; omega
theorem spreadFrom_step (n t : Nat) (w : List Nat) : spreadFrom (n + 1) t w = spreadFrom n (t + 1) (w ++ [nextW w t]) := by rw [spreadFrom]
theorem spreadFrom_zero (t : Nat) (w : List Nat) : spreadFrom 0 t w = w := by rw [spreadFrom]
theorem spreadFrom_snoc (n : Nat) : ∀ t w, spreadFrom (n + 1) t w = spreadFrom n t w ++ [nextW (spreadFrom n t w) (t + n)] := by
  induction n with
  | zero => intro t w; rw [spreadFrom_step, spreadFrom_zero, spreadFrom_zero, Nat.add_zero]
  | succ n ih =>
    intro t w
    rw [spreadFrom_step, ih, spreadFrom_step n t w, show t + 1 + n = t + (n + 1) by omega]
def preW (b : List Nat) (t : Nat) : List Nat := spreadFrom (t - 16) 16 (words16 b)
theorem preW_len (b : List Nat) (t : Nat) (h : 16 ≤ t) : (preW b t).length = t := by
  unfold preW; rw [spreadFrom_len]; simp [words16]; omega
theorem preW_succ (b : List Nat) (t : Nat) (h : 16 ≤ t) : preW b (t + 1) = preW b t ++ [nextW (preW b t) t] := by
  unfold preW
  rw [show t + 1 - 16 = t - 16 + 1 by omega, spreadFrom_snoc, show 16 + (t - 16) = t by omega]
theorem cellsW_mid (p r : List Nat) (v t : Nat) (h : p.length = t) : (cellsW (p ++ v :: r))[t]? = some (.int .u32 (v : Int)) := by
  subst h
  rw [cellsW_at _ _ (by simp)]
  simp
theorem cellsW_low (p r : List Nat) (j : Nat) (h : j < p.length) : (cellsW (p ++ r))[j]? = some (.int .u32 (p.getD j 0 : Int)) := by
  rw [cellsW_at _ _ (by simp; omega), List.getElem_append_left h, getD_at _ _ h]
theorem lit_at (W : World) (l : List Nat) (t : TypeId) : ∀ i (h : i < l.length), (W.alloc (.cells (l.map fun n : Nat => Value.int .i64 (n : Int)).toArray t)).drew.cell? ⟨W.heap.size, i, none⟩ = some (.int .i64 (l[i] : Int)) := fun i hi => by
  rw [blk_cell (blk_drew (blk_new W _)) i]; simp [hi]
theorem cellsW_put (p r : List Nat) (v u t : Nat) (h : p.length = t) : (cellsW (p ++ v :: r)).setIfInBounds t (.int .u32 (u : Int)) = cellsW (p ++ u :: r) := by
  subst h
  rw [cellsW_set]; simp
theorem spreadFrom_lt (n : Nat) : ∀ t w, (∀ x ∈ w, x < 4294967296) → ∀ x ∈ spreadFrom n t w, x < 4294967296 := by
  induction n with
  | zero => intro t w h x hx; rw [spreadFrom_zero] at hx; exact h x hx
  | succ n ih =>
    intro t w h
    rw [spreadFrom_step]
    refine ih _ _ fun x hx => ?_
    rcases List.mem_append.1 hx with hx | hx
    · exact h x hx
    · rw [List.mem_singleton.1 hx]; exact Nat.mod_lt _ (by decide)
theorem preW_at (b : List Nat) (hb2 : ∀ x ∈ b, x < 256) (t j : Nat) : (preW b t).getD j 0 < 4294967296 := by
  have h : ∀ x ∈ preW b t, x < 4294967296 := spreadFrom_lt _ _ _ fun x hx => by
    obtain ⟨i, _, rfl⟩ := List.mem_map.1 hx
    unfold wordAt
    have h0 := getD_lt b hb2 (4 * i)
    have h1 := getD_lt b hb2 (4 * i + 1)
    have h2 := getD_lt b hb2 (4 * i + 2)
    have h3 := getD_lt b hb2 (4 * i + 3)
    omega
  by_cases hj : j < (preW b t).length
  · rw [getD_at _ _ hj]; exact h _ (List.getElem_mem hj)
  · simp [List.getElem?_eq_none (Nat.le_of_not_lt hj)]
theorem spreadP_len (b : List Nat) : (spreadP b).length = 64 := preW_len b 64 (by decide)
section
variable {P : Program} {ops : Array Oper} {rest : List Oper} {o : Oper} {a : Act} {Q : Exit → Act → World → Prop}
theorem ints_lit {W : World} (hgd : o.guard = none) {N : Tmp} (hd : o.dst = some N) (l : List Nat) {t : TypeId}
    (hrun : (execOp a.eval o).run P W = .ok (.value (.slice (some ⟨W.heap.size, 0, none⟩) l.length l.length)) (W.alloc (.cells (l.map fun n : Nat => Value.int .i64 (n : Int)).toArray t)))
    (h : ∀ g w1, (∀ i (h : i < l.length), w1.cell? ⟨g, i, none⟩ = some (.int .i64 (l[i] : Int))) → Below W.heap.size W w1 → wpList P ops Q rest (a.put o.dst (.slice (some ⟨g, 0, none⟩) l.length l.length)) w1) : wpList P ops Q (o :: rest) a W :=
  Kd.event_run hgd hrun (h W.heap.size _ (fun i hi => by rw [blk_cell (blk_new W _) i]; simp [hi]) (below_alloc (Below.refl _ _) _))
end
set_option maxHeartbeats 2000000 in
set_option maxRecDepth 100000 in
theorem spread_any (b : List Nat) (hb : b.length = 64) (hb2 : ∀ x ∈ b, x < 256) (gb ob c : Nat) (hc : 64 ≤ c) (w : World)
    (hC : ∀ i (h : i < b.length), w.cell? ⟨gb, ob + i, none⟩ = some (.int .u8 (b[i] : Int))) :
    Calls Try.prog 153 #[.slice (some ⟨gb, ob, none⟩) 64 c] w fun e w' => e = .returned (.agg (cellsW (spreadP b))) ∧ Below w.heap.size w w' := by
  have HC := Aside0.mk hC
  clear hC
  go_enter Try.func153, Try.ntmps153
  go_wp2_with (first
    | ((with_reducible refine gate_dst (N := 2) rfl ?_); refine arr_alloc rfl (N := 2) rfl (t := 185) rfl (Array.replicate 64 (.int .u32 0)) 64 (by kernel_rfl) ?_; intro g2 w1 HG2 HGe2 HB1; replace HG2 := Aside0.mk HG2; replace HB1 := Aside0.mk HB1; replace HGe2 := Aside0.mk HGe2)
    | ((with_reducible refine gate_dst (N := 3) rfl ?_); refine arr_alloc rfl (N := 3) rfl (t := 185) rfl (Array.replicate 64 (.int .u32 0)) 64 (by kernel_rfl) ?_; intro g3 w2 HG3 HGe3 HB2; replace HG3 := Aside0.mk HG3; replace HB2 := Aside0.mk HB2; replace HGe3 := Aside0.mk HGe3))
  have HG2' := Aside0.mk (blk_below HG2.out HB2.out)
  have HB := Aside0.mk (below_step HB1.out HB2.out)
  have HLE : Aside0 (w.heap.size ≤ g2 ∧ w.heap.size ≤ g3 ∧ g2 ≠ g3) := ⟨by have h1 := HGe2.out; have h2 := HGe3.out; have h3 := blk_lt HG2.out; have h4 := HB1.out.size; omega⟩
  clear HG2 HB1 HGe2 HGe3 HB2
  go_loopw [8] (fun v8 wr => ∃ i : Nat, i ≤ 64 ∧ v8 = .int .i64 (i : Int) ∧ Aside0 (Below w.heap.size w wr) ∧ Aside0 (wr.heap[g3]? = some (.cells (cellsW (stA b i)) 185 (0, 0))) ∧ Aside0 (wr.heap[g2]? = some (.cells (Array.replicate 64 (.int .u32 0)) 185 (0, 0)))) (fun v8 _ => 64 - (intOf v8).toNat)
  case atStart => exact ⟨0, Nat.zero_le _, rfl, HB, ⟨HG3.out⟩, HG2'⟩
  case round =>
    obtain ⟨i, hi, rfl, HBr, HW, HR⟩ := hrel
    by_cases hlt : i < 64
    · have hdl : decide (i < 64) = true := decide_eq_true hlt
      have hib : i < b.length := by omega
      have hcb := (HBr.out.cell (World.block_lt_of_cell? w _ (HC.out i hib))).trans (HC.out i hib)
      have hw0 := blk_cell HW.out (i / 4)
      have hwf := blk_frozen HW.out (i / 4)
      have hq4 : i / 4 < 64 := by omega
      rw [cellsW_at _ _ (by rw [stA_len]; omega)] at hw0
      have hbd := hb2 _ (List.getElem_mem hib)
      have hnx : Aside0 (cellsW (stA b (i + 1)) = (cellsW (stA b i)).setIfInBounds (i / 4) (.int .u32 (((stA b i)[i / 4]'(by rw [stA_len]; omega) * 256 % 4294967296 ||| b[i] : Nat) : Int))) := ⟨by
        rw [cellsW_set]; simp only [stA, stepA]; congr 1
        rw [getD_at _ _ (by rw [stA_len]; omega), getD_at _ _ hib]⟩
      generalize (stA b i)[i / 4]'(by rw [stA_len]; omega) = x at *
      generalize b[i] = y at *
      have hor : bits .or .u32 ((x : Int) * 256 % 4294967296) (y : Int) = ((x * 256 % 4294967296 ||| y : Nat) : Int) := by
        have h := u32_or_nat (x * 256 % 4294967296) y (Nat.mod_lt _ (by decide)) (by omega)
        rw [← h]
        congr 1
      generalize (x * 256 % 4294967296 ||| y) = z at *
      go_wp2_with fail
      go_region
      have HBn := Aside0.mk (below_drew1 (below_set (j := i / 4) (v := .int .u32 (z : Int)) HBr.out HLE.out.2.1))
      have HWn := Aside0.mk (blk_drew (blk_put HW.out (i / 4) (.int .u32 (z : Int)) hnx.out.symm))
      have HRn := Aside0.mk (blk_drew (blk_far (p := ⟨g3, i / 4, none⟩) HR.out HLE.out.2.2 (.int .u32 (z : Int))))
      go_wp2_with fail
      go_roundw
      case rel => exact ⟨i + 1, hlt, by go_num, HBn, HWn, HRn⟩
      case measure => simp [intOf]; omega
    · have hdl : decide (i < 64) = false := decide_eq_false hlt
      have he : i = 64 := by omega
      subst he
      clear hlt
      go_wp2_with fail
      rw [stA_end b hb2] at HW
      go_loopw [5] (fun v5 wk => ∃ t : Nat, 16 ≤ t ∧ t ≤ 64 ∧ v5 = .int .i64 (t : Int) ∧ Aside0 (Below w.heap.size w wk) ∧ Aside0 (wk.heap[g3]? = some (.cells (cellsW (preW b t ++ List.replicate (64 - t) 0)) 185 (0, 0))) ∧ Aside0 (wk.heap[g2]? = some (.cells (Array.replicate 64 (.int .u32 0)) 185 (0, 0)))) (fun v5 _ => 64 - (intOf v5).toNat)
      case atStart => exact ⟨16, Nat.le_refl _, by decide, rfl, HBr, HW, HR⟩
      case round =>
        obtain ⟨t, ht, ht2, rfl, HBk, HWk, HRk⟩ := hrel
        by_cases hlt : t < 64
        · have hdl : decide (t < 64) = true := decide_eq_true hlt
          obtain ⟨p, hp⟩ : ∃ p, p = preW b t := ⟨_, rfl⟩
          have HP := Aside0.mk hp
          have hpl := preW_len b t ht
          rw [← hp] at hpl HWk
          clear hp
          have hcell : ∀ j (hj : j < t), wr.cell? ⟨g3, j, none⟩ = some (.int .u32 (p.getD j 0 : Int)) := fun j hj => by
            rw [blk_cell HWk.out j, cellsW_at _ _ (by simp; omega), List.getElem_append_left (by omega), getD_at _ _ (by omega)]
          have c2 := hcell (t - 2) (by omega)
          have c15 := hcell (t - 15) (by omega)
          have c7 := hcell (t - 7) (by omega)
          have c16 := hcell (t - 16) (by omega)
          clear hcell
          have HJ7 := Aside0.mk (fun r => cellsW_low p r (t - 7) (by omega))
          have HJ16 := Aside0.mk (fun r => cellsW_low p r (t - 16) (by omega))
          have HNW : Aside0 (nextW p t = add32 (add32 (add32 (turnedP (p.getD (t - 2) 0) [17, 19] ^^^ p.getD (t - 2) 0 / 1024) (p.getD (t - 7) 0)) (turnedP (p.getD (t - 15) 0) [7, 18] ^^^ p.getD (t - 15) 0 / 8)) (p.getD (t - 16) 0)) := ⟨rfl⟩
          have hx2 : p.getD (t - 2) 0 < 4294967296 := by rw [HP.out]; exact preW_at b hb2 t _
          have hx15 : p.getD (t - 15) 0 < 4294967296 := by rw [HP.out]; exact preW_at b hb2 t _
          generalize p.getD (t - 2) 0 = x2 at *
          generalize p.getD (t - 15) 0 = x15 at *
          generalize p.getD (t - 7) 0 = x7 at *
          generalize p.getD (t - 16) 0 = x16 at *
          go_wp2_with fail
          go_region
          go_wp2_with (first
            | ((with_reducible refine gate_dst (N := 40) rfl ?_); refine ints_lit rfl (N := 40) rfl [17, 19] (t := 3) ?hr40 ?_; (case hr40 => first | (go_simp; done) | (go_simp; rfl)); intro g4 w4 HC4 HB4; replace HC4 := Aside0.mk HC4; replace HB4 := Aside0.mk HB4))
          refine (turned_any x2 [17, 19] hx2 (by decide) (by decide) g4 2 w4 HC4.out).mono ?_
          rintro e w5 ⟨rfl, rfl⟩
          have HW5 := Aside0.mk (blk_below (blk_drew HWk.out) HB4.out)
          have HR5 := Aside0.mk (blk_below (blk_drew HRk.out) HB4.out)
          have HB5 := Aside0.mk (below_step (below_drew HBk.out) HB4.out)
          rw [show 64 - t = (63 - t) + 1 by omega, List.replicate_succ] at HW5
          have ct := blk_cell HW5.out t
          rw [cellsW_mid _ _ _ _ hpl] at ct
          have ft := blk_frozen HW5.out t
          have hT1 := turnedP_lt x2 hx2 [17, 19]
          have hxo := u32_xor_nat (turnedP x2 [17, 19]) (x2 / 1024) hT1 (by omega)
          have e1024 : ((x2 / 1024 : Nat) : Int) = (x2 : Int) / 1024 := by omega
          rw [e1024] at hxo
          clear e1024
          generalize turnedP x2 [17, 19] = y2 at *
          have hv1 := xor_lt32 hT1 (show x2 / 1024 < 4294967296 by omega)
          generalize y2 ^^^ x2 / 1024 = v1 at *
          have HX1 := Aside0.mk hxo
          go_wp2_with fail
          have HW6 := Aside0.mk (blk_put HW5.out t (.int .u32 (v1 : Int)) (cellsW_put p _ 0 v1 t hpl))
          have HR6 := Aside0.mk (blk_far (p := ⟨g3, t, none⟩) HR5.out HLE.out.2.2 (.int .u32 (v1 : Int)))
          have HB6 := Aside0.mk (below_set (j := t) (v := .int .u32 (v1 : Int)) HB5.out HLE.out.2.1)
          generalize w5.setCell ⟨g3, t, none⟩ (.int .u32 (v1 : Int)) = w6 at *
          clear ct ft c2 c15 c7 c16 hxo
          have ct := (blk_cell HW6.out t).trans (cellsW_mid _ _ _ _ hpl)
          have c7 := (blk_cell HW6.out (t - 7)).trans (HJ7.out _)
          have ft := blk_frozen HW6.out t
          obtain ⟨v2, hv2⟩ : ∃ v2, v2 = add32 v1 x7 := ⟨_, rfl⟩
          have ha2 : ((v1 : Int) + (x7 : Int)) % 4294967296 = (v2 : Int) := by rw [hv2]; unfold add32; omega
          have HV2 := Aside0.mk hv2
          clear hv2
          go_region
          have HW7 := Aside0.mk (blk_drew (blk_put HW6.out t (.int .u32 (v2 : Int)) (cellsW_put p _ v1 v2 t hpl)))
          have HR7 := Aside0.mk (blk_drew (blk_far (p := ⟨g3, t, none⟩) HR6.out HLE.out.2.2 (.int .u32 (v2 : Int))))
          have HB7 := Aside0.mk (below_drew (below_set (j := t) (v := .int .u32 (v2 : Int)) HB6.out HLE.out.2.1))
          generalize (w6.setCell ⟨g3, t, none⟩ (.int .u32 (v2 : Int))).drew = w7 at *
          clear ct c7 ft ha2
          have ct := (blk_cell HW7.out t).trans (cellsW_mid _ _ _ _ hpl)
          have HLA := Aside0.mk (lit_at w7 [7, 18] 3)
          have HB8 := Aside0.mk (below_drew (below_alloc (Below.refl w7.heap.size w7) (.cells #[.int .i64 7, .int .i64 18] 3)))
          have ct8 := pw_cell_below HB8.out ct
          have HW8 := Aside0.mk (blk_below HW7.out HB8.out)
          have ft8 := blk_frozen HW8.out t
          have HR8 := Aside0.mk (blk_below HR7.out HB8.out)
          have HT15 := Aside0.mk (fun g W h => turned_any x15 [7, 18] hx15 (by decide) (by decide) g 2 W h)
          have hs7 := turnedP_lt x15 hx15 [7, 18]
          have hxo := u32_xor_nat (turnedP x15 [7, 18]) (x15 / 8) hs7 (by omega)
          have e8 : ((x15 / 8 : Nat) : Int) = (x15 : Int) / 8 := by omega
          rw [e8] at hxo
          clear e8
          generalize turnedP x15 [7, 18] = y15 at *
          have hz15 := xor_lt32 hs7 (show x15 / 8 < 4294967296 by omega)
          generalize y15 ^^^ x15 / 8 = z15 at *
          obtain ⟨v3, hv3⟩ : ∃ v3, v3 = add32 v2 z15 := ⟨_, rfl⟩
          have ha3 : IntKind.u32.wrap ((v2 : Int) + (z15 : Int)) = (v3 : Int) := by rw [hv3, IntKind.wrap_u32']; unfold add32; omega
          have HV3 := Aside0.mk hv3
          clear hv3
          go_wp2_with fail
          go_region_with (first
            | (go_at_call 154; refine (HT15.out _ _ HLA.out).mono ?_; rintro e w8 ⟨rfl, rfl⟩))
          all_goals
            have HB8' := Aside0.mk (below_alloc (Below.refl w7.heap.size w7) (.cells #[.int .i64 7, .int .i64 18] 3))
            have HW9 := Aside0.mk (blk_drew (blk_put (blk_below HW7.out HB8'.out) t (.int .u32 (v3 : Int)) (cellsW_put p _ v2 v3 t hpl)))
            have HR9 := Aside0.mk (blk_drew (blk_far (p := ⟨g3, t, none⟩) (blk_below HR7.out HB8'.out) HLE.out.2.2 (.int .u32 (v3 : Int))))
            have HB9 := Aside0.mk (below_drew (below_set (j := t) (v := .int .u32 (v3 : Int)) (below_step HB7.out HB8'.out) HLE.out.2.1))
            clear HLA HB8 ct8 HW8 ft8 HR8 HT15 hs7 hxo hz15 ct HB8'
            try generalize ((w7.alloc (.cells #[.int .i64 7, .int .i64 18] 3)).setCell ⟨g3, t, none⟩ (.int .u32 (v3 : Int))).drew = w9 at *
            have ct := (blk_cell HW9.out t).trans (cellsW_mid _ _ _ _ hpl)
            have c16 := (blk_cell HW9.out (t - 16)).trans (HJ16.out _)
            have ft := blk_frozen HW9.out t
            obtain ⟨v4, hv4⟩ : ∃ v4, v4 = add32 v3 x16 := ⟨_, rfl⟩
            have ha4 : ((v3 : Int) + (x16 : Int)) % 4294967296 = (v4 : Int) := by rw [hv4]; unfold add32; omega
            have HV4 := Aside0.mk hv4
            clear hv4
            go_wp2_with fail
            go_region
            have HF := Aside0.mk (show cellsW (preW b (t + 1) ++ List.replicate (64 - (t + 1)) 0) = cellsW (p ++ v4 :: List.replicate (63 - t) 0) from by
              rw [preW_succ b t ht, ← HP.out, HNW.out, ← HV2.out, ← HV3.out, ← HV4.out, List.append_assoc, show 64 - (t + 1) = 63 - t by omega]; rfl)
            have HW10 := blk_drew (blk_put HW9.out t (.int .u32 (v4 : Int)) (cellsW_put p _ v3 v4 t hpl))
            rw [← HF.out] at HW10
            replace HW10 := Aside0.mk HW10
            have HR10 := Aside0.mk (blk_drew (blk_far (p := ⟨g3, t, none⟩) HR9.out HLE.out.2.2 (.int .u32 (v4 : Int))))
            have HB10 := Aside0.mk (below_drew (below_set (j := t) (v := .int .u32 (v4 : Int)) HB9.out HLE.out.2.1))
            clear ct c16 ft ha4
            go_wp2_with fail
            go_roundw
            case rel => (repeat apply Exists.intro); exact ⟨⟨t + 1, by omega, by omega, by go_num, HB10, HW10, HR10⟩, rfl⟩
            case measure => simp [intOf]; omega
        · have hdl : decide (t < 64) = false := decide_eq_false hlt
          have he : t = 64 := by omega
          subst he
          clear hlt
          have HWe : Aside0 (wr.heap[g3]? = some (.cells (cellsW (spreadP b)) 185 (0, 0))) := ⟨by
            have h := HWk.out
            rw [show preW b 64 ++ List.replicate (64 - 64) 0 = spreadP b from List.append_nil _] at h
            exact h⟩
          go_wp2_with (first
            | ((with_reducible refine gate_dst (N := 75) rfl ?_); refine arr_load rfl 185 _ rfl g3 (cellsW (spreadP b)) 64 _ rfl HWe.out Try.underlying185 (by rw [cellsW_size, spreadP_len]; kernel_rfl) ?_)
            | ((with_reducible refine arr_store rfl 185 _ _ rfl g2 (Array.replicate 64 (.int .u32 0)) (cellsW (spreadP b)) ?_ ?_ HRk.out ?_ ?_ (cellsW_one _) ?_); (case _ => rfl); (case _ => rfl); (case _ => rw [cellsW_size, spreadP_len]; rfl); (case _ => rw [cellsW_size, spreadP_len]; kernel_rfl); intro w20 hw20; have HG20 := Aside0.mk (setRow_at HRk.out (cellsW (spreadP b))); have HB20 := Aside0.mk (below_row HBk.out HLE.out.1 (cellsW (spreadP b))); rw [← hw20] at HG20 HB20))
          refine bodyPost_ret (results_cell_row rfl _ _ g2 185 (cellsW (spreadP b)) (0, 0) _ rfl HG20.out Try.underlying185 rfl (by rw [cellsW_size, spreadP_len]; kernel_rfl)) rfl ?_
          exact ⟨rfl, HB20.out⟩
end Go.Proofs.Ytocphkfkdadhaaa.H

namespace Go.Proofs.Ytocphkfkdadhaaa.H
open Go.RowKit Go.Proofs.YtocphkfkdadhaaaW.PrintWords Go.Proofs.YtocphkfkdadhaaaW.PrintLast Go.Proofs.YtocphkfkdadhaaaW.PrintMore
set_option linter.unusedVariables false
set_option linter.unusedSimpArgs false
def Arr (n : Nat) (cs : Array Value) : Prop := cs.size = n ∧ cs.all (·.oneCell') = true
theorem Arr_rep (n : Nat) (v : Value) (h : v.oneCell' = true) : Arr n (Array.replicate n v) := ⟨by simp, by
  rw [Array.all_eq_true]; intro i hi; simpa using h⟩
theorem Arr_W {l : List Nat} {n : Nat} (h : l.length = n) : Arr n (cellsW l) := ⟨by rw [cellsW_size, h], cellsW_one l⟩
abbrev Blk := Nat × Array Value × TypeId
structure Holds (B : Nat) (w0 W : World) (L : List Blk) : Prop where
  below : Below B w0 W
  base : B ≤ W.heap.size
  at_ : ∀ x ∈ L, B ≤ x.1 ∧ W.heap[x.1]? = some (.cells x.2.1 x.2.2 (0, 0))
  ne : (L.map (·.1)).Nodup
namespace Holds
variable {B : Nat} {w0 W W1 : World} {L : List Blk}
theorem start (w : World) : Holds w.heap.size w w [] := ⟨Below.refl _ _, Nat.le_refl _, by simp, by simp⟩
theorem lt (h : Holds B w0 W L) {x : Blk} (hx : x ∈ L) : x.1 < W.heap.size := blk_lt (h.at_ x hx).2
theorem fresh (h : Holds B w0 W L) (hb : Below W.heap.size W W1) {g : Nat} {cs : Array Value} {t : TypeId} (hg : W1.heap[g]? = some (.cells cs t (0, 0))) (hge : W.heap.size ≤ g) : Holds B w0 W1 ((g, cs, t) :: L) := by
  refine ⟨below_then h.below h.base hb, Nat.le_trans h.base hb.size, fun x hx => ?_, ?_⟩
  · rcases List.mem_cons.1 hx with rfl | hx
    · exact ⟨Nat.le_trans h.base hge, hg⟩
    · exact ⟨(h.at_ x hx).1, blk_below (h.at_ x hx).2 hb⟩
  · simp only [List.map_cons, List.nodup_cons]
    refine ⟨fun hm => ?_, h.ne⟩
    obtain ⟨y, hy, he⟩ := List.mem_map.1 hm
    have := h.lt hy
    omega
theorem new (h : Holds B w0 W L) (cs : Array Value) (t : TypeId) : Holds B w0 (W.alloc (.cells cs t)) ((W.heap.size, cs, t) :: L) :=
  h.fresh (below_alloc (Below.refl _ _) _) (blk_new W _) (Nat.le_refl _)
theorem step (h : Holds B w0 W L) (hb : Below W.heap.size W W1) : Holds B w0 W1 L :=
  ⟨below_then h.below h.base hb, Nat.le_trans h.base hb.size, fun x hx => ⟨(h.at_ x hx).1, blk_below (h.at_ x hx).2 hb⟩, h.ne⟩
theorem drew (h : Holds B w0 W L) : Holds B w0 W.drew L := h.step (below_drew (Below.refl _ _))
theorem alloc (h : Holds B w0 W L) (o : Obj) : Holds B w0 (W.alloc o) L := h.step (below_alloc (Below.refl _ _) _)
theorem get (h : Holds B w0 W L) (k : Nat) {g : Nat} {cs : Array Value} {t : TypeId} (hk : L[k]? = some (g, cs, t)) : W.heap[g]? = some (.cells cs t (0, 0)) :=
  (h.at_ _ (List.mem_of_getElem? hk)).2
theorem le (h : Holds B w0 W L) (k : Nat) {g : Nat} {cs : Array Value} {t : TypeId} (hk : L[k]? = some (g, cs, t)) : B ≤ g :=
  (h.at_ _ (List.mem_of_getElem? hk)).1
theorem cell (h : Holds B w0 W L) (k : Nat) {g : Nat} {cs : Array Value} {t : TypeId} (hk : L[k]? = some (g, cs, t)) (i : Nat) {v : Value} (hv : cs[i]? = some v) : W.cell? ⟨g, i, none⟩ = some v :=
  (blk_cell (h.get k hk) i).trans hv
theorem fz (h : Holds B w0 W L) (k : Nat) {g : Nat} {cs : Array Value} {t : TypeId} (hk : L[k]? = some (g, cs, t)) (i : Nat) : W.frozen? ⟨g, i, none⟩ = false := blk_frozen (h.get k hk) i
theorem drop (h : Holds B w0 W L) (k : Nat) : Holds B w0 W (L.eraseIdx k) :=
  ⟨h.below, h.base, fun x hx => h.at_ x (List.mem_of_mem_eraseIdx hx), by
    have : (L.eraseIdx k).map (·.1) = (L.map (·.1)).eraseIdx k := by
      simp [List.eraseIdx_eq_take_drop_succ]
    rw [this]; exact h.ne.eraseIdx k⟩
theorem turn (h : Holds B w0 W L) (k : Nat) {g : Nat} {cs cs' : Array Value} {t : TypeId} (hk : L[k]? = some (g, cs, t)) {W1 : World} (hs : W1.os = W.os ∧ W1.tape = W.tape ∧ W1.output = W.output ∧ W1.heap.size = W.heap.size)
    (hg : W1.heap[g]? = some (.cells cs' t (0, 0))) (hf : ∀ i, i ≠ g → W1.heap[i]? = W.heap[i]?) : Holds B w0 W1 (L.set k (g, cs', t)) := by
  have hBg := h.le k hk
  have hkl : k < L.length := (List.getElem?_eq_some_iff.1 hk).1
  have hke : L[k] = (g, cs, t) := (List.getElem?_eq_some_iff.1 hk).2
  refine ⟨h.below.trans ⟨hs.1, hs.2.1, hs.2.2.1, by omega, fun i hi => hf i (by omega)⟩, by have := h.base; omega, fun x hx => ?_, ?_⟩
  · obtain ⟨j, hj, rfl⟩ := List.mem_iff_getElem.1 hx
    rw [List.length_set] at hj
    by_cases hjk : k = j
    · subst hjk
      rw [List.getElem_set_self]
      exact ⟨hBg, hg⟩
    · rw [List.getElem_set_ne hjk]
      have hm := h.at_ L[j] (List.getElem_mem hj)
      refine ⟨hm.1, (hf _ fun he => ?_).trans hm.2⟩
      have hp := List.pairwise_iff_getElem.1 h.ne
      rcases Nat.lt_or_gt_of_ne hjk with hlt | hlt
      · have := hp k j (by simpa using hkl) (by simpa using hj) hlt
        simp only [List.getElem_map, hke] at this
        exact absurd he.symm this
      · have := hp j k (by simpa using hj) (by simpa using hkl) hlt
        simp only [List.getElem_map, hke] at this
        exact absurd he this
  · have : (L.set k (g, cs', t)).map (·.1) = L.map (·.1) := by
      rw [List.map_set]
      refine List.ext_getElem (by simp) fun i h1 h2 => ?_
      by_cases hi : k = i
      · subst hi; simp [hke]
      · rw [List.getElem_set_ne hi]
    rw [this]; exact h.ne
theorem put (h : Holds B w0 W L) (k : Nat) {g : Nat} {cs cs' : Array Value} {t : TypeId} (hk : L[k]? = some (g, cs, t)) (i : Nat) (v : Value) (hv : cs.setIfInBounds i v = cs') : Holds B w0 (W.setCell ⟨g, i, none⟩ v) (L.set k (g, cs', t)) := by
  subst hv
  refine h.turn k hk ⟨rfl, rfl, rfl, by simp⟩ (blk_set (h.get k hk) i v) fun j hj => Below.heap_setCell _ _ _ _ hj
theorem row (h : Holds B w0 W L) (k : Nat) {g : Nat} {cs : Array Value} {t : TypeId} (hk : L[k]? = some (g, cs, t)) (c' : Array Value) : Holds B w0 (W.setRow g c') (L.set k (g, c', t)) :=
  h.turn k hk ⟨rfl, rfl, rfl, by simp⟩ (setRow_at (h.get k hk) c') fun j hj => setRow_off _ _ _ _ hj
end Holds
section
variable {P : Program} {ops : Array Oper} {rest : List Oper} {o : Oper} {a : Act} {Q : Exit → Act → World → Prop}
theorem hold_alloc {B : Nat} {w0 W : World} {L : List Blk} (H : Holds B w0 W L) (hgd : o.guard = none) {N : Tmp} (hd : o.dst = some N) {t : TypeId} (ho : o.op = .alloc t) (cs : Array Value) (n : Nat)
    (hi : (P.info? t).map (fun i => (i.zero, i.size)) = some (some (.agg cs), n))
    (h : ∀ g w1, Holds B w0 w1 ((g, cs, t) :: L) → Below W.heap.size W w1 → wpList P ops Q rest (a.put o.dst (.pointer (some ⟨g, 0, none⟩))) w1) : wpList P ops Q (o :: rest) a W :=
  arr_alloc hgd hd ho cs n hi fun g w1 hg hge hb => h g w1 (H.fresh hb hg (by omega)) hb
theorem hold_box {B : Nat} {w0 W : World} {L : List Blk} (H : Holds B w0 W L) (hgd : o.guard = none) {N : Tmp} (hd : o.dst = some N) {t : TypeId} {x : Operand} (ho : o.op = .box t x) (cs : Array Value) (hx : a.eval x = .agg cs)
    (h : ∀ g w1, Holds B w0 w1 ((g, cs, t) :: L) → Below W.heap.size W w1 → wpList P ops Q rest (a.put o.dst (.pointer (some ⟨g, 0, none⟩))) w1) : wpList P ops Q (o :: rest) a W := by
  refine Kd.event_run hgd (v := .pointer (some ⟨W.heap.size, 0, none⟩)) (w1 := W.alloc (.cells cs t (0, 0))) ?_ (h _ _ (H.new cs t) (below_alloc (Below.refl _ _) _))
  unfold execOp
  simp only [ho, hx]
  simp [Instr.box, newVar, Value.cells, go_sem]
theorem hold_store {B : Nat} {w0 W : World} {L : List Blk} (H : Holds B w0 W L) (k : Nat) (g : Nat) (cs : Array Value) (ty : TypeId) (hk : L[k]? = some (g, cs, ty)) (hgd : o.guard = none) (x y : Operand) (ho : o.op = .store ty x y) (cells : Array Value)
    (hx : a.eval x = .pointer (some ⟨g, 0, none⟩)) (hy : a.eval y = .agg cells) (n : Nat) (hn : Arr n cs) (h1 : Arr n cells)
    (hi : (P.info? ty).map (·.size) = some n)
    (h : ∀ w1, Holds B w0 w1 (L.set k (g, cells, ty)) → wpList P ops Q rest (a.put o.dst undef) w1) : wpList P ops Q (o :: rest) a W :=
  arr_store hgd ty x y ho g cs cells hx hy (H.get k hk) (hn.1.trans h1.1.symm) (by rw [h1.1]; exact hi) h1.2 fun w1 hw => h w1 (hw ▸ H.row k hk cells)
theorem hold_load {B : Nat} {w0 W : World} {L : List Blk} (H : Holds B w0 W L) (k : Nat) (g : Nat) (cs : Array Value) (ty : TypeId) (hk : L[k]? = some (g, cs, ty)) (hgd : o.guard = none) (x : Operand) (ho : o.op = .load ty x) {m : Nat} {el : TypeId}
    (hx : a.eval x = .pointer (some ⟨g, 0, none⟩)) (hu : P.underlying ty = some (.array m el)) (n : Nat) (hn : Arr n cs) (hi : (P.info? ty).map (·.size) = some n)
    (h : wpList P ops Q rest (a.put o.dst (.agg cs)) W) : wpList P ops Q (o :: rest) a W :=
  arr_load hgd ty x ho g cs m el hx (H.get k hk) hu (by rw [hn.1]; exact hi) h
end
theorem step_copy_hold {P : Program} {ops : Array Oper} {o : Oper} {a : Act} {K : Act → World → Prop} {Q : Exit → Act → World → Prop} {E : Prop} {B : Nat} {w0 W : World} {L : List Blk} (H : Holds B w0 W L) (k : Nat) (g : Nat) (cur : List Value) (t : TypeId) (hk : L[k]? = some (g, cur.toArray, t))
    (hgd : o.guard = none) (d s : Operand) (dT sT : TypeId) (ho : o.op = .call { callee := .builtin .copy, args := #[d, s], argTypes := #[dT, sT] }) (elem : TypeId) (hu : P.underlying dT = some (.slice elem)) (hsz : (P.info? elem).map (·.size) = some 1)
    (off : Nat) (ad : Addr) (dLen dCap sLen sCap : Nat) (hd : a.eval d = .slice (some ⟨g, off, none⟩) dLen dCap) (hs : a.eval s = .slice (some ad) sLen sCap) (cs : List Value) (hn : cs.length = Nat.min sLen dLen)
    (hsrc : ∀ j v, cs[j]? = some v → W.cell? (ad.add j) = some v) (hfit : off + cs.length ≤ cur.length) (h1 : ∀ v ∈ cs, v.oneCell' = true)
    (h : ∀ w', Holds B w0 w' (L.set k (g, (splice cur off cs).toArray, t)) → K (a.put o.dst (goInt cs.length)) w') :
    if Region.wanted o (yielded ops a.tmps) = true then Oper.wp P o a W K Q else E := by
  have hw : Region.wanted o (yielded ops a.tmps) = true := by simp [Region.wanted, hgd]
  rw [if_pos hw]
  have hrun := run_copy_row (P := P) W dT sT o.type elem g off dLen dCap ad sLen sCap cur.toArray t cs hu hsz (H.get k hk) hn hsrc (by simpa using hfit) h1
  unfold Oper.wp
  simp [execOp, ho, resolve, invoke, builtin, hd, hs, hrun, Result.andThen]
  exact h _ (H.row k hk _)
theorem hold_result {fn : Func} {p : Tmp} {ty : TypeId} (h : fn.results = #[.cell p ty]) (tmps : Array Value) {B : Nat} {w0 W : World} {L : List Blk} (H : Holds B w0 W L) (k : Nat) (g : Nat) (cs : Array Value) (hk : L[k]? = some (g, cs, ty))
    (hp : tmps.getD p undef = .pointer (some ⟨g, 0, none⟩)) {P : Program} {m : Nat} {el : TypeId} (hu : P.underlying ty = some (.array m el)) (n : Nat) (hn : Arr n cs) (hi : (P.info? ty).map (·.size) = some n) :
    (results fn tmps).run P W = .ok (.agg cs) W := results_cell_row h tmps W g ty cs (0, 0) _ hp (H.get k hk) hu rfl (by rw [hn.1]; exact hi)
end Go.Proofs.Ytocphkfkdadhaaa.H

