import Derived.Test.YtocphkfkdadhaaaYPk9
import Derived.Test.YtocphkfkdadhaaaYPk8
import Derived.Test.YtocphkfkdadhaaaYPk3
import Derived.Test.YtocphkfkdadhaaaYPk5
import Derived.Test.YtocphkfkdadhaaaYPk6
import Derived.Test.YtocphkfkdadhaaaYPk1
set_option maxHeartbeats 16000000
set_option linter.unusedVariables false
set_option linter.unusedSimpArgs false
set_option maxRecDepth 100000
namespace Go.Proofs.Ytocphkfkdadhaaa.H
theorem strP_le (l : List Int) : l.length ≤ (K.strP l).length := by
 unfold K.strP
 split
 ·exact Nat.le_refl _
 ·rw [List.length_append]; omega
theorem batchP_short (b : List Int) (hb : K.Byt b) : ∀ m ∈ (batchP b).1.ms, m.length ≤ 65536 := by
 unfold batchP
 cases hd : K.decodeP b with
 | error e => intro m hm; cases hm
 | ok x =>
  obtain ⟨h1, h2⟩ := K.decode_form b x hb hd
  unfold K.vP at h2
  rw [Bool.and_eq_true, decide_eq_true_eq] at h2
  obtain ⟨f0, f1, f2⟩ := x
  dsimp only
  unfold shapeB
  split
  ·rename_i y0 y1 y2
   unfold itemsB
   split
   ·rename_i h
    intro m hm
    obtain ⟨y, hy, rfl⟩ := List.mem_map.1 hm
    have h3 := K.forms_mem_le [y0, y1, y2] y2 (by simp)
    have h4 := K.forms_mem_le y2.f2 y hy
    have hl := h2.2
    rw [K.formP_list _ rfl, List.length_append] at hl
    rw [K.formP_list y2 h.2.2.1, List.length_append] at h3
    have hy0 : y.f0 = false := by have := List.all_eq_true.1 h.2.2.2.2 y hy; simpa using this
    rw [K.formP_str y hy0] at h4
    have h5 := strP_le y.f1
    dsimp only at hl
    omega
   ·intro m hm; cases hm
  ·intro m hm; cases hm
theorem mayI_iff {q : List SQ} {tk : Int} {l : List (List Int)} : mayI q tk l = true ↔ q.length ≤ 4096 ∧ l.length ≤ 4096 ∧ 0 ≤ tk ∧ tk ≤ q.length ∧ riseP 0 q = true ∧ ∀ m ∈ l, m.length ≤ 65536 := by
 unfold mayI longP
 simp only [Bool.and_eq_true, decide_eq_true_eq, Bool.not_eq_true', List.any_eq_false]
 constructor
 ·rintro ⟨⟨⟨⟨⟨h1, h2⟩, h3⟩, h4⟩, h5⟩, h6⟩
  exact ⟨h1, h2, h3, h4, h5, fun m hm => by simpa using h6 m hm⟩
 ·rintro ⟨h1, h2, h3, h4, h5, h6⟩
  exact ⟨⟨⟨⟨⟨h1, h2⟩, h3⟩, h4⟩, h5⟩, fun m hm => by simpa using h6 m hm⟩
theorem takenL_mem (q : List SQ) : ∀ (n tk i : Nat) (h : i < q.length), tk ≤ i → i < tk + n → q[i].f1 ∈ takenL q tk n := fun n tk i h h1 h2 => by
 unfold takenL
 refine List.mem_map.2 ⟨q[i], ?_, rfl⟩
 refine List.mem_iff_getElem.2 ⟨i - tk, ?_, ?_⟩
 ·rw [List.length_take, List.length_drop]; omega
 ·rw [List.getElem_take, List.getElem_drop]
  congr 1
  omega
theorem takenL_short {q : List SQ} {tk n : Nat} (h : ∀ d ∈ q, d.f1.length ≤ 65536) : ∀ m ∈ takenL q tk n, m.length ≤ 65536 := fun m hm => by
 unfold takenL at hm
 obtain ⟨d, hd, rfl⟩ := List.mem_map.1 hm
 exact h d (List.mem_of_mem_drop (List.mem_of_mem_take hd))
structure OpenI (x : Box) (block : Int) (m : List Int) (y : Box) : Prop where
 q : y.q = x.q ++ [⟨block, m⟩]
 may : mayI y.q y.tk y.l = true
 pre : ∃ more, y.l = x.l ++ more
 has : (x.q.length : Int) < y.tk → m ∈ y.l
 qb : ∀ d ∈ y.q, K.Byt d.f1
 lb : ∀ z ∈ y.l, K.Byt z
theorem takenL_byt {q : List SQ} {tk n : Nat} (h : ∀ d ∈ q, K.Byt d.f1) : ∀ m ∈ takenL q tk n, K.Byt m := fun m hm => by
 unfold takenL at hm
 obtain ⟨d, hd, rfl⟩ := List.mem_map.1 hm
 exact h d (List.mem_of_mem_drop (List.mem_of_mem_take hd))
theorem OpenI.post {x : Box} {block : Int} {m : List Int} {y : Box} (h : OpenI x block m y) (b : List Int) (hb : K.Byt b) (h0 : (postI y b).2 = 0) : OpenI x block m (postI y b).1 := by
 obtain ⟨q, tk, l, nx⟩ := y
 obtain ⟨h1, h2, ⟨more, h3⟩, h4, h5, h6⟩ := h
 dsimp only at h1 h2 h3 h4 h5 h6
 have hok := batchP_ok b hb
 have hsh := batchP_short b hb
 unfold postI at h0 ⊢
 dsimp only at h0 ⊢
 rw [if_pos h2] at h0 ⊢
 generalize batchP b = bt at *
 obtain ⟨⟨n, t, ms⟩, e⟩ := bt
 dsimp only at h0 hok hsh ⊢
 by_cases he : e = 0
 case neg => rw [if_neg he] at h0; exact absurd h0 he
 rw [if_pos he] at h0 ⊢
 by_cases hn : n = nx ∧ t ≤ (q.length : Int) - tk
 case neg => rw [if_neg hn] at h0; cases h0
 rw [if_pos hn] at h0 ⊢
 by_cases hl : (l ++ takenL q tk.toNat t.toNat ++ ms.filter fun m => !depB m).length ≤ 4096
 case neg => rw [if_neg hl] at h0; cases h0
 rw [if_pos hl]
 obtain ⟨m1, m2, m3, m4, m5, m6⟩ := mayI_iff.1 h2
 refine ⟨h1, mayI_iff.2 ⟨m1, hl, by show 0 ≤ tk + t; omega, by show tk + t ≤ (q.length : Int); omega, m5, fun z hz => ?_⟩, ⟨more ++ takenL q tk.toNat t.toNat ++ ms.filter fun m => !depB m, by rw [h3]; simp⟩, fun hlt => ?_, h5, fun z hz => ?_⟩
 ·rcases List.mem_append.1 hz with hz | hz
  ·rcases List.mem_append.1 hz with hz | hz
   ·exact m6 z hz
   ·exact takenL_short (fun d hd => (riseP_all q 0 m5 d hd).2) z hz
  ·exact hsh z (List.mem_filter.1 hz).1
 ·dsimp only at hlt ⊢
  by_cases hlt2 : (x.q.length : Int) < tk
  ·exact List.mem_append_left _ (List.mem_append_left _ (h4 hlt2))
  ·have hi : x.q.length < q.length := by rw [h1]; simp
   have hm : q[x.q.length].f1 = m := by subst h1; simp
   have := takenL_mem q t.toNat tk.toNat x.q.length hi (by omega) (by omega)
   rw [hm] at this
   exact List.mem_append_left _ (List.mem_append_right _ this)
 ·rcases List.mem_append.1 hz with hz | hz
  ·rcases List.mem_append.1 hz with hz | hz
   ·exact h6 z hz
   ·exact takenL_byt h5 z hz
  ·exact hok.2.1 z (List.mem_filter.1 hz).1
def depN (l : List (List Int)) : Nat := (l.filter fun m => depB m).length
theorem depN_append (a b : List (List Int)) : depN (a ++ b) = depN a + depN b := by unfold depN; rw [List.filter_append, List.length_append]
def waitN (q : List SQ) (tk : Nat) : Nat := depN ((q.drop tk).map fun d => d.f1)
def totN (x : Box) : Nat := depN x.l + waitN x.q x.tk.toNat
theorem wait_split (q : List SQ) (tk n : Nat) : waitN q tk = depN (takenL q tk n) + waitN q (tk + n) := by
 unfold waitN takenL
 rw [← depN_append, ← List.map_append, ← List.drop_drop, List.take_append_drop]
theorem depN_kept (ms : List (List Int)) : depN (ms.filter fun m => !depB m) = 0 := by
 unfold depN
 rw [List.length_eq_zero_iff, List.filter_eq_nil_iff]
 intro m hm
 have := (List.mem_filter.1 hm).2
 simpa using this
theorem post_tot (y : Box) (b : List Int) (hb : K.Byt b) (h0 : (postI y b).2 = 0) : totN (postI y b).1 = totN y ∧ mayI y.q y.tk y.l = true := by
 obtain ⟨q, tk, l, nx⟩ := y
 have hok := batchP_ok b hb
 unfold postI at h0 ⊢
 dsimp only at h0 ⊢
 by_cases hm : mayI q tk l = true
 case neg => rw [if_neg hm] at h0; cases h0
 rw [if_pos hm] at h0 ⊢
 generalize batchP b = bt at *
 obtain ⟨⟨n, t, ms⟩, e⟩ := bt
 dsimp only at h0 hok ⊢
 by_cases he : e = 0
 case neg => rw [if_neg he] at h0; exact absurd h0 he
 rw [if_pos he] at h0 ⊢
 by_cases hn : n = nx ∧ t ≤ (q.length : Int) - tk
 case neg => rw [if_neg hn] at h0; cases h0
 rw [if_pos hn] at h0 ⊢
 by_cases hl : (l ++ takenL q tk.toNat t.toNat ++ ms.filter fun m => !depB m).length ≤ 4096
 case neg => rw [if_neg hl] at h0; cases h0
 rw [if_pos hl]
 obtain ⟨m1, m2, m3, m4, m5, m6⟩ := mayI_iff.1 hm
 refine ⟨?_, hm⟩
 unfold totN
 dsimp only
 rw [depN_append, depN_append, depN_kept, wait_split q tk.toNat t.toNat, show (tk + t).toNat = tk.toNat + t.toNat by omega]
 omega
def DepI (x y : Box) : Prop := y = x ∨ (mayI x.q x.tk x.l = true ∧ totN y = totN x)
structure GoodB (x : Box) : Prop where
 qb : ∀ d ∈ x.q, K.Byt d.f1
 lb : ∀ z ∈ x.l, K.Byt z
 q64 : ∀ d ∈ x.q, d.f0 ≤ 9223372036854775807
theorem post_good (y : Box) (b : List Int) (hy : GoodB y) (hb : K.Byt b) (h0 : (postI y b).2 = 0) : GoodB (postI y b).1 := by
 obtain ⟨q, tk, l, nx⟩ := y
 have hok := batchP_ok b hb
 unfold postI at h0 ⊢
 dsimp only at h0 ⊢
 by_cases hm : mayI q tk l = true
 case neg => rw [if_neg hm] at h0; cases h0
 rw [if_pos hm] at h0 ⊢
 generalize batchP b = bt at *
 obtain ⟨⟨n, t, ms⟩, e⟩ := bt
 dsimp only at h0 hok ⊢
 by_cases he : e = 0
 case neg => rw [if_neg he] at h0; exact absurd h0 he
 rw [if_pos he] at h0 ⊢
 by_cases hn : n = nx ∧ t ≤ (q.length : Int) - tk
 case neg => rw [if_neg hn] at h0; cases h0
 rw [if_pos hn] at h0 ⊢
 by_cases hl : (l ++ takenL q tk.toNat t.toNat ++ ms.filter fun m => !depB m).length ≤ 4096
 case neg => rw [if_neg hl] at h0; cases h0
 rw [if_pos hl]
 refine ⟨hy.qb, fun z hz => ?_, hy.q64⟩
 rcases List.mem_append.1 hz with hz | hz
 ·rcases List.mem_append.1 hz with hz | hz
  ·exact hy.lb z hz
  ·exact takenL_byt hy.qb z hz
 ·exact hok.2.1 z (List.mem_filter.1 hz).1
theorem tickG_byt (q : List SQ) (B : Int) (hq : ∀ d ∈ q, K.Byt d.f1) : ∀ (f tk : Nat) (l : List (List Int)), (∀ z ∈ l, K.Byt z) → ∀ z ∈ (tickG q B f tk l).2, K.Byt z
 | 0, tk, l, hl => hl
 | f + 1, tk, l, hl => by
  by_cases hlt : tk < q.length
  ·by_cases hc : l.length < 4096 ∧ q[tk].f0 + 8 ≤ B
   ·rw [tickG_go hlt hc.1 hc.2]
    refine tickG_byt q B hq f (tk + 1) _ fun z hz => ?_
    rcases List.mem_append.1 hz with hz | hz
    ·exact hl z hz
    ·rw [List.mem_singleton.1 hz]; exact hq _ (List.getElem_mem hlt)
   ·rw [tickG_stop hlt hc]; exact hl
  ·rw [tickG, dif_neg hlt]; exact hl
structure RunI (x y : Box) : Prop where
 dep : DepI x y
 good : GoodB y
theorem RunI.post {x y : Box} (h : RunI x y) (b : List Int) (hb : K.Byt b) (h0 : (postI y b).2 = 0) : RunI x (postI y b).1 :=
 ⟨h.dep.step (post_tot y b hb h0), post_good y b h.good hb h0⟩
structure NiceB (r : Box) : Prop where
 b : BytB r
 q : r.q.length ≤ 4611686018427387904
 l : r.l.length ≤ 4611686018427387904
theorem nice_zero : NiceB zeroB := ⟨⟨fun _ h => (by cases h), fun _ h => (by cases h)⟩, by decide, by decide⟩
theorem GoodB.byt {x : Box} (h : GoodB x) : BytB x := ⟨h.qb, h.lb⟩
theorem tickG_len (q : List SQ) (B : Int) : ∀ (f tk : Nat) (l : List (List Int)), l.length ≤ 4096 → (tickG q B f tk l).2.length ≤ 4096
 | 0, tk, l, hl => hl
 | f + 1, tk, l, hl => by
  by_cases hlt : tk < q.length
  ·by_cases hc : l.length < 4096 ∧ q[tk].f0 + 8 ≤ B
   ·rw [tickG_go hlt hc.1 hc.2]
    exact tickG_len q B f (tk + 1) _ (by rw [List.length_append]; simp; omega)
   ·rw [tickG_stop hlt hc]; exact hl
  ·rw [tickG, dif_neg hlt]; exact hl
theorem tick_nice (y : Box) (B : Int) (hy : BytB y) : NiceB (tickI y B).1 := by
 unfold tickI
 split
 ·rename_i h
  rw [Bool.and_eq_true] at h
  obtain ⟨h1, h2, _⟩ := mayI_len h.1
  exact ⟨⟨hy.1, tickG_byt _ _ hy.1 _ _ _ hy.2⟩, by show y.q.length ≤ _; omega, Nat.le_trans (tickG_len _ _ _ _ _ h2) (by decide)⟩
 ·exact nice_zero
end Go.Proofs.Ytocphkfkdadhaaa.H
namespace Go.Proofs.Ytocphkfkdadhaaa.H
open Go.RowKit Go.Proofs.YtocphkfkdadhaaaW.PrintWords Go.Proofs.YtocphkfkdadhaaaW.PrintLast Go.Proofs.YtocphkfkdadhaaaW.PrintMore
structure ShortB (r : Box) : Prop where
 q : ∀ d ∈ r.q, d.f1.length ≤ 65536
 l : ∀ z ∈ r.l, z.length ≤ 65536
theorem short_zero : ShortB zeroB := ⟨fun _ h => (by cases h), fun _ h => (by cases h)⟩
theorem mayI_short {q : List SQ} {tk : Int} {l : List (List Int)} (h : mayI q tk l = true) : (∀ d ∈ q, d.f1.length ≤ 65536) ∧ ∀ z ∈ l, z.length ≤ 65536 := ⟨fun d hd => ((mayI_all h).1 d hd).2, (mayI_all h).2⟩
theorem enq_short (x : Box) (blk : Int) (m : List Int) : ShortB (enqI x blk m).1 := by
 unfold enqI
 split
 ·rename_i h
  rw [Bool.and_eq_true, Bool.and_eq_true, decide_eq_true_eq] at h
  obtain ⟨h1, h2⟩ := mayI_short (sinceI_may h.1.1).1
  unfold queueI
  split
  ·refine ⟨fun d hd => ?_, h2⟩
   rcases List.mem_append.1 hd with hd | hd
   ·exact h1 d hd
   ·rw [List.mem_singleton.1 hd]; exact h.1.2
  ·exact short_zero
 ·exact short_zero
theorem post_short (y : Box) (b : List Int) (hb : K.Byt b) : ShortB (postI y b).1 := by
 obtain ⟨q, tk, l, nx⟩ := y
 have hsh := batchP_short b hb
 unfold postI
 dsimp only
 generalize batchP b = bt at *
 obtain ⟨⟨n, t, ms⟩, e⟩ := bt
 dsimp only at hsh ⊢
 split
 ·rename_i hm
  obtain ⟨h1, h2⟩ := mayI_short hm
  split
  ·split
   ·split
    ·refine ⟨h1, fun z hz => ?_⟩
     rcases List.mem_append.1 hz with hz | hz
     ·rcases List.mem_append.1 hz with hz | hz
      ·exact h2 z hz
      ·exact takenL_short h1 z hz
     ·exact hsh z (List.mem_filter.1 hz).1
    ·exact short_zero
   ·exact short_zero
  ·exact short_zero
 ·exact short_zero
theorem tickG_short (q : List SQ) (B : Int) (hq : ∀ d ∈ q, d.f1.length ≤ 65536) : ∀ (f tk : Nat) (l : List (List Int)), (∀ z ∈ l, z.length ≤ 65536) → ∀ z ∈ (tickG q B f tk l).2, z.length ≤ 65536
 | 0, tk, l, hl => hl
 | f + 1, tk, l, hl => by
  by_cases hlt : tk < q.length
  ·by_cases hc : l.length < 4096 ∧ q[tk].f0 + 8 ≤ B
   ·rw [tickG_go hlt hc.1 hc.2]
    refine tickG_short q B hq f (tk + 1) _ fun z hz => ?_
    rcases List.mem_append.1 hz with hz | hz
    ·exact hl z hz
    ·rw [List.mem_singleton.1 hz]; exact hq _ (List.getElem_mem hlt)
   ·rw [tickG_stop hlt hc]; exact hl
  ·rw [tickG, dif_neg hlt]; exact hl
theorem tick_short (y : Box) (B : Int) : ShortB (tickI y B).1 := by
 unfold tickI
 split
 ·rename_i h
  rw [Bool.and_eq_true] at h
  obtain ⟨h1, h2⟩ := mayI_short h.1
  exact ⟨h1, tickG_short _ _ h1 _ _ _ h2⟩
 ·exact short_zero
theorem Own.softQ {B : Nat} {w0 W : World} {L : List Item} (h : Own B w0 W L) (k : Nat) {e : Nat} {v : Value} {xs : List SQ} (hk : L[k]? = some (.row kQ e v xs)) (hl : ∀ d ∈ xs, d.f1.length ≤ 1000000) : Own B w0 W (L.set k (.soft e 2 1 v xs.length)) :=
 h.turn k hk fun S hs => R_soft (d := kQ) hs 1 (by decide) fun x ok cs hx hM => by
  obtain ⟨v1, rfl, hr⟩ := PRF.k78_openM hM
  exact ⟨v1, rfl, BB_R (e := 0) hr (hl x hx)⟩
end Go.Proofs.Ytocphkfkdadhaaa.H
namespace Go.Proofs.Ytocphkfkdadhaaa.H
open Go.RowKit Go.Proofs.YtocphkfkdadhaaaW.PrintWords Go.Proofs.YtocphkfkdadhaaaW.PrintLast Go.Proofs.YtocphkfkdadhaaaW.PrintMore
open Go.ChangeShapes Go.WideShapes Go.ChangeAt
def Lt (ns : List Nat) : Prop := ∀ n ∈ ns, n ≤ 140737488351232
def OpensZ {α : Type} (T : TypeId) (d : Kd α) (ok : α → Prop) : Prop :=
 ∀ {H : Type} {enc : TypeId × Value → H} {W : World} {fuel : Nat} {cs : List Value} {x : DataW H × List MemPlace}, DataW.trod enc Try.prog W 0 (fun _ => true) true fuel T cs = some x → Lt (x.1.weights Try.prog T) → ∃ y, d.K W y cs ∧ ok y
theorem OpensZ.of {α : Type} {T : TypeId} {d : Kd α} {ok : α → Prop} (h : Opens T d ok) : OpensZ T d ok := fun hx _ => h hx
theorem weights_mem_all {H : Type} {P : Program} {e : TypeId} : ∀ {es : List (DataW H)} {i : Nat} {d : DataW H}, es[i]? = some d → ∀ n ∈ d.weights P e, n ∈ DataW.weightsAll P e es
 | [], i, d, h, _, _ => by simp at h
 | x :: es, 0, d, h, n, hn => by
  simp only [List.getElem?_cons_zero, Option.some.injEq] at h
  subst h
  simp only [DataW.weightsAll, List.mem_append]
  exact Or.inl hn
 | x :: es, i + 1, d, h, n, hn => by
  simp only [List.getElem?_cons_succ] at h
  simp only [DataW.weightsAll, List.mem_append]
  exact Or.inr (weights_mem_all h n hn)
theorem opensZ_slice {α : Type} {T e : TypeId} {d : Kd α} {ok : α → Prop} (hT : Try.prog.underlying T = some (.slice e)) (hs : Try.prog.cellsOf e = d.sz) (he : OpensZ e d ok) :
 OpensZ T (Kd.slice e d) (fun l => (∀ y ∈ l, ok y) ∧ l.length * Try.prog.bytesOf e ≤ 140737488351232) := by
 intro H enc W fuel cs x h hw
 rcases DataW.trod_slice hT h with ⟨hc2, hx⟩ | ⟨a, len, cap, elems, rest, m, hm, hc2, hx, _, hlc, hcm, hle, hel, _, _⟩
 ·exact ⟨[], ⟨none, 0, hc2, Nat.le_refl _, Kd.C_nil _ _⟩, by simp, by simp⟩
 ·rw [hs] at hel
  have hwx : x.1.weights Try.prog T = (((elems.map (·.1)).length + (rest.map (·.1)).length) * Try.prog.bytesOf e) :: (DataW.weightsAll Try.prog e (elems.map (·.1)) ++ DataW.weightsAll Try.prog e (rest.map (·.1))) := by
   rw [hx]
   simp only [DataW.weights, hT]
  rw [hwx] at hw
  have each : ∀ i, i < len → ∃ y : α, (∃ c, c.length = d.sz ∧ d.K W y c ∧ ∀ j u, c[j]? = some u → W.cell? (a.add (i * d.sz + j)) = some u) ∧ ok y := by
   intro i hi
   have h3 := hel i hi
   rw [List.getElem?_eq_getElem (by omega), Option.bind_eq_some_iff] at h3
   obtain ⟨c, hc, ht⟩ := h3
   obtain ⟨y, hK, hBy⟩ := he ht (fun n hn => hw n (List.mem_cons_of_mem _ (List.mem_append_left _ (weights_mem_all (i := i) (by rw [List.getElem?_map, List.getElem?_eq_getElem (by omega)]; rfl) n hn))))
   obtain ⟨_, hcl, hcc⟩ := World.cells?_some hc
   refine ⟨y, ⟨c, hcl, hK, fun j u hj => ?_⟩, hBy⟩
   have hj3 : j < d.sz := by have := (List.getElem?_eq_some_iff.1 hj).1; omega
   rw [← hj, ← hcc j hj3, Addr.add_add]
  obtain ⟨ys, hyl, hys⟩ := choose_list _ len each
  subst hyl
  refine ⟨ys, ⟨some a, cap, hc2, hlc, rfl, ?_, fun _ => ⟨a, rfl, fun j p hj => (hys j p hj).1⟩⟩, ?_, ?_⟩
  ·have : maxLen ≤ 9223372036854775807 := by decide
   show ys.length ≤ 9223372036854775807
   omega
  ·intro y hy
   obtain ⟨i, hi⟩ := List.getElem?_of_mem hy
   exact (hys i y hi).2
  ·have h1 := hw _ (List.mem_cons_self)
   rw [List.length_map, hle] at h1
   exact Nat.le_trans (Nat.mul_le_mul_right _ (Nat.le_add_right _ _)) h1
def ManyZ {α : Type} (ts : List TypeId) (d : Kd α) (ok : α → Prop) : Prop :=
 ∀ {H : Type} {enc : TypeId × Value → H} {W : World} {n : Nat} {cs : List Value}, cs.length = d.sz → (∀ i t, ts[i]? = some t → ∃ x : DataW H × List MemPlace, DataW.trod enc Try.prog W 0 (fun _ => true) true n t ((cs.drop (offs ts i)).take (Try.prog.cellsOf t)) = some x ∧ Lt (x.1.weights Try.prog t)) → ∃ y, d.K W y cs ∧ ok y
theorem manyZ_one {α : Type} {T : TypeId} {d : Kd α} {ok : α → Prop} (h : OpensZ T d ok) (hs : Try.prog.cellsOf T = d.sz) : ManyZ [T] d ok := by
 intro H enc W n cs hl hf
 obtain ⟨x, hx, hw⟩ := hf 0 T rfl
 rw [show offs [T] 0 = 0 from rfl, List.drop_zero, List.take_of_length_le (by omega)] at hx
 exact h hx hw
theorem manyZ_cons {α β : Type} {T : TypeId} {ts : List TypeId} {a : Kd α} {b : Kd β} {ok1 : α → Prop} {ok2 : β → Prop} (h : OpensZ T a ok1) (hs : Try.prog.cellsOf T = a.sz) (hm : ManyZ ts b ok2) : ManyZ (T :: ts) (Kd.pair a b) (fun y => ok1 y.1 ∧ ok2 y.2) := by
 intro H enc W n cs hl hf
 have hl' : cs.length = a.sz + b.sz := hl
 obtain ⟨x, hx, hw⟩ := hf 0 T rfl
 rw [show offs (T :: ts) 0 = 0 from rfl, List.drop_zero, hs] at hx
 obtain ⟨y1, hK1, ho1⟩ := h hx hw
 obtain ⟨y2, hK2, ho2⟩ := hm (cs := cs.drop a.sz) (by rw [List.length_drop]; omega) (fun i t ht => by
  obtain ⟨x, hx, hw⟩ := hf (i + 1) t (by simpa using ht)
  refine ⟨x, ?_, hw⟩
  rw [show offs (T :: ts) (i + 1) = Try.prog.cellsOf T + offs ts i from rfl, hs, ← List.drop_drop] at hx
  exact hx)
 exact ⟨(y1, y2), ⟨cs.take a.sz, cs.drop a.sz, (List.take_append_drop _ _).symm, hK1, hK2⟩, ho1, ho2⟩
theorem opensZ_struct {α : Type} {T : TypeId} {fs : Array Field} {ts : List TypeId} {d : Kd α} {ok : α → Prop} (hT : Try.prog.underlying T = some (.struct fs)) (hm : ManyZ ts d ok) (hsz : Try.prog.cellsOf T = d.sz)
 (hts : (List.range ts.length).map (fun i => (fs[i]?).map fun f => (f.type, f.offset)) = (List.range ts.length).map (fun i => (ts[i]?).map fun t => (t, offs ts i))) : OpensZ T d ok := by
 intro H enc W fuel cs x h hw
 obtain ⟨xs, n, hfu, hx, hl, hlen, hf⟩ := DataW.trod_struct hT h
 have hwx : x.1.weights Try.prog T = DataW.weightsEach Try.prog (fs.toList.map (·.type)) (xs.map (·.1)) := by
  rw [hx]
  simp only [DataW.weights, hT]
 rw [hwx] at hw
 refine hm (H := H) (enc := enc) (W := W) (n := n) (by rw [hl, hsz]) (fun i t ht => ?_)
 have hi := (List.getElem?_eq_some_iff.1 ht).1
 have h1 := congrArg (fun l => l[i]?) hts
 simp only [List.getElem?_map, List.getElem?_range hi, Option.map_some, ht] at h1
 have h2 := Option.some.inj h1
 obtain ⟨f, hfe, hfo⟩ := Option.map_eq_some_iff.1 h2
 simp only [Prod.mk.injEq] at hfo
 have h3 := hf i f hfe
 have hfi : i < fs.size := (Array.getElem?_eq_some_iff.1 hfe).1
 rw [List.getElem?_eq_getElem (by omega)] at h3
 rw [hfo.1, hfo.2] at h3
 refine ⟨_, h3, fun m hm' => hw m (DataW.weights_mem_each (j := i) (t := t) (d := (xs[i]'(by omega)).1) ?_ ?_ m hm')⟩
 ·rw [List.getElem?_map, Array.getElem?_toList, hfe, Option.map_some, hfo.1]
 ·rw [List.getElem?_map, List.getElem?_eq_getElem (by omega)]; rfl
theorem open_aggZ {α : Type} {T : TypeId} {fs : Array Field} {d : Kd α} {ok : α → Prop} (hT : Try.prog.underlying T = some (.struct fs)) (ho : OpensZ T d ok) {H : Type} {enc : TypeId × Value → H} {W : World} {r : Reach} {b0 : Nat} {v : Value} {x : DataW H} {p : List MemPlace}
 (hv : Value.okWide Try.prog W r b0 T v) (h : DataW.Trod enc Try.prog W 0 (fun _ => true) true T v x p) {ts : List TypeId} {ds : List (DataW H)} {j : Nat} (hsz : (DataW.weightsEach Try.prog ts ds).all (· ≤ reachBytes) = true) (ht : ts[j]? = some T) (hd : ds[j]? = some x) :
 ∃ (cs : Array Value) (y : α), v = .agg cs ∧ d.K W y cs.toList ∧ ok y := by
 obtain ⟨cs, rfl, hsz2⟩ := okWide_struct hT hv
 obtain ⟨fuel, hf⟩ := h
 obtain ⟨y, hK, hB⟩ := ho hf (fun n hn => by
  have := List.all_eq_true.1 hsz n (DataW.weights_mem_each ht hd n hn)
  have h6 : reachBytes = 140737488351232 := rfl
  rw [h6] at this
  simpa using this)
 exact ⟨cs, y, rfl, hK, hB⟩
end Go.Proofs.Ytocphkfkdadhaaa.H
namespace Go.Proofs.Ytocphkfkdadhaaa.H
open Go.RowKit Go.Proofs.YtocphkfkdadhaaaW.PrintWords Go.Proofs.YtocphkfkdadhaaaW.PrintLast Go.Proofs.YtocphkfkdadhaaaW.PrintMore
theorem C_map {α β : Type} {d : Kd α} {d' : Kd β} {f : α → β} {w : World} {A : Option Addr} {n : Nat} {xs : List α} (hs : d.sz = d'.sz) (hK : ∀ x cs, d.K w x cs → d'.K w (f x) cs) (h : Kd.C d w A n xs) : Kd.C d' w A n (xs.map f) := by
 obtain ⟨h1, h2, h3⟩ := h
 refine ⟨by rw [List.length_map]; exact h1, h2, fun hp => ?_⟩
 obtain ⟨ad, e, hc⟩ := h3 hp
 refine ⟨ad, e, fun j p hj => ?_⟩
 rw [List.getElem?_map] at hj
 obtain ⟨x, hx, rfl⟩ := Option.map_eq_some_iff.1 hj
 obtain ⟨c, k1, k2, k3⟩ := hc j x hx
 exact ⟨c, by rw [← hs]; exact k1, hK _ _ k2, by rw [← hs]; exact k3⟩
theorem oz_u8 : OpensZ 5 kB (fun n => (Lit.int .u8 n).wf = true) := OpensZ.of (opens_int Try.underlying5)
theorem oz_u64 : OpensZ 23 (Kd.int .u64) (fun n => (Lit.int .u64 n).wf = true) := OpensZ.of (opens_int Try.underlying23)
theorem oz_int : OpensZ 3 (Kd.int .i64) (fun n => (Lit.int .i64 n).wf = true) := OpensZ.of (opens_int Try.underlying3)
def OkM (m : List Int) : Prop := (∀ y ∈ m, (Lit.int .u8 y).wf = true) ∧ m.length * 1 ≤ 140737488351232
theorem oz_bytes : OpensZ 74 (Kd.slice 5 kB) OkM := by
 intro H enc W fuel cs x hx hw
 obtain ⟨y, hK, h1, h2⟩ := opensZ_slice (T := 74) Try.underlying74 (by kernel_rfl) oz_u8 hx hw
 rw [show Try.prog.bytesOf _ = 1 from by kernel_rfl] at h2
 exact ⟨y, hK, h1, h2⟩
def OkL (l : List (List Int)) : Prop := (∀ m ∈ l, OkM m) ∧ l.length * 24 ≤ 140737488351232
theorem oz_list : OpensZ 71 (Kd.slice 74 (Kd.slice 5 kB)) OkL := by
 intro H enc W fuel cs x hx hw
 obtain ⟨y, hK, h1, h2⟩ := opensZ_slice (T := 71) Try.underlying71 (by kernel_rfl) oz_bytes hx hw
 rw [show Try.prog.bytesOf _ = 24 from by kernel_rfl] at h2
 exact ⟨y, hK, h1, h2⟩
abbrev kDl : Kd (Int × List Int) := Kd.pair (Kd.int .i64) (Kd.slice 5 kB)
theorem oz_delayed : OpensZ 78 kDl (fun y => (Lit.int .i64 y.1).wf = true ∧ OkM y.2) :=
 @fun H enc W fuel cs x hx hw => opensZ_struct Try.underlying78 (manyZ_cons oz_int (by kernel_rfl) (manyZ_one oz_bytes (by kernel_rfl))) (by kernel_rfl) (by kernel_rfl) hx hw
def OkQ (l : List (Int × List Int)) : Prop := (∀ y ∈ l, (Lit.int .i64 y.1).wf = true ∧ OkM y.2) ∧ l.length * 32 ≤ 140737488351232
theorem oz_queue : OpensZ 70 (Kd.slice 78 kDl) OkQ := by
 intro H enc W fuel cs x hx hw
 obtain ⟨y, hK, h1, h2⟩ := opensZ_slice (T := 70) Try.underlying70 (by kernel_rfl) oz_delayed hx hw
 rw [show Try.prog.bytesOf _ = 32 from by kernel_rfl] at h2
 exact ⟨y, hK, h1, h2⟩
abbrev kInb : Kd (List (Int × List Int) × Int × List (List Int) × Int) := Kd.pair (Kd.slice 78 kDl) (Kd.pair (Kd.int .i64) (Kd.pair (Kd.slice 74 (Kd.slice 5 kB)) (Kd.int .u64)))
def OkInb (y : List (Int × List Int) × Int × List (List Int) × Int) : Prop := OkQ y.1 ∧ (Lit.int .i64 y.2.1).wf = true ∧ OkL y.2.2.1 ∧ (Lit.int .u64 y.2.2.2).wf = true
theorem oz_inbox : OpensZ 73 kInb OkInb :=
 @fun H enc W fuel cs x hx hw => opensZ_struct Try.underlying73 (manyZ_cons oz_queue (by kernel_rfl) (manyZ_cons oz_int (by kernel_rfl) (manyZ_cons oz_list (by kernel_rfl) (manyZ_one oz_u64 (by kernel_rfl))))) (by kernel_rfl) (by kernel_rfl) hx hw
theorem OkM.byt {m : List Int} (h : OkM m) : ∀ z ∈ m, 0 ≤ z ∧ z ≤ 255 := fun z hz => by
 have := h.1 z hz
 simp [Lit.wf, IntKind.min, IntKind.max, IntKind.signed, IntKind.bits] at this
 omega
def boxOf (y : List (Int × List Int) × Int × List (List Int) × Int) : Box := ⟨y.1.map fun p => ⟨p.1, p.2⟩, y.2.1, y.2.2.1, y.2.2.2⟩
theorem kInb_open {w : World} {cs : Array Value} {y : List (Int × List Int) × Int × List (List Int) × Int} (h : kInb.K w y cs.toList) :
 ∃ A1 c1 A2 c2, cs = #[.slice A1 (boxOf y).q.length c1, .int .i64 (boxOf y).tk, .slice A2 (boxOf y).l.length c2, .int .u64 (boxOf y).nx] ∧ (boxOf y).q.length ≤ c1 ∧ (boxOf y).l.length ≤ c2 ∧ Kd.C kQ w A1 (boxOf y).q.length (boxOf y).q ∧ Kd.C kL w A2 (boxOf y).l.length (boxOf y).l := by
 obtain ⟨a1, r1, e1, ⟨A1, c1, rfl, g1, k1⟩, a2, r2, rfl, h2, a3, a4, rfl, ⟨A2, c2, rfl, g2, k2⟩, h4⟩ := h
 have h2 : a2 = [.int .i64 y.2.1] := h2
 have h4 : a4 = [.int .u64 y.2.2.2] := h4
 subst h2 h4
 refine ⟨A1, c1, A2, c2, ?_, by simpa [boxOf] using g1, g2, ?_, k2⟩
 ·apply Array.toList_inj.1
  rw [e1]
  simp [boxOf]
 ·have hm := C_map (d := kDl) (d' := kQ) (f := fun p : Int × List Int => (⟨p.1, p.2⟩ : SQ)) rfl (fun x cs hx => by
   obtain ⟨u1, u2, rfl, hu1, A, c, rfl, hc, hC⟩ := hx
   have hu1 : u1 = [.int .i64 x.1] := hu1
   subst hu1
   exact PRF.k78_mk w ⟨x.1, x.2⟩ hc hC) k1
  rw [show (boxOf y).q.length = y.1.length by simp [boxOf]]
  exact hm
theorem OkInb.byt {y : List (Int × List Int) × Int × List (List Int) × Int} (h : OkInb y) : BytB (boxOf y) := by
 refine ⟨fun d hd => ?_, fun m hm => (h.2.2.1.1 m hm).byt⟩
 obtain ⟨p, hp, rfl⟩ := List.mem_map.1 hd
 exact (h.1.1 p hp).2.byt
theorem same_self (r : Box) (h : NiceB r) (W : World) (A1 A2 A3 A4 : Option Addr) (c1 c2 c3 c4 : Nat) (h1 : Kd.C kQ W A1 r.q.length r.q ∧ Kd.C kL W A2 r.l.length r.l) (h2 : Kd.C kQ W A3 r.q.length r.q ∧ Kd.C kL W A4 r.l.length r.l) (k1 : r.q.length ≤ c1) (k2 : r.l.length ≤ c2) (k3 : r.q.length ≤ c3) (k4 : r.l.length ≤ c4) :
 Calls Try.prog 46 #[.agg #[.slice A1 r.q.length c1, .int .i64 r.tk, .slice A2 r.l.length c2, .int .u64 r.nx], .agg #[.slice A3 r.q.length c3, .int .i64 r.tk, .slice A4 r.l.length c4, .int .u64 r.nx]] W fun e w' => e = .returned (.bool true) ∧ Below W.heap.size W w' := by
 have hh := rsame_any r r A1 A2 A3 A4 c1 c2 c3 c4 W h1.1 h1.2 h2.1 h2.2 k1 k2 k3 k4 h.b h.b h.q h.l
 rw [sameI_refl] at hh
 exact hh
theorem ifresh_law (x : Box) (ab dto dam : Int) (m : List Int) (A1 A2 Am : Option Addr) (c1 c2 cm : Nat) (w : World)
 (hC1 : Kd.C kQ w A1 x.q.length x.q) (hc1 : x.q.length ≤ c1) (hC2 : Kd.C kL w A2 x.l.length x.l) (hc2 : x.l.length ≤ c2) (hCm : Kd.C kB w Am m.length m) (hcm : m.length ≤ cm)
 (hx : GoodB x) (hm : ∀ z ∈ m, 0 ≤ z ∧ z ≤ 255) (hml : m.length ≤ 140737488351232) (hab : ab ≤ 9223372036854775807)
 (hql : x.q.length ≤ 4398046511100) (hll : x.l.length ≤ 5864062014800) (hqm : ∀ d ∈ x.q, d.f1.length ≤ 140737488351232) (hlm : ∀ m ∈ x.l, m.length ≤ 140737488351232) :
 Calls Try.prog 11 #[.agg #[.slice A1 x.q.length c1, .int .i64 x.tk, .slice A2 x.l.length c2, .int .u64 x.nx], .agg #[.int .i64 ab, .slice Am m.length cm, .int .u64 dto, .int .u64 dam]] w fun e w' => e = .returned (.bool true) ∧ Below w.heap.size w w' := by
 have H0 := Aside0.mk (Own.start w)
 have HAN := Aside0.mk anchored20_any
 have HCP := Aside0.mk (fun W (h : Below w.heap.size w W) => rcopy_any x.q x.tk x.l x.nx A1 A2 c1 c2 W (Kd.C_below hC1 h) hc1 (Kd.C_below hC2 h) hc2 hql hll hqm hlm)
 have HCM := Aside0.mk (fun W (h : Below w.heap.size w W) => rcopyB_any m Am cm W (Kd.C_below hCm h) hcm hml)
 have HEQ := Aside0.mk (fun A3 A4 A5 c3 c4 c5 W h1 h2 h3 h4 h5 h6 => enqueue_any x ab m A3 A4 A5 c3 c4 c5 W h1 h2 h3 h4 h5 h6 hm)
 have HPO := Aside0.mk (fun A3 A4 A5 c3 c4 c5 W h1 h2 h3 h4 h5 h6 => post_any x m A3 A4 A5 c3 c4 c5 W h1 h2 h3 h4 h5 h6 hm)
 have HTK := Aside0.mk (fun A3 A4 c3 c4 W h1 h2 h3 h4 => tick_any x ab A3 A4 c3 c4 W h1 h2 h3 h4 hab hx.q64)
 have HRT := Aside0.mk (fun W (h : Below w.heap.size w W) => rtick_any x ab A1 A2 c1 c2 W (Kd.C_below hC1 h) hc1 (Kd.C_below hC2 h) hc2 hab hx.q64)
 have HSX : Aside0 (∀ W A3 A4 c3 c4 (h : Below w.heap.size w W), Kd.C kQ W A3 x.q.length x.q ∧ Kd.C kL W A4 x.l.length x.l → x.q.length ≤ c3 → x.l.length ≤ c4 → Calls Try.prog 46 #[.agg #[.slice A1 x.q.length c1, .int .i64 x.tk, .slice A2 x.l.length c2, .int .u64 x.nx], .agg #[.slice A3 x.q.length c3, .int .i64 x.tk, .slice A4 x.l.length c4, .int .u64 x.nx]] W fun e w' => e = .returned (.bool true) ∧ Below W.heap.size W w') := ⟨fun W A3 A4 c3 c4 h h3 k3 k4 => same_self x ⟨hx.byt, by omega, by omega⟩ W A1 A2 A3 A4 c1 c2 c3 c4 ⟨Kd.C_below hC1 h, Kd.C_below hC2 h⟩ h3 hc1 hc2 k3 k4⟩
 have HSM : Aside0 (∀ W A3 c3 (h : Below w.heap.size w W), Kd.C kB W A3 m.length m → m.length ≤ c3 → Calls Try.prog 47 #[.slice A3 m.length c3, .slice Am m.length cm] W fun e w' => e = .returned (.bool true) ∧ Below W.heap.size W w') := ⟨fun W A3 c3 h h1 h2 => by
  have hh := same01_any m m hm hm A3 Am c3 cm W h1 h2 (Kd.C_below hCm h) hcm
  rw [decide_eq_true rfl] at hh
  exact hh⟩
 have HST := Aside0.mk (same_self _ (tick_nice x ab hx.byt))
 have HS1 := Aside0.mk (enq_short x ab m)
 have HS2 := Aside0.mk (post_short x m hm)
 have HS3 := Aside0.mk (tick_short x ab)
 generalize enqI x ab m = r1 at *
 generalize postI x m = r2 at *
 generalize tickI x ab = r3 at *
 obtain ⟨⟨eq, etk, el, enx⟩, ee⟩ := r1
 obtain ⟨⟨pq, ptk, pl, pnx⟩, pe⟩ := r2
 obtain ⟨⟨tq, ttk, tl, tnx⟩, te⟩ := r3
 clear hC1 hC2 hCm hx hm hc1 hc2 hcm hab hql hll hqm hlm hml
 obtain ⟨q, tk, l, nx⟩ := x
 dsimp only at *
 generalize q.length = nq at *
 generalize l.length = nl at *
 generalize m.length = nm at *
 have HZ : Aside0 (Arr 4 #[.slice none 0 0, .int .i64 0, .slice none 0 0, .int .u64 0]) := ⟨rfl, by simp [Value.oneCell']⟩
 have hte : (te == te) = true := by simp
 go_enter Try.func11, Try.ntmps11
 go_upto_region 1 with (first
  | fail
  | ((with_reducible refine Gd 2 ?_); refine OB H0 73 #[.slice A1 nq c1, .int .i64 tk, .slice A2 nl c2, .int .u64 nx] ?_; intro g2 w1 H1 B1)
  | ((with_reducible refine Gd 3 ?_); refine OB H1 76 #[.int .i64 ab, .slice Am nm cm, .int .u64 dto, .int .u64 dam] ?_; intro g3 w2 H2 B2)
  )
 go_cut [5, 6] (fun v5 v6 wc => ∃ (g5 : Nat) (A3 : Option Addr) (c3 : Nat) (A4 : Option Addr) (c4 : Nat) (A5 : Option Addr) (c5 : Nat), v5 = .pointer (some ⟨g5, 0, none⟩) ∧ v6 = .slice A5 nm c5 ∧ nq ≤ c3 ∧ nl ≤ c4 ∧ nm ≤ c5 ∧ Aside0 (Own w.heap.size w wc [.row kQ 78 (.slice A3 nq c3) q, .row kL 74 (.slice A4 nl c4) l, .row kB 5 (.slice A5 nm c5) m, .blk g5 #[.slice A3 nq c3, .int .i64 tk, .slice A4 nl c4, .int .u64 nx] 73, .blk g3 #[.int .i64 ab, .slice Am nm cm, .int .u64 dto, .int .u64 dam] 76, .blk g2 #[.slice A1 nq c1, .int .i64 tk, .slice A2 nl c2, .int .u64 nx] 73]))
 case first =>
  have HD := Aside0.mk H2.out.drew
  refine St (fun W => W.heap[g2]? = some (.cells #[.slice A1 nq c1, .int .i64 tk, .slice A2 nl c2, .int .u64 nx] 73 (0, 0)) ∧ W.cell? ⟨g3, 1, none⟩ = some (.slice Am nm cm)) (fun hHeld => ?_) (by exact ⟨HD.out.get 1 rfl, HD.out.cell 0 rfl 1 rfl⟩)
  generalize w2.drew = wd at *
  refine Ty 0 (.agg #[.slice A1 nq c1, .int .i64 tk, .slice A2 nl c2, .int .u64 nx]) ?_ ?_
  ·exact yif_loadV (by rfl) 73 (.tmp 2) rfl g2 _ rfl (fun W h => h.1) _ Try.underlying73 rfl (by kernel_rfl)
  refine Tk 2 ?_
  refine Tk 3 ?_
  refine Rd2 1 5 (fun K hK => ?_) fun K hK => ?_
  ·
   go_simp
   refine (HCP.out _ HD.out.below).mono ?_
   rintro e w21 ⟨A3, c3, A4, c4, rfl, hc3, hc4, hO⟩
   have H21 := Aside0.mk (HD.out.call hO)
   have HYA : Aside0 (Arr 4 #[.slice A3 nq c3, .int .i64 tk, .slice A4 nl c4, .int .u64 nx]) := ⟨rfl, by simp [Value.oneCell']⟩
   clear hO
   go_wp2_with fail
   refine Ag hK (fun hHeld => ?_) (by exact ⟨H21.out.get 3 rfl, H21.out.cell 2 rfl 1 rfl⟩)
   clear hK K
   refine Rd2 4 5 (fun K hK => ?_) fun K hK => ?_
   ·
    go_simp
    refine (HCM.out _ H21.out.below).mono ?_
    rintro e w22 ⟨A5, c5, rfl, hc5, hO⟩
    have H22 := Aside0.mk (H21.out.call hO)
    clear hO
    go_wp2_with fail
    refine Ag hK (fun hHeld => ?_) (by exact ⟨H22.out.get 4 rfl, H22.out.cell 3 rfl 1 rfl⟩)
    clear hK K
    refine Rd 5 fun K hK => ?_
    refine own_alloc_step H22.out (by rfl) (N := 5) rfl (t := 73) rfl #[.slice none 0 0, .int .i64 0, .slice none 0 0, .int .u64 0] 4 (by kernel_rfl) ?_; intro g5 w23 H23; replace H23 := Aside0.mk H23
    refine Ag hK (fun hHeld => ?_) (by exact ⟨H23.out.get 5 rfl, H23.out.cell 4 rfl 1 rfl⟩)
    clear hK K
    refine Rd 6 fun K hK => ?_
    refine SA 5 22 H23 0 g5 #[.slice A3 nq c3, .int .i64 tk, .slice A4 nl c4, .int .u64 nx] HZ HYA ?_
    intro w24 H24
    refine Ag hK (fun hHeld => ?_) (by exact ⟨H24.out.get 5 rfl, H24.out.cell 4 rfl 1 rfl⟩)
    clear hK K
    refine Tk 7 ?_
    refine Dn ?_
    go_wp2_with fail
    go_meet
    exact ⟨g5, A3, c3, A4, c4, A5, c5, rfl, rfl, hc3, hc4, hc5, ⟨((((((H24.out.bring 5 rfl).bring 5 rfl).bring 2 rfl).bring 3 rfl).bring 5 rfl).bring 5 rfl)⟩⟩
   ·
    refine own_alloc_step H21.out (by rfl) (N := 5) rfl (t := 73) rfl #[.slice none 0 0, .int .i64 0, .slice none 0 0, .int .u64 0] 4 (by kernel_rfl) ?_; intro g5 w22 H22; replace H22 := Aside0.mk H22
    refine Ag hK (fun hHeld => ?_) (by exact ⟨H22.out.get 4 rfl, H22.out.cell 3 rfl 1 rfl⟩)
    clear hK K
    refine Rd 4 fun K hK => ?_
    go_simp
    refine (HCM.out _ H22.out.below).mono ?_
    rintro e w23 ⟨A5, c5, rfl, hc5, hO⟩
    have H23 := Aside0.mk (H22.out.call hO)
    clear hO
    go_wp2_with fail
    refine Ag hK (fun hHeld => ?_) (by exact ⟨H23.out.get 5 rfl, H23.out.cell 4 rfl 1 rfl⟩)
    clear hK K
    refine Rd 6 fun K hK => ?_
    refine SA 5 22 H23 1 g5 #[.slice A3 nq c3, .int .i64 tk, .slice A4 nl c4, .int .u64 nx] HZ HYA ?_
    intro w24 H24
    refine Ag hK (fun hHeld => ?_) (by exact ⟨H24.out.get 5 rfl, H24.out.cell 4 rfl 1 rfl⟩)
    clear hK K
    refine Tk 7 ?_
    refine Dn ?_
    go_wp2_with fail
    go_meet
    exact ⟨g5, A3, c3, A4, c4, A5, c5, rfl, rfl, hc3, hc4, hc5, ⟨((((((H24.out.bring 5 rfl).bring 5 rfl).bring 3 rfl).bring 3 rfl).bring 5 rfl).bring 5 rfl)⟩⟩
  ·
   refine own_alloc_step HD.out (by rfl) (N := 5) rfl (t := 73) rfl #[.slice none 0 0, .int .i64 0, .slice none 0 0, .int .u64 0] 4 (by kernel_rfl) ?_; intro g5 w21 H21; replace H21 := Aside0.mk H21
   refine Ag hK (fun hHeld => ?_) (by exact ⟨H21.out.get 2 rfl, H21.out.cell 1 rfl 1 rfl⟩)
   clear hK K
   refine Rd 1 fun K hK => ?_
   go_simp
   refine (HCP.out _ H21.out.below).mono ?_
   rintro e w22 ⟨A3, c3, A4, c4, rfl, hc3, hc4, hO⟩
   have H22 := Aside0.mk (H21.out.call hO)
   have HYA : Aside0 (Arr 4 #[.slice A3 nq c3, .int .i64 tk, .slice A4 nl c4, .int .u64 nx]) := ⟨rfl, by simp [Value.oneCell']⟩
   clear hO
   go_wp2_with fail
   refine Ag hK (fun hHeld => ?_) (by exact ⟨H22.out.get 4 rfl, H22.out.cell 3 rfl 1 rfl⟩)
   clear hK K
   refine Rd 4 fun K hK => ?_
   go_simp
   refine (HCM.out _ H22.out.below).mono ?_
   rintro e w23 ⟨A5, c5, rfl, hc5, hO⟩
   have H23 := Aside0.mk (H22.out.call hO)
   clear hO
   go_wp2_with fail
   refine Ag hK (fun hHeld => ?_) (by exact ⟨H23.out.get 5 rfl, H23.out.cell 4 rfl 1 rfl⟩)
   clear hK K
   refine Rd 6 fun K hK => ?_
   refine SA 5 22 H23 3 g5 #[.slice A3 nq c3, .int .i64 tk, .slice A4 nl c4, .int .u64 nx] HZ HYA ?_
   intro w24 H24
   refine Ag hK (fun hHeld => ?_) (by exact ⟨H24.out.get 5 rfl, H24.out.cell 4 rfl 1 rfl⟩)
   clear hK K
   refine Tk 7 ?_
   refine Dn ?_
   go_wp2_with fail
   go_meet
   exact ⟨g5, A3, c3, A4, c4, A5, c5, rfl, rfl, hc3, hc4, hc5, ⟨((((((H24.out.bring 5 rfl).bring 5 rfl).bring 5 rfl).bring 3 rfl).bring 5 rfl).bring 5 rfl)⟩⟩
 case rest =>
 obtain ⟨g5, A3, c3, A4, c4, A5, c5, rfl, rfl, hc3, hc4, hc5, H5⟩ := hcut
 have hL1 := HS1.out
 have hL2 := HS2.out
 have hL3 := HS3.out
 clear HS1 HS2 HS3
 go_upto_region 5 with (first
  | fail
  | ((with_reducible refine Gd 27 ?_); refine OV 5 H5 3 g5 73 rfl Try.underlying73 (by kernel_rfl) ?_)
  | ((with_reducible refine Gd 29 ?_); refine OD 28 3 H5 4 g3 0 (.int .i64 ab) Try.underlying3 ?_)
  | (go_at_call 34; refine (HEQ.out A3 A4 A5 c3 c4 c5 _ (H5.out.C_of 0 rfl) hc3 (H5.out.C_of 1 rfl) hc4 (H5.out.C_of 2 rfl) hc5).mono ?_; rintro e w6 ⟨v1, v2, rfl, hO⟩; obtain ⟨P1, p1, rfl, _, _⟩ := hO.reads 0 rfl; obtain ⟨Q1, q1, rfl, _, _⟩ := hO.reads 1 rfl; have H6 := Aside0.mk (H5.out.call hO); have HX1 : Aside0 (Arr 4 #[.slice P1 eq.length p1, .int .i64 etk, .slice Q1 el.length q1, .int .u64 enx]) := ⟨rfl, by simp [Value.oneCell']⟩; clear hO)
  | ((with_reducible refine Gd 7 ?_); refine OA H6 73 #[.slice none 0 0, .int .i64 0, .slice none 0 0, .int .u64 0] 4 ?_; intro g7 w7 H7 B7)
  | ((with_reducible refine Gs 73 7 ?_); refine OS 7 32 H7 0 g7 73 #[.slice P1 eq.length p1, .int .i64 etk, .slice Q1 el.length q1, .int .u64 enx] 4 HZ HX1 ?_; intro w8 H8)
  | ((with_reducible refine Gd 35 ?_); refine OV 5 H8 6 g5 73 rfl Try.underlying73 (by kernel_rfl) ?_)
  | (go_at_call 37; refine (HPO.out A3 A4 A5 c3 c4 c5 _ (H8.out.C_of 3 rfl) hc3 (H8.out.C_of 4 rfl) hc4 (H8.out.C_of 5 rfl) hc5).mono ?_; rintro e w9 ⟨v1, v2, rfl, hO⟩; obtain ⟨P2, p2, rfl, _, _⟩ := hO.reads 0 rfl; obtain ⟨Q2, q2, rfl, _, _⟩ := hO.reads 1 rfl; have H9 := Aside0.mk (H8.out.call hO); have HX2 : Aside0 (Arr 4 #[.slice P2 pq.length p2, .int .i64 ptk, .slice Q2 pl.length q2, .int .u64 pnx]) := ⟨rfl, by simp [Value.oneCell']⟩; clear hO)
  | ((with_reducible refine Gd 9 ?_); refine OA H9 73 #[.slice none 0 0, .int .i64 0, .slice none 0 0, .int .u64 0] 4 ?_; intro g9 w10 H10 B10)
  | ((with_reducible refine Gs 73 9 ?_); refine OS 9 38 H10 0 g9 73 #[.slice P2 pq.length p2, .int .i64 ptk, .slice Q2 pl.length q2, .int .u64 pnx] 4 HZ HX2 ?_; intro w11 H11)
  | ((with_reducible refine Gd 41 ?_); refine OV 5 H11 9 g5 73 rfl Try.underlying73 (by kernel_rfl) ?_)
  | ((with_reducible refine Gd 43 ?_); refine OD 42 3 H11 10 g3 0 (.int .i64 ab) Try.underlying3 ?_)
  | (go_at_call 38; refine (HTK.out A3 A4 c3 c4 _ (H11.out.C_of 6 rfl) hc3 (H11.out.C_of 7 rfl) hc4).mono ?_; rintro e w12 ⟨v1, v2, rfl, hO⟩; obtain ⟨P3, p3, rfl, _, _⟩ := hO.reads 0 rfl; obtain ⟨Q3, q3, rfl, _, _⟩ := hO.reads 1 rfl; have H12 := Aside0.mk (H11.out.call hO); have HX3 : Aside0 (Arr 4 #[.slice P3 tq.length p3, .int .i64 ttk, .slice Q3 tl.length q3, .int .u64 tnx]) := ⟨rfl, by simp [Value.oneCell']⟩; clear hO)
  | ((with_reducible refine Gd 11 ?_); refine OA H12 73 #[.slice none 0 0, .int .i64 0, .slice none 0 0, .int .u64 0] 4 ?_; intro g11 w13 H13 B13)
  | ((with_reducible refine Gs 73 11 ?_); refine OS 11 45 H13 0 g11 73 #[.slice P3 tq.length p3, .int .i64 ttk, .slice Q3 tl.length q3, .int .u64 tnx] 4 HZ HX3 ?_; intro w14 H14)
  )
 clear HEQ HPO HX1 HX2 HX3 B7 B10 B13 H0 H1 H2 H5 H6 H7 H8 H9 H10 H11 H12 H13 B1 B2 HCP HCM
 have k7 : w14.cell? ⟨g7, 2, none⟩ = some (.slice Q1 el.length q1) ∧ w14.cell? ⟨g9, 2, none⟩ = some (.slice Q2 pl.length q2) ∧ w14.cell? ⟨g11, 2, none⟩ = some (.slice Q3 tl.length q3) := ⟨H14.out.cell 6 rfl 2 rfl, H14.out.cell 3 rfl 2 rfl, H14.out.cell 0 rfl 2 rfl⟩
 go_upto_region 6 with fail
 have hm1 := Kd.C_max (H14.out.C_of 7 rfl)
 have hn1 := Kd.C_max (H14.out.C_of 8 rfl)
 have hn2 := Kd.C_max (H14.out.C_of 5 rfl)
 have hn3 := Kd.C_max (H14.out.C_of 2 rfl)
 have HX := Aside0.mk ((((H14.out.new #[.slice Q1 el.length q1, .slice Q2 pl.length q2, .slice Q3 tl.length q3] 71).softL 3 rfl (fun z hz => by have := hL3.l z hz; omega)).softL 6 rfl (fun z hz => by have := hL2.l z hz; omega)).softL 9 rfl (fun z hz => by have := hL1.l z hz; omega))
 have HX2 := Aside0.mk (HX.out.softQ 8 rfl (fun d hd => by have := hL1.q d hd; omega))
 clear HX H14 k7 hL1 hL2 hL3
 generalize w14.alloc (.cells #[.slice Q1 el.length q1, .slice Q2 pl.length q2, .slice Q3 tl.length q3] 71) = wx at *
 generalize w14.heap.size = gl at *
 generalize hn1e : el.length = n1 at HX2 hn1
 clear hn1e
 generalize hn2e : pl.length = n2 at HX2 hn2
 clear hn2e
 generalize hn3e : tl.length = n3 at HX2 hn3
 clear hn3e
 generalize hm1e : eq.length = m1 at HX2 hm1
 clear hm1e
 have H15 : Aside0 (Own w.heap.size w wx [.blk gl #[.slice Q1 n1 q1, .slice Q2 n2 q2, .slice Q3 n3 q3] 71, .blk g11 #[.slice P3 tq.length p3, .int .i64 ttk, .slice Q3 n3 q3, .int .u64 tnx] 73, .row kQ 78 (.slice P3 tq.length p3) tq, .soft 74 1 0 (.slice Q3 n3 q3) n3, .blk g9 #[.slice P2 pq.length p2, .int .i64 ptk, .slice Q2 n2 q2, .int .u64 pnx] 73, .row kQ 78 (.slice P2 pq.length p2) pq, .soft 74 1 0 (.slice Q2 n2 q2) n2, .blk g7 #[.slice P1 m1 p1, .int .i64 etk, .slice Q1 n1 q1, .int .u64 enx] 73, .soft 78 2 1 (.slice P1 m1 p1) m1, .soft 74 1 0 (.slice Q1 n1 q1) n1, .row kQ 78 (.slice A3 nq c3) q, .row kL 74 (.slice A4 nl c4) l, .row kB 5 (.slice A5 nm c5) m, .blk g5 #[.slice A3 nq c3, .int .i64 tk, .slice A4 nl c4, .int .u64 nx] 73, .blk g3 #[.int .i64 ab, .slice Am nm cm, .int .u64 dto, .int .u64 dam] 76, .blk g2 #[.slice A1 nq c1, .int .i64 tk, .slice A2 nl c2, .int .u64 nx] 73]) := ⟨HX2.out⟩
 clear HX2
 go_wp2_with fail
 go_loopw [14] (fun vi wr => ∃ i : Nat, i ≤ 3 ∧ vi = .int .i64 (i : Int) ∧ Aside0 (Own w.heap.size w wr [.blk gl #[.slice Q1 n1 q1, .slice Q2 n2 q2, .slice Q3 n3 q3] 71, .blk g11 #[.slice P3 tq.length p3, .int .i64 ttk, .slice Q3 n3 q3, .int .u64 tnx] 73, .row kQ 78 (.slice P3 tq.length p3) tq, .soft 74 1 0 (.slice Q3 n3 q3) n3, .blk g9 #[.slice P2 pq.length p2, .int .i64 ptk, .slice Q2 n2 q2, .int .u64 pnx] 73, .row kQ 78 (.slice P2 pq.length p2) pq, .soft 74 1 0 (.slice Q2 n2 q2) n2, .blk g7 #[.slice P1 m1 p1, .int .i64 etk, .slice Q1 n1 q1, .int .u64 enx] 73, .soft 78 2 1 (.slice P1 m1 p1) m1, .soft 74 1 0 (.slice Q1 n1 q1) n1, .row kQ 78 (.slice A3 nq c3) q, .row kL 74 (.slice A4 nl c4) l, .row kB 5 (.slice A5 nm c5) m, .blk g5 #[.slice A3 nq c3, .int .i64 tk, .slice A4 nl c4, .int .u64 nx] 73, .blk g3 #[.int .i64 ab, .slice Am nm cm, .int .u64 dto, .int .u64 dam] 76, .blk g2 #[.slice A1 nq c1, .int .i64 tk, .slice A2 nl c2, .int .u64 nx] 73])) (fun vi _ => 3 - (intOf vi).toNat)
 case atStart => exact ⟨0, by decide, rfl, H15⟩
 case round =>
  clear H15
  obtain ⟨i, hi, rfl, HI⟩ := hrel
  have hcase : i = 0 ∨ i = 1 ∨ i = 2 ∨ i = 3 := by omega
  rcases hcase with rfl | rfl | rfl | rfl
  ·
   go_wp2_with fail
   go_loopw [15] (fun vk wr => ∃ k : Nat, k ≤ n1 ∧ vk = .int .i64 (k : Int) ∧ Aside0 (Own w.heap.size w wr [.blk gl #[.slice Q1 n1 q1, .slice Q2 n2 q2, .slice Q3 n3 q3] 71, .blk g11 #[.slice P3 tq.length p3, .int .i64 ttk, .slice Q3 n3 q3, .int .u64 tnx] 73, .row kQ 78 (.slice P3 tq.length p3) tq, .soft 74 1 0 (.slice Q3 n3 q3) n3, .blk g9 #[.slice P2 pq.length p2, .int .i64 ptk, .slice Q2 n2 q2, .int .u64 pnx] 73, .row kQ 78 (.slice P2 pq.length p2) pq, .soft 74 1 0 (.slice Q2 n2 q2) n2, .blk g7 #[.slice P1 m1 p1, .int .i64 etk, .slice Q1 n1 q1, .int .u64 enx] 73, .soft 78 2 1 (.slice P1 m1 p1) m1, .soft 74 1 0 (.slice Q1 n1 q1) n1, .row kQ 78 (.slice A3 nq c3) q, .row kL 74 (.slice A4 nl c4) l, .row kB 5 (.slice A5 nm c5) m, .blk g5 #[.slice A3 nq c3, .int .i64 tk, .slice A4 nl c4, .int .u64 nx] 73, .blk g3 #[.int .i64 ab, .slice Am nm cm, .int .u64 dto, .int .u64 dam] 76, .blk g2 #[.slice A1 nq c1, .int .i64 tk, .slice A2 nl c2, .int .u64 nx] 73])) (fun vk _ => n1 - (intOf vk).toNat)
   case atStart => exact ⟨0, Nat.zero_le _, rfl, HI⟩
   case round =>
    clear HI
    obtain ⟨k, hk, rfl, HI⟩ := hrel
    have kx : wr.cell? ⟨gl, 0, none⟩ = some (.slice Q1 n1 q1) := HI.out.cell 0 rfl 0 rfl
    by_cases hlt : k < n1
    ·have hdl : decide (k < n1) = true := decide_eq_true hlt
     have hdl2 : decide ((k : Int) < (n1 : Int)) = true := decide_eq_true (by omega)
     have hib : (0 : Int) ≤ (k : Int) ∧ (k : Int) < (n1 : Int) := by omega
     have hwi : IntKind.i64.wrap ((k : Int) + 1) = ((k + 1 : Nat) : Int) := by rw [IntWalk.i64_in _ (by omega)]; omega
     obtain ⟨gs, cs, u, hv, hcell, hfz⟩ := HI.out.soft_cell 9 rfl k hlt
     injection hv with hv1 hv2 hv3
     subst hv1 hv3
     clear hv2
     rw [Nat.mul_one, Nat.add_zero] at hcell
     clear hfz
     have HSP := Aside0.mk (HI.out.spoil 9 rfl k hlt 5 (by rw [Nat.mul_one, Nat.add_zero]; exact hcell))
     go_upto_region 13 with (go_at_call 44; refine HSP.out.mono ?_; rintro e w5 ⟨rfl, hO⟩; have H5 := Aside0.mk hO; clear hO)
     obtain ⟨gs2, cs2, u2, hv, hcell2, hfz2⟩ := H5.out.soft_cell 9 rfl k hlt
     injection hv with hv1 hv2 hv3
     injection hv1 with hv1
     injection hv1 with hv1
     subst hv1
     rw [Nat.mul_one, Nat.add_zero] at hcell2 hfz2
     have kx2 : w5.cell? ⟨gl, 0, none⟩ = some (.slice (some ⟨gs, 0, none⟩) n1 q1) := H5.out.cell 0 rfl 0 rfl
     have HN := H5.out.softnil 9 rfl k hlt
     rw [Nat.mul_one, Nat.add_zero] at HN
     replace HN := Aside0.mk HN
     clear hv2 hv3 kx hcell HSP
     go_wp2_with fail
     go_roundw
     case rel => first | exact ⟨k + 1, hlt, rfl, HN⟩ | exact ⟨k + 1, hlt, rfl⟩
     case measure => simp [intOf]; omega
    ·have hdl : decide (k < n1) = false := decide_eq_false hlt
     have hdl2 : decide ((k : Int) < (n1 : Int)) = false := decide_eq_false (by omega)
     go_wp2_with fail
     go_roundw
     case rel => exact ⟨0 + 1, by decide, rfl, HI⟩
     case measure => simp [intOf]
  ·
   go_wp2_with fail
   go_loopw [15] (fun vk wr => ∃ k : Nat, k ≤ n2 ∧ vk = .int .i64 (k : Int) ∧ Aside0 (Own w.heap.size w wr [.blk gl #[.slice Q1 n1 q1, .slice Q2 n2 q2, .slice Q3 n3 q3] 71, .blk g11 #[.slice P3 tq.length p3, .int .i64 ttk, .slice Q3 n3 q3, .int .u64 tnx] 73, .row kQ 78 (.slice P3 tq.length p3) tq, .soft 74 1 0 (.slice Q3 n3 q3) n3, .blk g9 #[.slice P2 pq.length p2, .int .i64 ptk, .slice Q2 n2 q2, .int .u64 pnx] 73, .row kQ 78 (.slice P2 pq.length p2) pq, .soft 74 1 0 (.slice Q2 n2 q2) n2, .blk g7 #[.slice P1 m1 p1, .int .i64 etk, .slice Q1 n1 q1, .int .u64 enx] 73, .soft 78 2 1 (.slice P1 m1 p1) m1, .soft 74 1 0 (.slice Q1 n1 q1) n1, .row kQ 78 (.slice A3 nq c3) q, .row kL 74 (.slice A4 nl c4) l, .row kB 5 (.slice A5 nm c5) m, .blk g5 #[.slice A3 nq c3, .int .i64 tk, .slice A4 nl c4, .int .u64 nx] 73, .blk g3 #[.int .i64 ab, .slice Am nm cm, .int .u64 dto, .int .u64 dam] 76, .blk g2 #[.slice A1 nq c1, .int .i64 tk, .slice A2 nl c2, .int .u64 nx] 73])) (fun vk _ => n2 - (intOf vk).toNat)
   case atStart => exact ⟨0, Nat.zero_le _, rfl, HI⟩
   case round =>
    clear HI
    obtain ⟨k, hk, rfl, HI⟩ := hrel
    have kx : wr.cell? ⟨gl, 1, none⟩ = some (.slice Q2 n2 q2) := HI.out.cell 0 rfl 1 rfl
    by_cases hlt : k < n2
    ·have hdl : decide (k < n2) = true := decide_eq_true hlt
     have hdl2 : decide ((k : Int) < (n2 : Int)) = true := decide_eq_true (by omega)
     have hib : (0 : Int) ≤ (k : Int) ∧ (k : Int) < (n2 : Int) := by omega
     have hwi : IntKind.i64.wrap ((k : Int) + 1) = ((k + 1 : Nat) : Int) := by rw [IntWalk.i64_in _ (by omega)]; omega
     obtain ⟨gs, cs, u, hv, hcell, hfz⟩ := HI.out.soft_cell 6 rfl k hlt
     injection hv with hv1 hv2 hv3
     subst hv1 hv3
     clear hv2
     rw [Nat.mul_one, Nat.add_zero] at hcell
     clear hfz
     have HSP := Aside0.mk (HI.out.spoil 6 rfl k hlt 5 (by rw [Nat.mul_one, Nat.add_zero]; exact hcell))
     go_upto_region 13 with (go_at_call 44; refine HSP.out.mono ?_; rintro e w5 ⟨rfl, hO⟩; have H5 := Aside0.mk hO; clear hO)
     obtain ⟨gs2, cs2, u2, hv, hcell2, hfz2⟩ := H5.out.soft_cell 6 rfl k hlt
     injection hv with hv1 hv2 hv3
     injection hv1 with hv1
     injection hv1 with hv1
     subst hv1
     rw [Nat.mul_one, Nat.add_zero] at hcell2 hfz2
     have kx2 : w5.cell? ⟨gl, 1, none⟩ = some (.slice (some ⟨gs, 0, none⟩) n2 q2) := H5.out.cell 0 rfl 1 rfl
     have HN := H5.out.softnil 6 rfl k hlt
     rw [Nat.mul_one, Nat.add_zero] at HN
     replace HN := Aside0.mk HN
     clear hv2 hv3 kx hcell HSP
     go_wp2_with fail
     go_roundw
     case rel => first | exact ⟨k + 1, hlt, rfl, HN⟩ | exact ⟨k + 1, hlt, rfl⟩
     case measure => simp [intOf]; omega
    ·have hdl : decide (k < n2) = false := decide_eq_false hlt
     have hdl2 : decide ((k : Int) < (n2 : Int)) = false := decide_eq_false (by omega)
     go_wp2_with fail
     go_roundw
     case rel => exact ⟨1 + 1, by decide, rfl, HI⟩
     case measure => simp [intOf]
  ·
   go_wp2_with fail
   go_loopw [15] (fun vk wr => ∃ k : Nat, k ≤ n3 ∧ vk = .int .i64 (k : Int) ∧ Aside0 (Own w.heap.size w wr [.blk gl #[.slice Q1 n1 q1, .slice Q2 n2 q2, .slice Q3 n3 q3] 71, .blk g11 #[.slice P3 tq.length p3, .int .i64 ttk, .slice Q3 n3 q3, .int .u64 tnx] 73, .row kQ 78 (.slice P3 tq.length p3) tq, .soft 74 1 0 (.slice Q3 n3 q3) n3, .blk g9 #[.slice P2 pq.length p2, .int .i64 ptk, .slice Q2 n2 q2, .int .u64 pnx] 73, .row kQ 78 (.slice P2 pq.length p2) pq, .soft 74 1 0 (.slice Q2 n2 q2) n2, .blk g7 #[.slice P1 m1 p1, .int .i64 etk, .slice Q1 n1 q1, .int .u64 enx] 73, .soft 78 2 1 (.slice P1 m1 p1) m1, .soft 74 1 0 (.slice Q1 n1 q1) n1, .row kQ 78 (.slice A3 nq c3) q, .row kL 74 (.slice A4 nl c4) l, .row kB 5 (.slice A5 nm c5) m, .blk g5 #[.slice A3 nq c3, .int .i64 tk, .slice A4 nl c4, .int .u64 nx] 73, .blk g3 #[.int .i64 ab, .slice Am nm cm, .int .u64 dto, .int .u64 dam] 76, .blk g2 #[.slice A1 nq c1, .int .i64 tk, .slice A2 nl c2, .int .u64 nx] 73])) (fun vk _ => n3 - (intOf vk).toNat)
   case atStart => exact ⟨0, Nat.zero_le _, rfl, HI⟩
   case round =>
    clear HI
    obtain ⟨k, hk, rfl, HI⟩ := hrel
    have kx : wr.cell? ⟨gl, 2, none⟩ = some (.slice Q3 n3 q3) := HI.out.cell 0 rfl 2 rfl
    by_cases hlt : k < n3
    ·have hdl : decide (k < n3) = true := decide_eq_true hlt
     have hdl2 : decide ((k : Int) < (n3 : Int)) = true := decide_eq_true (by omega)
     have hib : (0 : Int) ≤ (k : Int) ∧ (k : Int) < (n3 : Int) := by omega
     have hwi : IntKind.i64.wrap ((k : Int) + 1) = ((k + 1 : Nat) : Int) := by rw [IntWalk.i64_in _ (by omega)]; omega
     obtain ⟨gs, cs, u, hv, hcell, hfz⟩ := HI.out.soft_cell 3 rfl k hlt
     injection hv with hv1 hv2 hv3
     subst hv1 hv3
     clear hv2
     rw [Nat.mul_one, Nat.add_zero] at hcell
     clear hfz
     have HSP := Aside0.mk (HI.out.spoil 3 rfl k hlt 5 (by rw [Nat.mul_one, Nat.add_zero]; exact hcell))
     go_upto_region 13 with (go_at_call 44; refine HSP.out.mono ?_; rintro e w5 ⟨rfl, hO⟩; have H5 := Aside0.mk hO; clear hO)
     obtain ⟨gs2, cs2, u2, hv, hcell2, hfz2⟩ := H5.out.soft_cell 3 rfl k hlt
     injection hv with hv1 hv2 hv3
     injection hv1 with hv1
     injection hv1 with hv1
     subst hv1
     rw [Nat.mul_one, Nat.add_zero] at hcell2 hfz2
     have kx2 : w5.cell? ⟨gl, 2, none⟩ = some (.slice (some ⟨gs, 0, none⟩) n3 q3) := H5.out.cell 0 rfl 2 rfl
     have HN := H5.out.softnil 3 rfl k hlt
     rw [Nat.mul_one, Nat.add_zero] at HN
     replace HN := Aside0.mk HN
     clear hv2 hv3 kx hcell HSP
     go_wp2_with fail
     go_roundw
     case rel => first | exact ⟨k + 1, hlt, rfl, HN⟩ | exact ⟨k + 1, hlt, rfl⟩
     case measure => simp [intOf]; omega
    ·have hdl : decide (k < n3) = false := decide_eq_false hlt
     have hdl2 : decide ((k : Int) < (n3 : Int)) = false := decide_eq_false (by omega)
     go_wp2_with fail
     go_roundw
     case rel => exact ⟨2 + 1, by decide, rfl, HI⟩
     case measure => simp [intOf]
  ·go_wp2_with fail
   go_loopw [16] (fun vk wr => ∃ k : Nat, k ≤ m1 ∧ vk = .int .i64 (k : Int) ∧ Aside0 (Own w.heap.size w wr [.blk gl #[.slice Q1 n1 q1, .slice Q2 n2 q2, .slice Q3 n3 q3] 71, .blk g11 #[.slice P3 tq.length p3, .int .i64 ttk, .slice Q3 n3 q3, .int .u64 tnx] 73, .row kQ 78 (.slice P3 tq.length p3) tq, .soft 74 1 0 (.slice Q3 n3 q3) n3, .blk g9 #[.slice P2 pq.length p2, .int .i64 ptk, .slice Q2 n2 q2, .int .u64 pnx] 73, .row kQ 78 (.slice P2 pq.length p2) pq, .soft 74 1 0 (.slice Q2 n2 q2) n2, .blk g7 #[.slice P1 m1 p1, .int .i64 etk, .slice Q1 n1 q1, .int .u64 enx] 73, .soft 78 2 1 (.slice P1 m1 p1) m1, .soft 74 1 0 (.slice Q1 n1 q1) n1, .row kQ 78 (.slice A3 nq c3) q, .row kL 74 (.slice A4 nl c4) l, .row kB 5 (.slice A5 nm c5) m, .blk g5 #[.slice A3 nq c3, .int .i64 tk, .slice A4 nl c4, .int .u64 nx] 73, .blk g3 #[.int .i64 ab, .slice Am nm cm, .int .u64 dto, .int .u64 dam] 76, .blk g2 #[.slice A1 nq c1, .int .i64 tk, .slice A2 nl c2, .int .u64 nx] 73])) (fun vk _ => m1 - (intOf vk).toNat)
   case atStart => exact ⟨0, Nat.zero_le _, rfl, HI⟩
   case round =>
    clear HI
    obtain ⟨k, hk, rfl, HI⟩ := hrel
    have kx : wr.cell? ⟨g7, 0, none⟩ = some (.slice P1 m1 p1) := HI.out.cell 7 rfl 0 rfl
    by_cases hlt : k < m1
    ·have hdl : decide (k < m1) = true := decide_eq_true hlt
     have hdl2 : decide ((k : Int) < (m1 : Int)) = true := decide_eq_true (by omega)
     have hib : (0 : Int) ≤ (k : Int) ∧ (k : Int) < (m1 : Int) := by omega
     have hwi : IntKind.i64.wrap ((k : Int) + 1) = ((k + 1 : Nat) : Int) := by rw [IntWalk.i64_in _ (by omega)]; omega
     obtain ⟨gs, cs, u, hv, hcell, hfz⟩ := HI.out.soft_cell 8 rfl k hlt
     injection hv with hv1 hv2 hv3
     subst hv1 hv3
     clear hv2
     clear hfz
     have HSP := Aside0.mk (HI.out.spoil 8 rfl k hlt 6 hcell)
     go_wp2_with (go_at_call 44; refine HSP.out.mono ?_; rintro e w5 ⟨rfl, hO⟩; have H5 := Aside0.mk hO; clear hO)
     go_roundw
     case rel => (repeat apply Exists.intro); exact ⟨⟨k + 1, hlt, rfl, H5⟩, rfl⟩
     case measure => simp [intOf]; omega
    ·have hdl : decide (k < m1) = false := decide_eq_false hlt
     have hdl2 : decide ((k : Int) < (m1 : Int)) = false := decide_eq_false (by omega)
     have HK : Aside0 (Own w.heap.size w wr [.row kQ 78 (.slice A3 nq c3) q, .row kL 74 (.slice A4 nl c4) l, .row kB 5 (.slice A5 nm c5) m, .blk g5 #[.slice A3 nq c3, .int .i64 tk, .slice A4 nl c4, .int .u64 nx] 73, .blk g3 #[.int .i64 ab, .slice Am nm cm, .int .u64 dto, .int .u64 dam] 76, .blk g2 #[.slice A1 nq c1, .int .i64 tk, .slice A2 nl c2, .int .u64 nx] 73]) := ⟨((((((((((HI.out.erase 0).erase 0).erase 0).erase 0).erase 0).erase 0).erase 0).erase 0).erase 0).erase 0)⟩
     clear HI
     go_wp2_with (first
      | fail
      | ((with_reducible refine Gd 96 ?_); refine OV 5 HK 3 g5 73 rfl Try.underlying73 (by kernel_rfl) ?_)
      | ((with_reducible refine Gd 98 ?_); refine OD 97 3 HK 4 g3 0 (.int .i64 ab) Try.underlying3 ?_)
      | (go_at_call 38; refine (HTK.out A3 A4 c3 c4 _ (HK.out.C_of 0 rfl) hc3 (HK.out.C_of 1 rfl) hc4).mono ?_; rintro e w20 ⟨v1, v2, rfl, hO⟩; obtain ⟨P7, p7, rfl, hP7, _⟩ := hO.reads 0 rfl; obtain ⟨Q7, q7, rfl, hQ7, _⟩ := hO.reads 1 rfl; have H20 := Aside0.mk (HK.out.call hO); have HX7 : Aside0 (Arr 4 #[.slice P7 tq.length p7, .int .i64 ttk, .slice Q7 tl.length q7, .int .u64 tnx]) := ⟨rfl, by simp [Value.oneCell']⟩; clear hO)
      | ((with_reducible refine Gd 17 ?_); refine OA H20 73 #[.slice none 0 0, .int .i64 0, .slice none 0 0, .int .u64 0] 4 ?_; intro g17 w21 H21 B21)
      | ((with_reducible refine Gs 73 17 ?_); refine OS 17 100 H21 0 g17 73 #[.slice P7 tq.length p7, .int .i64 ttk, .slice Q7 tl.length q7, .int .u64 tnx] 4 HZ HX7 ?_; intro w22 H22)
      | ((with_reducible refine Gd 103 ?_); refine OV 2 H22 8 g2 73 rfl Try.underlying73 (by kernel_rfl) ?_)
      | ((with_reducible refine Gd 105 ?_); refine OD 104 3 H22 7 g3 0 (.int .i64 ab) Try.underlying3 ?_)
      | (go_at_call 45; refine (HRT.out _ H22.out.below).mono ?_; rintro e w23 ⟨v1, v2, rfl, hO⟩; obtain ⟨P8, p8, rfl, hP8, _⟩ := hO.reads 0 rfl; obtain ⟨Q8, q8, rfl, hQ8, _⟩ := hO.reads 1 rfl; have H23 := Aside0.mk (H22.out.call hO); have HX8 : Aside0 (Arr 4 #[.slice P8 tq.length p8, .int .i64 ttk, .slice Q8 tl.length q8, .int .u64 tnx]) := ⟨rfl, by simp [Value.oneCell']⟩; clear hO)
      | ((with_reducible refine Gd 19 ?_); refine OA H23 73 #[.slice none 0 0, .int .i64 0, .slice none 0 0, .int .u64 0] 4 ?_; intro g19 w24 H24 B24)
      | ((with_reducible refine Gs 73 19 ?_); refine OS 19 107 H24 0 g19 73 #[.slice P8 tq.length p8, .int .i64 ttk, .slice Q8 tl.length q8, .int .u64 tnx] 4 HZ HX8 ?_; intro w25 H25)
      | (go_at_call 33; refine (HAN.out _).mono ?_; rintro e w26 ⟨rfl, hB⟩; have H26 := Aside0.mk (H25.out.step hB); clear hB)
      | ((with_reducible refine Gd 111 ?_); refine GV 2 H26 11 g2 73 rfl Try.underlying73 (by kernel_rfl) ?_)
      | ((with_reducible refine Gd 112 ?_); refine GV 5 H26 9 g5 73 rfl Try.underlying73 (by kernel_rfl) ?_)
      | (go_at_call 46; with_reducible refine (HSX.out _ A3 A4 c3 c4 H26.out.below ⟨H26.out.C_of 6 rfl, H26.out.C_of 7 rfl⟩ hc3 hc4).mono ?_; rintro e w27 ⟨rfl, hB⟩; have H27 := Aside0.mk (H26.out.step hB); clear hB)
      | ((with_reducible refine Gd 118 ?_); refine GD 117 74 H27 10 g3 1 (.slice Am nm cm) Try.underlying74 ?_)
      | (go_at_call 47; refine (HSM.out _ A5 c5 H27.out.below (H27.out.C_of 8 rfl) hc5).mono ?_; rintro e w28 ⟨rfl, hB⟩; have H28 := Aside0.mk (H27.out.step hB); clear hB)
      | ((with_reducible refine Gd 122 ?_); refine GV 17 H28 3 g17 73 rfl Try.underlying73 (by kernel_rfl) ?_)
      | ((with_reducible refine Gd 123 ?_); refine GV 19 H28 0 g19 73 rfl Try.underlying73 (by kernel_rfl) ?_)
      | (go_at_call 46; with_reducible refine (HST.out _ _ _ _ _ _ _ _ _ ⟨H28.out.C_of 4 rfl, H28.out.C_of 5 rfl⟩ ⟨H28.out.C_of 1 rfl, H28.out.C_of 2 rfl⟩ hP7 hQ7 hP8 hQ8).mono ?_; rintro e w29 ⟨rfl, hB⟩; have H29 := Aside0.mk (H28.out.step hB); clear hB)
      )
     go_ret
     exact ⟨rfl, H29.out.below⟩
end Go.Proofs.Ytocphkfkdadhaaa.H
namespace Go.Proofs.Ytocphkfkdadhaaa.H
open Go.RowKit
theorem OkInb.ql {y : List (Int × List Int) × Int × List (List Int) × Int} (h : OkInb y) : (boxOf y).q.length ≤ 4398046511100 := by
 have := h.1.2
 have e : (boxOf y).q.length = y.1.length := by simp [boxOf]
 omega
theorem OkInb.ll {y : List (Int × List Int) × Int × List (List Int) × Int} (h : OkInb y) : (boxOf y).l.length ≤ 5864062014800 := by
 have := h.2.2.1.2
 have e : (boxOf y).l.length = y.2.2.1.length := rfl
 omega
theorem OkInb.qm {y : List (Int × List Int) × Int × List (List Int) × Int} (h : OkInb y) : ∀ d ∈ (boxOf y).q, d.f1.length ≤ 140737488351232 := fun d hd => by
 obtain ⟨p, hp, rfl⟩ := List.mem_map.1 hd
 have := (h.1.1 p hp).2.2
 simpa using this
theorem OkInb.lm {y : List (Int × List Int) × Int × List (List Int) × Int} (h : OkInb y) : ∀ m ∈ (boxOf y).l, m.length ≤ 140737488351232 := fun m hm => by
 have := (h.2.2.1.1 m hm).2
 omega
end Go.Proofs.Ytocphkfkdadhaaa.H
namespace Go.Proofs.Ytocphkfkdadhaaa.H
open Go.RowKit Go.Proofs.YtocphkfkdadhaaaW.PrintWords Go.Proofs.YtocphkfkdadhaaaW.PrintLast Go.Proofs.YtocphkfkdadhaaaW.PrintMore
abbrev kAq : Kd (Int × List Int × Int × Int) := Kd.pair (Kd.int .i64) (Kd.pair (Kd.slice 5 kB) (Kd.pair (Kd.int .u64) (Kd.int .u64)))
def OkAq (y : Int × List Int × Int × Int) : Prop := (Lit.int .i64 y.1).wf = true ∧ OkM y.2.1 ∧ (Lit.int .u64 y.2.2.1).wf = true ∧ (Lit.int .u64 y.2.2.2).wf = true
theorem oz_aq : OpensZ 76 kAq OkAq :=
 @fun H enc W fuel cs x hx hw => opensZ_struct Try.underlying76 (manyZ_cons oz_int (by kernel_rfl) (manyZ_cons oz_bytes (by kernel_rfl) (manyZ_cons oz_u64 (by kernel_rfl) (manyZ_one oz_u64 (by kernel_rfl))))) (by kernel_rfl) (by kernel_rfl) hx hw
theorem kAq_open {w : World} {cs : Array Value} {y : Int × List Int × Int × Int} (h : kAq.K w y cs.toList) :
 ∃ A c, cs = #[.int .i64 y.1, .slice A y.2.1.length c, .int .u64 y.2.2.1, .int .u64 y.2.2.2] ∧ y.2.1.length ≤ c ∧ Kd.C kB w A y.2.1.length y.2.1 := by
 obtain ⟨a1, r1, e1, h1, a2, r2, rfl, ⟨A, c, rfl, g, k⟩, a3, a4, rfl, h3, h4⟩ := h
 have h1 : a1 = [.int .i64 y.1] := h1
 have h3 : a3 = [.int .u64 y.2.2.1] := h3
 have h4 : a4 = [.int .u64 y.2.2.2] := h4
 subst h1 h3 h4
 refine ⟨A, c, ?_, g, k⟩
 apply Array.toList_inj.1
 rw [e1]
 rfl
theorem OkInb.q64 {y : List (Int × List Int) × Int × List (List Int) × Int} (h : OkInb y) : ∀ d ∈ (boxOf y).q, -9223372036854775808 ≤ d.f0 ∧ d.f0 ≤ 9223372036854775807 := fun d hd => by
 obtain ⟨p, hp, rfl⟩ := List.mem_map.1 hd
 have := (h.1.1 p hp).1
 simp [Lit.wf, IntKind.min, IntKind.max, IntKind.signed, IntKind.bits] at this
 exact ⟨by dsimp only; omega, by dsimp only; omega⟩
end Go.Proofs.Ytocphkfkdadhaaa.H
namespace Go.Proofs.Ytocphkfkdadhaaa.H
theorem wfI64 {n : Int} (h : (Lit.int .i64 n).wf = true) : n ≤ 9223372036854775807 := by
 simp [Lit.wf, IntKind.min, IntKind.max, IntKind.signed, IntKind.bits] at h
 omega
end Go.Proofs.Ytocphkfkdadhaaa.H
