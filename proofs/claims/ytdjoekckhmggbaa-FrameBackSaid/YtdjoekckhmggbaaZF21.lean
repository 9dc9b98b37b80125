import Derived.Test.YtdjoekckhmggbaaZF20
namespace Go.Proofs.Ytdjoekckhmggbaa.H
open Go.RowKit Go.Proofs.YtdjoekckhmggbaaW.PrintWords Go.Proofs.YtdjoekckhmggbaaW.PrintLast Go.Proofs.YtdjoekckhmggbaaW.PrintMore Go.Proofs.Ytdjoekckhmggbaa.PRF
set_option linter.unusedVariables false
set_option linter.unusedSimpArgs false
def cellsF (p : FV) : List Value := [.int .u64 p.x.f0, .int .i64 p.x.f1, .bool p.x.f2, .slice p.A p.x.f3.length p.c]
def flatF (vs : List FV) : List Value := vs.flatMap cellsF
theorem flatF_len (vs : List FV) : (flatF vs).length = vs.length * 4 := by
  induction vs with
  | nil => rfl
  | cons p vs ih => simp only [flatF, List.flatMap_cons, List.length_append, List.length_cons] at ih ⊢; rw [ih]; simp [cellsF]; omega
theorem flatF_app (a b : List FV) : flatF (a ++ b) = flatF a ++ flatF b := by simp [flatF]
theorem flatF_get (vs : List FV) (i : Nat) (h : i < vs.length) (k : Nat) (hk : k < 4) : (flatF vs)[i * 4 + k]? = (cellsF vs[i])[k]? := by
  have e : vs = vs.take i ++ vs[i] :: vs.drop (i + 1) := by rw [← List.drop_eq_getElem_cons h, List.take_append_drop]
  have hl : (flatF (vs.take i)).length = i * 4 := by rw [flatF_len, List.length_take]; omega
  have e2 : flatF (vs.take i ++ vs[i] :: vs.drop (i + 1)) = flatF (vs.take i) ++ (cellsF vs[i] ++ flatF (vs.drop (i + 1))) := by rw [flatF_app]; rfl
  rw [← e] at e2
  rw [e2, List.getElem?_append_right (by omega), hl, show i * 4 + k - i * 4 = k by omega, List.getElem?_append_left (by simp [cellsF]; omega)]
theorem flatF_one (vs : List FV) : ∀ u ∈ flatF vs, u.oneCell' = true := by
  intro u hu
  simp only [flatF, List.mem_flatMap] at hu
  obtain ⟨p, _, hp⟩ := hu
  simp only [cellsF, List.mem_cons, List.not_mem_nil, or_false] at hp
  rcases hp with rfl | rfl | rfl | rfl <;> rfl
theorem flatF_news {W : World} {g : Nat} {vs : List FV} (h : ∀ i (h : i < vs.length), RowAt W (some ⟨g, 0, none⟩) i vs[i]) : ∀ j u, (flatF vs)[j]? = some u → W.cell? ((⟨g, 0, none⟩ : Addr).add j) = some u := by
  intro j u hu
  have hj := (List.getElem?_eq_some_iff.1 hu).1
  rw [flatF_len] at hj
  have hd := Nat.div_add_mod j 4
  have hm := Nat.mod_lt j (show 0 < 4 by omega)
  obtain ⟨ad, e, h0, h1, h2, h3⟩ := h (j / 4) (by omega)
  injection e with e
  subst e
  rw [addr0] at h0 h1 h2 h3
  rw [addr0]
  rw [show j = j / 4 * 4 + j % 4 by omega] at hu ⊢
  rw [flatF_get vs (j / 4) (by omega) _ (by omega)] at hu
  generalize j % 4 = r at hu hm ⊢
  match r, hm with
  | 0, _ => rw [← hu]; exact h0
  | 1, _ => rw [← hu]; exact h1
  | 2, _ => rw [← hu]; exact h2
  | 3, _ => rw [← hu]; exact h3
def RowIn (cur : Array Value) (i : Nat) (p : FV) : Prop := cur[i * 4]? = some (.int .u64 p.x.f0) ∧ cur[i * 4 + 1]? = some (.int .i64 p.x.f1) ∧ cur[i * 4 + 2]? = some (.bool p.x.f2) ∧ cur[i * 4 + 3]? = some (.slice p.A p.x.f3.length p.c)
def RowsIn (cur : Array Value) (vs : List FV) : Prop := ∀ i (h : i < vs.length), RowIn cur i vs[i]
theorem rowsIn_of {cur : Array Value} {vs : List FV} (h : cur.toList.take (vs.length * 4) = flatF vs) : RowsIn cur vs := by
  intro i hi
  have hk : ∀ k, k < 4 → cur[i * 4 + k]? = (cellsF vs[i])[k]? := by
    intro k hk
    rw [← flatF_get vs i hi k hk, ← h, List.getElem?_take, if_pos (by omega), Array.getElem?_toList]
  exact ⟨hk 0 (by omega), hk 1 (by omega), hk 2 (by omega), hk 3 (by omega)⟩
theorem rows_C {w : World} {g : Nat} {t : TypeId} {fr : Nat × Nat} {cur : Array Value} {vs : List FV} (h : w.heap[g]? = some (.cells cur t fr)) (hr : RowsIn cur vs) (hb : ∀ p ∈ vs, p.x.f3.length ≤ p.c ∧ Kd.C (Kd.int .u8) w p.A p.x.f3.length p.x.f3) (hn : vs.length ≤ 9223372036854775807) :
    Kd.C k40 w (some ⟨g, 0, none⟩) vs.length (vs.map (·.x)) := by
  refine ⟨by simp, hn, fun _ => ⟨_, rfl, fun j p hj => ?_⟩⟩
  obtain ⟨hjl, rfl⟩ := List.getElem?_eq_some_iff.1 hj
  rw [List.length_map] at hjl
  obtain ⟨r0, r1, r2, r3⟩ := hr j hjl
  have hp := hb vs[j] (List.getElem_mem hjl)
  rw [List.getElem_map]
  refine ⟨_, rfl, k40_mk w vs[j].x (A3 := vs[j].A) (c3 := vs[j].c) hp.1 hp.2, fun i u hu => ?_⟩
  have hc : ∀ k, w.cell? ((⟨g, 0, none⟩ : Addr).add k) = cur[k]? := fun k => by rw [addr0]; exact cell_of_row w g k cur t fr h
  rw [hc]
  match i, hu with
  | 0, hu => rw [← hu]; exact r0
  | 1, hu => rw [← hu]; exact r1
  | 2, hu => rw [← hu]; exact r2
  | 3, hu => rw [← hu]; exact r3
def setRow (cur : Array Value) (i : Nat) (p : FV) : Array Value := (((cur.setIfInBounds (i * 4) (.int .u64 p.x.f0)).setIfInBounds (i * 4 + 1) (.int .i64 p.x.f1)).setIfInBounds (i * 4 + 2) (.bool p.x.f2)).setIfInBounds (i * 4 + 3) (.slice p.A p.x.f3.length p.c)
theorem setRow_rows {cur : Array Value} {vs : List FV} (hr : RowsIn cur vs) {i : Nat} (hi : i < vs.length) (p : FV) : RowsIn (setRow cur i p) (vs.set i p) := by
  intro j hj
  rw [List.length_set] at hj
  have hsz : ∀ k, k < 4 → i * 4 + k < cur.size := by
    intro k hk
    obtain ⟨_, _, _, r3⟩ := hr i hi
    have := (Array.getElem?_eq_some_iff.1 r3).1
    omega
  have h0 := hsz 0 (by omega)
  have h1 := hsz 1 (by omega)
  have h2 := hsz 2 (by omega)
  have h3 := hsz 3 (by omega)
  rw [List.getElem_set]
  by_cases he : i = j
  · subst he
    rw [if_pos rfl]
    unfold RowIn setRow
    simp only [Array.getElem?_setIfInBounds, Array.size_setIfInBounds]
    simp at h0
    simp [h0, h1, h2, h3]
  · rw [if_neg he]
    obtain ⟨q0, q1, q2, q3⟩ := hr j hj
    unfold RowIn setRow
    simp only [Array.getElem?_setIfInBounds, Array.size_setIfInBounds]
    rw [if_neg (by omega), if_neg (by omega), if_neg (by omega), if_neg (by omega), if_neg (by omega), if_neg (by omega), if_neg (by omega), if_neg (by omega), if_neg (by omega), if_neg (by omega), if_neg (by omega), if_neg (by omega), if_neg (by omega), if_neg (by omega), if_neg (by omega), if_neg (by omega)]
    exact ⟨q0, q1, q2, q3⟩
theorem setRow_put {w : World} {g : Nat} {cur : Array Value} (h : w.heap[g]? = some (.cells cur 40 (0, 0))) (i : Nat) (p : FV) :
    ((((w.setCell ⟨g, i * 4, none⟩ (.int .u64 p.x.f0)).setCell ⟨g, i * 4 + 1, none⟩ (.int .i64 p.x.f1)).setCell ⟨g, i * 4 + 2, none⟩ (.bool p.x.f2)).setCell ⟨g, i * 4 + 3, none⟩ (.slice p.A p.x.f3.length p.c)).heap[g]? = some (.cells (setRow cur i p) 40 (0, 0)) :=
  blk_set (blk_set (blk_set (blk_set h _ _) _ _) _ _) _ _
end Go.Proofs.Ytdjoekckhmggbaa.H
