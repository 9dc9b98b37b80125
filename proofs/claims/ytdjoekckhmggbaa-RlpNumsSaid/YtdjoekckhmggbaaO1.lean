import Derived.Test.YtdjoekckhmggbaaMC
import Derived.Lib.SmallJoins
import Derived.ChangeSlices
import Derived.ChangeArms
namespace Go.Proofs.Ytdjoekckhmggbaa.H
open Go.RowKit Go.Proofs.YtdjoekckhmggbaaW.PrintWords Go.Proofs.YtdjoekckhmggbaaW.PrintLast Go.Proofs.YtdjoekckhmggbaaW.PrintMore Go.Proofs.Ytdjoekckhmggbaa.PRF
open Go.ChangeShapes Go.WideShapes Go.ChangeAt
set_option linter.unusedVariables false
set_option linter.unusedSimpArgs false

theorem choose_list {α : Type} (Q : Nat → α → Prop) : ∀ n : Nat, (∀ i, i < n → ∃ y, Q i y) → ∃ xs : List α, xs.length = n ∧ ∀ i p, xs[i]? = some p → Q i p
  | 0, _ => ⟨[], rfl, fun i p h => by simp at h⟩
  | n + 1, h => by
    obtain ⟨xs, hl, hx⟩ := choose_list Q n (fun i hi => h i (by omega))
    obtain ⟨y, hy⟩ := h n (by omega)
    refine ⟨xs ++ [y], by rw [List.length_append, hl]; rfl, fun i p hp => ?_⟩
    by_cases hi : i < xs.length
    · rw [List.getElem?_append_left hi] at hp
      exact hx i p hp
    · rw [List.getElem?_append_right (by omega)] at hp
      by_cases h0 : i - xs.length = 0
      · rw [h0] at hp
        simp at hp
        subst hp
        rw [show i = n by omega]
        exact hy
      · rw [List.getElem?_eq_none (by simp; omega)] at hp
        cases hp

theorem open_bytes {H : Type} {enc : TypeId × Value → H} {W : World} {fuel : Nat} {cs : List Value} {x : DataW H × List MemPlace}
    (h : DataW.trod enc Try.prog W 0 (fun _ => true) true fuel 24 cs = some x) :
    ∃ A l c, cs = [.slice A l.length c] ∧ l.length ≤ c ∧ Kd.C (Kd.int .u8) W A l.length l ∧ Byt l := by
  rcases open_ints Try.underlying24 Try.underlying5 (by kernel_rfl) h with ⟨rfl, _⟩ | ⟨a, l, c, zs, rfl, _, hl, hm, hz, _, hcell, hwz⟩
  · exact ⟨none, [], 0, rfl, Nat.le_refl _, Kd.C_nil _ _, Byt.nil⟩
  · obtain ⟨l', hC, rfl, hc, hB⟩ := row_C (W := W) (a := some a) (len := l) (cap := c) (z := zs) (Or.inr ⟨a, rfl, hl, hm, by simpa using hz, hcell, hwz⟩)
    exact ⟨some a, l', c, rfl, hc, hC, hB⟩

theorem cells_of_47 : Try.prog.cellsOf 47 = 3 := by kernel_rfl
theorem cells_of_24 : Try.prog.cellsOf 24 = 1 := by kernel_rfl
theorem cells_of_45 : Try.prog.cellsOf 45 = 1 := by kernel_rfl
theorem cells_of_4 : Try.prog.cellsOf 4 = 1 := by kernel_rfl

set_option maxRecDepth 100000 in
theorem open_item {H : Type} {enc : TypeId × Value → H} {W : World} : ∀ (fuel : Nat) {cs : List Value} {x : DataW H × List MemPlace},
    DataW.trod enc Try.prog W 0 (fun _ => true) true fuel 47 cs = some x → ∃ y : S47, k47.K W y cs ∧ BytI y := by
  intro fuel
  induction fuel using Nat.strongRecOn with
  | _ fuel ih =>
    intro cs x h
    obtain ⟨xs, n, hfu, _, hl, hlen, hf⟩ := DataW.trod_struct Try.underlying47 h
    rw [cells_of_47] at hl
    match xs, hlen with
    | [y0, y1, y2], _ =>
      match cs, hl with
      | [c0, c1, c2], _ =>
        have h0 : DataW.trod enc Try.prog W 0 (fun _ => true) true n 4 [c0] = some y0 := hf 0 _ rfl
        have h1 : DataW.trod enc Try.prog W 0 (fun _ => true) true n 24 [c1] = some y1 := hf 1 _ rfl
        have h2 : DataW.trod enc Try.prog W 0 (fun _ => true) true n 45 [c2] = some y2 := hf 2 _ rfl
        obtain ⟨b, hb, _⟩ := DataW.trod_bool Try.underlying4 h0
        obtain ⟨A1, l1, d1, hc1, hl1, hC1, hB1⟩ := open_bytes h1
        simp only [List.cons.injEq, and_true] at hb hc1
        subst hb hc1
        rcases DataW.trod_slice Try.underlying45 h2 with ⟨hc2, _⟩ | ⟨a, len, cap, elems, rest, m, hm, hc2, _, _, hlc, hcm, hle, hel, _, _⟩
        · simp only [List.cons.injEq, and_true] at hc2
          subst hc2
          exact ⟨⟨b, l1, []⟩, k47_mk W ⟨b, l1, []⟩ hl1 hC1 (A2 := none) (c2 := 0) (Nat.le_refl _) (Kd.C_nil _ _), BytI.mk _ hB1 (by simp)⟩
        · simp only [List.cons.injEq, and_true] at hc2
          subst hc2
          rw [cells_of_47] at hel
          have each : ∀ i, i < len → ∃ y : S47, (∃ c, c.length = 3 ∧ k47.K W y c ∧ ∀ j u, c[j]? = some u → W.cell? (a.add (i * 3 + j)) = some u) ∧ BytI y := by
            intro i hi
            have h3 := hel i hi
            rw [List.getElem?_eq_getElem (by omega), Option.bind_eq_some_iff] at h3
            obtain ⟨c, hc, ht⟩ := h3
            obtain ⟨y, hK, hBy⟩ := ih m (by omega) ht
            obtain ⟨_, hcl, hcc⟩ := World.cells?_some hc
            refine ⟨y, ⟨c, hcl, hK, fun j u hj => ?_⟩, hBy⟩
            have hj3 : j < 3 := by have := (List.getElem?_eq_some_iff.1 hj).1; omega
            rw [← hj, ← hcc j hj3, Addr.add_add]
          obtain ⟨ys, hyl, hys⟩ := choose_list _ len each
          subst hyl
          refine ⟨⟨b, l1, ys⟩, k47_mk W ⟨b, l1, ys⟩ hl1 hC1 (A2 := some a) (c2 := cap) hlc ⟨rfl, ?_, fun _ => ⟨a, rfl, fun j p hj => (hys j p hj).1⟩⟩, BytI.mk _ hB1 ?_⟩
          · have : maxLen ≤ 9223372036854775807 := by decide
            show ys.length ≤ 9223372036854775807
            omega
          · intro y hy
            obtain ⟨i, hi⟩ := List.getElem?_of_mem hy
            exact (hys i y hi).2
set_option maxRecDepth 100000 in
/-- an item that came in -/
theorem open_arg47 {H : Type} {enc : TypeId × Value → H} {W : World} {r : Reach} {b0 : Nat} {v : Value} {d : DataW H} {p : List MemPlace}
    (hv : Value.okWide Try.prog W r b0 47 v) (h : DataW.Trod enc Try.prog W 0 (fun _ => true) true 47 v d p) :
    ∃ (x : S47) (A1 A2 : Option Addr) (c1 c2 : Nat), v = .agg #[.bool x.f0, .slice A1 x.f1.length c1, .slice A2 x.f2.length c2] ∧ BytI x ∧
      Kd.C (Kd.int .u8) W A1 x.f1.length x.f1 ∧ x.f1.length ≤ c1 ∧ Kd.C k47 W A2 x.f2.length x.f2 ∧ x.f2.length ≤ c2 := by
  obtain ⟨cs, rfl, hsz⟩ := okWide_struct Try.underlying47 hv
  obtain ⟨fuel, hf⟩ := h
  obtain ⟨y, hK, hB⟩ := open_item fuel hf
  obtain ⟨A1, c1, A2, c2, hc, h1, h2, h3, h4⟩ := k47_open hK
  have hc' : cs.toList = [.bool y.f0, .slice A1 y.f1.length c1, .slice A2 y.f2.length c2] := hc
  refine ⟨y, A1, A2, c1, c2, ?_, hB, h2, h1, h4, h3⟩
  congr 1
  apply Array.toList_inj.1
  exact hc'
end Go.Proofs.Ytdjoekckhmggbaa.H
