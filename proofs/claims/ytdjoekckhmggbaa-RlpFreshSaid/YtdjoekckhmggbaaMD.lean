import Derived.Test.YtdjoekckhmggbaaMC
import Derived.Lib.SmallJoins
import Derived.ChangeSlices
import Derived.ChangeArms
import Derived.Deep.RegionHeld3
namespace Go.Proofs.Ytdjoekckhmggbaa.H
open Go.RowKit Go.Proofs.YtdjoekckhmggbaaW.PrintWords Go.Proofs.YtdjoekckhmggbaaW.PrintLast Go.Proofs.YtdjoekckhmggbaaW.PrintMore Go.Proofs.Ytdjoekckhmggbaa.PRF
open Go.ChangeShapes Go.WideShapes Go.ChangeAt
set_option linter.unusedVariables false
set_option linter.unusedSimpArgs false

theorem choose_list {α : Type} (Q : Nat → α → Prop) : ∀ n : Nat, (∀ i, i < n → ∃ y, Q i y) → ∃ xs : List α, xs.length = n ∧ ∀ i p, xs[i]? = some p → Q i p
  | 0, _ => ⟨[], rfl, fun i p h => by simp at h⟩
  | n + 1, h => by
    obtain ⟨xs, hl, hx⟩ := choose_list Q n (fun i hi => h i (by omega))
    obtain ⟨y, hy⟩ := h n (by omega)
    refine ⟨xs ++ [y], by rw [List.length_append, hl]; rfl, fun i p hp => ?_⟩
    by_cases hi : i < xs.length
    · rw [List.getElem?_append_left hi] at hp
      exact hx i p hp
    · rw [List.getElem?_append_right (by omega)] at hp
      by_cases h0 : i - xs.length = 0
      · rw [h0] at hp
        simp at hp
        subst hp
        rw [show i = n by omega]
        exact hy
      · rw [List.getElem?_eq_none (by simp; omega)] at hp
        cases hp

theorem open_bytes {H : Type} {enc : TypeId × Value → H} {W : World} {fuel : Nat} {cs : List Value} {x : DataW H × List MemPlace}
    (h : DataW.trod enc Try.prog W 0 (fun _ => true) true fuel 24 cs = some x) :
    ∃ A l c, cs = [.slice A l.length c] ∧ l.length ≤ c ∧ Kd.C (Kd.int .u8) W A l.length l ∧ Byt l := by
  rcases open_ints Try.underlying24 Try.underlying5 (by kernel_rfl) h with ⟨rfl, _⟩ | ⟨a, l, c, zs, rfl, _, hl, hm, hz, _, hcell, hwz⟩
  · exact ⟨none, [], 0, rfl, Nat.le_refl _, Kd.C_nil _ _, Byt.nil⟩
  · obtain ⟨l', hC, rfl, hc, hB⟩ := row_C (W := W) (a := some a) (len := l) (cap := c) (z := zs) (Or.inr ⟨a, rfl, hl, hm, by simpa using hz, hcell, hwz⟩)
    exact ⟨some a, l', c, rfl, hc, hC, hB⟩

theorem cells_of_47 : Try.prog.cellsOf 47 = 3 := by kernel_rfl
theorem cells_of_24 : Try.prog.cellsOf 24 = 1 := by kernel_rfl
theorem cells_of_45 : Try.prog.cellsOf 45 = 1 := by kernel_rfl
theorem cells_of_4 : Try.prog.cellsOf 4 = 1 := by kernel_rfl

set_option maxRecDepth 100000 in
theorem open_item {H : Type} {enc : TypeId × Value → H} {W : World} : ∀ (fuel : Nat) {cs : List Value} {x : DataW H × List MemPlace},
    DataW.trod enc Try.prog W 0 (fun _ => true) true fuel 47 cs = some x → ∃ y : S47, k47.K W y cs ∧ BytI y := by
  intro fuel
  induction fuel using Nat.strongRecOn with
  | _ fuel ih =>
    intro cs x h
    obtain ⟨xs, n, hfu, _, hl, hlen, hf⟩ := DataW.trod_struct Try.underlying47 h
    rw [cells_of_47] at hl
    match xs, hlen with
    | [y0, y1, y2], _ =>
      match cs, hl with
      | [c0, c1, c2], _ =>
        have h0 : DataW.trod enc Try.prog W 0 (fun _ => true) true n 4 [c0] = some y0 := hf 0 _ rfl
        have h1 : DataW.trod enc Try.prog W 0 (fun _ => true) true n 24 [c1] = some y1 := hf 1 _ rfl
        have h2 : DataW.trod enc Try.prog W 0 (fun _ => true) true n 45 [c2] = some y2 := hf 2 _ rfl
        obtain ⟨b, hb, _⟩ := DataW.trod_bool Try.underlying4 h0
        obtain ⟨A1, l1, d1, hc1, hl1, hC1, hB1⟩ := open_bytes h1
        simp only [List.cons.injEq, and_true] at hb hc1
        subst hb hc1
        rcases DataW.trod_slice Try.underlying45 h2 with ⟨hc2, _⟩ | ⟨a, len, cap, elems, rest, m, hm, hc2, _, _, hlc, hcm, hle, hel, _, _⟩
        · simp only [List.cons.injEq, and_true] at hc2
          subst hc2
          exact ⟨⟨b, l1, []⟩, k47_mk W ⟨b, l1, []⟩ hl1 hC1 (A2 := none) (c2 := 0) (Nat.le_refl _) (Kd.C_nil _ _), BytI.mk _ hB1 (by simp)⟩
        · simp only [List.cons.injEq, and_true] at hc2
          subst hc2
          rw [cells_of_47] at hel
          have each : ∀ i, i < len → ∃ y : S47, (∃ c, c.length = 3 ∧ k47.K W y c ∧ ∀ j u, c[j]? = some u → W.cell? (a.add (i * 3 + j)) = some u) ∧ BytI y := by
            intro i hi
            have h3 := hel i hi
            rw [List.getElem?_eq_getElem (by omega), Option.bind_eq_some_iff] at h3
            obtain ⟨c, hc, ht⟩ := h3
            obtain ⟨y, hK, hBy⟩ := ih m (by omega) ht
            obtain ⟨_, hcl, hcc⟩ := World.cells?_some hc
            refine ⟨y, ⟨c, hcl, hK, fun j u hj => ?_⟩, hBy⟩
            have hj3 : j < 3 := by have := (List.getElem?_eq_some_iff.1 hj).1; omega
            rw [← hj, ← hcc j hj3, Addr.add_add]
          obtain ⟨ys, hyl, hys⟩ := choose_list _ len each
          subst hyl
          refine ⟨⟨b, l1, ys⟩, k47_mk W ⟨b, l1, ys⟩ hl1 hC1 (A2 := some a) (c2 := cap) hlc ⟨rfl, ?_, fun _ => ⟨a, rfl, fun j p hj => (hys j p hj).1⟩⟩, BytI.mk _ hB1 ?_⟩
          · have : maxLen ≤ 9223372036854775807 := by decide
            show ys.length ≤ 9223372036854775807
            omega
          · intro y hy
            obtain ⟨i, hi⟩ := List.getElem?_of_mem hy
            exact (hys i y hi).2
set_option maxRecDepth 100000 in
/-- an item that came in -/
theorem open_arg47 {H : Type} {enc : TypeId × Value → H} {W : World} {r : Reach} {b0 : Nat} {v : Value} {d : DataW H} {p : List MemPlace}
    (hv : Value.okWide Try.prog W r b0 47 v) (h : DataW.Trod enc Try.prog W 0 (fun _ => true) true 47 v d p) :
    ∃ (x : S47) (A1 A2 : Option Addr) (c1 c2 : Nat), v = .agg #[.bool x.f0, .slice A1 x.f1.length c1, .slice A2 x.f2.length c2] ∧ BytI x ∧
      Kd.C (Kd.int .u8) W A1 x.f1.length x.f1 ∧ x.f1.length ≤ c1 ∧ Kd.C k47 W A2 x.f2.length x.f2 ∧ x.f2.length ≤ c2 := by
  obtain ⟨cs, rfl, hsz⟩ := okWide_struct Try.underlying47 hv
  obtain ⟨fuel, hf⟩ := h
  obtain ⟨y, hK, hB⟩ := open_item fuel hf
  obtain ⟨A1, c1, A2, c2, hc, h1, h2, h3, h4⟩ := k47_open hK
  have hc' : cs.toList = [.bool y.f0, .slice A1 y.f1.length c1, .slice A2 y.f2.length c2] := hc
  refine ⟨y, A1, A2, c1, c2, ?_, hB, h2, h1, h4, h3⟩
  congr 1
  apply Array.toList_inj.1
  exact hc'
end Go.Proofs.Ytdjoekckhmggbaa.H

namespace Go.Proofs.Ytdjoekckhmggbaa.H
open Go.RowKit Go.Proofs.YtdjoekckhmggbaaW.PrintWords Go.Proofs.YtdjoekckhmggbaaW.PrintLast Go.Proofs.YtdjoekckhmggbaaW.PrintMore Go.Proofs.Ytdjoekckhmggbaa.PRF
attribute [local go_sem] max2_int min2_int max_two min_two max_three min_three max_four min_four
set_option linter.unusedVariables false
set_option linter.unusedSimpArgs false

/-- it tells whether it is so, and turns nothing -/
def EqPost (b : Prop) (w : World) (e : Ending) (w' : World) : Prop := ∃ r : Bool, e = .returned (.bool r) ∧ (r = true ↔ b) ∧ Below w.heap.size w w'

set_option maxHeartbeats 4000000 in
set_option maxRecDepth 100000 in
theorem equalfunc_any (l m : List S47) (A B : Option Addr) (c d : Nat) (w : World) (hC : Kd.C k47 w A l.length l) (hc : l.length ≤ c) (hD : Kd.C k47 w B m.length m) (hd : m.length ≤ d)
    (ih : ∀ y ∈ l, ∀ (z : S47) (A1 A2 B1 B2 : Option Addr) (c1 c2 d1 d2 : Nat) (w : World), Kd.C (Kd.int .u8) w A1 y.f1.length y.f1 → y.f1.length ≤ c1 → Kd.C k47 w A2 y.f2.length y.f2 → y.f2.length ≤ c2 →
      Kd.C (Kd.int .u8) w B1 z.f1.length z.f1 → z.f1.length ≤ d1 → Kd.C k47 w B2 z.f2.length z.f2 → z.f2.length ≤ d2 →
      Calls Try.prog 59 #[.agg #[.bool y.f0, .slice A1 y.f1.length c1, .slice A2 y.f2.length c2], .agg #[.bool z.f0, .slice B1 z.f1.length d1, .slice B2 z.f2.length d2]] w (EqPost (y = z) w)) :
    Calls Try.prog 68 #[.slice A l.length c, .slice B m.length d, .func (.func 59) #[] #[]] w (EqPost (l = m) w) := by
  have IH := Aside0.mk ih
  have HB := Aside0.mk (Below.refl w.heap.size w)
  have HC := Aside0.mk hC
  have HD := Aside0.mk hD
  have hm := hC.2.1
  clear hC hD ih
  by_cases hlen : l.length = m.length
  · obtain ⟨n, hn⟩ : ∃ n, n = l.length := ⟨_, rfl⟩
    have HNL := Aside0.mk hn
    have HNM := Aside0.mk (hn.trans hlen)
    rw [← hlen, ← hn] at HD ⊢
    rw [← hn] at HC hm
    clear hlen hn
    go_enter Try.func68, Try.ntmps68
    go_wp2_with fail
    go_loopw [17] (fun v17 wr => ∃ (i : Nat), i ≤ n ∧ v17 = .int .i64 (i : Int) ∧ Aside0 (l.take i = m.take i) ∧ Aside0 (Below w.heap.size w wr)) (fun v17 _ => n - (intOf v17).toNat)
    case atStart => exact ⟨0, Nat.zero_le _, rfl, ⟨rfl⟩, ⟨Below.refl _ _⟩⟩
    case round =>
      obtain ⟨i, hi, rfl, HT, HBr⟩ := hrel
      by_cases hlt : i < n
      · have hdl : decide (i < n) = true := decide_eq_true hlt
        have hl1 : i < l.length := by have := HNL.out; omega
        have hl2 : i < m.length := by have := HNM.out; omega
        obtain ⟨ad, B1, e1, B2, e2, he, k0, k1, k2, q1, q2, q3, q4⟩ := at_T47 HC.out (i : Int) (by omega) (by omega)
        obtain ⟨ad', B1', e1', B2', e2', he', k0', k1', k2', q1', q2', q3', q4'⟩ := at_T47 HD.out (i : Int) (by omega) (by omega)
        subst he he'
        rw [rd47 l i hl1, Int.toNat_natCast] at k0 k1 k2
        rw [rd47 l i hl1] at q1 q2 q3 q4
        rw [rd47 m i hl2, Int.toNat_natCast] at k0' k1' k2'
        rw [rd47 m i hl2] at q1' q2' q3' q4'
        have r0 := pw_cell_below HBr.out k0
        have r1 := pw_cell_below HBr.out k1
        have r2 := pw_cell_below HBr.out k2
        have r0' := fun o => pw_cell_below (below_alloc HBr.out o) k0'
        have r1' := fun o => pw_cell_below (below_alloc HBr.out o) k1'
        have r2' := fun o => pw_cell_below (below_alloc HBr.out o) k2'
        clear k0 k1 k2 k0' k1' k2'
        have HIH := Aside0.mk (IH.out l[i] (List.getElem_mem hl1) m[i])
        have HT1 := Aside0.mk (List.take_succ_eq_append_getElem hl1)
        have HT2 := Aside0.mk (List.take_succ_eq_append_getElem hl2)
        have HNE := Aside0.mk (show l = m → l[i] = m[i] from fun h => by subst h; rfl)
        generalize l[i] = y at *
        generalize m[i] = z at *
        have Q1 := Aside0.mk q1
        have Q2 := Aside0.mk q2
        have Q3 := Aside0.mk q3
        have Q4 := Aside0.mk q4
        have Q1' := Aside0.mk q1'
        have Q2' := Aside0.mk q2'
        have Q3' := Aside0.mk q3'
        have Q4' := Aside0.mk q4'
        clear q1 q2 q3 q4 q1' q2' q3' q4' hl1 hl2
        have HBa := Aside0.mk (fun o o' => below_alloc (below_alloc HBr.out o) o')
        go_wp2_with fail
        refine (HIH.out B1 B2 B1' B2' e1 e2 e1' e2' _ (Kd.C_below Q2.out (HBa.out _ _)) Q1.out (Kd.C_below Q4.out (HBa.out _ _)) Q3.out (Kd.C_below Q2'.out (HBa.out _ _)) Q1'.out (Kd.C_below Q4'.out (HBa.out _ _)) Q3'.out).mono ?_
        rintro e w3 ⟨r, rfl, hr, hE3⟩
        have HB3 := Aside0.mk (below_step (HBa.out _ _) hE3)
        have HR := Aside0.mk hr
        clear hE3 hr r0 r1 r2 r0' r1' r2'
        cases r with
        | true =>
          have HEQ : Aside0 (y = z) := ⟨by have := HR.out; simpa using this⟩
          clear HR
          go_wp2
          go_roundw
          case rel => exact ⟨i + 1, hlt, by go_num, ⟨by rw [HT1.out, HT2.out, HT.out, HEQ.out]⟩, HB3⟩
          case measure => simp [intOf]; omega
        | false =>
          have HEQ : Aside0 (¬ y = z) := ⟨by have := HR.out; simpa using this⟩
          clear HR
          go_wp2
          go_ret
          exact ⟨false, rfl, ⟨fun h => (by cases h), fun h => (HEQ.out (HNE.out h)).elim⟩, HB3.out⟩
      · have hdl : decide (i < n) = false := decide_eq_false hlt
        go_wp2
        go_ret
        refine ⟨true, rfl, ⟨fun _ => ?_, fun _ => rfl⟩, HBr.out⟩
        have := HT.out
        rwa [List.take_of_length_le (by have := HNL.out; omega), List.take_of_length_le (by have := HNM.out; omega)] at this
  · obtain ⟨n1, hn1⟩ : ∃ n, n = l.length := ⟨_, rfl⟩
    obtain ⟨n2, hn2⟩ : ∃ n, n = m.length := ⟨_, rfl⟩
    have HL := Aside0.mk hlen
    rw [← hn1, ← hn2] at hlen
    rw [← hn1, ← hn2]
    have hn : ((n1 : Int) != (n2 : Int)) = true := by rw [bne_iff_ne]; omega
    clear hlen hn1 hn2
    go_enter Try.func68, Try.ntmps68
    go_wp2_with fail
    go_ret
    exact ⟨false, rfl, ⟨fun h => (by cases h), fun h => (HL.out (by rw [h])).elim⟩, HB.out⟩
end Go.Proofs.Ytdjoekckhmggbaa.H

namespace Go.Proofs.Ytdjoekckhmggbaa.H
open Go.RowKit Go.Proofs.YtdjoekckhmggbaaW.PrintWords Go.Proofs.YtdjoekckhmggbaaW.PrintLast Go.Proofs.YtdjoekckhmggbaaW.PrintMore Go.Proofs.Ytdjoekckhmggbaa.PRF
attribute [local go_sem] max2_int min2_int max_two min_two max_three min_three max_four min_four
set_option linter.unusedVariables false
set_option linter.unusedSimpArgs false

set_option maxHeartbeats 4000000 in
set_option maxRecDepth 100000 in
theorem same_step (x y : S47) (A1 A2 B1 B2 : Option Addr) (c1 c2 d1 d2 : Nat) (w : World)
    (hC1 : Kd.C (Kd.int .u8) w A1 x.f1.length x.f1) (hc1 : x.f1.length ≤ c1) (hC2 : Kd.C k47 w A2 x.f2.length x.f2) (hc2 : x.f2.length ≤ c2)
    (hD1 : Kd.C (Kd.int .u8) w B1 y.f1.length y.f1) (hd1 : y.f1.length ≤ d1) (hD2 : Kd.C k47 w B2 y.f2.length y.f2) (hd2 : y.f2.length ≤ d2)
    (ih : ∀ y ∈ x.f2, ∀ (z : S47) (A1 A2 B1 B2 : Option Addr) (c1 c2 d1 d2 : Nat) (w : World), Kd.C (Kd.int .u8) w A1 y.f1.length y.f1 → y.f1.length ≤ c1 → Kd.C k47 w A2 y.f2.length y.f2 → y.f2.length ≤ c2 →
      Kd.C (Kd.int .u8) w B1 z.f1.length z.f1 → z.f1.length ≤ d1 → Kd.C k47 w B2 z.f2.length z.f2 → z.f2.length ≤ d2 →
      Calls Try.prog 59 #[.agg #[.bool y.f0, .slice A1 y.f1.length c1, .slice A2 y.f2.length c2], .agg #[.bool z.f0, .slice B1 z.f1.length d1, .slice B2 z.f2.length d2]] w (EqPost (y = z) w)) :
    Calls Try.prog 59 #[.agg #[.bool x.f0, .slice A1 x.f1.length c1, .slice A2 x.f2.length c2], .agg #[.bool y.f0, .slice B1 y.f1.length d1, .slice B2 y.f2.length d2]] w (EqPost (x = y) w) := by
  have HEF := Aside0.mk (fun w' h1 h2 => equalfunc_any x.f2 y.f2 A2 B2 c2 d2 w' h1 hc2 h2 hd2 ih)
  obtain ⟨k, hk⟩ := equal_f x.f1 y.f1 hC1.2.1
  have HK := Aside0.mk hk
  have HB := Aside0.mk (Below.refl w.heap.size w)
  have HC1 := Aside0.mk hC1
  have HC2 := Aside0.mk hC2
  have HD1 := Aside0.mk hD1
  have HD2 := Aside0.mk hD2
  have Hc1 := Aside0.mk hc1
  have Hd1 := Aside0.mk hd1
  clear ih hk hC1 hC2 hD1 hD2 hc1 hc2 hd1 hd2
  obtain ⟨x0, x1, x2⟩ := x
  obtain ⟨y0, y1, y2⟩ := y
  simp only at *
  have HEX : Aside0 (((⟨x0, x1, x2⟩ : S47) = ⟨y0, y1, y2⟩) ↔ (x0 = y0 ∧ x1 = y1 ∧ x2 = y2)) := ⟨by simp⟩
  generalize ((⟨x0, x1, x2⟩ : S47) = ⟨y0, y1, y2⟩) = EX at *
  obtain ⟨n1, hn1⟩ : ∃ n, n = x1.length := ⟨_, rfl⟩
  obtain ⟨n2, hn2⟩ : ∃ n, n = x2.length := ⟨_, rfl⟩
  obtain ⟨m1, hm1⟩ : ∃ n, n = y1.length := ⟨_, rfl⟩
  obtain ⟨m2, hm2⟩ : ∃ n, n = y2.length := ⟨_, rfl⟩
  have HN1 := Aside0.mk hn1
  have HN2 := Aside0.mk hn2
  have HM1 := Aside0.mk hm1
  have HM2 := Aside0.mk hm2
  rw [← hn1, ← hn2, ← hm1, ← hm2]
  clear hn1 hn2 hm1 hm2
  by_cases h0 : x0 = y0
  · subst h0
    have hb0 : (x0 == x0) = true := by simp
    obtain ⟨r1, hr1⟩ : ∃ r, r = decide (x1 = y1) := ⟨_, rfl⟩
    rw [← hr1] at HK
    have HR1 : Aside0 (r1 = true ↔ x1 = y1) := ⟨by rw [hr1]; simp⟩
    clear hr1
    have w2F : Aside0 True := ⟨trivial⟩
    cases r1 with
    | false =>
      have HNE : Aside0 (¬ x1 = y1) := ⟨by have := HR1.out; simpa using this⟩
      clear HR1
      go_enter Try.func59, Try.ntmps59
      go_wp2_with (first
        | ((with_reducible refine gate_dst (N := 2) rfl ?_); refine alloc_ev rfl (N := 2) rfl (cs := #[.bool x0, .slice A1 n1 c1, .slice A2 n2 c2]) (t := 47) HB ?hr2 ?_; (case hr2 => first | (go_simp; done) | (go_simp; rfl)); intro g2 w1 HG2 HGe2 HE1 HB1)
        | ((with_reducible refine gate_dst (N := 3) rfl ?_); refine alloc_ev rfl (N := 3) rfl (cs := #[.bool x0, .slice B1 m1 d1, .slice B2 m2 d2]) (t := 47) HB1 ?hr3 ?_; (case hr3 => first | (go_simp; done) | (go_simp; rfl)); intro g3 w2 HG3 HGe3 HE2 HB2; have HG2b := Aside0.mk (blk_below HG2.out HE2.out); have hcf2 := cf3 HG2b; have hcf3 := cf3 HG3))
      rw [HN1.out, HM1.out]
      refine (slices_Equal_byte_byte.calls k A1 c1 x1 B1 d1 y1 false w2 (Kd.C_below HC1.out HB2.out) Hc1.out (Kd.C_below HD1.out HB2.out) Hd1.out HK.out).mono ?_
      rintro e w3 ⟨rfl, hd3⟩
      have HB3 := Aside0.mk (below_step HB2.out hd3.below)
      clear hd3
      go_wp2_with fail
      go_ret
      exact ⟨false, rfl, ⟨fun h => (by cases h), fun h => (HNE.out (HEX.out.1 h).2.1).elim⟩, HB3.out⟩
    | true =>
      have HEQ : Aside0 (x1 = y1) := ⟨by have := HR1.out; simpa using this⟩
      clear HR1
      go_enter Try.func59, Try.ntmps59
      go_wp2_with (first
        | ((with_reducible refine gate_dst (N := 2) rfl ?_); refine alloc_ev rfl (N := 2) rfl (cs := #[.bool x0, .slice A1 n1 c1, .slice A2 n2 c2]) (t := 47) HB ?hr2 ?_; (case hr2 => first | (go_simp; done) | (go_simp; rfl)); intro g2 w1 HG2 HGe2 HE1 HB1)
        | ((with_reducible refine gate_dst (N := 3) rfl ?_); refine alloc_ev rfl (N := 3) rfl (cs := #[.bool x0, .slice B1 m1 d1, .slice B2 m2 d2]) (t := 47) HB1 ?hr3 ?_; (case hr3 => first | (go_simp; done) | (go_simp; rfl)); intro g3 w2 HG3 HGe3 HE2 HB2; have HG2b := Aside0.mk (blk_below HG2.out HE2.out); have hcf2 := cf3 HG2b; have hcf3 := cf3 HG3))
      rw [HN1.out, HM1.out]
      refine (slices_Equal_byte_byte.calls k A1 c1 x1 B1 d1 y1 true w2 (Kd.C_below HC1.out HB2.out) Hc1.out (Kd.C_below HD1.out HB2.out) Hd1.out HK.out).mono ?_
      rintro e w3 ⟨rfl, hd3⟩
      rw [← HN1.out, ← HM1.out]
      have HB3 := Aside0.mk (below_step HB2.out hd3.below)
      have hcf2b := cf3 ⟨blk_below HG2b.out hd3.below⟩
      have hcf3b := cf3 ⟨blk_below HG3.out hd3.below⟩
      clear hd3 hcf2 hcf3
      go_wp2_with fail
      rw [HN2.out, HM2.out]
      refine (HEF.out w3 (Kd.C_below HC2.out HB3.out) (Kd.C_below HD2.out HB3.out)).mono ?_
      rintro e w4 ⟨r, rfl, hr, hE4⟩
      rw [← HN2.out, ← HM2.out]
      have HB4 := Aside0.mk (below_step HB3.out hE4)
      have HR := Aside0.mk hr
      clear hE4 hr
      go_wp2_with fail
      go_ret
      exact ⟨r, rfl, ⟨fun h => HEX.out.2 ⟨trivial, HEQ.out, HR.out.1 h⟩, fun h => HR.out.2 (HEX.out.1 h).2.2⟩, HB4.out⟩
  · have hb0 : (x0 == y0) = false := by simpa using h0
    go_enter Try.func59, Try.ntmps59
    go_wp2_with (first
      | ((with_reducible refine gate_dst (N := 2) rfl ?_); refine alloc_ev rfl (N := 2) rfl (cs := #[.bool x0, .slice A1 n1 c1, .slice A2 n2 c2]) (t := 47) HB ?hr2 ?_; (case hr2 => first | (go_simp; done) | (go_simp; rfl)); intro g2 w1 HG2 HGe2 HE1 HB1)
      | ((with_reducible refine gate_dst (N := 3) rfl ?_); refine alloc_ev rfl (N := 3) rfl (cs := #[.bool y0, .slice B1 m1 d1, .slice B2 m2 d2]) (t := 47) HB1 ?hr3 ?_; (case hr3 => first | (go_simp; done) | (go_simp; rfl)); intro g3 w2 HG3 HGe3 HE2 HB2; have HG2b := Aside0.mk (blk_below HG2.out HE2.out); have hcf2 := cf3 HG2b; have hcf3 := cf3 HG3))
    go_ret
    exact ⟨false, rfl, ⟨fun h => (by cases h), fun h => (h0 (HEX.out.1 h).1).elim⟩, HB2.out⟩

theorem same_any : ∀ (s : Nat) (x : S47), SizeOf.sizeOf x ≤ s → ∀ (y : S47) (A1 A2 B1 B2 : Option Addr) (c1 c2 d1 d2 : Nat) (w : World), Kd.C (Kd.int .u8) w A1 x.f1.length x.f1 → x.f1.length ≤ c1 → Kd.C k47 w A2 x.f2.length x.f2 → x.f2.length ≤ c2 →
      Kd.C (Kd.int .u8) w B1 y.f1.length y.f1 → y.f1.length ≤ d1 → Kd.C k47 w B2 y.f2.length y.f2 → y.f2.length ≤ d2 →
      Calls Try.prog 59 #[.agg #[.bool x.f0, .slice A1 x.f1.length c1, .slice A2 x.f2.length c2], .agg #[.bool y.f0, .slice B1 y.f1.length d1, .slice B2 y.f2.length d2]] w (EqPost (x = y) w) := by
  intro s
  induction s with
  | zero => intro x hx; exfalso; cases x; simp at hx
  | succ s ih =>
    intro x hx y A1 A2 B1 B2 c1 c2 d1 d2 w h1 h2 h3 h4 h5 h6 h7 h8
    exact same_step x y A1 A2 B1 B2 c1 c2 d1 d2 w h1 h2 h3 h4 h5 h6 h7 h8 (fun z hz => ih z (by have := size_f2 x z hz; omega))
end Go.Proofs.Ytdjoekckhmggbaa.H

namespace Go.Proofs.Ytdjoekckhmggbaa.H
open Go.RowKit Go.Proofs.YtdjoekckhmggbaaW.PrintWords Go.Proofs.YtdjoekckhmggbaaW.PrintLast Go.Proofs.YtdjoekckhmggbaaW.PrintMore Go.Proofs.Ytdjoekckhmggbaa.PRF
attribute [local go_sem] max2_int min2_int max_two min_two max_three min_three max_four min_four
set_option linter.unusedVariables false
set_option linter.unusedSimpArgs false

set_option maxHeartbeats 4000000 in
set_option maxRecDepth 100000 in
/-- rlp.Same -/
theorem rlpsame_any (x y : S47) (A1 A2 B1 B2 : Option Addr) (c1 c2 d1 d2 : Nat) (w : World)
    (hC1 : Kd.C (Kd.int .u8) w A1 x.f1.length x.f1) (hc1 : x.f1.length ≤ c1) (hC2 : Kd.C k47 w A2 x.f2.length x.f2) (hc2 : x.f2.length ≤ c2)
    (hD1 : Kd.C (Kd.int .u8) w B1 y.f1.length y.f1) (hd1 : y.f1.length ≤ d1) (hD2 : Kd.C k47 w B2 y.f2.length y.f2) (hd2 : y.f2.length ≤ d2) :
    Calls Try.prog 37 #[.agg #[.bool x.f0, .slice A1 x.f1.length c1, .slice A2 x.f2.length c2], .agg #[.bool y.f0, .slice B1 y.f1.length d1, .slice B2 y.f2.length d2]] w
      (EqPost (vP 16 65536 x = true ∧ vP 16 65536 y = true ∧ x = y) w) := by
  have HEF := Aside0.mk (fun w' h1 h3 h5 h7 => same_any _ x (Nat.le_refl _) y A1 A2 B1 B2 c1 c2 d1 d2 w' h1 hc1 h3 hc2 h5 hd1 h7 hd2)
  obtain ⟨K, hK⟩ := may_spec x
  obtain ⟨K2, hK2⟩ := may_spec y
  have HX := Aside0.mk (hK K (Nat.le_refl _))
  have HY := Aside0.mk (hK2 K2 (Nat.le_refl _))
  have HB := Aside0.mk (Below.refl w.heap.size w)
  have HC1 := Aside0.mk hC1
  have HC2 := Aside0.mk hC2
  have HD1 := Aside0.mk hD1
  have HD2 := Aside0.mk hD2
  have Hc1 := Aside0.mk hc1
  have Hd1 := Aside0.mk hd1
  have Hc2 := Aside0.mk hc2
  have Hd2 := Aside0.mk hd2
  clear hK hK2 hC1 hC2 hD1 hD2 hc1 hc2 hd1 hd2
  obtain ⟨vx, hvx⟩ : ∃ v, v = vP 16 65536 x := ⟨_, rfl⟩
  obtain ⟨vy, hvy⟩ : ∃ v, v = vP 16 65536 y := ⟨_, rfl⟩
  rw [← hvx, ← hvy]
  rw [← hvx] at HX
  rw [← hvy] at HY
  clear hvx hvy
  obtain ⟨x0, x1, x2⟩ := x
  obtain ⟨y0, y1, y2⟩ := y
  simp only at *
  generalize ((⟨x0, x1, x2⟩ : S47) = ⟨y0, y1, y2⟩) = EX at *
  obtain ⟨n1, hn1⟩ : ∃ n, n = x1.length := ⟨_, rfl⟩
  obtain ⟨n2, hn2⟩ : ∃ n, n = x2.length := ⟨_, rfl⟩
  obtain ⟨m1, hm1⟩ : ∃ n, n = y1.length := ⟨_, rfl⟩
  obtain ⟨m2, hm2⟩ : ∃ n, n = y2.length := ⟨_, rfl⟩
  have HN1 := Aside0.mk hn1
  have HN2 := Aside0.mk hn2
  have HM1 := Aside0.mk hm1
  have HM2 := Aside0.mk hm2
  rw [← hn1, ← hn2, ← hm1, ← hm2]
  clear hn1 hn2 hm1 hm2
  cases vx with
  | false =>
    go_enter Try.func37, Try.ntmps37
    go_wp2_with (first
      | ((with_reducible refine gate_dst (N := 2) rfl ?_); refine alloc_ev rfl (N := 2) rfl (cs := #[.bool x0, .slice A1 n1 c1, .slice A2 n2 c2]) (t := 47) HB ?hr2 ?_; (case hr2 => first | (go_simp; done) | (go_simp; rfl)); intro g2 w1 HG2 HGe2 HE1 HB1)
      | ((with_reducible refine gate_dst (N := 3) rfl ?_); refine alloc_ev rfl (N := 3) rfl (cs := #[.bool y0, .slice B1 m1 d1, .slice B2 m2 d2]) (t := 47) HB1 ?hr3 ?_; (case hr3 => first | (go_simp; done) | (go_simp; rfl)); intro g3 w2 HG3 HGe3 HE2 HB2; have HG2b := Aside0.mk (blk_below HG2.out HE2.out); have hcf2 := cf3 HG2b; have hcf3 := cf3 HG3))
    rw [HN1.out, HN2.out]
    refine (rlp_May.calls K x0 A1 c1 x1 A2 c2 x2 false _ (Kd.C_below HC1.out HB2.out) Hc1.out (Kd.C_below HC2.out HB2.out) Hc2.out HX.out).mono ?_
    rintro e w3 ⟨rfl, hE3⟩
    have HB3 := Aside0.mk (below_step HB2.out hE3)
    clear hE3
    go_wp2_with fail
    go_ret
    exact ⟨false, rfl, by simp, HB3.out⟩
  | true =>
    go_enter Try.func37, Try.ntmps37
    go_wp2_with (first
      | ((with_reducible refine gate_dst (N := 2) rfl ?_); refine alloc_ev rfl (N := 2) rfl (cs := #[.bool x0, .slice A1 n1 c1, .slice A2 n2 c2]) (t := 47) HB ?hr2 ?_; (case hr2 => first | (go_simp; done) | (go_simp; rfl)); intro g2 w1 HG2 HGe2 HE1 HB1)
      | ((with_reducible refine gate_dst (N := 3) rfl ?_); refine alloc_ev rfl (N := 3) rfl (cs := #[.bool y0, .slice B1 m1 d1, .slice B2 m2 d2]) (t := 47) HB1 ?hr3 ?_; (case hr3 => first | (go_simp; done) | (go_simp; rfl)); intro g3 w2 HG3 HGe3 HE2 HB2; have HG2b := Aside0.mk (blk_below HG2.out HE2.out); have hcf2 := cf3 HG2b; have hcf3 := cf3 HG3))
    rw [HN1.out, HN2.out]
    refine (rlp_May.calls K x0 A1 c1 x1 A2 c2 x2 true _ (Kd.C_below HC1.out HB2.out) Hc1.out (Kd.C_below HC2.out HB2.out) Hc2.out HX.out).mono ?_
    rintro e w3 ⟨rfl, hE3⟩
    rw [← HN1.out, ← HN2.out]
    have HB3 := Aside0.mk (below_step HB2.out hE3)
    have HG4 := Aside0.mk (blk_below HG2b.out hE3)
    have HG5 := Aside0.mk (blk_below HG3.out hE3)
    have hcf4 := cf3 HG4
    have hcf5 := cf3 HG5
    clear hE3 hcf2 hcf3
    go_wp2_with fail
    rw [HM1.out, HM2.out]
    cases vy with
    | false =>
      refine (rlp_May.calls K2 y0 B1 d1 y1 B2 d2 y2 false _ (Kd.C_below HD1.out HB3.out) Hd1.out (Kd.C_below HD2.out HB3.out) Hd2.out HY.out).mono ?_
      rintro e w4 ⟨rfl, hE4⟩
      have HB4 := Aside0.mk (below_step HB3.out hE4)
      clear hE4
      go_wp2_with fail
      go_ret
      exact ⟨false, rfl, by simp, HB4.out⟩
    | true =>
      refine (rlp_May.calls K2 y0 B1 d1 y1 B2 d2 y2 true _ (Kd.C_below HD1.out HB3.out) Hd1.out (Kd.C_below HD2.out HB3.out) Hd2.out HY.out).mono ?_
      rintro e w4 ⟨rfl, hE4⟩
      rw [← HM1.out, ← HM2.out]
      have HB4 := Aside0.mk (below_step HB3.out hE4)
      have hcf6 := cf3 ⟨blk_below HG4.out hE4⟩
      have hcf7 := cf3 ⟨blk_below HG5.out hE4⟩
      clear hE4 hcf4 hcf5
      go_wp2_with fail
      rw [HM1.out, HM2.out, HN1.out, HN2.out]
      refine (HEF.out w4 (Kd.C_below HC1.out HB4.out) (Kd.C_below HC2.out HB4.out) (Kd.C_below HD1.out HB4.out) (Kd.C_below HD2.out HB4.out)).mono ?_
      rintro e w5 ⟨r, rfl, hr, hE5⟩
      have HB5 := Aside0.mk (below_step HB4.out hE5)
      have HR := Aside0.mk hr
      clear hE5 hr
      go_wp2_with fail
      go_ret
      exact ⟨r, rfl, by have := HR.out; simpa using this, HB5.out⟩
end Go.Proofs.Ytdjoekckhmggbaa.H

namespace Go.Proofs.Ytdjoekckhmggbaa.H
open Go.RowKit Go.Proofs.YtdjoekckhmggbaaW.PrintWords Go.Proofs.YtdjoekckhmggbaaW.PrintLast Go.Proofs.YtdjoekckhmggbaaW.PrintMore Go.Proofs.Ytdjoekckhmggbaa.PRF
attribute [local go_sem] max2_int min2_int max_two min_two max_three min_three max_four min_four
set_option linter.unusedVariables false
set_option linter.unusedSimpArgs false

/-- rlp.Same, its answer as a Bool -/
theorem rlpsame_bool (x y : S47) (hx : BytI x) (hy : BytI y) (A1 A2 B1 B2 : Option Addr) (c1 c2 d1 d2 : Nat) (w : World)
    (hC1 : Kd.C (Kd.int .u8) w A1 x.f1.length x.f1) (hc1 : x.f1.length ≤ c1) (hC2 : Kd.C k47 w A2 x.f2.length x.f2) (hc2 : x.f2.length ≤ c2)
    (hD1 : Kd.C (Kd.int .u8) w B1 y.f1.length y.f1) (hd1 : y.f1.length ≤ d1) (hD2 : Kd.C k47 w B2 y.f2.length y.f2) (hd2 : y.f2.length ≤ d2) :
    Calls Try.prog 37 #[.agg #[.bool x.f0, .slice A1 x.f1.length c1, .slice A2 x.f2.length c2], .agg #[.bool y.f0, .slice B1 y.f1.length d1, .slice B2 y.f2.length d2]] w
      fun e w' => e = .returned (.bool (sameP x y)) ∧ Below w.heap.size w w' := by
  refine (rlpsame_any x y A1 A2 B1 B2 c1 c2 d1 d2 w hC1 hc1 hC2 hc2 hD1 hd1 hD2 hd2).mono ?_
  rintro e w' ⟨r, rfl, hr, hb⟩
  refine ⟨?_, hb⟩
  have : r = sameP x y := by
    rw [Bool.eq_iff_iff, hr]
    unfold sameP
    simp only [Bool.and_eq_true, decide_eq_true_eq, and_assoc]
    constructor
    · rintro ⟨h1, h2, rfl⟩; exact ⟨h1, h2, rfl⟩
    · rintro ⟨h1, h2, h3⟩; exact ⟨h1, h2, form_inj x y hx hy h1 h2 h3⟩
  rw [this]

set_option maxHeartbeats 4000000 in
set_option maxRecDepth 100000 in
theorem encodes_law (x y : S47) (hx : BytI x) (hy : BytI y) (A1 A2 B1 B2 : Option Addr) (c1 c2 d1 d2 : Nat) (w : World)
    (hC1 : Kd.C (Kd.int .u8) w A1 x.f1.length x.f1) (hc1 : x.f1.length ≤ c1) (hC2 : Kd.C k47 w A2 x.f2.length x.f2) (hc2 : x.f2.length ≤ c2)
    (hD1 : Kd.C (Kd.int .u8) w B1 y.f1.length y.f1) (hd1 : y.f1.length ≤ d1) (hD2 : Kd.C k47 w B2 y.f2.length y.f2) (hd2 : y.f2.length ≤ d2) :
    Calls Try.prog 10 #[.agg #[.bool x.f0, .slice A1 x.f1.length c1, .slice A2 x.f2.length c2], .agg #[.bool y.f0, .slice B1 y.f1.length d1, .slice B2 y.f2.length d2]] w
      fun e w' => e = .returned (.bool true) ∧ Below w.heap.size w w' := by
  have HS1 := Aside0.mk (fun w' h1 h3 h5 h7 => rlpsame_bool x y hx hy A1 A2 B1 B2 c1 c2 d1 d2 w' h1 hc1 h3 hc2 h5 hd1 h7 hd2)
  obtain ⟨K0, hK0⟩ := rsame_spec x y hx hy
  have HS2 := Aside0.mk (fun w' h1 h3 h5 h7 => proctorref02_Same.calls K0 x.f0 A1 c1 x.f1 A2 c2 x.f2 y.f0 B1 d1 y.f1 B2 d2 y.f2 _ w' h1 hc1 h3 hc2 h5 hd1 h7 hd2 (hK0 K0 (Nat.le_refl _)))
  obtain ⟨K1, hK1⟩ := may_spec x
  have HM1 := Aside0.mk (fun w' h1 h3 => rlp_May.calls K1 x.f0 A1 c1 x.f1 A2 c2 x.f2 _ w' h1 hc1 h3 hc2 (hK1 K1 (Nat.le_refl _)))
  obtain ⟨K2, hK2⟩ := rmay_spec x
  have HM2 := Aside0.mk (fun w' h1 h3 => proctorref02_May.calls K2 x.f0 A1 c1 x.f1 A2 c2 x.f2 _ w' h1 hc1 h3 hc2 (hK2 K2 (Nat.le_refl _)))
  have HE1 := Aside0.mk (fun w' h1 h3 => encode_any x A1 A2 c1 c2 w' h1 hc1 h3 hc2)
  obtain ⟨K3, hK3⟩ := renc_spec x
  have HE2 := Aside0.mk (fun w' h1 h3 => proctorref02_Encode.calls K3 x.f0 A1 c1 x.f1 A2 c2 x.f2 (encP x).1 (encP x).2 w' h1 hc1 h3 hc2 (hK3 K3 (Nat.le_refl _)))
  have HB := Aside0.mk (Below.refl w.heap.size w)
  have HC1 := Aside0.mk hC1
  have HC2 := Aside0.mk hC2
  have HD1 := Aside0.mk hD1
  have HD2 := Aside0.mk hD2
  clear hK0 hK1 hK2 hK3 hC1 hC2 hD1 hD2 hc1 hc2 hd1 hd2 hx hy
  generalize sameP x y = sb at *
  generalize vP 16 65536 x = vb at *
  generalize encP x = en at *
  obtain ⟨eb, ee⟩ := en
  obtain ⟨x0, x1, x2⟩ := x
  obtain ⟨y0, y1, y2⟩ := y
  simp only at *
  obtain ⟨n1, hn1⟩ : ∃ n, n = x1.length := ⟨_, rfl⟩
  obtain ⟨n2, hn2⟩ : ∃ n, n = x2.length := ⟨_, rfl⟩
  obtain ⟨m1, hm1⟩ : ∃ n, n = y1.length := ⟨_, rfl⟩
  obtain ⟨m2, hm2⟩ : ∃ n, n = y2.length := ⟨_, rfl⟩
  rw [← hn1] at HC1
  rw [← hn2] at HC2
  rw [← hm1] at HD1
  rw [← hm2] at HD2
  rw [← hn1, ← hn2] at HE1 HE2 HM1 HM2
  rw [← hn1, ← hn2, ← hm1, ← hm2] at HS1 HS2 ⊢
  clear hn1 hn2 hm1 hm2
  go_enter Try.func10, Try.ntmps10
  go_wp2_with (first
    | ((with_reducible refine gate_dst (N := 2) rfl ?_); refine alloc_ev rfl (N := 2) rfl (cs := #[.bool x0, .slice A1 n1 c1, .slice A2 n2 c2]) (t := 47) HB ?hr2 ?_; (case hr2 => first | (go_simp; done) | (go_simp; rfl)); intro g2 w1 HG2 HGe2 HE1' HB1)
    | ((with_reducible refine gate_dst (N := 3) rfl ?_); refine alloc_ev rfl (N := 3) rfl (cs := #[.bool y0, .slice B1 m1 d1, .slice B2 m2 d2]) (t := 47) HB1 ?hr3 ?_; (case hr3 => first | (go_simp; done) | (go_simp; rfl)); intro g3 w2 HG3 HGe3 HE2' HB2; have HG2b := Aside0.mk (blk_below HG2.out HE2'.out); have hcf2 := cf3 HG2b; have hcf3 := cf3 HG3))
  refine (HE1.out _ (Kd.C_below HC1.out HB2.out) (Kd.C_below HC2.out HB2.out)).mono ?_
  rintro e w3 ⟨v3, rfl, hR3, hE3⟩
  obtain ⟨A3, n3, c3, rfl, hn3⟩ := R_shape hR3
  have HR3 := Aside0.mk (Kd.R_reads' hR3)
  have HB3 := Aside0.mk (below_step HB2.out hE3)
  have HG4 := Aside0.mk (blk_below HG2b.out hE3)
  have HG5 := Aside0.mk (blk_below HG3.out hE3)
  have hcf4 := cf3 HG4
  clear hE3 hcf2 hcf3 hR3 hn3
  go_wp2_with fail
  refine (HE2.out _ (Kd.C_below HC1.out HB3.out) (Kd.C_below HC2.out HB3.out)).mono ?_
  rintro e w4 ⟨v4, rfl, hR4, hE4⟩
  obtain ⟨A4, n4, c4, rfl, hn4⟩ := R_shape hR4
  have HR4 := Aside0.mk (Kd.R_reads' hR4)
  have HR3b := Aside0.mk (Kd.C_below HR3.out.2.2 hE4)
  have HB4 := Aside0.mk (below_step HB3.out hE4)
  have HG6 := Aside0.mk (blk_below HG4.out hE4)
  have HG7 := Aside0.mk (blk_below HG5.out hE4)
  have hcf6 := cf3 HG6
  have hcf7 := cf3 HG7
  clear hE4 hcf4 hR4 hn4
  go_wp2_with fail
  have HS3 : Aside0 (∀ w', Kd.C (Kd.int .u8) w' A3 eb.length eb → Kd.C (Kd.int .u8) w' A4 eb.length eb → Calls Try.prog 18 #[.slice A3 n3 c3, .slice A4 n4 c4] w' fun e w'' => e = .returned (.bool true) ∧ Drawn0 w' w'') := ⟨fun w' h1 h2 => by
    have l1 := HR3.out.1
    have l2 := HR4.out.1
    have l3 := HR3.out.2.1
    have l4 := HR4.out.2.1
    subst l1 l2
    exact proctorref01_Same.calls A3 c3 eb A4 c4 eb true w' h1 l3 h2 l4 (by unfold proctorref01_Same.f; simp)⟩
  obtain ⟨T, hTdef⟩ : ∃ T : World → Prop, T = fun W' => Below w4.heap.size w4 W' := ⟨_, rfl⟩
  have HS := Aside0.mk (show ∀ W', T W' → Below w4.heap.size w4 W' by intro W' h; rw [hTdef] at h; exact h)
  have HSb := Aside0.mk (show ∀ W', Below w4.heap.size w4 W' → T W' by intro W' h; rw [hTdef]; exact h)
  have HK := Aside0.mk (show ∀ W', T W' → (T W' ∧ W'.cell? ⟨g2, 0, none⟩ = some (.bool x0) ∧ W'.cell? ⟨g2, 1, none⟩ = some (.slice A1 n1 c1) ∧ W'.cell? ⟨g2, 2, none⟩ = some (.slice A2 n2 c2) ∧ W'.cell? ⟨g3, 0, none⟩ = some (.bool y0) ∧ W'.cell? ⟨g3, 1, none⟩ = some (.slice B1 m1 d1) ∧ W'.cell? ⟨g3, 2, none⟩ = some (.slice B2 m2 d2)) from fun W' h => by
    have h2 := cf3 ⟨blk_below HG6.out (HS.out W' h)⟩
    have h3 := cf3 ⟨blk_below HG7.out (HS.out W' h)⟩
    exact ⟨h, h2.1, h2.2.1, h2.2.2.1, h3.1, h3.2.1, h3.2.2.1⟩)
  have TS := Aside0.mk (show ∀ W', (T W' ∧ W'.cell? ⟨g2, 0, none⟩ = some (.bool x0) ∧ W'.cell? ⟨g2, 1, none⟩ = some (.slice A1 n1 c1) ∧ W'.cell? ⟨g2, 2, none⟩ = some (.slice A2 n2 c2) ∧ W'.cell? ⟨g3, 0, none⟩ = some (.bool y0) ∧ W'.cell? ⟨g3, 1, none⟩ = some (.slice B1 m1 d1) ∧ W'.cell? ⟨g3, 2, none⟩ = some (.slice B2 m2 d2)) → T W' from fun W' h => h.1)
  have HSC1 := Aside0.mk (fun W' (h : T W') => Kd.C_below (Kd.C_below HC1.out HB4.out) (HS.out W' h))
  have HSC2 := Aside0.mk (fun W' (h : T W') => Kd.C_below (Kd.C_below HC2.out HB4.out) (HS.out W' h))
  have HSD1 := Aside0.mk (fun W' (h : T W') => Kd.C_below (Kd.C_below HD1.out HB4.out) (HS.out W' h))
  have HSD2 := Aside0.mk (fun W' (h : T W') => Kd.C_below (Kd.C_below HD2.out HB4.out) (HS.out W' h))
  have HSR3 := Aside0.mk (fun W' (h : T W') => Kd.C_below HR3b.out (HS.out W' h))
  have HSR4 := Aside0.mk (fun W' (h : T W') => Kd.C_below HR4.out.2.2 (HS.out W' h))
  have HSe := Aside0.mk (fun W' W'' (h : T W') (hb : Below W'.heap.size W' W'') => HSb.out W'' (below_step (HS.out W' h) hb))
  have hS0 : T w4.drew := HSb.out _ (below_drew (Below.refl _ _))
  clear hTdef hcf6 hcf7
  go_region_held3 (fun W' => T W' ∧ W'.cell? ⟨g2, 0, none⟩ = some (.bool x0) ∧ W'.cell? ⟨g2, 1, none⟩ = some (.slice A1 n1 c1) ∧ W'.cell? ⟨g2, 2, none⟩ = some (.slice A2 n2 c2) ∧ W'.cell? ⟨g3, 0, none⟩ = some (.bool y0) ∧ W'.cell? ⟨g3, 1, none⟩ = some (.slice B1 m1 d1) ∧ W'.cell? ⟨g3, 2, none⟩ = some (.slice B2 m2 d2)) (exact HK.out _ (by assumption)) (first
    | (go_at_call 34; have hT := TS.out _ (by assumption); refine (HM1.out _ (HSC1.out _ hT) (HSC2.out _ hT)).mono ?_; rintro e w' ⟨rfl, hE⟩; have hSn := HSe.out _ _ hT hE; clear hE hT)
    | (go_at_call 36; have hT := TS.out _ (by assumption); refine (HM2.out _ (HSC1.out _ hT) (HSC2.out _ hT)).mono ?_; rintro e w' ⟨rfl, hE⟩; have hSn := HSe.out _ _ hT hE; clear hE hT)
    | (go_at_call 37; have hT := TS.out _ (by assumption); refine (HS1.out _ (HSC1.out _ hT) (HSC2.out _ hT) (HSD1.out _ hT) (HSD2.out _ hT)).mono ?_; rintro e w' ⟨rfl, hE⟩; have hSn := HSe.out _ _ hT hE; clear hE hT)
    | (go_at_call 25; have hT := TS.out _ (by assumption); refine (HS2.out _ (HSC1.out _ hT) (HSC2.out _ hT) (HSD1.out _ hT) (HSD2.out _ hT)).mono ?_; rintro e w' ⟨rfl, hE⟩; have hSn := HSe.out _ _ hT hE; clear hE hT)
    | (go_at_call 18; have hT := TS.out _ (by assumption); refine (HS3.out _ (HSR3.out _ hT) (HSR4.out _ hT)).mono ?_; rintro e w' ⟨rfl, hE⟩; have hSn := HSe.out _ _ hT hE.below; clear hE hT)
    | (go_at_call 27; have hT := TS.out _ (by assumption); refine (anchored2 _).mono ?_; rintro e w' ⟨rfl, hE⟩; have hSn := HSe.out _ _ hT hE; clear hE hT))
  all_goals
    go_wp2
    go_ret
    exact ⟨rfl, below_step HB4.out (HS.out _ (TS.out _ (by assumption)))⟩
end Go.Proofs.Ytdjoekckhmggbaa.H
