import Derived.Test.YtocphkfkdadhaaaZPk15
import Derived.Lib.Strings
import Derived.Lib.Slices
import Derived.Lib.Walk
import Derived.Lib.Bytes
import Derived.Test.YtocphkfkdadhaaaZPk13
import Derived.Test.YtocphkfkdadhaaaZPk12
import Derived.Test.YtocphkfkdadhaaaZPk14
import Derived.Test.YtocphkfkdadhaaaZPk2
import Derived.Test.YtocphkfkdadhaaaZPk11
namespace Go.Proofs.Ytocphkfkdadhaaa.H
open Go.RowKit Go.Proofs.YtocphkfkdadhaaaW.PrintWords Go.Proofs.YtocphkfkdadhaaaW.PrintLast Go.Proofs.YtocphkfkdadhaaaW.PrintMore
set_option linter.unusedVariables false
set_option linter.unusedSimpArgs false
theorem bytesOf_eq : ∀ (xs ys : List Int), (∀ x ∈ xs, 0 ≤ x ∧ x ≤ 255) → (∀ x ∈ ys, 0 ≤ x ∧ x ≤ 255) → (Lib.bytesOf xs == Lib.bytesOf ys) = (xs == ys)
 | [], [], _, _ => rfl
 | [], y :: ys, _, _ => rfl
 | x :: xs, [], _, _ => rfl
 | x :: xs, y :: ys, h1, h2 => by
  have ih := bytesOf_eq xs ys (fun z hz => h1 z (List.mem_cons_of_mem _ hz)) (fun z hz => h2 z (List.mem_cons_of_mem _ hz))
  have hx := h1 x (by simp)
  have hy := h2 y (by simp)
  show ((_ :: Lib.bytesOf xs) == (_ :: Lib.bytesOf ys)) = _
  rw [List.cons_beq_cons, List.cons_beq_cons, ih]
  congr 1
  rw [Bool.eq_iff_iff, beq_iff_eq, beq_iff_eq]
  constructor
  ·intro h
   have h3 := congrArg UInt8.toNat h
   rw [UInt8.toNat_ofNat', UInt8.toNat_ofNat'] at h3
   omega
  ·rintro rfl
   rfl
set_option maxHeartbeats 1000000 in
theorem bequal_any (xs ys : List Int) (A1 A2 : Option Addr) (c1 c2 : Nat) (w : World) (h1 : Kd.C kB w A1 xs.length xs) (h2 : Kd.C kB w A2 ys.length ys) (hx : ∀ x ∈ xs, 0 ≤ x ∧ x ≤ 255) (hy : ∀ x ∈ ys, 0 ≤ x ∧ x ≤ 255) :
 Calls Try.prog 97 #[.slice A1 xs.length c1, .slice A2 ys.length c2] w fun e w' => e = .returned (.bool (xs == ys)) ∧ w' = w := by
 have g1 := Kd.C_string (P := Try.prog) (src := 74) (dst := 9) (c := c1) Try.underlying74 Try.underlying5 Try.underlying9 h1
 have g2 := Kd.C_string (P := Try.prog) (src := 74) (dst := 9) (c := c2) Try.underlying74 Try.underlying5 Try.underlying9 h2
 rw [← bytesOf_eq xs ys hx hy, ← Lib.strOfNums_toList, ← Lib.strOfNums_toList]
 clear h1 h2 hx hy
 generalize xs.length = n1 at *
 generalize ys.length = n2 at *
 go_enter Try.func97, Try.ntmps97
 go_wp2
 go_ret
 exact ⟨rfl, rfl⟩
def eqL {α : Type} (f : α → α → Bool) : List α → List α → Bool
 | [], [] => true
 | a :: r, b :: s => f a b && eqL f r s
 | _, _ => false
theorem eqL_len {α : Type} (f : α → α → Bool) : ∀ (a b : List α), a.length ≠ b.length → eqL f a b = false
 | [], [], h => absurd rfl h
 | [], _ :: _, _ => rfl
 | _ :: _, [], _ => rfl
 | _ :: a, _ :: b, h => by rw [eqL, eqL_len f a b (fun e => h (by simp [e])), Bool.and_false]
theorem eqL_refl {α : Type} {f : α → α → Bool} (hf : ∀ x, f x x = true) : ∀ l : List α, eqL f l l = true
 | [] => rfl
 | x :: l => by rw [eqL, hf, eqL_refl hf l]; rfl
theorem eqL_drop {α : Type} (f : α → α → Bool) (a b : List α) (i : Nat) (ha : i < a.length) (hb : i < b.length) : eqL f (a.drop i) (b.drop i) = (f a[i] b[i] && eqL f (a.drop (i + 1)) (b.drop (i + 1))) := by
 rw [List.drop_eq_getElem_cons ha, List.drop_eq_getElem_cons hb]; rfl
def eqD (a b : SQ) : Bool := (a.f0 == b.f0) && (a.f1 == b.f1)
set_option maxHeartbeats 4000000 in
set_option maxRecDepth 100000 in
theorem dsame_any (a b : SQ) (A1 A2 : Option Addr) (c1 c2 : Nat) (w : World) (h1 : Kd.C kB w A1 a.f1.length a.f1) (h2 : Kd.C kB w A2 b.f1.length b.f1) (hx : ∀ x ∈ a.f1, 0 ≤ x ∧ x ≤ 255) (hy : ∀ x ∈ b.f1, 0 ≤ x ∧ x ≤ 255) :
 Calls Try.prog 96 #[.agg #[.int .i64 a.f0, .slice A1 a.f1.length c1], .agg #[.int .i64 b.f0, .slice A2 b.f1.length c2]] w fun e w' => e = .returned (.bool (eqD a b)) ∧ Below w.heap.size w w' := by
 have H0 := Aside0.mk (Own.start w)
 have HE := Aside0.mk (fun W (h : Below w.heap.size w W) => bequal_any a.f1 b.f1 A1 A2 c1 c2 W (Kd.C_below h1 h) (Kd.C_below h2 h) hx hy)
 have hr : eqD a b = ((a.f0 == b.f0) && (a.f1 == b.f1)) := rfl
 rw [hr]
 clear h1 h2 hx hy hr
 generalize (a.f1 == b.f1) = eb at *
 generalize a.f1.length = n1 at *
 generalize b.f1.length = n2 at *
 generalize a.f0 = x at *
 generalize b.f0 = y at *
 cases h : (x == y)
 ·
  go_enter Try.func96, Try.ntmps96
  go_wp2_with (first
   | fail
   | ((with_reducible refine gate_dst (N := 2) rfl ?_); refine own_box H0.out rfl (N := 2) rfl (t := 78) rfl (.agg #[.int .i64 x, .slice A1 n1 c1]) rfl ?_; intro g2 w1 H1 B1; replace H1 := Aside0.mk H1; replace B1 := Aside0.mk B1)
   | ((with_reducible refine gate_dst (N := 3) rfl ?_); refine own_box H1.out rfl (N := 3) rfl (t := 78) rfl (.agg #[.int .i64 y, .slice A2 n2 c2]) rfl ?_; intro g3 w2 H2 B2; replace H2 := Aside0.mk H2; replace B2 := Aside0.mk B2)
   | ((with_reducible refine gate_dst (N := 6) rfl ?_); ( refine own_ld1 H2.out 1 g2 _ _ rfl rfl 3 (.tmp 5) rfl 0 (.int .i64 x) _ rfl rfl Try.underlying3 rfl ?_))
   | ((with_reducible refine gate_dst (N := 8) rfl ?_); ( refine own_ld1 H2.out 0 g3 _ _ rfl rfl 3 (.tmp 7) rfl 0 (.int .i64 y) _ rfl rfl Try.underlying3 rfl ?_))
   | ((with_reducible refine gate_dst (N := 12) rfl ?_); (refine gate_guard (by rfl) ?_); ( refine own_ld1 H2.out 1 g2 _ _ rfl rfl 74 (.tmp 11) rfl 1 (.slice A1 n1 c1) _ rfl rfl Try.underlying74 rfl ?_))
   | ((with_reducible refine gate_dst (N := 14) rfl ?_); (refine gate_guard (by rfl) ?_); ( refine own_ld1 H2.out 0 g3 _ _ rfl rfl 74 (.tmp 13) rfl 1 (.slice A2 n2 c2) _ rfl rfl Try.underlying74 rfl ?_))
   | (go_at_call 97; ( refine (HE.out _ H2.out.below).mono ?_; rintro e w3 ⟨rfl, rfl⟩))
   )
  go_ret
  exact ⟨by simp [h], H2.out.below⟩
 ·
  go_enter Try.func96, Try.ntmps96
  go_wp2_with (first
   | fail
   | ((with_reducible refine gate_dst (N := 2) rfl ?_); refine own_box H0.out rfl (N := 2) rfl (t := 78) rfl (.agg #[.int .i64 x, .slice A1 n1 c1]) rfl ?_; intro g2 w1 H1 B1; replace H1 := Aside0.mk H1; replace B1 := Aside0.mk B1)
   | ((with_reducible refine gate_dst (N := 3) rfl ?_); refine own_box H1.out rfl (N := 3) rfl (t := 78) rfl (.agg #[.int .i64 y, .slice A2 n2 c2]) rfl ?_; intro g3 w2 H2 B2; replace H2 := Aside0.mk H2; replace B2 := Aside0.mk B2)
   | ((with_reducible refine gate_dst (N := 6) rfl ?_); ( refine own_ld1 H2.out 1 g2 _ _ rfl rfl 3 (.tmp 5) rfl 0 (.int .i64 x) _ rfl rfl Try.underlying3 rfl ?_))
   | ((with_reducible refine gate_dst (N := 8) rfl ?_); ( refine own_ld1 H2.out 0 g3 _ _ rfl rfl 3 (.tmp 7) rfl 0 (.int .i64 y) _ rfl rfl Try.underlying3 rfl ?_))
   | ((with_reducible refine gate_dst (N := 12) rfl ?_); (refine gate_guard (by rfl) ?_); ( refine own_ld1 H2.out 1 g2 _ _ rfl rfl 74 (.tmp 11) rfl 1 (.slice A1 n1 c1) _ rfl rfl Try.underlying74 rfl ?_))
   | ((with_reducible refine gate_dst (N := 14) rfl ?_); (refine gate_guard (by rfl) ?_); ( refine own_ld1 H2.out 0 g3 _ _ rfl rfl 74 (.tmp 13) rfl 1 (.slice A2 n2 c2) _ rfl rfl Try.underlying74 rfl ?_))
   | (go_at_call 97; ( refine (HE.out _ H2.out.below).mono ?_; rintro e w3 ⟨rfl, rfl⟩))
   )
  go_ret
  exact ⟨by simp [h], H2.out.below⟩
set_option maxHeartbeats 4000000 in
set_option maxRecDepth 100000 in
theorem eqfQ_any (l1 l2 : List SQ) (A1 A2 : Option Addr) (c1 c2 : Nat) (w : World) (h1 : Kd.C kQ w A1 l1.length l1) (h2 : Kd.C kQ w A2 l2.length l2) (hx : ∀ d ∈ l1, ∀ x ∈ d.f1, 0 ≤ x ∧ x ≤ 255) (hy : ∀ d ∈ l2, ∀ x ∈ d.f1, 0 ≤ x ∧ x ≤ 255) (hm : l1.length ≤ 9223372036854775807) :
 Calls Try.prog 98 #[.slice A1 l1.length c1, .slice A2 l2.length c2, .func (.func 96) #[] #[]] w fun e w' => e = .returned (.bool (eqL eqD l1 l2)) ∧ Below w.heap.size w w' := by
 have H0 := Aside0.mk (Own.start w)
 have HC1 := Aside0.mk h1
 have HC2 := Aside0.mk h2
 have HX := Aside0.mk hx
 have HY := Aside0.mk hy
 obtain ⟨r, hr⟩ : ∃ r, r = eqL eqD l1 l2 := ⟨_, rfl⟩
 rw [← hr]
 have HR := Aside0.mk hr
 clear h1 h2 hx hy hr
 obtain ⟨n, hn⟩ : ∃ n, n = l1.length := ⟨_, rfl⟩
 obtain ⟨m, hm2⟩ : ∃ m, m = l2.length := ⟨_, rfl⟩
 have HN := Aside0.mk hn
 have HM := Aside0.mk hm2
 rw [← hn] at HC1 hm ⊢
 rw [← hm2] at HC2 ⊢
 clear hn hm2
 by_cases hl : n = m
 case neg =>
  have hd : ((n : Int) != (m : Int)) = true := by simp; omega
  obtain rfl : r = false := by rw [HR.out]; exact eqL_len _ _ _ (by rw [← HN.out, ← HM.out]; exact hl)
  clear HR hl
  go_enter Try.func98, Try.ntmps98
  go_wp2_with fail
  go_ret
  exact ⟨rfl, Below.refl _ _⟩
 obtain rfl : m = n := hl.symm
 go_enter Try.func98, Try.ntmps98
 go_wp2_with fail
 have HZD : Aside0 (Arr 2 #[.int .i64 0, .slice none 0 0]) := ⟨rfl, by simp [Value.oneCell']⟩
 go_loopw [17] (fun v17 wr => ∃ i : Nat, i ≤ m ∧ v17 = .int .i64 (i : Int) ∧ Aside0 (r = eqL eqD (l1.drop i) (l2.drop i)) ∧ Aside0 (Own w.heap.size w wr [])) (fun v17 _ => m - (intOf v17).toNat)
 case atStart => exact ⟨0, Nat.zero_le _, rfl, ⟨HR.out⟩, H0⟩
 case round =>
  clear H0 HR
  obtain ⟨i, hi, rfl, HR, HI⟩ := hrel
  by_cases hlt : i < m
  ·have hdl : decide (i < m) = true := decide_eq_true hlt
   have hib : (0 : Int) ≤ (i : Int) ∧ (i : Int) < (m : Int) := by omega
   have hq1 : i < l1.length := by rw [← HN.out]; exact hlt
   have hq2 : i < l2.length := by rw [← HM.out]; exact hlt
   obtain ⟨a1, cs1, rfl, hK1, hp1⟩ := elemP (Kd.C_below HC1.out HI.out.below) i hlt hq1
   obtain ⟨a2, cs2, rfl, hK2, hp2⟩ := elemP (Kd.C_below HC2.out HI.out.below) i hlt hq2
   obtain ⟨Am, cm, rfl, hcm, hCm⟩ := PRF.k78_open hK1
   obtain ⟨An, cn, rfl, hcn, hCn⟩ := PRF.k78_open hK2
   have HP1 := Aside0.mk hp1
   have HP2 := Aside0.mk hp2
   have HRD : Aside0 (r = (eqD l1[i] l2[i] && eqL eqD (l1.drop (i + 1)) (l2.drop (i + 1)))) := ⟨HR.out.trans (eqL_drop _ _ _ _ hq1 hq2)⟩
   have HS := Aside0.mk (fun W (h : Below wr.heap.size wr W) => dsame_any l1[i] l2[i] Am An cm cn W (Kd.C_below hCm h) (Kd.C_below hCn h) (HX.out _ (List.getElem_mem hq1)) (HY.out _ (List.getElem_mem hq2)))
   have HB := Aside0.mk (fun W W1 (h : Below wr.heap.size wr W) (h1 : Below W.heap.size W W1) => below_step h h1)
   clear hK1 hK2 hp1 hp2 hCm hCn hcm hcn HR
   generalize eqD l1[i] l2[i] = eb at *
   generalize l1[i].f0 = x1 at *
   generalize l1[i].f1.length = n1 at *
   generalize l2[i].f0 = x2 at *
   generalize l2[i].f1.length = n2 at *
   have HA1 : Aside0 (Arr 2 #[.int .i64 x1, .slice Am n1 cm]) := ⟨rfl, by simp [Value.oneCell']⟩
   have HA2 : Aside0 (Arr 2 #[.int .i64 x2, .slice An n2 cn]) := ⟨rfl, by simp [Value.oneCell']⟩
   have HI0 := Aside0.mk (Own.start wr)
   cases eb
   ·obtain rfl : r = false := by rw [HRD.out]; rfl
    clear HRD
    go_wp2_with (first
     | fail
     | ((with_reducible refine gate_dst (N := 21) rfl ?_); ( refine ld_at rfl 78 (.tmp 20) rfl (a1.add (i * 2)) ([.int .i64 x1, .slice Am n1 cm]) _ rfl (HP1.out _ (Below.refl _ _)) Try.underlying78 rfl (by kernel_rfl) ?_))
     | ((with_reducible refine gate_dst (N := 8) rfl ?_); refine own_alloc HI0.out rfl (N := 8) rfl (t := 78) rfl (#[.int .i64 0, .slice none 0 0]) 2 (by kernel_rfl) ?_; intro g8 w1 H1 B1; replace H1 := Aside0.mk H1; replace B1 := Aside0.mk B1)
     | ((with_reducible refine own_store H1.out 0 g8 _ 78 rfl rfl (.tmp 8) (.tmp 21) rfl (#[.int .i64 x1, .slice Am n1 cm]) ?_ ?_ 2 HZD.out HA1.out (by kernel_rfl) ?_); (case _ => rfl); (case _ => rfl); intro w2 H2; replace H2 := Aside0.mk H2)
     | ((with_reducible refine gate_dst (N := 25) rfl ?_); ( refine ld_at rfl 78 (.tmp 24) rfl (a2.add (i * 2)) ([.int .i64 x2, .slice An n2 cn]) _ rfl (HP2.out _ H2.out.below) Try.underlying78 rfl (by kernel_rfl) ?_))
     | ((with_reducible refine gate_dst (N := 9) rfl ?_); refine own_alloc H2.out rfl (N := 9) rfl (t := 78) rfl (#[.int .i64 0, .slice none 0 0]) 2 (by kernel_rfl) ?_; intro g9 w3 H3 B3; replace H3 := Aside0.mk H3; replace B3 := Aside0.mk B3)
     | ((with_reducible refine own_store H3.out 0 g9 _ 78 rfl rfl (.tmp 9) (.tmp 25) rfl (#[.int .i64 x2, .slice An n2 cn]) ?_ ?_ 2 HZD.out HA2.out (by kernel_rfl) ?_); (case _ => rfl); (case _ => rfl); intro w4 H4; replace H4 := Aside0.mk H4)
     | ((with_reducible refine gate_dst (N := 27) rfl ?_); ( refine own_loadV H4.out 1 g8 _ 78 rfl rfl (.tmp 8) rfl _ rfl Try.underlying78 rfl (by kernel_rfl) ?_))
     | ((with_reducible refine gate_dst (N := 28) rfl ?_); ( refine own_loadV H4.out 0 g9 _ 78 rfl rfl (.tmp 9) rfl _ rfl Try.underlying78 rfl (by kernel_rfl) ?_))
     | (go_at_call 96; ( refine (HS.out _ H4.out.below).mono ?_; rintro e w5 ⟨rfl, hB5⟩; have H5 := Aside0.mk (HI.out.step (below_step H4.out.below hB5)); clear hB5))
     )
    go_ret
    exact ⟨rfl, H5.out.below⟩
   ·rw [Bool.true_and] at HRD
    go_wp2_with (first
     | fail
     | ((with_reducible refine gate_dst (N := 21) rfl ?_); ( refine ld_at rfl 78 (.tmp 20) rfl (a1.add (i * 2)) ([.int .i64 x1, .slice Am n1 cm]) _ rfl (HP1.out _ (Below.refl _ _)) Try.underlying78 rfl (by kernel_rfl) ?_))
     | ((with_reducible refine gate_dst (N := 8) rfl ?_); refine own_alloc HI0.out rfl (N := 8) rfl (t := 78) rfl (#[.int .i64 0, .slice none 0 0]) 2 (by kernel_rfl) ?_; intro g8 w1 H1 B1; replace H1 := Aside0.mk H1; replace B1 := Aside0.mk B1)
     | ((with_reducible refine own_store H1.out 0 g8 _ 78 rfl rfl (.tmp 8) (.tmp 21) rfl (#[.int .i64 x1, .slice Am n1 cm]) ?_ ?_ 2 HZD.out HA1.out (by kernel_rfl) ?_); (case _ => rfl); (case _ => rfl); intro w2 H2; replace H2 := Aside0.mk H2)
     | ((with_reducible refine gate_dst (N := 25) rfl ?_); ( refine ld_at rfl 78 (.tmp 24) rfl (a2.add (i * 2)) ([.int .i64 x2, .slice An n2 cn]) _ rfl (HP2.out _ H2.out.below) Try.underlying78 rfl (by kernel_rfl) ?_))
     | ((with_reducible refine gate_dst (N := 9) rfl ?_); refine own_alloc H2.out rfl (N := 9) rfl (t := 78) rfl (#[.int .i64 0, .slice none 0 0]) 2 (by kernel_rfl) ?_; intro g9 w3 H3 B3; replace H3 := Aside0.mk H3; replace B3 := Aside0.mk B3)
     | ((with_reducible refine own_store H3.out 0 g9 _ 78 rfl rfl (.tmp 9) (.tmp 25) rfl (#[.int .i64 x2, .slice An n2 cn]) ?_ ?_ 2 HZD.out HA2.out (by kernel_rfl) ?_); (case _ => rfl); (case _ => rfl); intro w4 H4; replace H4 := Aside0.mk H4)
     | ((with_reducible refine gate_dst (N := 27) rfl ?_); ( refine own_loadV H4.out 1 g8 _ 78 rfl rfl (.tmp 8) rfl _ rfl Try.underlying78 rfl (by kernel_rfl) ?_))
     | ((with_reducible refine gate_dst (N := 28) rfl ?_); ( refine own_loadV H4.out 0 g9 _ 78 rfl rfl (.tmp 9) rfl _ rfl Try.underlying78 rfl (by kernel_rfl) ?_))
     | (go_at_call 96; ( refine (HS.out _ H4.out.below).mono ?_; rintro e w5 ⟨rfl, hB5⟩; have H5 := Aside0.mk (HI.out.step (below_step H4.out.below hB5)); clear hB5))
     )
    go_roundw
    case rel => exact ⟨i + 1, hlt, by go_num, HRD, H5⟩
    case measure => simp [intOf]; omega
  ·have hdl : decide (i < m) = false := decide_eq_false hlt
   obtain rfl : m = i := by omega
   obtain rfl : r = true := by
    have h := HR.out
    rw [List.drop_of_length_le (by rw [← HN.out]; exact Nat.le_refl _), List.drop_of_length_le (by rw [← HM.out]; exact Nat.le_refl _)] at h
    exact h
   clear HR
   go_wp2_with fail
   go_ret
   exact ⟨rfl, HI.out.below⟩
def eqB (a b : List Int) : Bool := a == b
theorem kL_open {w : World} {x : List Int} {cs : List Value} (h : kL.K w x cs) : ∃ A c, cs = [.slice A x.length c] ∧ x.length ≤ c ∧ Kd.C kB w A x.length x := by
 obtain ⟨A, c, rfl, h1, h2⟩ := h
 exact ⟨A, c, rfl, h1, h2⟩
set_option maxHeartbeats 4000000 in
set_option maxRecDepth 100000 in
theorem eqfL_any (l1 l2 : List (List Int)) (A1 A2 : Option Addr) (c1 c2 : Nat) (w : World) (h1 : Kd.C kL w A1 l1.length l1) (h2 : Kd.C kL w A2 l2.length l2) (hx : ∀ d ∈ l1, ∀ x ∈ d, 0 ≤ x ∧ x ≤ 255) (hy : ∀ d ∈ l2, ∀ x ∈ d, 0 ≤ x ∧ x ≤ 255) (hm : l1.length ≤ 9223372036854775807) :
 Calls Try.prog 99 #[.slice A1 l1.length c1, .slice A2 l2.length c2, .func (.func 97) #[] #[]] w fun e w' => e = .returned (.bool (eqL eqB l1 l2)) ∧ Below w.heap.size w w' := by
 have H0 := Aside0.mk (Own.start w)
 have HC1 := Aside0.mk h1
 have HC2 := Aside0.mk h2
 have HX := Aside0.mk hx
 have HY := Aside0.mk hy
 obtain ⟨r, hr⟩ : ∃ r, r = eqL eqB l1 l2 := ⟨_, rfl⟩
 rw [← hr]
 have HR := Aside0.mk hr
 clear h1 h2 hx hy hr
 obtain ⟨n, hn⟩ : ∃ n, n = l1.length := ⟨_, rfl⟩
 obtain ⟨m, hm2⟩ : ∃ m, m = l2.length := ⟨_, rfl⟩
 have HN := Aside0.mk hn
 have HM := Aside0.mk hm2
 rw [← hn] at HC1 hm ⊢
 rw [← hm2] at HC2 ⊢
 clear hn hm2
 by_cases hl : n = m
 case neg =>
  have hd : ((n : Int) != (m : Int)) = true := by simp; omega
  obtain rfl : r = false := by rw [HR.out]; exact eqL_len _ _ _ (by rw [← HN.out, ← HM.out]; exact hl)
  clear HR hl
  go_enter Try.func99, Try.ntmps99
  go_wp2_with fail
  go_ret
  exact ⟨rfl, Below.refl _ _⟩
 obtain rfl : m = n := hl.symm
 go_enter Try.func99, Try.ntmps99
 go_wp2_with fail
 go_loopw [17] (fun v17 wr => ∃ i : Nat, i ≤ m ∧ v17 = .int .i64 (i : Int) ∧ Aside0 (r = eqL eqB (l1.drop i) (l2.drop i)) ∧ Aside0 (Own w.heap.size w wr [])) (fun v17 _ => m - (intOf v17).toNat)
 case atStart => exact ⟨0, Nat.zero_le _, rfl, ⟨HR.out⟩, H0⟩
 case round =>
  clear H0 HR
  obtain ⟨i, hi, rfl, HR, HI⟩ := hrel
  by_cases hlt : i < m
  ·have hdl : decide (i < m) = true := decide_eq_true hlt
   have hib : (0 : Int) ≤ (i : Int) ∧ (i : Int) < (m : Int) := by omega
   have hq1 : i < l1.length := by rw [← HN.out]; exact hlt
   have hq2 : i < l2.length := by rw [← HM.out]; exact hlt
   obtain ⟨a1, cs1, rfl, hK1, hp1⟩ := elemP (Kd.C_below HC1.out HI.out.below) i hlt hq1
   obtain ⟨a2, cs2, rfl, hK2, hp2⟩ := elemP (Kd.C_below HC2.out HI.out.below) i hlt hq2
   obtain ⟨Am, cm, rfl, hcm, hCm⟩ := kL_open hK1
   obtain ⟨An, cn, rfl, hcn, hCn⟩ := kL_open hK2
   have k1 : wr.cell? (a1.add i) = some (.slice Am l1[i].length cm) := by
    have h := hp1 wr (Below.refl _ _) 0 _ rfl
    rw [add_add_, show kL.sz = 1 from rfl, Nat.mul_one, Nat.add_zero] at h
    exact h
   have k2 : wr.cell? (a2.add i) = some (.slice An l2[i].length cn) := by
    have h := hp2 wr (Below.refl _ _) 0 _ rfl
    rw [add_add_, show kL.sz = 1 from rfl, Nat.mul_one, Nat.add_zero] at h
    exact h
   have HRD : Aside0 (r = ((eqB l1[i] l2[i]) && eqL eqB (l1.drop (i + 1)) (l2.drop (i + 1)))) := ⟨HR.out.trans (eqL_drop _ _ _ _ hq1 hq2)⟩
   have HSB := Aside0.mk (bequal_any l1[i] l2[i] Am An cm cn wr hCm hCn (HX.out _ (List.getElem_mem hq1)) (HY.out _ (List.getElem_mem hq2)))
   replace HSB : Aside0 (Calls Try.prog 97 #[.slice Am l1[i].length cm, .slice An l2[i].length cn] wr fun e w' => e = .returned (.bool (eqB l1[i] l2[i])) ∧ w' = wr) := HSB
   clear hK1 hK2 hp1 hp2 hCm hCn hcm hcn HR
   generalize eqB l1[i] l2[i] = eb at *
   generalize l1[i].length = n1 at *
   generalize l2[i].length = n2 at *
   cases eb
   ·obtain rfl : r = false := by rw [HRD.out]; rfl
    clear HRD
    go_wp2_with (go_at_call 97; ( refine HSB.out.mono ?_; rintro e w5 ⟨rfl, rfl⟩))
    go_ret
    exact ⟨rfl, HI.out.below⟩
   ·rw [Bool.true_and] at HRD
    go_wp2_with (go_at_call 97; ( refine HSB.out.mono ?_; rintro e w5 ⟨rfl, rfl⟩))
    go_roundw
    case rel => exact ⟨i + 1, hlt, by go_num, HRD, HI⟩
    case measure => simp [intOf]; omega
  ·have hdl : decide (i < m) = false := decide_eq_false hlt
   obtain rfl : m = i := by omega
   obtain rfl : r = true := by
    have h := HR.out
    rw [List.drop_of_length_le (by rw [← HN.out]; exact Nat.le_refl _), List.drop_of_length_le (by rw [← HM.out]; exact Nat.le_refl _)] at h
    exact h
   clear HR
   go_wp2_with fail
   go_ret
   exact ⟨rfl, HI.out.below⟩
def sameI (x y : Box) : Bool := (x.tk == y.tk) && ((x.nx == y.nx) && (eqL eqD x.q y.q && eqL eqB x.l y.l))
def BytB (x : Box) : Prop := (∀ d ∈ x.q, ∀ z ∈ d.f1, 0 ≤ z ∧ z ≤ 255) ∧ (∀ m ∈ x.l, ∀ z ∈ m, 0 ≤ z ∧ z ≤ 255)
set_option maxHeartbeats 4000000 in
set_option maxRecDepth 100000 in
theorem isame_any (x y : Box) (A1 A2 A3 A4 : Option Addr) (c1 c2 c3 c4 : Nat) (w : World) (h1 : Kd.C kQ w A1 x.q.length x.q) (h2 : Kd.C kL w A2 x.l.length x.l) (h3 : Kd.C kQ w A3 y.q.length y.q) (h4 : Kd.C kL w A4 y.l.length y.l) (hx : BytB x) (hy : BytB y) :
 Calls Try.prog 52 #[.agg #[.slice A1 x.q.length c1, .int .i64 x.tk, .slice A2 x.l.length c2, .int .u64 x.nx], .agg #[.slice A3 y.q.length c3, .int .i64 y.tk, .slice A4 y.l.length c4, .int .u64 y.nx]] w fun e w' => e = .returned (.bool (sameI x y)) ∧ Below w.heap.size w w' := by
 have H0 := Aside0.mk (Own.start w)
 have HQ := Aside0.mk (fun W (h : Below w.heap.size w W) => eqfQ_any x.q y.q A1 A3 c1 c3 W (Kd.C_below h1 h) (Kd.C_below h3 h) hx.1 hy.1 (Kd.C_max h1))
 have HL := Aside0.mk (fun W (h : Below w.heap.size w W) => eqfL_any x.l y.l A2 A4 c2 c4 W (Kd.C_below h2 h) (Kd.C_below h4 h) hx.2 hy.2 (Kd.C_max h2))
 clear h1 h2 h3 h4 hx hy
 unfold sameI
 obtain ⟨q1, t1, l1, x1⟩ := x
 obtain ⟨q2, t2, l2, x2⟩ := y
 dsimp only at *
 generalize eqL eqD q1 q2 = bq at *
 generalize eqL eqB l1 l2 = bl at *
 generalize q1.length = n1 at *
 generalize q2.length = n2 at *
 generalize l1.length = n3 at *
 generalize l2.length = n4 at *
 cases ha : (t1 == t2)
 ·
  go_enter Try.func52, Try.ntmps52
  go_wp2_with (first
   | fail
   | ((with_reducible refine gate_dst (N := 2) rfl ?_); refine own_box H0.out rfl (N := 2) rfl (t := 73) rfl (.agg #[.slice A1 n1 c1, .int .i64 t1, .slice A2 n3 c2, .int .u64 x1]) rfl ?_; intro g2 w1 H1 B1; replace H1 := Aside0.mk H1; replace B1 := Aside0.mk B1)
   | ((with_reducible refine gate_dst (N := 3) rfl ?_); refine own_box H1.out rfl (N := 3) rfl (t := 73) rfl (.agg #[.slice A3 n2 c3, .int .i64 t2, .slice A4 n4 c4, .int .u64 x2]) rfl ?_; intro g3 w2 H2 B2; replace H2 := Aside0.mk H2; replace B2 := Aside0.mk B2)
   | ((with_reducible refine gate_dst (N := 7) rfl ?_); ( refine own_ld1 H2.out 1 g2 _ _ rfl rfl 3 (.tmp 6) rfl 1 (.int .i64 t1) _ rfl rfl Try.underlying3 rfl ?_))
   | ((with_reducible refine gate_dst (N := 9) rfl ?_); ( refine own_ld1 H2.out 0 g3 _ _ rfl rfl 3 (.tmp 8) rfl 1 (.int .i64 t2) _ rfl rfl Try.underlying3 rfl ?_))
   | ((with_reducible refine gate_dst (N := 13) rfl ?_); (refine gate_guard (by rfl) ?_); ( refine own_ld1 H2.out 1 g2 _ _ rfl rfl 23 (.tmp 12) rfl 3 (.int .u64 x1) _ rfl rfl Try.underlying23 rfl ?_))
   | ((with_reducible refine gate_dst (N := 15) rfl ?_); (refine gate_guard (by rfl) ?_); ( refine own_ld1 H2.out 0 g3 _ _ rfl rfl 23 (.tmp 14) rfl 3 (.int .u64 x2) _ rfl rfl Try.underlying23 rfl ?_))
   | ((with_reducible refine gate_dst (N := 20) rfl ?_); (refine gate_guard (by rfl) ?_); ( refine own_ld1 H2.out 1 g2 _ _ rfl rfl 70 (.tmp 19) rfl 0 (.slice A1 n1 c1) _ rfl rfl Try.underlying70 rfl ?_))
   | ((with_reducible refine gate_dst (N := 22) rfl ?_); (refine gate_guard (by rfl) ?_); ( refine own_ld1 H2.out 0 g3 _ _ rfl rfl 70 (.tmp 21) rfl 0 (.slice A3 n2 c3) _ rfl rfl Try.underlying70 rfl ?_))
   | (go_at_call 98; ( refine (HQ.out _ H2.out.below).mono ?_; rintro e w3 ⟨rfl, hB3⟩; have H3 := Aside0.mk (H2.out.step hB3); clear hB3))
   | ((with_reducible refine gate_dst (N := 28) rfl ?_); (refine gate_guard (by rfl) ?_); ( refine own_ld1 H3.out 1 g2 _ _ rfl rfl 71 (.tmp 27) rfl 2 (.slice A2 n3 c2) _ rfl rfl Try.underlying71 rfl ?_))
   | ((with_reducible refine gate_dst (N := 30) rfl ?_); (refine gate_guard (by rfl) ?_); ( refine own_ld1 H3.out 0 g3 _ _ rfl rfl 71 (.tmp 29) rfl 2 (.slice A4 n4 c4) _ rfl rfl Try.underlying71 rfl ?_))
   | (go_at_call 99; ( refine (HL.out _ H3.out.below).mono ?_; rintro e w4 ⟨rfl, hB4⟩; have H4 := Aside0.mk (H3.out.step hB4); clear hB4))
   )
  go_ret
  exact ⟨by first | rfl | (simp [*]; done), H2.out.below⟩
 cases hb : (x1 == x2)
 ·
  go_enter Try.func52, Try.ntmps52
  go_wp2_with (first
   | fail
   | ((with_reducible refine gate_dst (N := 2) rfl ?_); refine own_box H0.out rfl (N := 2) rfl (t := 73) rfl (.agg #[.slice A1 n1 c1, .int .i64 t1, .slice A2 n3 c2, .int .u64 x1]) rfl ?_; intro g2 w1 H1 B1; replace H1 := Aside0.mk H1; replace B1 := Aside0.mk B1)
   | ((with_reducible refine gate_dst (N := 3) rfl ?_); refine own_box H1.out rfl (N := 3) rfl (t := 73) rfl (.agg #[.slice A3 n2 c3, .int .i64 t2, .slice A4 n4 c4, .int .u64 x2]) rfl ?_; intro g3 w2 H2 B2; replace H2 := Aside0.mk H2; replace B2 := Aside0.mk B2)
   | ((with_reducible refine gate_dst (N := 7) rfl ?_); ( refine own_ld1 H2.out 1 g2 _ _ rfl rfl 3 (.tmp 6) rfl 1 (.int .i64 t1) _ rfl rfl Try.underlying3 rfl ?_))
   | ((with_reducible refine gate_dst (N := 9) rfl ?_); ( refine own_ld1 H2.out 0 g3 _ _ rfl rfl 3 (.tmp 8) rfl 1 (.int .i64 t2) _ rfl rfl Try.underlying3 rfl ?_))
   | ((with_reducible refine gate_dst (N := 13) rfl ?_); (refine gate_guard (by rfl) ?_); ( refine own_ld1 H2.out 1 g2 _ _ rfl rfl 23 (.tmp 12) rfl 3 (.int .u64 x1) _ rfl rfl Try.underlying23 rfl ?_))
   | ((with_reducible refine gate_dst (N := 15) rfl ?_); (refine gate_guard (by rfl) ?_); ( refine own_ld1 H2.out 0 g3 _ _ rfl rfl 23 (.tmp 14) rfl 3 (.int .u64 x2) _ rfl rfl Try.underlying23 rfl ?_))
   | ((with_reducible refine gate_dst (N := 20) rfl ?_); (refine gate_guard (by rfl) ?_); ( refine own_ld1 H2.out 1 g2 _ _ rfl rfl 70 (.tmp 19) rfl 0 (.slice A1 n1 c1) _ rfl rfl Try.underlying70 rfl ?_))
   | ((with_reducible refine gate_dst (N := 22) rfl ?_); (refine gate_guard (by rfl) ?_); ( refine own_ld1 H2.out 0 g3 _ _ rfl rfl 70 (.tmp 21) rfl 0 (.slice A3 n2 c3) _ rfl rfl Try.underlying70 rfl ?_))
   | (go_at_call 98; ( refine (HQ.out _ H2.out.below).mono ?_; rintro e w3 ⟨rfl, hB3⟩; have H3 := Aside0.mk (H2.out.step hB3); clear hB3))
   | ((with_reducible refine gate_dst (N := 28) rfl ?_); (refine gate_guard (by rfl) ?_); ( refine own_ld1 H3.out 1 g2 _ _ rfl rfl 71 (.tmp 27) rfl 2 (.slice A2 n3 c2) _ rfl rfl Try.underlying71 rfl ?_))
   | ((with_reducible refine gate_dst (N := 30) rfl ?_); (refine gate_guard (by rfl) ?_); ( refine own_ld1 H3.out 0 g3 _ _ rfl rfl 71 (.tmp 29) rfl 2 (.slice A4 n4 c4) _ rfl rfl Try.underlying71 rfl ?_))
   | (go_at_call 99; ( refine (HL.out _ H3.out.below).mono ?_; rintro e w4 ⟨rfl, hB4⟩; have H4 := Aside0.mk (H3.out.step hB4); clear hB4))
   )
  go_ret
  exact ⟨by first | rfl | (simp [*]; done), H2.out.below⟩
 cases bq
 ·
  go_enter Try.func52, Try.ntmps52
  go_wp2_with (first
   | fail
   | ((with_reducible refine gate_dst (N := 2) rfl ?_); refine own_box H0.out rfl (N := 2) rfl (t := 73) rfl (.agg #[.slice A1 n1 c1, .int .i64 t1, .slice A2 n3 c2, .int .u64 x1]) rfl ?_; intro g2 w1 H1 B1; replace H1 := Aside0.mk H1; replace B1 := Aside0.mk B1)
   | ((with_reducible refine gate_dst (N := 3) rfl ?_); refine own_box H1.out rfl (N := 3) rfl (t := 73) rfl (.agg #[.slice A3 n2 c3, .int .i64 t2, .slice A4 n4 c4, .int .u64 x2]) rfl ?_; intro g3 w2 H2 B2; replace H2 := Aside0.mk H2; replace B2 := Aside0.mk B2)
   | ((with_reducible refine gate_dst (N := 7) rfl ?_); ( refine own_ld1 H2.out 1 g2 _ _ rfl rfl 3 (.tmp 6) rfl 1 (.int .i64 t1) _ rfl rfl Try.underlying3 rfl ?_))
   | ((with_reducible refine gate_dst (N := 9) rfl ?_); ( refine own_ld1 H2.out 0 g3 _ _ rfl rfl 3 (.tmp 8) rfl 1 (.int .i64 t2) _ rfl rfl Try.underlying3 rfl ?_))
   | ((with_reducible refine gate_dst (N := 13) rfl ?_); (refine gate_guard (by rfl) ?_); ( refine own_ld1 H2.out 1 g2 _ _ rfl rfl 23 (.tmp 12) rfl 3 (.int .u64 x1) _ rfl rfl Try.underlying23 rfl ?_))
   | ((with_reducible refine gate_dst (N := 15) rfl ?_); (refine gate_guard (by rfl) ?_); ( refine own_ld1 H2.out 0 g3 _ _ rfl rfl 23 (.tmp 14) rfl 3 (.int .u64 x2) _ rfl rfl Try.underlying23 rfl ?_))
   | ((with_reducible refine gate_dst (N := 20) rfl ?_); (refine gate_guard (by rfl) ?_); ( refine own_ld1 H2.out 1 g2 _ _ rfl rfl 70 (.tmp 19) rfl 0 (.slice A1 n1 c1) _ rfl rfl Try.underlying70 rfl ?_))
   | ((with_reducible refine gate_dst (N := 22) rfl ?_); (refine gate_guard (by rfl) ?_); ( refine own_ld1 H2.out 0 g3 _ _ rfl rfl 70 (.tmp 21) rfl 0 (.slice A3 n2 c3) _ rfl rfl Try.underlying70 rfl ?_))
   | (go_at_call 98; ( refine (HQ.out _ H2.out.below).mono ?_; rintro e w3 ⟨rfl, hB3⟩; have H3 := Aside0.mk (H2.out.step hB3); clear hB3))
   | ((with_reducible refine gate_dst (N := 28) rfl ?_); (refine gate_guard (by rfl) ?_); ( refine own_ld1 H3.out 1 g2 _ _ rfl rfl 71 (.tmp 27) rfl 2 (.slice A2 n3 c2) _ rfl rfl Try.underlying71 rfl ?_))
   | ((with_reducible refine gate_dst (N := 30) rfl ?_); (refine gate_guard (by rfl) ?_); ( refine own_ld1 H3.out 0 g3 _ _ rfl rfl 71 (.tmp 29) rfl 2 (.slice A4 n4 c4) _ rfl rfl Try.underlying71 rfl ?_))
   | (go_at_call 99; ( refine (HL.out _ H3.out.below).mono ?_; rintro e w4 ⟨rfl, hB4⟩; have H4 := Aside0.mk (H3.out.step hB4); clear hB4))
   )
  go_ret
  exact ⟨by first | rfl | (simp [*]; done), H3.out.below⟩
 ·
  go_enter Try.func52, Try.ntmps52
  go_wp2_with (first
   | fail
   | ((with_reducible refine gate_dst (N := 2) rfl ?_); refine own_box H0.out rfl (N := 2) rfl (t := 73) rfl (.agg #[.slice A1 n1 c1, .int .i64 t1, .slice A2 n3 c2, .int .u64 x1]) rfl ?_; intro g2 w1 H1 B1; replace H1 := Aside0.mk H1; replace B1 := Aside0.mk B1)
   | ((with_reducible refine gate_dst (N := 3) rfl ?_); refine own_box H1.out rfl (N := 3) rfl (t := 73) rfl (.agg #[.slice A3 n2 c3, .int .i64 t2, .slice A4 n4 c4, .int .u64 x2]) rfl ?_; intro g3 w2 H2 B2; replace H2 := Aside0.mk H2; replace B2 := Aside0.mk B2)
   | ((with_reducible refine gate_dst (N := 7) rfl ?_); ( refine own_ld1 H2.out 1 g2 _ _ rfl rfl 3 (.tmp 6) rfl 1 (.int .i64 t1) _ rfl rfl Try.underlying3 rfl ?_))
   | ((with_reducible refine gate_dst (N := 9) rfl ?_); ( refine own_ld1 H2.out 0 g3 _ _ rfl rfl 3 (.tmp 8) rfl 1 (.int .i64 t2) _ rfl rfl Try.underlying3 rfl ?_))
   | ((with_reducible refine gate_dst (N := 13) rfl ?_); (refine gate_guard (by rfl) ?_); ( refine own_ld1 H2.out 1 g2 _ _ rfl rfl 23 (.tmp 12) rfl 3 (.int .u64 x1) _ rfl rfl Try.underlying23 rfl ?_))
   | ((with_reducible refine gate_dst (N := 15) rfl ?_); (refine gate_guard (by rfl) ?_); ( refine own_ld1 H2.out 0 g3 _ _ rfl rfl 23 (.tmp 14) rfl 3 (.int .u64 x2) _ rfl rfl Try.underlying23 rfl ?_))
   | ((with_reducible refine gate_dst (N := 20) rfl ?_); (refine gate_guard (by rfl) ?_); ( refine own_ld1 H2.out 1 g2 _ _ rfl rfl 70 (.tmp 19) rfl 0 (.slice A1 n1 c1) _ rfl rfl Try.underlying70 rfl ?_))
   | ((with_reducible refine gate_dst (N := 22) rfl ?_); (refine gate_guard (by rfl) ?_); ( refine own_ld1 H2.out 0 g3 _ _ rfl rfl 70 (.tmp 21) rfl 0 (.slice A3 n2 c3) _ rfl rfl Try.underlying70 rfl ?_))
   | (go_at_call 98; ( refine (HQ.out _ H2.out.below).mono ?_; rintro e w3 ⟨rfl, hB3⟩; have H3 := Aside0.mk (H2.out.step hB3); clear hB3))
   | ((with_reducible refine gate_dst (N := 28) rfl ?_); (refine gate_guard (by rfl) ?_); ( refine own_ld1 H3.out 1 g2 _ _ rfl rfl 71 (.tmp 27) rfl 2 (.slice A2 n3 c2) _ rfl rfl Try.underlying71 rfl ?_))
   | ((with_reducible refine gate_dst (N := 30) rfl ?_); (refine gate_guard (by rfl) ?_); ( refine own_ld1 H3.out 0 g3 _ _ rfl rfl 71 (.tmp 29) rfl 2 (.slice A4 n4 c4) _ rfl rfl Try.underlying71 rfl ?_))
   | (go_at_call 99; ( refine (HL.out _ H3.out.below).mono ?_; rintro e w4 ⟨rfl, hB4⟩; have H4 := Aside0.mk (H3.out.step hB4); clear hB4))
   )
  go_ret
  exact ⟨by first | rfl | (simp [*]; done), H4.out.below⟩
end Go.Proofs.Ytocphkfkdadhaaa.H

namespace Go.Proofs.Ytocphkfkdadhaaa.H
open Go.RowKit Go.Proofs.YtocphkfkdadhaaaW.PrintWords Go.Proofs.YtocphkfkdadhaaaW.PrintLast Go.Proofs.YtocphkfkdadhaaaW.PrintMore
set_option linter.unusedVariables false
set_option linter.unusedSimpArgs false
theorem C_blk {α : Type} {d : Kd α} {W : World} {g : Nat} {t : TypeId} {cells : Array Value} {xs : List α} (h : W.heap[g]? = some (.cells cells t (0, 0))) (hr : Reps (d.K W) d.sz xs cells.toList) (hm : xs.length ≤ 9223372036854775807) : Kd.C d W (some ⟨g, 0, none⟩) xs.length xs := by
 refine ⟨rfl, hm, fun _ => ⟨_, rfl, fun j p hj => ⟨_, d.K_len (hr.2 j p hj), hr.2 j p hj, fun i u hu => ?_⟩⟩⟩
 rw [add_plain, blk_cell h]
 rw [List.getElem?_take] at hu
 split at hu
 ·rw [List.getElem?_drop, Array.getElem?_toList] at hu
  exact hu
 ·cases hu
theorem reps_cons {α : Type} {R : α → List Value → Prop} {size : Nat} {x : α} {cs : List Value} {xs : List α} {ds : List Value} (hx : R x cs) (hl : cs.length = size) (h : Reps R size xs ds) : Reps R size (x :: xs) (cs ++ ds) := by
 refine ⟨by rw [List.length_append, hl, h.1, List.length_cons, Nat.succ_mul]; omega, fun j p hj => ?_⟩
 cases j with
 | zero =>
  obtain rfl : x = p := by simpa using hj
  rw [Nat.zero_mul, List.drop_zero, List.take_left' hl]
  exact hx
 | succ j =>
  have := h.2 j p (by simpa using hj)
  rw [show (j + 1) * size = cs.length + j * size by rw [hl, Nat.succ_mul]; omega, ← List.drop_drop, List.drop_left' rfl]
  exact this
theorem reps_nil {α : Type} {R : α → List Value → Prop} {size : Nat} : Reps R size [] [] := ⟨by simp, fun j p hj => by simp at hj⟩
theorem C_shB {α : Type} {d : Kd α} {w W : World} {A : Option Addr} {n : Nat} {xs : List α} (h : Kd.C (shK d w) W A n xs) (hb : Below w.heap.size w W) : Kd.C d W A n xs := by
 obtain ⟨h1, h2, h3⟩ := h
 refine ⟨h1, h2, fun hp => ?_⟩
 obtain ⟨ad, e, hc⟩ := h3 hp
 refine ⟨ad, e, fun j p hj => ?_⟩
 obtain ⟨c, k1, k2, k3⟩ := hc j p hj
 exact ⟨c, k1, d.K_below hb k2, k3⟩
def msgI (m : List Int) : SI := ⟨false, m, []⟩
def batchItem (n t : Nat) (ms : List (List Int)) : SI := ⟨true, [], [K.numI n, K.numI t, ⟨true, [], ms.map msgI⟩]⟩
def wbP (n t : Nat) (ms : List (List Int)) : List Int × Int := if ms.length ≤ 4096 then K.encP (batchItem n t ms) else ([], 2)
theorem num_any (n : Nat) (hn : n ≤ 18446744073709551615) (W : World) : Calls Try.prog 101 #[.int .u64 (n : Int)] W fun e w' => ∃ A1 c1 A2 c2, e = .returned (.agg #[.bool false, .slice A1 (K.bigP n).length c1, .slice A2 0 c2]) ∧ (K.bigP n).length ≤ c1 ∧ Own W.heap.size W w' [.mem kI (K.numI n) [.bool false, .slice A1 (K.bigP n).length c1, .slice A2 0 c2]] := by
 refine (PRF.rlp_Num.calls 15 (n : Int) false (K.bigP n) [] W (K.num_f n hn)).mono ?_
 rintro e w' ⟨v1, v2, rfl, h1, h2, hb⟩
 obtain ⟨A1, c1, rfl, hc1, _⟩ := Kd.R_reads h1
 obtain ⟨A2, c2, rfl, hc2, _⟩ := Kd.R_reads h2
 refine ⟨A1, c1, A2, c2, rfl, hc1, (Own.start W).fresh hb _ ?_⟩
 refine PRF.k159_mkM w' 0 _ (K.numI n) (Kd.R_lower (Kd.R_mono (Kd.R_bound h1) fun k hk => ⟨hk.2.1, hk.2.2.1⟩) (Nat.zero_le _)) (Kd.R_lower (Kd.R_mono (Kd.R_bound h2) fun k hk => ⟨hk.2.1, hk.2.2.1⟩) (Nat.zero_le _))
theorem Own.memK {B : Nat} {w0 W : World} {L : List Item} (h : Own B w0 W L) {α : Type} {d : Kd α} {x : α} {cs : List Value} (k : Nat) (hk : L[k]? = some (.mem d x cs)) : d.K W x cs := by
 obtain ⟨S, _, hM⟩ := h.look k hk
 exact d.K_of_M hM
set_option maxHeartbeats 4000000 in
set_option maxRecDepth 100000 in
theorem writebatch_any (n t : Nat) (ms : List (List Int)) (hn : n ≤ 18446744073709551615) (ht : t ≤ 18446744073709551615) (Am : Option Addr) (cm : Nat) (w : World) (hC : Kd.C kL w Am ms.length ms) (hc : ms.length ≤ cm) :
 Calls Try.prog 53 #[.agg #[.int .u64 (n : Int), .int .u64 (t : Int), .slice Am ms.length cm]] w fun e w' => ∃ v, e = .returned (.tuple #[v, .int .i64 (wbP n t ms).2]) ∧ Own w.heap.size w w' [.row kB 5 v (wbP n t ms).1] := by
 have H0 := Aside0.mk (Own.start w)
 have HC := Aside0.mk hC
 obtain ⟨r, hr⟩ : ∃ r, r = wbP n t ms := ⟨_, rfl⟩
 rw [← hr]
 have HR := Aside0.mk hr
 clear hr hC
 obtain ⟨m, hm⟩ : ∃ m, m = ms.length := ⟨_, rfl⟩
 have HM := Aside0.mk hm
 rw [← hm] at HC hc ⊢
 clear hm
 have HNn := Aside0.mk (num_any n hn)
 have HNt := Aside0.mk (num_any t ht)
 generalize (K.bigP n).length = ln at HNn
 generalize (K.bigP t).length = lt at HNt
 have HZ3 := z3_one
 have HZT : Aside0 (Arr 3 #[.bool true, .slice none 0 0, .slice none 0 0]) := ⟨rfl, by simp [Value.oneCell']⟩
 go_enter Try.func53, Try.ntmps53
 by_cases hbig : m ≤ 4096
 case neg =>
  have hdb : decide (4096 < (m : Int)) = true := decide_eq_true (by omega)
  obtain rfl : r = ([], 2) := by rw [HR.out, wbP, if_neg (by rw [← HM.out]; exact hbig)]
  clear HR
  go_wp2_with (first
   | fail
   | ((with_reducible refine gate_dst (N := 1) rfl ?_); refine own_box H0.out rfl (N := 1) rfl (t := 108) rfl (.agg #[.int .u64 (n : Int), .int .u64 (t : Int), .slice Am m cm]) rfl ?_; intro g1 w1 H1 B1; replace H1 := Aside0.mk H1; replace B1 := Aside0.mk B1)
   | ((with_reducible refine gate_dst (N := 8) rfl ?_); ( refine own_ld1 H1.out 0 g1 _ _ rfl rfl 71 (.tmp 7) rfl 2 (.slice Am m cm) _ rfl rfl Try.underlying71 rfl ?_))
   )
  go_ret2
  exact ⟨_, rfl, (H1.out.erase 0).null kB _⟩
 have hdb : decide (4096 < (m : Int)) = false := decide_eq_false (by omega)
 replace HR : Aside0 (r = K.encP (batchItem n t ms)) := ⟨by rw [HR.out, wbP, if_pos (by rw [← HM.out]; exact hbig)]⟩
 go_wp2_with (first
  | fail
  | ((with_reducible refine gate_dst (N := 1) rfl ?_); refine own_box H0.out rfl (N := 1) rfl (t := 108) rfl (.agg #[.int .u64 (n : Int), .int .u64 (t : Int), .slice Am m cm]) rfl ?_; intro g1 w1 H1 B1; replace H1 := Aside0.mk H1; replace B1 := Aside0.mk B1)
  | ((with_reducible refine gate_dst (N := 8) rfl ?_); ( refine own_ld1 H1.out 0 g1 _ _ rfl rfl 71 (.tmp 7) rfl 2 (.slice Am m cm) _ rfl rfl Try.underlying71 rfl ?_))
  | ((with_reducible refine gate_dst (N := 4) rfl ?_); refine own_alloc H1.out rfl (N := 4) rfl (t := 159) rfl (#[.bool false, .slice none 0 0, .slice none 0 0]) 3 (by kernel_rfl) ?_; intro g4 w4 H4 B4; replace H4 := Aside0.mk H4; replace B4 := Aside0.mk B4)
  | ((with_reducible refine own_store H4.out 0 g4 _ 159 rfl rfl (.tmp 4) (.tmp 11) rfl (#[.bool true, .slice none 0 0, .slice none 0 0]) ?_ ?_ 3 HZ3.out HZT.out (by kernel_rfl) ?_); (case _ => rfl); (case _ => rfl); intro w5 H5; replace H5 := Aside0.mk H5)
  | ((with_reducible refine gate_dst (N := 13) rfl ?_); ( refine own_ld1 H5.out 1 g1 _ _ rfl rfl 71 (.tmp 12) rfl 2 (.slice Am m cm) _ rfl rfl Try.underlying71 rfl ?_))
  )
 replace H5 : Aside0 (Own w.heap.size w w5 [.row (shK kI w) 159 (.slice none 0 0) ((ms.take 0).map msgI), .blk g4 #[.bool true, .slice none 0 0, .slice none 0 0] 159, .blk g1 #[.int .u64 (n : Int), .int .u64 (t : Int), .slice Am m cm] 108]) := ⟨H5.out.null _ _⟩
 clear H0 H1 H4 B1 B4
 go_loopw [15] (fun v15 wr => ∃ (j : Nat) (vl : Value), j ≤ m ∧ v15 = .int .i64 (j : Int) ∧ Aside0 (Own w.heap.size w wr [.row (shK kI w) 159 vl ((ms.take j).map msgI), .blk g4 #[.bool true, .slice none 0 0, vl] 159, .blk g1 #[.int .u64 (n : Int), .int .u64 (t : Int), .slice Am m cm] 108])) (fun v15 _ => m - (intOf v15).toNat)
 case atStart => exact ⟨0, _, Nat.zero_le _, rfl, H5⟩
 case round =>
  clear H5
  obtain ⟨j, vl, hj, rfl, HI⟩ := hrel
  obtain ⟨A5, c5, hv5, _, _⟩ := HI.out.reads 0 rfl
  have hlen : ((ms.take j).map msgI).length = j := by rw [List.length_map, List.length_take, ← HM.out]; omega
  rw [hlen] at hv5
  subst hv5
  by_cases hlt : j < m
  ·have hdl : decide (j < m) = true := decide_eq_true hlt
   have hib : (0 : Int) ≤ (j : Int) ∧ (j : Int) < (m : Int) := by omega
   have hjl : j < ms.length := by rw [← HM.out]; exact hlt
   obtain ⟨ad, cs, rfl, hK, hp⟩ := elemP HC.out j hlt hjl
   obtain ⟨A0, c0, rfl, hc0, hC0⟩ := kL_open hK
   have k1 : wr.cell? (ad.add j) = some (.slice A0 ms[j].length c0) := by
    have h := hp wr HI.out.below 0 _ rfl
    rw [add_add_, show kL.sz = 1 from rfl, Nat.mul_one, Nat.add_zero] at h
    exact h
   have HP : Aside0 (∀ w' : World, (shK kI w).M w' 0 (fun _ => False) (msgI ms[j]) [.bool false, .slice A0 ms[j].length c0, .slice none 0 0]) := ⟨fun _ => PRF.k159_mk w (msgI ms[j]) hc0 hC0 (c2 := 0) (Nat.le_refl _) (Kd.C_nil _ _)⟩
   have HMS : Aside0 ((ms.take (j + 1)).map msgI = (ms.take j).map msgI ++ [msgI ms[j]]) := ⟨by rw [List.take_succ_eq_append_getElem hjl, List.map_append]; rfl⟩
   have HL1 : Aside0 (((ms.take j).map msgI ++ [msgI ms[j]]).length = j + 1) := ⟨by rw [List.length_append, hlen]; rfl⟩
   clear hK hp hc0 hC0
   generalize ms[j].length = lj at *
   generalize msgI ms[j] = mj at *
   go_wp2_with (first
    | fail
    | ((with_reducible refine gate_dst (N := 20) rfl ?_); ( refine own_ld1 HI.out 1 g4 _ _ rfl rfl 157 (.tmp 19) rfl 2 (.slice A5 j c5) _ rfl rfl Try.underlying157 rfl ?_))
    | ((with_reducible refine gate_dst (N := 24) rfl ?_); (with_reducible refine gate_builtin (b := .append) (xs := #[.tmp 20, .tmp 23]) rfl ?_); ( refine own_append_any (shK kI w) HI.out 0 rfl rfl (.tmp 20) (.tmp 23) 157 (.agg #[.bool false, .slice none 0 0, .slice none 0 0]) 56 rfl Try.underlying157 (PRF.info159) rfl (show 0 < 3 by decide) (by decide) (mj) ([.bool false, .slice A0 lj c0, .slice none 0 0]) (HP.out) (by rfl) (by rfl) (by rw [hlen]; omega) ?_; intro v8 w8 H8; (obtain ⟨A8, c8, hv8, _, _⟩ := H8.reads 0 rfl; rw [HL1.out] at hv8; subst hv8); replace H8 := Aside0.mk H8))
    | ((with_reducible refine gate_store (t := 157) (p := 25) rfl ?_); ( refine own_st H8.out 1 g4 _ (#[.bool true, .slice none 0 0, .slice A8 (j + 1) c8]) 159 (by rfl) rfl 157 (.tmp 25) _ rfl 2 [.slice A8 (j + 1) c8] (.slice A8 (j + 1) c8) (by rfl) (by rfl) (by rfl) (by simp) (by kernel_rfl) (by simp [Value.oneCell']) (by rfl) ?_; intro w9 H9; replace H9 := Aside0.mk H9))
    )
   go_roundw
   case rel => exact ⟨j + 1, _, hlt, by go_num, ⟨by rw [HMS.out]; exact H9.out⟩⟩
   case measure => simp [intOf]; omega
  ·have hdl : decide (j < m) = false := decide_eq_false hlt
   obtain rfl : m = j := by omega
   have HI2 : Aside0 (Own w.heap.size w wr [.row (shK kI w) 159 (.slice A5 m c5) (ms.map msgI), .blk g4 #[.bool true, .slice none 0 0, .slice A5 m c5] 159, .blk g1 #[.int .u64 (n : Int), .int .u64 (t : Int), .slice Am m cm] 108]) := ⟨by
    have h := HI.out
    rwa [List.take_of_length_le (by rw [← HM.out]; exact Nat.le_refl _)] at h⟩
   clear HI hlen
   go_wp2_with fail
   have HD := Aside0.mk HI2.out.drew
   refine St (fun W => W.cell? ⟨g1, 0, none⟩ = some (.int .u64 (n : Int)) ∧ W.cell? ⟨g1, 1, none⟩ = some (.int .u64 (t : Int)) ∧ W.cell? ⟨g4, 0, none⟩ = some (.bool true) ∧ W.cell? ⟨g4, 1, none⟩ = some (.slice none 0 0) ∧ W.cell? ⟨g4, 2, none⟩ = some (.slice A5 m c5)) (fun hHeld => ?_) (by exact ⟨HD.out.cell 2 rfl 0 rfl, HD.out.cell 2 rfl 1 rfl, HD.out.cell 1 rfl 0 rfl, HD.out.cell 1 rfl 1 rfl, HD.out.cell 1 rfl 2 rfl⟩)
   refine Tk 0 ?_
   refine Tk 1 ?_
   refine Tk 3 ?_
   refine Tk 4 ?_
   refine Tk 6 ?_
   clear HI2
   generalize wr.drew = wd at *
   refine Rd 2 fun K hK => ?_
   go_simp
   refine (HNn.out _).mono ?_
   rintro e w5 ⟨A1, c1, A2, c2, rfl, hc1, hO5⟩
   have H5 := Aside0.mk (HD.out.call hO5)
   clear hO5
   go_wp2_with fail
   refine Ag hK (fun hHeld => ?_) (by exact ⟨H5.out.cell 3 rfl 0 rfl, H5.out.cell 3 rfl 1 rfl, H5.out.cell 2 rfl 0 rfl, H5.out.cell 2 rfl 1 rfl, H5.out.cell 2 rfl 2 rfl⟩)
   clear hK K
   refine Rd 5 fun K hK => ?_
   go_simp
   refine (HNt.out _).mono ?_
   rintro e w6 ⟨A3, c3, A4, c4, rfl, hc3, hO6⟩
   have H6 := Aside0.mk (H5.out.call hO6)
   clear hO6
   go_wp2_with fail
   refine Ag hK (fun hHeld => ?_) (by exact ⟨H6.out.cell 4 rfl 0 rfl, H6.out.cell 4 rfl 1 rfl, H6.out.cell 3 rfl 0 rfl, H6.out.cell 3 rfl 1 rfl, H6.out.cell 3 rfl 2 rfl⟩)
   clear hK K
   have HX := Aside0.mk (H6.out.new #[.bool false, .slice A1 ln c1, .slice A2 0 c2, .bool false, .slice A3 lt c3, .slice A4 0 c4, .bool true, .slice none 0 0, .slice A5 m c5] 159)
   have HCX : Aside0 (Kd.C kI (w6.alloc (.cells #[.bool false, .slice A1 ln c1, .slice A2 0 c2, .bool false, .slice A3 lt c3, .slice A4 0 c4, .bool true, .slice none 0 0, .slice A5 m c5] 159)) (some ⟨w6.heap.size, 0, none⟩) 3 (batchItem n t ms).f2) := ⟨by
    refine C_blk (HX.out.get 0 rfl) ?_ (by simp [batchItem])
    have hrow := HX.out.reads 3 rfl
    obtain ⟨Az, cz, hz, hz2, hz3⟩ := hrow
    injection hz with hz0 hz1 hz4
    subst hz0 hz4
    rw [← hz1] at hz2 hz3
    have hl := C_shB hz3 HX.out.below
    have hR := reps_cons (HX.out.memK 2 rfl) rfl (reps_cons (HX.out.memK 1 rfl) rfl (reps_cons (PRF.k159_mk _ ⟨true, [], ms.map msgI⟩ (A1 := none) (c1 := 0) (Nat.le_refl _) (Kd.C_nil _ _) (A2 := A5) (c2 := c5) (by rw [← hz1]; exact hz2) (by rw [← hz1]; exact hl)) rfl reps_nil))
    have he : (ms.map msgI).length = m := hz1.symm
    simp only [he] at hR
    exact hR⟩
   have HEN : Aside0 (Calls Try.prog 100 #[.agg #[.bool true, .slice none 0 0, .slice (some ⟨w6.heap.size, 0, none⟩) 3 3]] (w6.alloc (.cells #[.bool false, .slice A1 ln c1, .slice A2 0 c2, .bool false, .slice A3 lt c3, .slice A4 0 c4, .bool true, .slice none 0 0, .slice A5 m c5] 159)) fun e w' => ∃ v, e = .returned (.tuple #[v, .int .i64 r.2]) ∧ Own (w6.alloc (.cells #[.bool false, .slice A1 ln c1, .slice A2 0 c2, .bool false, .slice A3 lt c3, .slice A4 0 c4, .bool true, .slice none 0 0, .slice A5 m c5] 159)).heap.size (w6.alloc (.cells #[.bool false, .slice A1 ln c1, .slice A2 0 c2, .bool false, .slice A3 lt c3, .slice A4 0 c4, .bool true, .slice none 0 0, .slice A5 m c5] 159)) w' [.row kB 5 v r.1]) := ⟨by
    refine (K.encode_any (batchItem n t ms) none (some ⟨w6.heap.size, 0, none⟩) 0 3 _ (Kd.C_nil _ _) (Nat.le_refl _) HCX.out (Nat.le_refl _)).mono ?_
    rintro e w' ⟨v, rfl, hr1, hb⟩
    exact ⟨v, by rw [HR.out], hb, hb.size, _, fun _ hi => hi, Kd.R_lower (Kd.R_mono (Kd.R_bound (by rw [HR.out]; exact hr1)) fun k hk => ⟨hk.2.1, hk.2.2.1⟩) (Nat.zero_le _), trivial⟩⟩
   refine Rd 7 fun K hK => ?_
   refine step_of_run (W1 := w6.alloc (.cells #[.bool false, .slice A1 ln c1, .slice A2 0 c2, .bool false, .slice A3 lt c3, .slice A4 0 c4, .bool true, .slice none 0 0, .slice A5 m c5] 159)) (v := .slice (some ⟨w6.heap.size, 0, none⟩) 3 3) (by rfl) (by first | (go_simp; done) | (go_simp; rfl)) ?_
   refine Ag hK (fun hHeld => ?_) (by exact ⟨HX.out.cell 5 rfl 0 rfl, HX.out.cell 5 rfl 1 rfl, HX.out.cell 4 rfl 0 rfl, HX.out.cell 4 rfl 1 rfl, HX.out.cell 4 rfl 2 rfl⟩)
   clear hK K
   refine Tk 8 ?_
   refine Rd 9 fun K hK => ?_
   go_simp
   refine HEN.out.mono ?_
   rintro e w7 ⟨v7, rfl, hO7⟩
   have H7 := Aside0.mk (HX.out.call hO7)
   obtain ⟨A7, c7, rfl, _, _⟩ := hO7.reads 0 rfl
   clear hO7
   generalize r.1.length = lr at *
   go_wp2_with fail
   refine Ag hK (fun hHeld => ?_) (by exact ⟨H7.out.cell 6 rfl 0 rfl, H7.out.cell 6 rfl 1 rfl, H7.out.cell 5 rfl 0 rfl, H7.out.cell 5 rfl 1 rfl, H7.out.cell 5 rfl 2 rfl⟩)
   clear hK K
   refine Tk 10 ?_
   refine Tk 11 ?_
   refine Tk 12 ?_
   refine Tk 13 ?_
   refine Dn ?_
   go_wp2_with fail
   go_ret2
   exact ⟨_, rfl, ((((((H7.out.erase 1).erase 1).erase 1).erase 1).erase 1).erase 1)⟩
end Go.Proofs.Ytocphkfkdadhaaa.H

namespace Go.Proofs.Ytocphkfkdadhaaa.H
open Go.RowKit Go.Proofs.YtocphkfkdadhaaaW.PrintWords Go.Proofs.YtocphkfkdadhaaaW.PrintLast Go.Proofs.YtocphkfkdadhaaaW.PrintMore
set_option linter.unusedVariables false
set_option linter.unusedSimpArgs false
section
variable {P : Program} {ops : Array Oper} {rest : List Oper} {o : Oper} {a : Act} {Q : Exit → Act → World → Prop} {Kc : Act → World → Prop} {B : Nat} {w0 W : World} {L : List Item} {α : Type}
theorem own_append_it (d : Kd α) {it : Item} {e : Nat} {v : Value} {xs : List α} (H : Own B w0 W (.row d e v xs :: it :: L)) (hgd : o.guard = none) (s x : Operand) (t : TypeId) (z : Value) (bytes : Nat)
 (ho : o.op = .call { callee := .builtin .append, args := #[s, x], argTypes := #[t, t] })
 (ht : P.underlying t = some (.slice e)) (hinfo : (P.info? e).map (fun i => (i.zero, i.size, i.bytes)) = some (some z, d.sz, bytes)) (hz : z.cells.size = d.sz) (hs0 : 0 < d.sz) (hb0 : 0 < bytes)
 (p : α) (cs : List Value) (hs : a.eval s = v) (hx : a.eval x = .slice (some ⟨W.heap.size, 0, none⟩) 1 1) (hM : ∀ (ok : Nat → Prop), it.P W ok → d.M W 0 ok p cs) (hl : (xs.length + 1) * bytes ≤ 140737488355328)
 (h : ∀ v1 w1, Own B w0 w1 (.row d e v1 (xs ++ [p]) :: L) → wpList P ops Q rest (a.put o.dst v1) w1) :
 wpList P ops Q (o :: rest) a (W.alloc (.cells cs.toArray e)) := by
 obtain ⟨S, hS, ⟨S1, S2, c1, c2, c3, hR, hR2⟩, hch⟩ := H.join.focus 0 rfl
 have hR : Kd.R d e W 0 S1 v xs := hR
 refine Kd.R_append d 0 hgd s x t e z bytes ho ht hinfo hz hs0 hb0 v xs p cs (fun i => S i ∨ W.heap.size ≤ i) S2 hs hx (hM S2 hR2) (fun k hk => ⟨.inl (c2 k hk), fun he => c3 k (hR.1 k he.symm) hk⟩) (fun i hi => .inr hi) (Kd.R_mono hR fun i hi => .inl (c1 i hi)) (w0 := W) ⟨rfl, rfl, rfl, Nat.le_refl _, fun _ _ => rfl⟩ (Nat.zero_le _) hl ?_
 intro v1 w1 hR1 _ hg _
 refine h v1 w1 (hch w1 (.row d e v1 (xs ++ [p])) v.ownBlock hg (fun g hr => c1 g (hR.1 g hr)) ?_)
 exact Kd.R_mono (Kd.R_bound hR1) (fun i hi => by rcases hi with ⟨hi | hi, h2, h3, _⟩; exact .inl hi; exact .inr ⟨hi, h3⟩)
end
theorem short_l0 (l : List (List Int)) (hl : l.length ≤ 9223372036854775807) : ∀ (d i : Nat), i + d = l.length → PRF.proctorref20_short.l0 (d + 1) l (i : Int) = some (!longP (l.drop i))
 | 0, i, h => by
  simp only [PRF.proctorref20_short.l0]
  rw [if_neg (by omega), List.drop_of_length_le (by omega)]
  rfl
 | d + 1, i, h => by
  rw [PRF.proctorref20_short.l0]
  have hi : i < l.length := by omega
  have hrd : PRF.rd_L2 l (i : Int) = l[i] := by simp [PRF.rd_L2, List.getD_eq_getElem?_getD, hi]
  rw [if_pos (by omega), if_pos (by omega), hrd, List.drop_eq_getElem_cons hi]
  by_cases hb : ((l[i].length : Nat) : Int) > 65536
  ·rw [if_pos hb]
   have : decide (l[i].length ≤ 65536) = false := decide_eq_false (by omega)
   unfold longP
   rw [List.any_cons, this]
   rfl
  ·rw [if_neg hb, K.wrap64_in _ (by omega), show ((i : Int) + 1) = ((i + 1 : Nat) : Int) by omega, short_l0 l hl d (i + 1) (by omega)]
   have : decide (l[i].length ≤ 65536) = true := decide_eq_true (by omega)
   unfold longP
   rw [List.any_cons, this]
   rfl
theorem short_f (l : List (List Int)) (hl : l.length ≤ 9223372036854775807) : PRF.proctorref20_short.f (l.length + 1) l = some (!longP l) := short_l0 l hl l.length 0 (by omega)
theorem rshort_any (l : List (List Int)) (A : Option Addr) (c : Nat) (w : World) (hC : Kd.C kL w A l.length l) (hc : l.length ≤ c) :
 Calls Try.prog 85 #[.slice A l.length c] w fun e w' => e = .returned (.bool (!longP l)) ∧ Below w.heap.size w w' :=
 (PRF.proctorref20_short.calls _ A c l _ w hC hc (short_f l (Kd.C_max hC))).mono fun e w' ⟨h1, h2⟩ => ⟨h1, h2.below⟩
theorem raw_any (m : List Int) (A : Option Addr) (c : Nat) (w : World) (hC : Kd.C kB w A m.length m) (hc : m.length ≤ c) (hm : m.length ≤ 65536) :
 Calls Try.prog 102 #[.slice A m.length c] w fun e w' => ∃ A1 c1 A2 c2, e = .returned (.agg #[.bool false, .slice A1 m.length c1, .slice A2 0 c2]) ∧ Own w.heap.size w w' [.mem kI (msgI m) [.bool false, .slice A1 m.length c1, .slice A2 0 c2]] := by
 refine (PRF.proctorref02_Raw.calls A c m false m [] w hC hc ?_).mono ?_
 ·rw [PRF.proctorref02_Raw.f]
  have : PRF.proctorref01_Copy.f m = some m := by
   rw [PRF.proctorref01_Copy.f]
   simp only [Option.bind_some, List.nil_append]
   rw [if_pos (by simp; omega)]
  rw [this]; rfl
 rintro e w' ⟨v1, v2, rfl, h1, h2, hb⟩
 obtain ⟨A1, c1, rfl, hc1, _⟩ := Kd.R_reads h1
 obtain ⟨A2, c2, rfl, hc2, _⟩ := Kd.R_reads h2
 refine ⟨A1, c1, A2, c2, rfl, (Own.start w).fresh hb _ ?_⟩
 refine PRF.k159_mkM w' 0 _ (msgI m) (Kd.R_lower (Kd.R_mono (Kd.R_bound h1) fun k hk => ⟨hk.2.1, hk.2.2.1⟩) (Nat.zero_le _)) (Kd.R_lower (Kd.R_mono (Kd.R_bound h2) fun k hk => ⟨hk.2.1, hk.2.2.1⟩) (Nat.zero_le _))
theorem rnum_any (n : Nat) (hn : n ≤ 18446744073709551615) (W : World) : Calls Try.prog 105 #[.int .u64 (n : Int)] W fun e w' => ∃ A1 c1 A2 c2, e = .returned (.agg #[.bool false, .slice A1 (K.bigP n).length c1, .slice A2 0 c2]) ∧ (K.bigP n).length ≤ c1 ∧ Own W.heap.size W w' [.mem kI (K.numI n) [.bool false, .slice A1 (K.bigP n).length c1, .slice A2 0 c2]] := by
 refine (PRF.proctorref02_Num.calls 9 (n : Int) false (K.bigP n) [] W (K.rnum_f n hn)).mono ?_
 rintro e w' ⟨v1, v2, rfl, h1, h2, hb⟩
 obtain ⟨A1, c1, rfl, hc1, _⟩ := Kd.R_reads h1
 obtain ⟨A2, c2, rfl, hc2, _⟩ := Kd.R_reads h2
 refine ⟨A1, c1, A2, c2, rfl, hc1, (Own.start W).fresh hb _ ?_⟩
 refine PRF.k159_mkM w' 0 _ (K.numI n) (Kd.R_lower (Kd.R_mono (Kd.R_bound h1) fun k hk => ⟨hk.2.1, hk.2.2.1⟩) (Nat.zero_le _)) (Kd.R_lower (Kd.R_mono (Kd.R_bound h2) fun k hk => ⟨hk.2.1, hk.2.2.1⟩) (Nat.zero_le _))
set_option maxHeartbeats 1000000 in
theorem list_any (A : Option Addr) (n c : Nat) (w : World) : Calls Try.prog 104 #[.slice A n c] w fun e w' => e = .returned (.agg #[.bool true, .slice none 0 0, .slice A n c]) ∧ Below w.heap.size w w' := by
 have H0 := Aside0.mk (Own.start w)
 have HZ3 := z3_one
 have HX : Aside0 (Arr 3 #[.bool true, .slice none 0 0, .slice A n c]) := ⟨arr3_ rfl⟩
 go_enter Try.func104, Try.ntmps104
 go_wp2_with (first
  | fail
  | ((with_reducible refine gate_dst (N := 2) rfl ?_); refine own_alloc H0.out rfl (N := 2) rfl (t := 159) rfl (#[.bool false, .slice none 0 0, .slice none 0 0]) 3 (by kernel_rfl) ?_; intro g2 w1 H1 B1; replace H1 := Aside0.mk H1; replace B1 := Aside0.mk B1)
  | ((with_reducible refine own_store H1.out 0 g2 _ 159 rfl rfl (.tmp 2) (.tmp 4) rfl (#[.bool true, .slice none 0 0, .slice A n c]) ?_ ?_ 3 HZ3.out HX.out (by kernel_rfl) ?_); (case _ => rfl); (case _ => rfl); intro w2 H2; replace H2 := Aside0.mk H2)
  )
 refine bodyPost_ret (own_resultV rfl _ H2.out 0 g2 _ rfl rfl _ Try.underlying159 rfl (by kernel_rfl)) rfl ?_
 exact ⟨rfl, H2.out.below⟩
theorem rencode_any (x : SI) (A1 A2 : Option Addr) (c1 c2 : Nat) (w : World) (hC1 : Kd.C kB w A1 x.f1.length x.f1) (hc1 : x.f1.length ≤ c1) (hC2 : Kd.C kI w A2 x.f2.length x.f2) (hc2 : x.f2.length ≤ c2) :
 Calls Try.prog 103 #[.agg #[.bool x.f0, .slice A1 x.f1.length c1, .slice A2 x.f2.length c2]] w
  fun e w' => ∃ v, e = .returned (.tuple #[v, .int .i64 (K.encP x).2]) ∧ Kd.R kB 5 w' w.heap.size (fun _ => True) v (K.encP x).1 ∧ Below w.heap.size w w' := by
 obtain ⟨k, hk⟩ := K.renc_spec x
 exact PRF.proctorref02_Encode.calls k x.f0 A1 c1 x.f1 A2 c2 x.f2 _ _ w hC1 hc1 hC2 hc2 (hk k (Nat.le_refl _))
end Go.Proofs.Ytocphkfkdadhaaa.H

namespace Go.Proofs.Ytocphkfkdadhaaa.H
open Go.RowKit Go.Proofs.YtocphkfkdadhaaaW.PrintWords Go.Proofs.YtocphkfkdadhaaaW.PrintLast Go.Proofs.YtocphkfkdadhaaaW.PrintMore
set_option linter.unusedVariables false
set_option linter.unusedSimpArgs false
def rwbP (n t : Nat) (ms : List (List Int)) : List Int × Int := if ms.length ≤ 4096 ∧ longP ms = false then K.encP (batchItem n t ms) else ([], 2)
set_option maxHeartbeats 4000000 in
set_option maxRecDepth 100000 in
theorem rwritebatch_any (n t : Nat) (ms : List (List Int)) (hn : n ≤ 18446744073709551615) (ht : t ≤ 18446744073709551615) (Am : Option Addr) (cm : Nat) (w : World) (hC : Kd.C kL w Am ms.length ms) (hc : ms.length ≤ cm) :
 Calls Try.prog 54 #[.agg #[.int .u64 (n : Int), .int .u64 (t : Int), .slice Am ms.length cm]] w fun e w' => ∃ v, e = .returned (.tuple #[v, .int .i64 (rwbP n t ms).2]) ∧ Own w.heap.size w w' [.row kB 5 v (rwbP n t ms).1] := by
 have H0 := Aside0.mk (Own.start w)
 have HC := Aside0.mk hC
 have HSH := Aside0.mk (fun W (h : Below w.heap.size w W) => rshort_any ms Am cm W (Kd.C_below hC h) hc)
 obtain ⟨r, hr⟩ : ∃ r, r = rwbP n t ms := ⟨_, rfl⟩
 rw [← hr]
 have HR := Aside0.mk hr
 clear hr hC
 obtain ⟨m, hm⟩ : ∃ m, m = ms.length := ⟨_, rfl⟩
 have HM := Aside0.mk hm
 rw [← hm] at HC hc HSH ⊢
 clear hm
 have HNn := Aside0.mk (rnum_any n hn)
 have HNt := Aside0.mk (rnum_any t ht)
 generalize (K.bigP n).length = ln at HNn
 generalize (K.bigP t).length = lt at HNt
 obtain ⟨lg, hlg⟩ : ∃ lg, lg = longP ms := ⟨_, rfl⟩
 have HLG := Aside0.mk hlg
 rw [← hlg] at HSH
 clear hlg
 go_enter Try.func54, Try.ntmps54
 by_cases hbig : m ≤ 4096
 case neg =>
  have hdb : decide (4096 < (m : Int)) = true := decide_eq_true (by omega)
  obtain rfl : r = ([], 2) := by rw [HR.out, rwbP, if_neg (by rintro ⟨h, _⟩; rw [← HM.out] at h; exact hbig h)]
  clear HR
  go_wp2_with (first
   | fail
   | ((with_reducible refine gate_dst (N := 1) rfl ?_); refine own_box H0.out rfl (N := 1) rfl (t := 108) rfl (.agg #[.int .u64 (n : Int), .int .u64 (t : Int), .slice Am m cm]) rfl ?_; intro g1 w1 H1 B1; replace H1 := Aside0.mk H1; replace B1 := Aside0.mk B1)
   | ((with_reducible refine gate_dst (N := 7) rfl ?_); ( refine own_ld1 H1.out 0 g1 _ _ rfl rfl 71 (.tmp 6) rfl 2 (.slice Am m cm) _ rfl rfl Try.underlying71 rfl ?_))
   | ((with_reducible refine gate_dst (N := 12) rfl ?_); (refine gate_guard (by rfl) ?_); ( refine own_ld1 H1.out 0 g1 _ _ rfl rfl 71 (.tmp 11) rfl 2 (.slice Am m cm) _ rfl rfl Try.underlying71 rfl ?_))
   | (go_at_call 85; ( refine (HSH.out _ H1.out.below).mono ?_; rintro e w2 ⟨rfl, hB2⟩; have H2 := Aside0.mk (H1.out.step hB2); clear hB2))
   )
  go_ret2
  exact ⟨_, rfl, (H1.out.erase 0).null kB _⟩
 have hdb : decide (4096 < (m : Int)) = false := decide_eq_false (by omega)
 cases lg
 case true =>
  obtain rfl : r = ([], 2) := by rw [HR.out, rwbP, if_neg (by rintro ⟨_, h⟩; rw [← HLG.out] at h; cases h)]
  clear HR
  go_wp2_with (first
   | fail
   | ((with_reducible refine gate_dst (N := 1) rfl ?_); refine own_box H0.out rfl (N := 1) rfl (t := 108) rfl (.agg #[.int .u64 (n : Int), .int .u64 (t : Int), .slice Am m cm]) rfl ?_; intro g1 w1 H1 B1; replace H1 := Aside0.mk H1; replace B1 := Aside0.mk B1)
   | ((with_reducible refine gate_dst (N := 7) rfl ?_); ( refine own_ld1 H1.out 0 g1 _ _ rfl rfl 71 (.tmp 6) rfl 2 (.slice Am m cm) _ rfl rfl Try.underlying71 rfl ?_))
   | ((with_reducible refine gate_dst (N := 12) rfl ?_); (refine gate_guard (by rfl) ?_); ( refine own_ld1 H1.out 0 g1 _ _ rfl rfl 71 (.tmp 11) rfl 2 (.slice Am m cm) _ rfl rfl Try.underlying71 rfl ?_))
   | (go_at_call 85; ( refine (HSH.out _ H1.out.below).mono ?_; rintro e w2 ⟨rfl, hB2⟩; have H2 := Aside0.mk (H1.out.step hB2); clear hB2))
   )
  go_ret2
  exact ⟨_, rfl, (H2.out.erase 0).null kB _⟩
 replace HR : Aside0 (r = K.encP (batchItem n t ms)) := ⟨by rw [HR.out, rwbP, if_pos ⟨by rw [← HM.out]; exact hbig, HLG.out.symm⟩]⟩
 have HSM : Aside0 (∀ x ∈ ms, x.length ≤ 65536) := ⟨by
  intro x hx
  have h := HLG.out.symm
  unfold longP at h
  rw [List.any_eq_false] at h
  have := h x hx
  simpa using this⟩
 go_wp2_with (first
  | fail
  | ((with_reducible refine gate_dst (N := 1) rfl ?_); refine own_box H0.out rfl (N := 1) rfl (t := 108) rfl (.agg #[.int .u64 (n : Int), .int .u64 (t : Int), .slice Am m cm]) rfl ?_; intro g1 w1 H1 B1; replace H1 := Aside0.mk H1; replace B1 := Aside0.mk B1)
  | ((with_reducible refine gate_dst (N := 7) rfl ?_); ( refine own_ld1 H1.out 0 g1 _ _ rfl rfl 71 (.tmp 6) rfl 2 (.slice Am m cm) _ rfl rfl Try.underlying71 rfl ?_))
  | ((with_reducible refine gate_dst (N := 12) rfl ?_); (refine gate_guard (by rfl) ?_); ( refine own_ld1 H1.out 0 g1 _ _ rfl rfl 71 (.tmp 11) rfl 2 (.slice Am m cm) _ rfl rfl Try.underlying71 rfl ?_))
  | (go_at_call 85; ( refine (HSH.out _ H1.out.below).mono ?_; rintro e w2 ⟨rfl, hB2⟩; have H2 := Aside0.mk (H1.out.step hB2); clear hB2))
  )
 replace H2 : Aside0 (Own w.heap.size w w2 [.row kI 159 (.slice none 0 0) ((ms.take 0).map msgI), .blk g1 #[.int .u64 (n : Int), .int .u64 (t : Int), .slice Am m cm] 108]) := ⟨H2.out.null _ _⟩
 clear H0 H1 B1 HSH
 go_loopw [4, 5] (fun v4 v5 wr => ∃ (j : Nat), j ≤ m ∧ v5 = .int .i64 (j : Int) ∧ Aside0 (Own w.heap.size w wr [.row kI 159 v4 ((ms.take j).map msgI), .blk g1 #[.int .u64 (n : Int), .int .u64 (t : Int), .slice Am m cm] 108])) (fun _ v5 _ => m - (intOf v5).toNat)
 case atStart => exact ⟨0, Nat.zero_le _, rfl, H2⟩
 case round =>
  clear H2
  obtain ⟨j, hj, rfl, HI⟩ := hrel
  obtain ⟨A5, c5, rfl, hc5, _⟩ := HI.out.reads 0 rfl
  have hlen : ((ms.take j).map msgI).length = j := by rw [List.length_map, List.length_take, ← HM.out]; omega
  rw [hlen] at HI hc5 ⊢
  by_cases hlt : j < m
  ·have hdl : decide (j < m) = true := decide_eq_true hlt
   have hib : (0 : Int) ≤ (j : Int) ∧ (j : Int) < (m : Int) := by omega
   have hjl : j < ms.length := by rw [← HM.out]; exact hlt
   obtain ⟨ad, cs, rfl, hK, hp⟩ := elemP HC.out j hlt hjl
   obtain ⟨A0, c0, rfl, hc0, hC0⟩ := kL_open hK
   have k1 : wr.cell? (ad.add j) = some (.slice A0 ms[j].length c0) := by
    have h := hp wr HI.out.below 0 _ rfl
    rw [add_add_, show kL.sz = 1 from rfl, Nat.mul_one, Nat.add_zero] at h
    exact h
   have HRW := Aside0.mk (raw_any ms[j] A0 c0 wr (Kd.C_below hC0 HI.out.below) hc0 (HSM.out _ (List.getElem_mem hjl)))
   have HMS : Aside0 ((ms.take (j + 1)).map msgI = (ms.take j).map msgI ++ [msgI ms[j]]) := ⟨by rw [List.take_succ_eq_append_getElem hjl, List.map_append]; rfl⟩
   clear hK hp hc0 hC0
   generalize ms[j].length = lj at *
   generalize msgI ms[j] = mj at *
   go_wp2_with (first
    | fail
    | ((with_reducible refine gate_dst (N := 18) rfl ?_); ( refine own_ld1 HI.out 1 g1 _ _ rfl rfl 71 (.tmp 17) rfl 2 (.slice (some ad) m cm) _ rfl rfl Try.underlying71 rfl ?_))
    | ((with_reducible refine gate_dst (N := 25) rfl ?_); ( refine own_ld1 HI.out 1 g1 _ _ rfl rfl 71 (.tmp 24) rfl 2 (.slice (some ad) m cm) _ rfl rfl Try.underlying71 rfl ?_))
    | (go_at_call 102; ( refine HRW.out.mono ?_; rintro e w5 ⟨A1, c1, A2, c2, rfl, hO5⟩; have H5 := Aside0.mk ((HI.out.call hO5).bring 1 rfl); clear hO5))
    | ((with_reducible refine gate_dst (N := 31) rfl ?_); (with_reducible refine gate_builtin (b := .append) (xs := #[.tmp 23, .tmp 30]) rfl ?_); ( refine own_append_it kI H5.out rfl (.tmp 23) (.tmp 30) 157 (.agg #[.bool false, .slice none 0 0, .slice none 0 0]) 56 rfl Try.underlying157 PRF.info159 rfl (show 0 < 3 by decide) (by decide) mj [.bool false, .slice A1 lj c1, .slice A2 0 c2] (by rfl) (by rfl) (fun ok h => h) (by rw [hlen]; omega) ?_; intro v8 w8 H8; replace H8 := Aside0.mk H8))
    )
   go_roundw
   case rel => exact ⟨j + 1, hlt, by go_num, ⟨by rw [HMS.out]; exact H8.out⟩⟩
   case measure => simp [intOf]; omega
  ·have hdl : decide (j < m) = false := decide_eq_false hlt
   obtain rfl : m = j := by omega
   have HI2 : Aside0 (Own w.heap.size w wr [.row kI 159 (.slice A5 m c5) (ms.map msgI), .blk g1 #[.int .u64 (n : Int), .int .u64 (t : Int), .slice Am m cm] 108]) := ⟨by
    have h := HI.out
    rwa [List.take_of_length_le (by rw [← HM.out]; exact Nat.le_refl _)] at h⟩
   have k1 : wr.cell? ⟨g1, 2, none⟩ = some (.slice Am m cm) := HI.out.cell 1 rfl 2 rfl
   clear HI hlen
   go_wp2_with fail
   clear k1
   have HD := Aside0.mk HI2.out.drew
   refine St (fun W => W.cell? ⟨g1, 0, none⟩ = some (.int .u64 (n : Int)) ∧ W.cell? ⟨g1, 1, none⟩ = some (.int .u64 (t : Int))) (fun hHeld => ?_) (by exact ⟨HD.out.cell 1 rfl 0 rfl, HD.out.cell 1 rfl 1 rfl⟩)
   refine Tk 0 ?_
   refine Tk 1 ?_
   refine Tk 3 ?_
   refine Tk 4 ?_
   refine Tk 6 ?_
   clear HI2
   generalize wr.drew = wd at *
   refine Rd 2 fun K hK => ?_
   go_simp
   refine (HNn.out _).mono ?_
   rintro e w5 ⟨A1, c1, A2, c2, rfl, hc1, hO5⟩
   have H5 := Aside0.mk (HD.out.call hO5)
   clear hO5
   go_wp2_with fail
   refine Ag hK (fun hHeld => ?_) (by exact ⟨H5.out.cell 2 rfl 0 rfl, H5.out.cell 2 rfl 1 rfl⟩)
   clear hK K
   refine Rd 5 fun K hK => ?_
   go_simp
   refine (HNt.out _).mono ?_
   rintro e w6 ⟨A3, c3, A4, c4, rfl, hc3, hO6⟩
   have H6 := Aside0.mk (H5.out.call hO6)
   clear hO6
   go_wp2_with fail
   refine Ag hK (fun hHeld => ?_) (by exact ⟨H6.out.cell 3 rfl 0 rfl, H6.out.cell 3 rfl 1 rfl⟩)
   clear hK K
   refine Rd 7 fun K hK => ?_
   go_simp
   refine (list_any _ _ _ _).mono ?_
   rintro e w7 ⟨rfl, hB7⟩
   have H7 := Aside0.mk (H6.out.step hB7)
   clear hB7
   go_wp2_with fail
   refine Ag hK (fun hHeld => ?_) (by exact ⟨H7.out.cell 3 rfl 0 rfl, H7.out.cell 3 rfl 1 rfl⟩)
   clear hK K
   have HX := Aside0.mk (H7.out.new #[.bool false, .slice A1 ln c1, .slice A2 0 c2, .bool false, .slice A3 lt c3, .slice A4 0 c4, .bool true, .slice none 0 0, .slice A5 m c5] 159)
   have HCX : Aside0 (Kd.C kI (w7.alloc (.cells #[.bool false, .slice A1 ln c1, .slice A2 0 c2, .bool false, .slice A3 lt c3, .slice A4 0 c4, .bool true, .slice none 0 0, .slice A5 m c5] 159)) (some ⟨w7.heap.size, 0, none⟩) 3 (batchItem n t ms).f2) := ⟨by
    refine C_blk (HX.out.get 0 rfl) ?_ (by simp [batchItem])
    have hrow := HX.out.reads 3 rfl
    obtain ⟨Az, cz, hz, hz2, hz3⟩ := hrow
    injection hz with hz0 hz1 hz4
    subst hz0 hz4
    rw [← hz1] at hz2 hz3
    have hR := reps_cons (HX.out.memK 2 rfl) rfl (reps_cons (HX.out.memK 1 rfl) rfl (reps_cons (PRF.k159_mk _ ⟨true, [], ms.map msgI⟩ (A1 := none) (c1 := 0) (Nat.le_refl _) (Kd.C_nil _ _) (A2 := A5) (c2 := c5) (by rw [← hz1]; exact hz2) (by rw [← hz1]; exact hz3)) rfl reps_nil))
    have he : (ms.map msgI).length = m := hz1.symm
    simp only [he] at hR
    exact hR⟩
   have HEN : Aside0 (∀ W, Below (w7.alloc (.cells #[.bool false, .slice A1 ln c1, .slice A2 0 c2, .bool false, .slice A3 lt c3, .slice A4 0 c4, .bool true, .slice none 0 0, .slice A5 m c5] 159)).heap.size (w7.alloc (.cells #[.bool false, .slice A1 ln c1, .slice A2 0 c2, .bool false, .slice A3 lt c3, .slice A4 0 c4, .bool true, .slice none 0 0, .slice A5 m c5] 159)) W → Calls Try.prog 103 #[.agg #[.bool true, .slice none 0 0, .slice (some ⟨w7.heap.size, 0, none⟩) 3 3]] W fun e w' => ∃ v, e = .returned (.tuple #[v, .int .i64 r.2]) ∧ Own W.heap.size W w' [.row kB 5 v r.1]) := ⟨fun W hbW => by
    refine (rencode_any (batchItem n t ms) none (some ⟨w7.heap.size, 0, none⟩) 0 3 W (Kd.C_nil _ _) (Nat.le_refl _) (Kd.C_below HCX.out hbW) (Nat.le_refl _)).mono ?_
    rintro e w' ⟨v, rfl, hr1, hb⟩
    exact ⟨v, by rw [HR.out], hb, hb.size, _, fun _ hi => hi, Kd.R_lower (Kd.R_mono (Kd.R_bound (by rw [HR.out]; exact hr1)) fun k hk => ⟨hk.2.1, hk.2.2.1⟩) (Nat.zero_le _), trivial⟩⟩
   refine Rd 8 fun K hK => ?_
   refine step_of_run (W1 := w7.alloc (.cells #[.bool false, .slice A1 ln c1, .slice A2 0 c2, .bool false, .slice A3 lt c3, .slice A4 0 c4, .bool true, .slice none 0 0, .slice A5 m c5] 159)) (v := .slice (some ⟨w7.heap.size, 0, none⟩) 3 3) (by rfl) (by first | (go_simp; done) | (go_simp; rfl)) ?_
   refine Ag hK (fun hHeld => ?_) (by exact ⟨HX.out.cell 4 rfl 0 rfl, HX.out.cell 4 rfl 1 rfl⟩)
   clear hK K
   refine Rd 9 fun K hK => ?_
   go_simp
   refine (list_any _ _ _ _).mono ?_
   rintro e w8 ⟨rfl, hB8⟩
   have H8 := Aside0.mk (HX.out.step hB8)
   replace HEN := Aside0.mk (HEN.out w8 hB8)
   clear hB8
   go_wp2_with fail
   refine Ag hK (fun hHeld => ?_) (by exact ⟨H8.out.cell 4 rfl 0 rfl, H8.out.cell 4 rfl 1 rfl⟩)
   clear hK K
   refine Rd 10 fun K hK => ?_
   go_simp
   refine HEN.out.mono ?_
   rintro e w9 ⟨v9, rfl, hO9⟩
   have H9 := Aside0.mk (H8.out.call hO9)
   obtain ⟨A7, c7, rfl, _, _⟩ := hO9.reads 0 rfl
   clear hO9
   generalize r.1.length = lr at *
   go_wp2_with fail
   refine Ag hK (fun hHeld => ?_) (by exact ⟨H9.out.cell 5 rfl 0 rfl, H9.out.cell 5 rfl 1 rfl⟩)
   clear hK K
   refine Tk 11 ?_
   refine Tk 12 ?_
   refine Tk 13 ?_
   refine Tk 14 ?_
   refine Dn ?_
   go_wp2_with fail
   go_ret2
   exact ⟨_, rfl, (((((H9.out.erase 1).erase 1).erase 1).erase 1).erase 1)⟩
theorem formP_ge {m : List Int} (h : 1 < m.length) : m.length ≤ (K.formP (msgI m)).length := by
 rw [K.formP_str _ rfl]
 unfold K.strP msgI
 split
 ·exact Nat.le_refl _
 ·simp
theorem formP_mem {x : SI} {xs : List SI} (h : x ∈ xs) : (K.formP x).length ≤ (K.formP ⟨true, [], xs⟩).length := by
 rw [K.formP_list ⟨true, [], xs⟩ rfl, List.length_append]
 have := K.forms_mem_le xs x h
 show _ ≤ _ + (K.formsP xs).length
 omega
theorem rwbP_eq (n t : Nat) (ms : List (List Int)) : rwbP n t ms = wbP n t ms := by
 unfold rwbP wbP
 by_cases h1 : ms.length ≤ 4096
 ·cases h2 : longP ms
  ·rw [if_pos ⟨h1, rfl⟩, if_pos h1]
  ·rw [if_neg (by rintro ⟨_, h⟩; cases h), if_pos h1]
   unfold longP at h2
   rw [List.any_eq_true] at h2
   obtain ⟨m, hm, hl⟩ := h2
   have hl : 65536 < m.length := by simpa using hl
   have e1 := formP_ge (m := m) (by omega)
   have e2 := formP_mem (x := msgI m) (xs := ms.map msgI) (List.mem_map_of_mem hm)
   have e3 := formP_mem (x := ⟨true, [], ms.map msgI⟩) (xs := [K.numI n, K.numI t, ⟨true, [], ms.map msgI⟩]) (by simp)
   unfold K.encP
   rw [if_neg]
   unfold K.vP
   intro h
   rw [Bool.and_eq_true, decide_eq_true_eq] at h
   have := h.2
   unfold batchItem at this
   omega
 ·rw [if_neg (fun h => h1 h.1), if_neg h1]
end Go.Proofs.Ytocphkfkdadhaaa.H

namespace Go.Proofs.Ytocphkfkdadhaaa.K
open Go.RowKit Go.Proofs.YtocphkfkdadhaaaW.PrintWords Go.Proofs.YtocphkfkdadhaaaW.PrintLast Go.Proofs.YtocphkfkdadhaaaW.PrintMore Go.Proofs.Ytocphkfkdadhaaa.PRF
attribute [local go_sem] max2_int min2_int max_two min_two max_three min_three max_four min_four
set_option linter.unusedVariables false
set_option linter.unusedSimpArgs false
theorem F_all {w : World} {A : Option Addr} {n : Nat} {xs : List Int} (h : Kd.C (Kd.int .u8) w A n xs) : Kd.F (Kd.int .u8) w (fun _ => True) A n xs := by
 intro W' hW
 have hsz : w.heap.size ≤ W'.heap.size := by
  by_cases hlt : W'.heap.size < w.heap.size
  ·have := heap_lt (hW _ trivial hlt) hlt
   omega
  ·omega
 exact Kd.C_keep 0 h ⟨hsz, fun i hi _ _ => hW i trivial hi⟩ (Kd.far_C 0 h (Nat.le_refl _))
set_option maxHeartbeats 2000000 in
set_option maxRecDepth 100000 in
theorem rdecode_any (A : Option Addr) (c : Nat) (l : List Int) (w : World) (hC : Kd.C (Kd.int .u8) w A l.length l) (hc : l.length ≤ c) (hB : Byt l) :
 Calls Try.prog 109 #[.slice A l.length c] w (DecodePost (decodeP l) w) := by
 have HB := Aside0.mk (Below.refl w.heap.size w)
 have HC := Aside0.mk hC
 have HBy := Aside0.mk hB
 have hm := hC.2.1
 clear hC hB
 obtain ⟨res, hres⟩ : ∃ res, res = decodeP l := ⟨_, rfl⟩
 rw [← hres]
 have HRES := Aside0.mk hres
 clear hres
 by_cases hbig : 65536 < l.length
 ·have hd : decide ((65536 : Int) < (l.length : Int)) = true := decide_eq_true (by omega)
  have hd' : decide (65536 < l.length) = true := decide_eq_true (by omega)
  obtain rfl : res = .error 4 := by rw [HRES.out, decodeP, if_pos hbig]
  go_enter Try.func109, Try.ntmps109
  go_wp2_with (first
   | ((with_reducible refine gate_dst (N := 2) rfl ?_); refine alloc_ev rfl (N := 2) rfl (cs := #[.bool false, .slice none 0 0, .slice none 0 0]) (t := 159) HB ?hr ?_; (case hr => first | (go_simp; done) | (go_simp; rfl)); intro g2 w1 HG2 HGe2 HE1 HB1; have hcf2 := cf3 HG2))
  have hg2 : w.heap.size ≤ g2 := Nat.le_of_eq HGe2.out
  refine bodyPost_ret (results_ct rfl _ _ g2 159 #[.bool false, .slice none 0 0, .slice none 0 0] (0, 0) _ rfl (put3 HG2.out) Try.underlying159 rfl (by kernel_rfl)) rfl ?_
  exact ⟨below3 HB1.out hg2, rfl⟩
 ·have hd : decide ((65536 : Int) < (l.length : Int)) = false := decide_eq_false (by omega)
  have hd' : decide (65536 < l.length) = false := decide_eq_false (by omega)
  have hl65 : l.length ≤ 65536 := by omega
  rw [decodeP, if_neg hbig] at HRES
  obtain ⟨K, hK⟩ := read_spec 16 (Nat.le_refl _) l HBy.out (by omega)
  have hk := hK K (Nat.le_refl _)
  simp only at hk
  unfold resR at hk
  go_enter Try.func109, Try.ntmps109
  go_wp2_with (first
   | ((with_reducible refine gate_dst (N := 2) rfl ?_); refine alloc_ev rfl (N := 2) rfl (cs := #[.bool false, .slice none 0 0, .slice none 0 0]) (t := 159) HB ?hr ?_; (case hr => first | (go_simp; done) | (go_simp; rfl)); intro g2 w1 HG2 HGe2 HE1 HB1; have hcf2 := cf3 HG2))
  have hg2 : w.heap.size ≤ g2 := Nat.le_of_eq HGe2.out
  cases hit : itemP 16 l with
  | error k =>
   rw [hit] at hk HRES
   obtain rfl : res = .error k := HRES.out
   have hke := itemP_err hit
   have hk1 : (k == 0) = false := by simpa using hke
   have hk2 : (k != 0) = true := by simpa using hke
   refine (proctorref02_read.calls K (fun _ => True) A c l 16 _ _ _ _ _ _ (Kd.V_mk hc (F_all (Kd.C_below HC.out HB1.out))) hk).mono ?_
   clear hK hk hit
   rintro e w3 ⟨v1, v2, rfl, hR1, hR2, hbe⟩
   obtain ⟨Ab1, cb1, rfl⟩ := Kd.R_slice hR1
   obtain ⟨Ab2, cb2, rfl⟩ := Kd.R_slice hR2
   have HB3 := Aside0.mk (below_step HB1.out hbe)
   have HG2b := Aside0.mk (blk_below HG2.out hbe)
   have hcf3 := cf3 HG2b
   clear hR1 hR2 hbe hcf2
   go_wp2_with (first
    | ((with_reducible refine gate_dst (N := 4) rfl ?_); refine alloc_ev rfl (N := 4) rfl (cs := #[.bool false, .slice none 0 0, .slice none 0 0]) (t := 159) HB3 ?hr4 ?_; (case hr4 => first | (go_simp; done) | (go_simp; rfl)); intro g4 w4 HG4 HGe4 HE4 HB4; have HG2c := Aside0.mk (blk_below HG2b.out HE4.out); have hcf4 := cf3 HG4; have hcf5 := cf3 HG2c; have n1 : ¬ g2 = g4 := (by have := blk_lt HG2b.out; have := HGe4.out; omega); have n2 : ¬ g4 = g2 := fun h => n1 h.symm))
   have hg4 : w.heap.size ≤ g4 := by have := HGe4.out; have := HB3.out.size; omega
   have q1 := ((keep3 (w := w4) (g := g4) (x := .bool false) (y := .slice Ab1 0 cb1) (z := .slice Ab2 0 cb2)).2 g2 (blk_lt HG2c.out) n1 (by simp)).trans HG2c.out
   refine bodyPost_ret (results_ct rfl _ _ g2 159 #[.bool false, .slice none 0 0, .slice none 0 0] (0, 0) _ rfl (put3 q1) Try.underlying159 rfl (by kernel_rfl)) rfl ?_
   exact ⟨below3 (below3 HB4.out hg4) hg2, rfl⟩
  | ok q =>
   rw [hit] at hk HRES
   obtain ⟨x, r⟩ := q
   refine (proctorref02_read.calls K (fun _ => True) A c l 16 _ _ _ _ _ _ (Kd.V_mk hc (F_all (Kd.C_below HC.out HB1.out))) hk).mono ?_
   have hrl := itemP_len hit
   clear hK hk hit
   rintro e w3 ⟨v1, v2, rfl, hR1, hR2, hbe⟩
   obtain ⟨Ab1, cb1, rfl⟩ := Kd.R_slice hR1
   obtain ⟨Ab2, cb2, rfl⟩ := Kd.R_slice hR2
   have HB3 := Aside0.mk (below_step HB1.out hbe)
   have HG2b := Aside0.mk (blk_below HG2.out hbe)
   have HR1 := Aside0.mk hR1
   have HR2 := Aside0.mk hR2
   have hcf3 := cf3 HG2b
   clear hR1 hR2 hbe hcf2
   by_cases hr0 : r = []
   ·subst hr0
    obtain rfl : res = .ok x := HRES.out
    obtain ⟨x0, x1, x2⟩ := x
    simp only at *
    have hd3 : decide (((l.length : Int) - (([] : List Int).length : Int)) < (l.length : Int)) = false := decide_eq_false (by simp)
    simp only [List.length_nil, Int.sub_zero, Int.natCast_zero, Int.ofNat_zero] at hd3 ⊢
    go_wp2_with (first
     | ((with_reducible refine gate_dst (N := 4) rfl ?_); refine alloc_ev rfl (N := 4) rfl (cs := #[.bool false, .slice none 0 0, .slice none 0 0]) (t := 159) HB3 ?hr4 ?_; (case hr4 => first | (go_simp; done) | (go_simp; rfl)); intro g4 w4 HG4 HGe4 HE4 HB4; have HG2c := Aside0.mk (blk_below HG2b.out HE4.out); have hcf4 := cf3 HG4; have hcf5 := cf3 HG2c; have n1 : ¬ g2 = g4 := (by have := blk_lt HG2b.out; have := HGe4.out; omega); have n2 : ¬ g4 = g2 := fun h => n1 h.symm))
    have hg4 : w.heap.size ≤ g4 := by have := HGe4.out; have := HB3.out.size; omega
    have q1 := ((keep3 (w := w4) (g := g4) (x := .bool x0) (y := .slice Ab1 x1.length cb1) (z := .slice Ab2 x2.length cb2)).2 g2 (blk_lt HG2c.out) n1 (by simp)).trans HG2c.out
    refine bodyPost_ret (results_ct rfl _ _ g2 159 #[.bool x0, .slice Ab1 x1.length cb1, .slice Ab2 x2.length cb2] (0, 0) _ rfl (put3 q1) Try.underlying159 rfl (by kernel_rfl)) rfl ?_
    have hfar : ∀ k, w1.heap.size ≤ k ∧ k < w3.heap.size → k ≠ g2 ∧ k ≠ g4 := fun k hk => ⟨by have := blk_lt HG2.out; omega, by have := HGe4.out; omega⟩
    refine ⟨below3 (below3 HB4.out hg4) hg2, _, _, rfl, ?_, ?_⟩
    ·refine Kd.R_lower (Kd.R_mono (Kd.R_step (Kd.R_below (Kd.R_mono (Kd.R_bound HR1.out) (ok' := fun k => w1.heap.size ≤ k ∧ k < w3.heap.size) (fun k hk => ⟨hk.2.1, hk.2.2.1⟩)) HE4.out) (fun k hk _ => ?_)) (fun _ _ => trivial)) HB1.out.size
     iterate 6 rw [Below.heap_setCell _ _ _ _ (by first | exact (hfar k hk).1 | exact (hfar k hk).2)]
    ·refine Kd.R_lower (Kd.R_mono (Kd.R_step (Kd.R_below (Kd.R_mono (Kd.R_bound HR2.out) (ok' := fun k => w1.heap.size ≤ k ∧ k < w3.heap.size) (fun k hk => ⟨hk.2.1, hk.2.2.1⟩)) HE4.out) (fun k hk _ => ?_)) (fun _ _ => trivial)) HB1.out.size
     iterate 6 rw [Below.heap_setCell _ _ _ _ (by first | exact (hfar k hk).1 | exact (hfar k hk).2)]
   ·obtain rfl : res = .error 8 := by rw [HRES.out]; simp [Except.bind, hr0]
    obtain ⟨x0, x1, x2⟩ := x
    simp only at *
    obtain ⟨d, hd0⟩ : ∃ d, d = (l.length : Int) - (r.length : Int) := ⟨_, rfl⟩
    have hd3 : decide (d < (l.length : Int)) = true := decide_eq_true (by have : 0 < r.length := List.length_pos_iff.mpr hr0; omega)
    rw [← hd0]
    clear hd0
    go_wp2_with (first
     | ((with_reducible refine gate_dst (N := 4) rfl ?_); refine alloc_ev rfl (N := 4) rfl (cs := #[.bool false, .slice none 0 0, .slice none 0 0]) (t := 159) HB3 ?hr4 ?_; (case hr4 => first | (go_simp; done) | (go_simp; rfl)); intro g4 w4 HG4 HGe4 HE4 HB4; have HG2c := Aside0.mk (blk_below HG2b.out HE4.out); have hcf4 := cf3 HG4; have hcf5 := cf3 HG2c; have n1 : ¬ g2 = g4 := (by have := blk_lt HG2b.out; have := HGe4.out; omega); have n2 : ¬ g4 = g2 := fun h => n1 h.symm))
    have hg4 : w.heap.size ≤ g4 := by have := HGe4.out; have := HB3.out.size; omega
    have q1 := ((keep3 (w := w4) (g := g4) (x := .bool x0) (y := .slice Ab1 x1.length cb1) (z := .slice Ab2 x2.length cb2)).2 g2 (blk_lt HG2c.out) n1 (by simp)).trans HG2c.out
    refine bodyPost_ret (results_ct rfl _ _ g2 159 #[.bool false, .slice none 0 0, .slice none 0 0] (0, 0) _ rfl (put3 q1) Try.underlying159 rfl (by kernel_rfl)) rfl ?_
    exact ⟨below3 (below3 HB4.out hg4) hg2, rfl⟩
end Go.Proofs.Ytocphkfkdadhaaa.K

namespace Go.Proofs.Ytocphkfkdadhaaa.H
open Go.RowKit Go.Proofs.YtocphkfkdadhaaaW.PrintWords Go.Proofs.YtocphkfkdadhaaaW.PrintLast Go.Proofs.YtocphkfkdadhaaaW.PrintMore
set_option linter.unusedVariables false
set_option linter.unusedSimpArgs false
theorem C_shM {α : Type} {d : Kd α} {w W : World} {S : Nat → Prop} {A : Option Addr} {n : Nat} {xs : List α} (h : Kd.C (shM d w S) W A n xs) (hb : Below w.heap.size w W) : Kd.C d W A n xs := by
 obtain ⟨h1, h2, h3⟩ := h
 refine ⟨h1, h2, fun hp => ?_⟩
 obtain ⟨ad, e, hc⟩ := h3 hp
 refine ⟨ad, e, fun j p hj => ?_⟩
 obtain ⟨c, k1, k2, k3⟩ := hc j p hj
 exact ⟨c, k1, d.K_below hb k2, k3⟩
theorem batchItem_bytI (n t : Nat) (ms : List (List Int)) (h : ∀ m ∈ ms, ∀ z ∈ m, 0 ≤ z ∧ z ≤ 255) : K.BytI (batchItem n t ms) := by
 refine .mk _ (fun z hz => by cases hz) fun y hy => ?_
 simp only [batchItem, List.mem_cons, List.not_mem_nil, or_false] at hy
 rcases hy with rfl | rfl | rfl
 ·exact .mk _ (K.bigP_byt n) (fun y hy => by cases hy)
 ·exact .mk _ (K.bigP_byt t) (fun y hy => by cases hy)
 ·refine .mk _ (fun z hz => by cases hz) fun y hy => ?_
  obtain ⟨m, hm, rfl⟩ := List.mem_map.1 hy
  exact .mk _ (h m hm) (fun y hy => by cases hy)
theorem encP_byt {x : SI} (h : K.BytI x) : K.Byt (K.encP x).1 := by
 unfold K.encP
 split
 ·rename_i hv
  refine K.formP_byt _ x (Nat.le_refl _) h ?_
  unfold K.vP at hv
  rw [Bool.and_eq_true, decide_eq_true_eq] at hv
  omega
 ·intro z hz; cases hz
theorem rwbP_byt (n t : Nat) (ms : List (List Int)) (h : ∀ m ∈ ms, ∀ z ∈ m, 0 ≤ z ∧ z ≤ 255) : K.Byt (rwbP n t ms).1 := by
 unfold rwbP
 split
 ·exact encP_byt (batchItem_bytI n t ms h)
 ·intro z hz; cases hz
theorem wfP_mem : ∀ {d : Nat} {x y : SI}, K.wfP d x = true → x.f0 = true → y ∈ x.f2 → ∃ d', K.wfP d' y = true
 | 0, x, y, h, h0, _ => by rw [K.wfP_zero x h0] at h; cases h
 | d + 1, x, y, h, h0, hy => by
  rw [K.wfP_list d x h0, Bool.and_eq_true, List.all_eq_true] at h
  exact ⟨d, h.2 y hy⟩
theorem decodeP_len {l : List Int} {x : SI} (hb : K.Byt l) (h : K.decodeP l = .ok x) : ∀ y ∈ x.f2, y.f2.length ≤ 65536 := by
 obtain ⟨h1, h2⟩ := K.decode_form l x hb h
 unfold K.vP at h2
 rw [Bool.and_eq_true, decide_eq_true_eq] at h2
 intro y hy
 cases hx : x.f0 with
 | false =>
  have := h2.1
  rw [K.wfP_str _ _ hx, List.isEmpty_iff] at this
  rw [this] at hy; cases hy
 | true =>
  obtain ⟨d', hd⟩ := wfP_mem h2.1 hx hy
  have h3 := K.forms_mem_le _ y hy
  rw [K.formP_list x hx, List.length_append] at h2
  cases hy0 : y.f0 with
  | false =>
   rw [K.wfP_str _ _ hy0, List.isEmpty_iff] at hd
   rw [hd]; exact Nat.zero_le _
  | true =>
   rw [K.formP_list y hy0, List.length_append] at h3
   have := K.formsP_ge y.f2
   omega
def ritemsB (b : List Int) (y0 y1 y2 : SI) : BatchI × Int :=
 if (K.rnumP y0).2 = 0 ∧ (K.rnumP y1).2 = 0 then
  (if (rwbP (K.rnumP y0).1.toNat (K.rnumP y1).1.toNat (y2.f2.map fun y => y.f1)).2 = 0 ∧ (rwbP (K.rnumP y0).1.toNat (K.rnumP y1).1.toNat (y2.f2.map fun y => y.f1)).1 = b then (⟨(K.rnumP y0).1, (K.rnumP y1).1, y2.f2.map fun y => y.f1⟩, 0) else (zeroBt, 8))
 else (zeroBt, 8)
def rshapeB (bs : List Int) (b : Bool) (l : List SI) : BatchI × Int :=
 match b, l with
 | true, [y0, y1, y2] => ritemsB bs y0 y1 y2
 | _, _ => (zeroBt, 8)
theorem rshapeB_bad {bs : List Int} {b : Bool} {l : List SI} (h : b = false ∨ l.length ≠ 3) : rshapeB bs b l = (zeroBt, 8) := by
 unfold rshapeB
 split
 ·rcases h with h | h
  ·cases h
  ·exact absurd rfl h
 ·rfl
def rbatchP (b : List Int) : BatchI × Int :=
 match K.decodeP b with
 | .error e => (zeroBt, e)
 | .ok x => rshapeB b x.f0 x.f2
theorem rreadnum_any (y : SI) (hb : K.Byt y.f1) (A1 : Option Addr) (c1 : Nat) (A2 : Option Addr) (c2 : Nat) (W : World) (h1 : Kd.C kB W A1 y.f1.length y.f1) (h2 : y.f1.length ≤ c1) (h3 : Kd.C kI W A2 y.f2.length y.f2) (h4 : y.f2.length ≤ c2) :
 Calls Try.prog 110 #[.agg #[.bool y.f0, .slice A1 y.f1.length c1, .slice A2 y.f2.length c2]] W fun e w' => e = .returned (.tuple #[.int .u64 (K.rnumP y).1, .int .i64 (K.rnumP y).2]) ∧ Below W.heap.size W w' := by
 obtain ⟨k, hk⟩ := K.rreadnum_f y hb
 exact PRF.proctorref02_ReadNum.calls k y.f0 A1 c1 y.f1 A2 c2 y.f2 _ _ W h1 h2 h3 h4 hk
theorem same01_any (a b : List Int) (ha : ∀ z ∈ a, 0 ≤ z ∧ z ≤ 255) (hb : ∀ z ∈ b, 0 ≤ z ∧ z ≤ 255) (A1 A2 : Option Addr) (c1 c2 : Nat) (W : World) (h1 : Kd.C kB W A1 a.length a) (k1 : a.length ≤ c1) (h2 : Kd.C kB W A2 b.length b) (k2 : b.length ≤ c2) :
 Calls Try.prog 47 #[.slice A1 a.length c1, .slice A2 b.length c2] W fun e w' => e = .returned (.bool (decide (a = b))) ∧ Below W.heap.size W w' :=
 (PRF.proctorref01_Same.calls A1 c1 a A2 c2 b _ W h1 k1 h2 k2 (K.same01_f a b ha hb)).mono fun e w' ⟨h1, h2⟩ => ⟨h1, h2.below⟩
theorem rnumP_nat (y : SI) (hb : K.Byt y.f1) : ((K.rnumP y).1.toNat : Int) = (K.rnumP y).1 ∧ (K.rnumP y).1.toNat ≤ 18446744073709551615 := by
 unfold K.rnumP
 split
 ·exact ⟨rfl, by decide⟩
 ·rename_i h
  have := K.num_small y.f1 hb (by omega)
  exact ⟨by simp, by simpa using this⟩
end Go.Proofs.Ytocphkfkdadhaaa.H

