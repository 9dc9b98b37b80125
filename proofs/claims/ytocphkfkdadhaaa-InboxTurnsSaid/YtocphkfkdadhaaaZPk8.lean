import Derived.Test.YtocphkfkdadhaaaZPk2
import Derived.Test.YtocphkfkdadhaaaZPk7
import Derived.Test.YtocphkfkdadhaaaZPk3
import Derived.Test.YtocphkfkdadhaaaZPk4
import Derived.Test.YtocphkfkdadhaaaZPk5
import Derived.Test.YtocphkfkdadhaaaZPk6
import Derived.WalkSpells
import Derived.WalkLawsBesides
import Derived.Handy
import Derived.Laws.Bits64b
import Derived.IntWalk
set_option maxHeartbeats 8000000
set_option linter.unusedVariables false
set_option linter.unusedSimpArgs false
set_option maxRecDepth 100000
namespace Go.Proofs.Ytocphkfkdadhaaa.PRF
open Go.RowKit Go.Proofs.YtocphkfkdadhaaaW.PrintWords Go.Proofs.YtocphkfkdadhaaaW.PrintLast Go.Proofs.YtocphkfkdadhaaaW.PrintMore
attribute [local go_sem] max2_int min2_int max_two min_two max_three min_three max_four min_four
mutual
def proctorref02_ReadNum.j0 : Nat → Bool → Bool → List Int → List (S159) → Option (Int × Int)
 | 0, _, _, _, _ => none
 | k + 1, x32, x412000, x412001, x412002 => if x32 = true then (some (0, 8)) else (proctorref02_ReadNum.l0 k 0 0 x412000 x412001 x412002)
def proctorref02_ReadNum.l0 : Nat → Int → Int → Bool → List Int → List (S159) → Option (Int × Int)
 | 0, _, _, _, _, _ => none
 | k + 1, x4, x5, x412000, x412001, x412002 => if x5 < (x412001.length : Int) then (if 0 ≤ x5 then (proctorref02_ReadNum.l0 k (Go.bits .or .u64 (IntKind.u64.wrap (x4 * 256)) (IntKind.u64.wrap (rd x412001 x5))) (wrap64 (x5 + 1)) x412000 x412001 x412002) else (none)) else (some (x4, 0))
end
def proctorref02_ReadNum.f (k : Nat) (a0_0 : Bool) (l0_1 : List Int) (l0_2 : List (S159)) : Option (Int × Int) := if a0_0 = true then (proctorref02_ReadNum.j0 k true a0_0 l0_1 l0_2) else (if (l0_2.length : Int) > 0 then (proctorref02_ReadNum.j0 k true a0_0 l0_1 l0_2) else (if (l0_1.length : Int) > 8 then (proctorref02_ReadNum.j0 k true a0_0 l0_1 l0_2) else (if (l0_1.length : Int) > 0 then (if 0 < (l0_1.length : Int) then (proctorref02_ReadNum.j0 k ((rd l0_1 0) == 0) a0_0 l0_1 l0_2) else (none)) else (proctorref02_ReadNum.j0 k false a0_0 l0_1 l0_2))))
theorem proctorref02_ReadNum.calls (k : Nat) (a0_0 : Bool) (A0_1 : Option Addr) (c0_1 : Nat) (l0_1 : List Int) (A0_2 : Option Addr) (c0_2 : Nat) (l0_2 : List (S159)) (r1 : Int) (r2 : Int) (w : World) (hr0_1 : Kd.C (Kd.int .u8) w A0_1 l0_1.length l0_1) (hc0_1 : l0_1.length ≤ c0_1) (hr0_2 : Kd.C k159 w A0_2 l0_2.length l0_2) (hc0_2 : l0_2.length ≤ c0_2) (h : proctorref02_ReadNum.f k a0_0 l0_1 l0_2 = some (r1, r2)) :
 Calls Try.prog 110 #[.agg #[.bool a0_0, .slice A0_1 l0_1.length c0_1, .slice A0_2 l0_2.length c0_2]] w fun e w' => e = .returned (.tuple #[.int .u64 r1, .int .i64 r2]) ∧ Below w.heap.size w w' := by
 have hu159 := Try.underlying159
 have HR0_1 := Aside0.mk hr0_1
 have HC0_1 := Aside0.mk hc0_1
 clear hr0_1 hc0_1
 have HR0_2 := Aside0.mk hr0_2
 have HC0_2 := Aside0.mk hc0_2
 clear hr0_2 hc0_2
 have HB := Aside0.mk (Below.refl w.heap.size w)
 have H : (if a0_0 = true then (proctorref02_ReadNum.j0 k true a0_0 l0_1 l0_2) else (if (l0_2.length : Int) > 0 then (proctorref02_ReadNum.j0 k true a0_0 l0_1 l0_2) else (if (l0_1.length : Int) > 8 then (proctorref02_ReadNum.j0 k true a0_0 l0_1 l0_2) else (if (l0_1.length : Int) > 0 then (if 0 < (l0_1.length : Int) then (proctorref02_ReadNum.j0 k ((rd l0_1 0) == 0) a0_0 l0_1 l0_2) else (none)) else (proctorref02_ReadNum.j0 k false a0_0 l0_1 l0_2))))) = some (r1, r2) := h
 clear h
 have HC2 := Aside0.mk H
 clear H
 go_enter Try.func110, Try.ntmps110
 go_upto_region 1 with (first | ((with_reducible refine gate_dst (N := 1) rfl ?_); (try (refine gate_guard (by rfl) ?_; dsimp only)); refine zx 1 #[.bool a0_0, .slice A0_1 l0_1.length c0_1, .slice A0_2 l0_2.length c0_2] 159 ?_; intro gb411 hg w3 hbox hb; have BK411 := Aside0.mk (hbox); have GW411 := Aside0.mk ((zG hg HB)); have GE411 := Aside0.mk ((zG hg HB)); replace HB := Aside0.mk (below_step (zB HB) hb); clear hb hbox hg))
 (try simp only [Act.put, List.setIfInBounds_toArray, List.set_cons_zero, List.set_cons_succ])
 go_cut [32] (fun v32 wc => ∃ (kq : Nat) (x32_1 : Bool), v32 = .bool x32_1 ∧ Aside0 (proctorref02_ReadNum.j0 kq x32_1 a0_0 l0_1 l0_2 = some (r1, r2)) ∧ Aside0 (kq ≤ k) ∧ Aside0 (wc.heap[gb411]? = some (.cells #[.bool a0_0, (.slice A0_1 l0_1.length c0_1), (.slice A0_2 l0_2.length c0_2)] 159 (0, 0))) ∧ Aside0 (Below w.heap.size w wc))
 case first =>
  have H := HC2.out
  clear HC2
  by_cases c4 : a0_0 = true
  ·subst c4
   have H1 : (proctorref02_ReadNum.j0 k true true l0_1 l0_2) = some (r1, r2) := by rw [if_pos rfl] at H; exact H
   clear H
   have H := H1
   clear H1
   have H' := Aside0.mk H
   clear H
   have hcz5_0 : w3.cell? ⟨gb411, 0, none⟩ = some (.bool true) := (blk_cell BK411.out 0).trans rfl
   have hcz5_1 : w3.cell? ⟨gb411, 1, none⟩ = some (.slice A0_1 l0_1.length c0_1) := (blk_cell BK411.out 1).trans rfl
   have hcz5_2 : w3.cell? ⟨gb411, 2, none⟩ = some (.slice A0_2 l0_2.length c0_2) := (blk_cell BK411.out 2).trans rfl
   have hfz5_0 := blk_frozen BK411.out 0
   have hfz5_1 := blk_frozen BK411.out 1
   have hfz5_2 := blk_frozen BK411.out 2
   go_wp2
   go_meet
   case rel => exact ⟨_, (true), zX, H', ⟨by first | omega | exact Nat.le_refl _⟩, ⟨zK BK411⟩, ⟨zB1 HB GE411⟩⟩
  ·replace c4 := Bool.eq_false_iff.mpr c4
   subst c4
   have H1 : (if (l0_2.length : Int) > 0 then (proctorref02_ReadNum.j0 k true false l0_1 l0_2) else (if (l0_1.length : Int) > 8 then (proctorref02_ReadNum.j0 k true false l0_1 l0_2) else (if (l0_1.length : Int) > 0 then (if 0 < (l0_1.length : Int) then (proctorref02_ReadNum.j0 k ((rd l0_1 0) == 0) false l0_1 l0_2) else (none)) else (proctorref02_ReadNum.j0 k false false l0_1 l0_2)))) = some (r1, r2) := by rw [if_neg (show ¬ (false = true) by decide)] at H; exact H
   clear H
   have H := H1
   clear H1
   by_cases c6 : (l0_2.length : Int) > 0
   ·rw [if_pos c6] at H
    have c6b0 : decide (0 < (l0_2.length : Int)) = true := decide_eq_true c6
    have c6b1 : decide (0 < l0_2.length) = true := decide_eq_true (by omega)
    clear c6
    (first | rw [c6b0] | (simp only [i64_w, i32_w]; rw [c6b0]) | skip)
    have H' := Aside0.mk H
    clear H
    have hcz7_0 : w3.cell? ⟨gb411, 0, none⟩ = some (.bool false) := (blk_cell BK411.out 0).trans rfl
    have hcz7_1 : w3.cell? ⟨gb411, 1, none⟩ = some (.slice A0_1 l0_1.length c0_1) := (blk_cell BK411.out 1).trans rfl
    have hcz7_2 : w3.cell? ⟨gb411, 2, none⟩ = some (.slice A0_2 l0_2.length c0_2) := (blk_cell BK411.out 2).trans rfl
    have hfz7_0 := blk_frozen BK411.out 0
    have hfz7_1 := blk_frozen BK411.out 1
    have hfz7_2 := blk_frozen BK411.out 2
    go_wp2
    go_meet
    case rel => exact ⟨_, (true), zX, H', ⟨by first | omega | exact Nat.le_refl _⟩, ⟨zK BK411⟩, ⟨zB1 HB GE411⟩⟩
   ·rw [if_neg c6] at H
    have c6b0 : decide (0 < (l0_2.length : Int)) = false := decide_eq_false c6
    have c6b1 : decide (0 < l0_2.length) = false := decide_eq_false (by omega)
    clear c6
    (first | rw [c6b0] | (simp only [i64_w, i32_w]; rw [c6b0]) | skip)
    by_cases c8 : (l0_1.length : Int) > 8
    ·rw [if_pos c8] at H
     have c8b0 : decide (8 < (l0_1.length : Int)) = true := decide_eq_true c8
     have c8b1 : decide (8 < l0_1.length) = true := decide_eq_true (by omega)
     clear c8
     have H' := Aside0.mk H
     clear H
     have hcz9_0 : w3.cell? ⟨gb411, 0, none⟩ = some (.bool false) := (blk_cell BK411.out 0).trans rfl
     have hcz9_1 : w3.cell? ⟨gb411, 1, none⟩ = some (.slice A0_1 l0_1.length c0_1) := (blk_cell BK411.out 1).trans rfl
     have hcz9_2 : w3.cell? ⟨gb411, 2, none⟩ = some (.slice A0_2 l0_2.length c0_2) := (blk_cell BK411.out 2).trans rfl
     have hfz9_0 := blk_frozen BK411.out 0
     have hfz9_1 := blk_frozen BK411.out 1
     have hfz9_2 := blk_frozen BK411.out 2
     go_wp2
     go_meet
     case rel => exact ⟨_, (true), zX, H', ⟨by first | omega | exact Nat.le_refl _⟩, ⟨zK BK411⟩, ⟨zB1 HB GE411⟩⟩
    ·rw [if_neg c8] at H
     have c8b0 : decide (8 < (l0_1.length : Int)) = false := decide_eq_false c8
     have c8b1 : decide (8 < l0_1.length) = false := decide_eq_false (by omega)
     clear c8
     by_cases c10 : (l0_1.length : Int) > 0
     ·rw [if_pos c10] at H
      have c10b0 : decide (0 < (l0_1.length : Int)) = true := decide_eq_true c10
      have c10b1 : decide (0 < l0_1.length) = true := decide_eq_true (by omega)
      clear c10
      by_cases c11 : 0 < (l0_1.length : Int)
      ·rw [if_pos c11] at H
       have c11b0 : decide (0 < (l0_1.length : Int)) = true := decide_eq_true c11
       have c11b1 : decide (0 < l0_1.length) = true := decide_eq_true (by omega)
       clear c11
       have H' := Aside0.mk H
       clear H
       have hcz12_0 : w3.cell? ⟨gb411, 0, none⟩ = some (.bool false) := (blk_cell BK411.out 0).trans rfl
       have hcz12_1 : w3.cell? ⟨gb411, 1, none⟩ = some (.slice A0_1 l0_1.length c0_1) := (blk_cell BK411.out 1).trans rfl
       have hcz12_2 : w3.cell? ⟨gb411, 2, none⟩ = some (.slice A0_2 l0_2.length c0_2) := (blk_cell BK411.out 2).trans rfl
       have hfz12_0 := blk_frozen BK411.out 0
       have hfz12_1 := blk_frozen BK411.out 1
       have hfz12_2 := blk_frozen BK411.out 2
       have p412 : 0 ≤ (0 : Int) := (by omega)
       have q412 : 0 < (l0_1.length : Int) := of_decide_eq_true zA
       obtain ⟨ad412, e412, hx412_0⟩ := Kd.at_int HR0_1.out 0 p412 q412
       cases e412
       have qi412 : (0 < l0_1.length) = True := eq_true (by omega)
       (try rw [show ((0 : Int)).toNat = 0 from rfl] at hx412_0)
       (try rw [Addr.add_zero'] at hx412_0)
       replace hx412_0 := (HB.out.cell (World.block_lt_of_cell? w _ hx412_0)).trans hx412_0
       replace p412 := eq_true p412
       replace q412 := eq_true q412
       go_wp2
       go_meet
       case rel => exact ⟨_, (((rd l0_1 0) == 0)), zX, H', ⟨by first | omega | exact Nat.le_refl _⟩, ⟨zK BK411⟩, ⟨zB1 HB GE411⟩⟩
      ·rw [if_neg c11] at H
       exact absurd H (by simp)
     ·rw [if_neg c10] at H
      have c10b0 : decide (0 < (l0_1.length : Int)) = false := decide_eq_false c10
      have c10b1 : decide (0 < l0_1.length) = false := decide_eq_false (by omega)
      clear c10
      have H' := Aside0.mk H
      clear H
      have hcz13_0 : w3.cell? ⟨gb411, 0, none⟩ = some (.bool false) := (blk_cell BK411.out 0).trans rfl
      have hcz13_1 : w3.cell? ⟨gb411, 1, none⟩ = some (.slice A0_1 l0_1.length c0_1) := (blk_cell BK411.out 1).trans rfl
      have hcz13_2 : w3.cell? ⟨gb411, 2, none⟩ = some (.slice A0_2 l0_2.length c0_2) := (blk_cell BK411.out 2).trans rfl
      have hfz13_0 := blk_frozen BK411.out 0
      have hfz13_1 := blk_frozen BK411.out 1
      have hfz13_2 := blk_frozen BK411.out 2
      go_wp2
      go_meet
      case rel => exact ⟨_, (false), zX, H', ⟨by first | omega | exact Nat.le_refl _⟩, ⟨zK BK411⟩, ⟨zB1 HB GE411⟩⟩
 case rest =>
  clear HC2
  obtain ⟨kq, x32_1, rfl, HA, HJ1, BK411, HB⟩ := hcut
  cases kq with
  | zero => exact absurd HA.out (by simp [proctorref02_ReadNum.j0])
  | succ kj1 =>
   have H := HA.out
   clear HA
   simp only [proctorref02_ReadNum.j0] at H
   by_cases c14 : x32_1 = true
   ·subst c14
    have H1 : (some (0, 8)) = some (r1, r2) := by rw [if_pos rfl] at H; exact H
    clear H
    have H := H1
    clear H1
    simp only [Option.some.injEq, Prod.mk.injEq] at H
    obtain ⟨rfl, rfl⟩ := H
    go_wp2
    go_ret2
    exact ⟨zE, zB1 HB GE411⟩
   ·replace c14 := Bool.eq_false_iff.mpr c14
    subst c14
    have H1 : (proctorref02_ReadNum.l0 kj1 0 0 a0_0 l0_1 l0_2) = some (r1, r2) := by rw [if_neg (show ¬ (false = true) by decide)] at H; exact H
    clear H
    have H := H1
    clear H1
    have H' := Aside0.mk H
    clear H
    go_wp2
    go_loopg [4, 5] kj1 (fun kq v4 v5 w' => ∃ (x4_2 : Int) (x5_2 : Int), v4 = .int .u64 x4_2 ∧ v5 = .int .i64 x5_2 ∧ Aside0 (proctorref02_ReadNum.l0 kq x4_2 x5_2 a0_0 l0_1 l0_2 = some (r1, r2)) ∧ Aside0 (kq ≤ kj1) ∧ Aside0 (w'.heap[gb411]? = some (.cells #[.bool a0_0, (.slice A0_1 l0_1.length c0_1), (.slice A0_2 l0_2.length c0_2)] 159 (0, 0))) ∧ Aside0 (Below w.heap.size w w'))
    case atStart => exact ⟨(0), (0), zX, zX, H', ⟨Nat.le_refl _⟩, ⟨zK BK411⟩, ⟨zB1 HB GE411⟩⟩
    case round =>
     clear H'
     obtain ⟨x4_2, x5_2, rfl, rfl, HA, HK2, BK411, HB⟩ := hrel
     cases gk with
     | zero => exact absurd HA.out (by simp [proctorref02_ReadNum.l0])
     | succ k2 =>
      have H := HA.out
      clear HA
      simp only [proctorref02_ReadNum.l0] at H
      by_cases c15 : x5_2 < (l0_1.length : Int)
      ·rw [if_pos c15] at H
       have c15b0 : decide (x5_2 < (l0_1.length : Int)) = true := decide_eq_true c15
       clear c15
       by_cases c16 : 0 ≤ x5_2
       ·rw [if_pos c16] at H
        have c16b0 : decide (0 ≤ x5_2) = true := decide_eq_true c16
        clear c16
        have H' := Aside0.mk H
        clear H
        have hcz17_0 : wr.cell? ⟨gb411, 0, none⟩ = some (.bool a0_0) := (blk_cell BK411.out 0).trans rfl
        have hcz17_1 : wr.cell? ⟨gb411, 1, none⟩ = some (.slice A0_1 l0_1.length c0_1) := (blk_cell BK411.out 1).trans rfl
        have hcz17_2 : wr.cell? ⟨gb411, 2, none⟩ = some (.slice A0_2 l0_2.length c0_2) := (blk_cell BK411.out 2).trans rfl
        have hfz17_0 := blk_frozen BK411.out 0
        have hfz17_1 := blk_frozen BK411.out 1
        have hfz17_2 := blk_frozen BK411.out 2
        have p413 : 0 ≤ (x5_2 : Int) := of_decide_eq_true zA
        have q413 : x5_2 < (l0_1.length : Int) := of_decide_eq_true zA
        obtain ⟨ad413, e413, hx413_0⟩ := Kd.at_int HR0_1.out x5_2 p413 q413
        cases e413
        replace hx413_0 := (HB.out.cell (World.block_lt_of_cell? w _ hx413_0)).trans hx413_0
        replace p413 := eq_true p413
        replace q413 := eq_true q413
        go_wp2
        go_roundg k2
        case measure => have := HJ1.out; have := HK2.out; omega
        case rel => exact ⟨(Go.bits .or .u64 (IntKind.u64.wrap (x4_2 * 256)) (IntKind.u64.wrap (rd l0_1 x5_2))), (wrap64 (x5_2 + 1)), zX, zX, H', ⟨by have := HJ1.out; have := HK2.out; omega⟩, ⟨zK BK411⟩, ⟨zB1 HB GE411⟩⟩
       ·rw [if_neg c16] at H
        exact absurd H (by simp)
      ·rw [if_neg c15] at H
       have c15b0 : decide (x5_2 < (l0_1.length : Int)) = false := decide_eq_false c15
       clear c15
       simp only [Option.some.injEq, Prod.mk.injEq] at H
       obtain ⟨rfl, rfl⟩ := H
       have hcz18_0 : wr.cell? ⟨gb411, 0, none⟩ = some (.bool a0_0) := (blk_cell BK411.out 0).trans rfl
       have hcz18_1 : wr.cell? ⟨gb411, 1, none⟩ = some (.slice A0_1 l0_1.length c0_1) := (blk_cell BK411.out 1).trans rfl
       have hcz18_2 : wr.cell? ⟨gb411, 2, none⟩ = some (.slice A0_2 l0_2.length c0_2) := (blk_cell BK411.out 2).trans rfl
       have hfz18_0 := blk_frozen BK411.out 0
       have hfz18_1 := blk_frozen BK411.out 1
       have hfz18_2 := blk_frozen BK411.out 2
       go_wp2
       go_ret2
       exact ⟨zE, zB1 HB GE411⟩
end Go.Proofs.Ytocphkfkdadhaaa.PRF
namespace Go.Proofs.Ytocphkfkdadhaaa.H
open Go.RowKit Go.Proofs.YtocphkfkdadhaaaW.PrintWords Go.Proofs.YtocphkfkdadhaaaW.PrintLast Go.Proofs.YtocphkfkdadhaaaW.PrintMore
abbrev kL : Kd (List Int) := Kd.slice 5 kB
abbrev kQ : Kd PRF.S78 := PRF.k78
theorem bclone_any (ws : List Int) (A : Option Addr) (c : Nat) (w : World) (hC : Kd.C kB w A ws.length ws) (hc : ws.length ≤ c) (hl : ws.length ≤ 1099511627776) :
 Calls Try.prog 130 #[.slice A ws.length c] w fun e w' => ∃ v, e = .returned v ∧ Own w.heap.size w w' [.row kB 5 v ws] := by
 have HC := Aside0.mk hC
 have H0 := Aside0.mk (Own.start w)
 have HL := Aside0.mk hl
 have hq := fun W => Lib.run_eql_slice_nil (P := Try.prog) W 74 5 A ws.length c 0 0 Try.underlying74
 obtain ⟨n, hn⟩ : ∃ n, n = ws.length := ⟨_, rfl⟩
 rcases A with _ | ad
 ·have h0 : ws = [] := by
   by_cases hp : 0 < ws.length
   ·obtain ⟨ad, he, _⟩ := hC.2.2 hp; cases he
   ·exact List.length_eq_zero_iff.1 (by omega)
  subst h0
  simp only [Option.isNone_none, List.length_nil] at hq ⊢
  clear hC hl hc hn
  go_enter Try.func130, Try.ntmps130
  go_wp2
  go_ret
  exact ⟨_, rfl, H0.out.null kB _⟩
 ·simp only [Option.isNone_some] at hq
  rw [← hn] at HC HL hc hq ⊢
  clear hC hl hn
  go_enter Try.func130, Try.ntmps130
  go_wp2_with (first
   | fail
   | ((with_reducible refine gate_dst (N := 5) rfl ?_); refine own_lit kB Flat_B H0.out 5 rfl (N := 5) rfl (xs := ([] : List Int)) (inner := (([] : List Int)).map (Value.int .u8)) ?hr5 (Kd.reps_scalar _) (by simp) ?_; (case hr5 => first | (go_simp; done) | (go_simp; rfl)); intro A1 c1 w1 H1 B1; replace H1 := Aside0.mk H1; replace B1 := Aside0.mk B1)
   | ((with_reducible refine gate_dst (N := 7) rfl ?_); (with_reducible refine gate_builtin (b := .append) (xs := #[.tmp 5, .tmp 6]) rfl ?_); refine own_append_row kB Flat_B H1.out 0 rfl rfl (.tmp 5) (.tmp 6) 74 (.int .u8 0) 1 rfl Try.underlying74 infoB rfl (by decide) (by decide) (ws) _ _ _ rfl rfl (Kd.C_below HC.out B1.out) ?_ ?_; (case _ => have := HL.out; simp only [List.length_nil]; omega); intro v2 w2 H2; replace H2 := Aside0.mk H2)
   )
  go_ret
  exact ⟨_, rfl, by have h := H2.out; rw [List.nil_append] at h; exact h⟩
theorem lclone_any (ws : List (List Int)) (A : Option Addr) (c : Nat) (wx w : World) (hC : Kd.C (shK kL wx) w A ws.length ws) (hc : ws.length ≤ c) (hl : ws.length ≤ 1099511627776) :
 Calls Try.prog 134 #[.slice A ws.length c] w fun e w' => ∃ v, e = .returned v ∧ Own w.heap.size w w' [.row (shK kL wx) 74 v ws] := by
 have HC := Aside0.mk hC
 have H0 := Aside0.mk (Own.start w)
 have HL := Aside0.mk hl
 have hq := fun W => Lib.run_eql_slice_nil (P := Try.prog) W 71 74 A ws.length c 0 0 Try.underlying71
 obtain ⟨n, hn⟩ : ∃ n, n = ws.length := ⟨_, rfl⟩
 rcases A with _ | ad
 ·have h0 : ws = [] := by
   by_cases hp : 0 < ws.length
   ·obtain ⟨ad, he, _⟩ := hC.2.2 hp; cases he
   ·exact List.length_eq_zero_iff.1 (by omega)
  subst h0
  simp only [Option.isNone_none, List.length_nil] at hq ⊢
  clear hC hl hc hn HC
  go_enter Try.func134, Try.ntmps134
  go_wp2
  go_ret
  exact ⟨_, rfl, H0.out.null (shK kL wx) _⟩
 ·simp only [Option.isNone_some] at hq
  rw [← hn] at HC HL hc hq ⊢
  clear hC hl hn
  go_enter Try.func134, Try.ntmps134
  go_wp2_with (first
   | fail
   | ((with_reducible refine gate_dst (N := 5) rfl ?_); refine own_lit (shK kL wx) (Flat_sh _ _) H0.out 74 rfl (N := 5) rfl (xs := []) (inner := []) ?hr5 (Reps.none _ _) (by simp) ?_; (case hr5 => first | (go_simp; done) | (go_simp; rfl)); intro A1 c1 w1 H1 B1; replace H1 := Aside0.mk H1; replace B1 := Aside0.mk B1)
   | ((with_reducible refine gate_dst (N := 7) rfl ?_); (with_reducible refine gate_builtin (b := .append) (xs := #[.tmp 5, .tmp 6]) rfl ?_); refine own_append_row (shK kL wx) (Flat_sh _ _) H1.out 0 rfl rfl (.tmp 5) (.tmp 6) 71 (.slice none 0 0) 24 rfl Try.underlying71 PRF.info74 rfl (show 0 < 1 by decide) (by decide) ws _ _ _ rfl rfl (Kd.C_below HC.out B1.out) ?_ ?_; (case _ => have := HL.out; simp only [List.length_nil]; omega); intro v2 w2 H2; replace H2 := Aside0.mk H2)
   )
  go_ret
  exact ⟨_, rfl, by have h := H2.out; rw [List.nil_append] at h; exact h⟩
theorem qclone_any (ws : List PRF.S78) (A : Option Addr) (c : Nat) (wx w : World) (hC : Kd.C (shK kQ wx) w A ws.length ws) (hc : ws.length ≤ c) (hl : ws.length ≤ 1099511627776) :
 Calls Try.prog 133 #[.slice A ws.length c] w fun e w' => ∃ v, e = .returned v ∧ Own w.heap.size w w' [.row (shK kQ wx) 78 v ws] := by
 have HC := Aside0.mk hC
 have H0 := Aside0.mk (Own.start w)
 have HL := Aside0.mk hl
 have hq := fun W => Lib.run_eql_slice_nil (P := Try.prog) W 70 78 A ws.length c 0 0 Try.underlying70
 obtain ⟨n, hn⟩ : ∃ n, n = ws.length := ⟨_, rfl⟩
 rcases A with _ | ad
 ·have h0 : ws = [] := by
   by_cases hp : 0 < ws.length
   ·obtain ⟨ad, he, _⟩ := hC.2.2 hp; cases he
   ·exact List.length_eq_zero_iff.1 (by omega)
  subst h0
  simp only [Option.isNone_none, List.length_nil] at hq ⊢
  clear hC hl hc hn HC
  go_enter Try.func133, Try.ntmps133
  go_wp2
  go_ret
  exact ⟨_, rfl, H0.out.null (shK kQ wx) _⟩
 ·simp only [Option.isNone_some] at hq
  rw [← hn] at HC HL hc hq ⊢
  clear hC hl hn
  go_enter Try.func133, Try.ntmps133
  go_wp2_with (first
   | fail
   | ((with_reducible refine gate_dst (N := 5) rfl ?_); refine own_lit (shK kQ wx) (Flat_sh _ _) H0.out 78 rfl (N := 5) rfl (xs := []) (inner := []) ?hr5 (Reps.none _ _) (by simp) ?_; (case hr5 => first | (go_simp; done) | (go_simp; rfl)); intro A1 c1 w1 H1 B1; replace H1 := Aside0.mk H1; replace B1 := Aside0.mk B1)
   | ((with_reducible refine gate_dst (N := 7) rfl ?_); (with_reducible refine gate_builtin (b := .append) (xs := #[.tmp 5, .tmp 6]) rfl ?_); refine own_append_row (shK kQ wx) (Flat_sh _ _) H1.out 0 rfl rfl (.tmp 5) (.tmp 6) 70 (.agg #[.int .i64 0, .slice none 0 0]) 32 rfl Try.underlying70 PRF.info78 rfl (show 0 < 2 by decide) (by decide) ws _ _ _ rfl rfl (Kd.C_below HC.out B1.out) ?_ ?_; (case _ => have := HL.out; simp only [List.length_nil]; omega); intro v2 w2 H2; replace H2 := Aside0.mk H2)
   )
  go_ret
  exact ⟨_, rfl, by have h := H2.out; rw [List.nil_append] at h; exact h⟩
def mixL {α : Type} (i : Nat) (q : List α) : List (Bool × α) := (q.take i).map (fun x => (true, x)) ++ (q.drop i).map (fun x => (false, x))
section
variable {α : Type} {q : List α}
theorem mixL_0 : mixL 0 q = q.map (fun x => (false, x)) := by simp [mixL]
theorem mixL_all : mixL q.length q = q.map (fun x => (true, x)) := by simp [mixL]
theorem mixL_len (i : Nat) : (mixL i q).length = q.length := by
 simp only [mixL, List.length_append, List.length_map, List.length_take, List.length_drop]
 omega
theorem mixL_get {i : Nat} (h : i < q.length) : (mixL i q)[i]? = some (false, q[i]) := by
 have h1 : ((q.take i).map (fun x => (true, x))).length = i := by rw [List.length_map, List.length_take]; omega
 rw [mixL, List.getElem?_append_right (by omega), h1, Nat.sub_self, List.getElem?_map, List.getElem?_drop, Nat.add_zero, List.getElem?_eq_getElem h]
 rfl
theorem mixL_set {i : Nat} (h : i < q.length) : (mixL i q).set i (true, q[i]) = mixL (i + 1) q := by
 have h1 : ((q.take i).map (fun x => (true, x))).length = i := by rw [List.length_map, List.length_take]; omega
 rw [mixL, List.set_append_right _ _ (by omega), h1, Nat.sub_self, List.drop_eq_getElem_cons h, List.map_cons, List.set_cons_zero, mixL, List.take_succ_eq_append_getElem h, List.map_append, List.append_assoc]
 rfl
end
theorem Own.cells_at {B : Nat} {w0 W : World} {L : List Item} {α : Type} {d : Kd α} (h : Own B w0 W L) (k : Nat) {g n cap e : Nat} {xs : List α} (hk : L[k]? = some (.row d e (.slice (some ⟨g, 0, none⟩) n cap) xs)) (i : Nat) {x : α} (hx : xs[i]? = some x) :
 ∃ cs, d.K W x cs ∧ ∀ (j : Nat) (u : Value), cs[j]? = some u → W.cell? ⟨g, i * d.sz + j, none⟩ = some u := by
 obtain ⟨S, _, hR⟩ := h.look k hk
 have hR : Kd.R d e W 0 S _ xs := hR
 obtain ⟨hn, cur, inner, hh, hc3, hc1, hc4, hr⟩ := R_block hR
 have hi : i < xs.length := (List.getElem?_eq_some_iff.1 hx).1
 have hm : i * d.sz + d.sz ≤ n * d.sz := by rw [← Nat.succ_mul]; exact Nat.mul_le_mul_right _ (by omega)
 refine ⟨_, d.K_of_M (hr.2 i x hx), fun j u hu => ?_⟩
 have hjs : j < d.sz := by
  have := (List.getElem?_eq_some_iff.1 hu).1
  rw [List.length_take] at this
  omega
 rw [List.getElem?_take_of_lt hjs, List.getElem?_drop, ← hc4, List.getElem?_take_of_lt (by omega), Array.getElem?_toList] at hu
 rw [blk_cell hh, hu]
def shM {α : Type} (d : Kd α) (w1 : World) (S : Nat → Prop) : Kd α where
 sz := d.sz
 E := []
 K := fun _ x cs => d.K w1 x cs
 M := fun _ _ _ x cs => d.M w1 0 S x cs
 K_len := d.K_len
 K_one := d.K_one
 K_below := fun _ h => h
 K_of_M := fun h => d.K_of_M h
 M_mono := fun _ h => h
 M_bound := fun h => h
 M_move := fun _ h => h
 M_lower := fun _ h => h
theorem shM_own {α : Type} {d : Kd α} {w1 W : World} {S : Nat → Prop} {e : Nat} {v : Value} {xs : List α} {ok : Nat → Prop} (h : (shM d w1 S).R e W 0 ok v xs) (hb : Below w1.heap.size w1 W) (hok : ∀ k, ok k → w1.heap.size ≤ k) : d.R e W 0 (fun k => ok k ∨ S k) v xs := by
 obtain ⟨h0, inner, ho, hr⟩ := h
 refine ⟨fun k hk => .inl (h0 k hk), inner, ho, Reps.imp_ hr fun x cs hx => ?_⟩
 have hx : d.M w1 0 S x cs := hx
 have hx := d.M_move (w1 := W) (fun k hk => hb.block k hk.2.2.1) (d.M_bound hx)
 refine d.M_mono (fun k hk => ⟨.inr hk.1, fun he => ?_⟩) hx
 have := hok k (h0 k he.symm)
 omega
theorem elemP {α : Type} {d : Kd α} {w : World} {A : Option Addr} {n : Nat} {xs : List α} (h : Kd.C d w A n xs) (i : Nat) (hi : i < n) (hl : i < xs.length) :
 ∃ ad cs, A = some ad ∧ d.K w xs[i] cs ∧ ∀ W, Below w.heap.size w W → ∀ (j : Nat) (u : Value), cs[j]? = some u → W.cell? ((ad.add (i * d.sz)).add j) = some u := by
 obtain ⟨ad, cs, hA, _, hK, hc⟩ := Kd.C_get h xs[i] (i : Int) (by omega) (by omega)
 rw [Int.toNat_natCast] at hK hc
 refine ⟨ad, cs, hA, ?_, fun W hb j u hj => ?_⟩
 ·rw [List.getD_eq_getElem?_getD, List.getElem?_eq_getElem hl] at hK
  exact hK
 ·rw [add_add_]
  exact pw_cell_below hb (hc j u hj)
section
variable {P : Program} {ops : Array Oper} {rest : List Oper} {o : Oper} {a : Act} {Q : Exit → Act → World → Prop} {Kc : Act → World → Prop} {B : Nat} {w0 W : World} {L : List Item} {α : Type}
theorem ld_at (hgd : o.guard = none) (ty : TypeId) (x : Operand) (ho : o.op = .load ty x) (p : Addr) (cs : List Value) (d : TypeDesc) (hx : a.eval x = .pointer (some p)) (hc : ∀ j v, cs[j]? = some v → W.cell? (p.add j) = some v) (hu : P.underlying ty = some d) (hd : d.isRow = true)
 (hi : (P.info? ty).map (·.size) = some cs.length) (h : wpList P ops Q rest (a.put o.dst (.agg cs.toArray)) W) : wpList P ops Q (o :: rest) a W :=
 wpList_plain hgd fun _ hK => by
  unfold Oper.wp execOp
  simp only [ho, hx, Instr.loadAt, Instr.sureAddr, Sem.run_bind, Sem.run_pure, Result.andThen_ok, run_loadVar_at (P := P) (W := W) p ty cs d hc hu (by cases d <;> first | rfl | cases hd) hi]
  exact hK _ _ h
theorem own_litM (d : Kd α) {it : Item} (H : Own B w0 W (it :: L)) (e : Nat) (hgd : o.guard = none) {N : Tmp} (hd : o.dst = some N) {xs : List α} {inner : List Value}
 (hrun : (execOp a.eval o).run P W = .ok (.value (.slice (some ⟨W.heap.size, 0, none⟩) xs.length xs.length)) (W.alloc (.cells inner.toArray e)))
 (hrep : ∀ S, it.P W S → Reps (d.M W 0 S) d.sz xs inner) (hm : xs.length ≤ 9223372036854775807)
 (h : ∀ A c w1, xs.length ≤ c → Own B w0 w1 (.row d e (.slice A xs.length c) xs :: L) → Below W.heap.size W w1 → wpList P ops Q rest (a.put o.dst (.slice A xs.length c)) w1) : wpList P ops Q (o :: rest) a W := by
 obtain ⟨S, hS, hP, hch⟩ := H.focus 0 rfl
 refine Kd.R_lit d 0 e hgd hd (ok := fun i => S i ∨ W.heap.size ≤ i) (okp := S) (w0 := W) hrun (hrep S hP) (fun k hk => .inl hk) (.inr (Nat.le_refl _)) ⟨rfl, rfl, rfl, Nat.le_refl _, fun _ _ => rfl⟩ (Nat.zero_le _) hm ?_
 intro v1 w1 hR1 hb hg _
 obtain ⟨A, c, rfl, hc, _⟩ := Kd.R_reads hR1
 refine h A c w1 hc (hch w1 (.row d e (.slice A xs.length c) xs) none hg (fun g hr => by cases hr) ?_) ⟨hg.os, hg.tape, hg.output, hg.size, fun k hk => hg.block k hk (by simp)⟩
 exact Kd.R_mono (Kd.R_bound hR1) (fun i hi => by rcases hi with ⟨hi | hi, h2, h3, _⟩; exact .inl hi; exact .inr ⟨hi, h3⟩)
theorem own_append_any (d : Kd α) (H : Own B w0 W L) (k : Nat) {v : Value} {xs : List α} {e : Nat} (hk : L[k]? = some (.row d e v xs)) (hgd : o.guard = none) (s x : Operand) (t : TypeId) (z : Value) (bytes : Nat)
 (ho : o.op = .call { callee := .builtin .append, args := #[s, x], argTypes := #[t, t] })
 (ht : P.underlying t = some (.slice e)) (hinfo : (P.info? e).map (fun i => (i.zero, i.size, i.bytes)) = some (some z, d.sz, bytes)) (hz : z.cells.size = d.sz) (hs0 : 0 < d.sz) (hb0 : 0 < bytes)
 (p : α) (cs : List Value) (hp : ∀ w, d.M w 0 (fun _ => False) p cs) (hs : a.eval s = v) (hx : a.eval x = .slice (some ⟨W.heap.size, 0, none⟩) 1 1) (hl : (xs.length + 1) * bytes ≤ 140737488355328)
 (h : ∀ v1 w1, Own B w0 w1 (L.set k (.row d e v1 (xs ++ [p]))) → wpList P ops Q rest (a.put o.dst v1) w1) :
 wpList P ops Q (o :: rest) a (W.alloc (.cells cs.toArray e)) := by
 obtain ⟨S, hS, hR, hch⟩ := H.focus k hk
 have hR : Kd.R d e W 0 S v xs := hR
 refine Kd.R_append d 0 hgd s x t e z bytes ho ht hinfo hz hs0 hb0 v xs p cs (fun i => S i ∨ W.heap.size ≤ i) (fun _ => False) hs hx (hp W) (fun _ hk => hk.elim) (fun i hi => .inr hi) (Kd.R_mono hR fun i hi => .inl hi) (w0 := W) ⟨rfl, rfl, rfl, Nat.le_refl _, fun _ _ => rfl⟩ (Nat.zero_le _) hl ?_
 intro v1 w1 hR1 _ hg _
 refine h v1 w1 (hch w1 (.row d e v1 (xs ++ [p])) v.ownBlock hg (fun g hr => hR.1 g hr) ?_)
 exact Kd.R_mono (Kd.R_bound hR1) (fun i hi => by rcases hi with ⟨hi | hi, h2, h3, _⟩; exact .inl hi; exact .inr ⟨hi, h3⟩)
theorem own_append_any_step (d : Kd α) (H : Own B w0 W L) (k : Nat) {v : Value} {xs : List α} {e : Nat} (hk : L[k]? = some (.row d e v xs)) (hw : Region.wanted o (yielded ops a.tmps) = true) (s x : Operand) (t : TypeId) (z : Value) (bytes : Nat)
 (ho : o.op = .call { callee := .builtin .append, args := #[s, x], argTypes := #[t, t] })
 (ht : P.underlying t = some (.slice e)) (hinfo : (P.info? e).map (fun i => (i.zero, i.size, i.bytes)) = some (some z, d.sz, bytes)) (hz : z.cells.size = d.sz) (hs0 : 0 < d.sz) (hb0 : 0 < bytes)
 (p : α) (cs : List Value) (hp : ∀ w, d.M w 0 (fun _ => False) p cs) (hs : a.eval s = v) (hx : a.eval x = .slice (some ⟨W.heap.size, 0, none⟩) 1 1) (hl : (xs.length + 1) * bytes ≤ 140737488355328)
 (h : ∀ v1 w1, Own B w0 w1 (L.set k (.row d e v1 (xs ++ [p]))) → Kc (a.put o.dst v1) w1) :
 if Region.wanted o (yielded ops a.tmps) = true then Oper.wp P o a (W.alloc (.cells cs.toArray e)) Kc Q else Kc (a.put o.dst undef) (W.alloc (.cells cs.toArray e)) := by
 obtain ⟨S, hS, hR, hch⟩ := H.focus k hk
 have hR : Kd.R d e W 0 S v xs := hR
 refine Kd.R_append_step d 0 hw s x t e z bytes ho ht hinfo hz hs0 hb0 v xs p cs (fun i => S i ∨ W.heap.size ≤ i) (fun _ => False) hs hx (hp W) (fun _ hk => hk.elim) (fun i hi => .inr hi) (Kd.R_mono hR fun i hi => .inl hi) (w0 := W) ⟨rfl, rfl, rfl, Nat.le_refl _, fun _ _ => rfl⟩ (Nat.zero_le _) hl ?_
 intro v1 w1 hR1 _ hg _
 refine h v1 w1 (hch w1 (.row d e v1 (xs ++ [p])) v.ownBlock hg (fun g hr => hR.1 g hr) ?_)
 exact Kd.R_mono (Kd.R_bound hR1) (fun i hi => by rcases hi with ⟨hi | hi, h2, h3, _⟩; exact .inl hi; exact .inr ⟨hi, h3⟩)
end
section
variable {P : Program} {ops : Array Oper} {rest : List Oper} {o : Oper} {a : Act} {Q : Exit → Act → World → Prop} {B : Nat} {w0 W : World} {L : List Item}
theorem OB {N : Tmp} (H : Aside0 (Own B w0 W L)) (t : TypeId) (cs : Array Value) {x : Operand} (h : ∀ g w1, Aside0 (Own B w0 w1 (.blk g cs t :: L)) → Aside0 (Below W.heap.size W w1) → wpList P ops Q rest (a.put o.dst (.pointer (some ⟨g, 0, none⟩))) w1)
 (hd : o.dst = some N := by exact rfl) (hgd : o.guard = none := by exact rfl) (ho : o.op = .box t x := by exact rfl) (hx : a.eval x = .agg cs := by exact rfl) : wpList P ops Q (o :: rest) a W :=
 own_box H.out hgd hd ho (.agg cs) hx fun g w1 h1 h2 => h g w1 ⟨h1⟩ ⟨h2⟩
theorem OA {N : Tmp} (H : Aside0 (Own B w0 W L)) (t : TypeId) (cs : Array Value) (n : Nat) (h : ∀ g w1, Aside0 (Own B w0 w1 (.blk g cs t :: L)) → Aside0 (Below W.heap.size W w1) → wpList P ops Q rest (a.put o.dst (.pointer (some ⟨g, 0, none⟩))) w1)
 (hd : o.dst = some N := by exact rfl) (hgd : o.guard = none := by exact rfl) (ho : o.op = .alloc t := by exact rfl) (hi : (P.info? t).map (fun i => (i.zero, i.size)) = some (some (.agg cs), n) := by kernel_rfl) : wpList P ops Q (o :: rest) a W :=
 own_alloc H.out hgd hd ho cs n hi fun g w1 h1 h2 => h g w1 ⟨h1⟩ ⟨h2⟩
theorem OA1 {N : Tmp} (H : Aside0 (Own B w0 W L)) (t : TypeId) (z : Value) (h : ∀ g w1, Aside0 (Own B w0 w1 (.blk g #[z] t :: L)) → Aside0 (Below W.heap.size W w1) → wpList P ops Q rest (a.put o.dst (.pointer (some ⟨g, 0, none⟩))) w1)
 (hd : o.dst = some N := by exact rfl) (hgd : o.guard = none := by exact rfl) (ho : o.op = .alloc t := by exact rfl) (hz : z.cells = #[z] := by exact rfl) (hi : (P.info? t).map (fun i => (i.zero, i.size)) = some (some z, 1) := by kernel_rfl) : wpList P ops Q (o :: rest) a W :=
 own_alloc1 H.out hgd hd ho z hz hi fun g w1 h1 h2 => h g w1 ⟨h1⟩ ⟨h2⟩
theorem OS (X Y : Tmp) (H : Aside0 (Own B w0 W L)) (k g : Nat) (ty : TypeId) {cs : Array Value} (cells : Array Value) (n : Nat) (hn : Aside0 (Arr n cs)) (h1 : Aside0 (Arr n cells)) (h : ∀ w1, Aside0 (Own B w0 w1 (L.set k (.blk g cells ty))) → wpList P ops Q rest (a.put o.dst undef) w1)
 (ho : o.op = .store ty (.tmp X) (.tmp Y) := by exact rfl) (hgd : o.guard = none := by exact rfl) (hk : L[k]? = some (.blk g cs ty) := by exact rfl) (hx : a.eval (.tmp X) = .pointer (some ⟨g, 0, none⟩) := by exact rfl) (hy : a.eval (.tmp Y) = .agg cells := by exact rfl)
 (hi : (P.info? ty).map (·.size) = some n := by kernel_rfl) : wpList P ops Q (o :: rest) a W :=
 own_store H.out k g cs ty hk hgd _ _ ho cells hx hy n hn.out h1.out hi fun w1 h2 => h w1 ⟨h2⟩
theorem OL (X : Tmp) (H : Aside0 (Own B w0 W L)) (k g : Nat) (ty : TypeId) {cs : Array Value} {m : Nat} {el : TypeId} (hu : P.underlying ty = some (.array m el)) (n : Nat) (hn : Aside0 (Arr n cs)) (h : wpList P ops Q rest (a.put o.dst (.agg cs)) W)
 (hgd : o.guard = none := by exact rfl) (ho : o.op = .load ty (.tmp X) := by exact rfl) (hk : L[k]? = some (.blk g cs ty) := by exact rfl) (hx : a.eval (.tmp X) = .pointer (some ⟨g, 0, none⟩) := by exact rfl)
 (hi : (P.info? ty).map (·.size) = some n := by kernel_rfl) : wpList P ops Q (o :: rest) a W :=
 own_load H.out k g cs ty hk hgd _ ho hx hu n hn.out hi h
theorem OV (X : Tmp) (H : Aside0 (Own B w0 W L)) (k g : Nat) (ty : TypeId) {cs : Array Value} {d : TypeDesc} (hk : L[k]? = some (.blk g cs ty)) (hu : P.underlying ty = some d) (hi : (P.info? ty).map (·.size) = some cs.size) (h : wpList P ops Q rest (a.put o.dst (.agg cs)) W)
 (hgd : o.guard = none := by exact rfl) (ho : o.op = .load ty (.tmp X) := by exact rfl) (hx : a.eval (.tmp X) = .pointer (some ⟨g, 0, none⟩) := by exact rfl)
 (hA : isAggD d = true := by exact rfl) : wpList P ops Q (o :: rest) a W :=
 own_loadV H.out k g cs ty hk hgd _ ho d hx hu hA hi h
theorem GV (X : Tmp) (H : Aside0 (Own B w0 W L)) (k g : Nat) (ty : TypeId) {cs : Array Value} {d : TypeDesc} (hk : L[k]? = some (.blk g cs ty)) (hu : P.underlying ty = some d) (hi : (P.info? ty).map (·.size) = some cs.size) (h : wpList P ops Q rest (a.put o.dst (.agg cs)) W)
 (hw : Region.wanted o (yielded ops a.tmps) = true := by rfl) (ho : o.op = .load ty (.tmp X) := by exact rfl) (hx : a.eval (.tmp X) = .pointer (some ⟨g, 0, none⟩) := by exact rfl)
 (hA : isAggD d = true := by exact rfl) : wpList P ops Q (o :: rest) a W :=
 gate_guard hw (own_loadV (o := { o with guard := none }) H.out k g cs ty hk rfl _ ho d hx hu hA hi h)
theorem Gd (N : Tmp) (h : wpList P ops Q (o :: rest) a W) (hd : o.dst = some N := by with_reducible rfl) : wpList P ops Q (o :: rest) a W := h
theorem Gs (t : TypeId) (p : Tmp) {v : Operand} (h : wpList P ops Q (o :: rest) a W) (ho : o.op = .store t (.tmp p) v := by with_reducible rfl) : wpList P ops Q (o :: rest) a W := h
end
theorem RVt {fn : Func} {p u : Tmp} {ty : TypeId} {tmps : Array Value} {B : Nat} {w0 W : World} {L : List Item} (H : Aside0 (Own B w0 W L)) (k g : Nat) {cs : Array Value} {P : Program} {d : TypeDesc} {v : Value} (hu : P.underlying ty = some d) (h : fn.results = #[.cell p ty, .tmp u] := by exact rfl) (hk : L[k]? = some (.blk g cs ty) := by exact rfl)
 (hp : tmps.getD p undef = .pointer (some ⟨g, 0, none⟩) := by exact rfl) (hd : isAggD d = true := by exact rfl) (hi : (P.info? ty).map (·.size) = some cs.size := by kernel_rfl) (hv : tmps.getD u undef = v := by exact rfl) :
 (results fn tmps).run P W = .ok (.tuple #[.agg cs, v]) W := own_resultV_t h tmps H.out k g cs hk hp d hu hd hi v hv
section
variable {P : Program} {ops : Array Oper} {rest : List Oper} {o : Oper} {a : Act} {Q : Exit → Act → World → Prop} {B : Nat} {w0 W : World} {L : List Item}
theorem OT (X : Tmp) (ty : TypeId) (H : Aside0 (Own B w0 W L)) (k g : Nat) (t : TypeId) (off : Nat) (seg : List Value) (v : Value) {cs : Array Value} (cs' : Array Value) (hk : L[k]? = some (.blk g cs t)) (hl : off + seg.length ≤ cs.size) (hi : (P.info? ty).map (·.size) = some seg.length) (h1 : ∀ v ∈ seg, v.oneCell' = true) (hcs : (splice cs.toList off seg).toArray = cs')
 (h : ∀ w1, Aside0 (Own B w0 w1 (L.set k (.blk g cs' t))) → wpList P ops Q rest (a.put o.dst undef) w1) {y : Operand}
 (ho : o.op = .store ty (.tmp X) y := by exact rfl) (hgd : o.guard = none := by exact rfl) (hx : a.eval (.tmp X) = .pointer (some ⟨g, off, none⟩) := by exact rfl) (hy : a.eval y = v := by exact rfl) (hvc : v.cells = seg.toArray := by exact rfl) : wpList P ops Q (o :: rest) a W :=
 own_st H.out k g cs cs' t hk hgd ty _ _ ho off seg v hx hy hvc hl hi h1 hcs fun w1 h2 => h w1 ⟨h2⟩
theorem OT1 (X : Tmp) (ty : TypeId) (H : Aside0 (Own B w0 W L)) (k g : Nat) (t : TypeId) (off : Nat) (v : Value) {cs : Array Value} (cs' : Array Value) (hk : L[k]? = some (.blk g cs t)) (hl : off + [v].length ≤ cs.size)
 (h : ∀ w1, Aside0 (Own B w0 w1 (L.set k (.blk g cs' t))) → wpList P ops Q rest (a.put o.dst undef) w1) {y : Operand}
 (ho : o.op = .store ty (.tmp X) y := by exact rfl) (hgd : o.guard = none := by exact rfl) (hx : a.eval (.tmp X) = .pointer (some ⟨g, off, none⟩) := by exact rfl) (hy : a.eval y = v := by exact rfl) (hvc : v.cells = [v].toArray := by exact rfl) (hi : (P.info? ty).map (·.size) = some [v].length := by kernel_rfl) (h1 : ∀ u ∈ [v], u.oneCell' = true := by simp [Value.oneCell']) (hcs : (splice cs.toList off [v]).toArray = cs' := by exact rfl) : wpList P ops Q (o :: rest) a W :=
 own_st H.out k g cs cs' t hk hgd ty _ _ ho off [v] v hx hy hvc hl hi h1 hcs fun w1 h2 => h w1 ⟨h2⟩
theorem OD (X : Tmp) (ty : TypeId) (H : Aside0 (Own B w0 W L)) (k g off : Nat) (v : Value) {d : TypeDesc} (hu : P.underlying ty = some d) {cs : Array Value} {t : TypeId} (h : wpList P ops Q rest (a.put o.dst v) W)
 (hgd : o.guard = none := by exact rfl) (ho : o.op = .load ty (.tmp X) := by exact rfl) (hk : L[k]? = some (.blk g cs t) := by exact rfl) (hx : a.eval (.tmp X) = .pointer (some ⟨g, off, none⟩) := by exact rfl) (hl : cs[off]? = some v := by exact rfl) (hr : d.isRow = false := by exact rfl) : wpList P ops Q (o :: rest) a W :=
 own_ld1 H.out k g cs t hk hgd ty _ ho off v d hx hl hu hr h
theorem GD (X : Tmp) (ty : TypeId) (H : Aside0 (Own B w0 W L)) (k g off : Nat) (v : Value) {d : TypeDesc} (hu : P.underlying ty = some d) {cs : Array Value} {t : TypeId} (h : wpList P ops Q rest (a.put o.dst v) W)
 (hw : Region.wanted o (yielded ops a.tmps) = true := by rfl) (ho : o.op = .load ty (.tmp X) := by exact rfl) (hk : L[k]? = some (.blk g cs t) := by exact rfl) (hx : a.eval (.tmp X) = .pointer (some ⟨g, off, none⟩) := by exact rfl) (hl : cs[off]? = some v := by exact rfl) (hr : d.isRow = false := by exact rfl) : wpList P ops Q (o :: rest) a W :=
 gate_guard hw (own_ld1 (o := { o with guard := none }) H.out k g cs t hk rfl ty _ ho off v d hx hl hu hr h)
theorem GDA (X : Tmp) (ty : TypeId) (H : Aside0 (Own B w0 W L)) (k g off : Nat) (seg : List Value) {cs : Array Value} {t : TypeId} (hk : L[k]? = some (.blk g cs t)) (hl : ∀ j v, seg[j]? = some v → cs[off + j]? = some v) {d : TypeDesc} (hu : P.underlying ty = some d) (hi : (P.info? ty).map (·.size) = some seg.length) (h : wpList P ops Q rest (a.put o.dst (.agg seg.toArray)) W)
 (hw : Region.wanted o (yielded ops a.tmps) = true := by rfl) (ho : o.op = .load ty (.tmp X) := by exact rfl) (hx : a.eval (.tmp X) = .pointer (some ⟨g, off, none⟩) := by exact rfl) (hr : d.isRow = true := by exact rfl) : wpList P ops Q (o :: rest) a W :=
 gate_guard hw (own_ldAt (o := { o with guard := none }) H.out k g cs t hk rfl ty _ ho off seg d hx hl hu hr hi h)
theorem OU (t : TypeId) (parts : List (Nat × Operand)) (cells : Array Value) {ps : List (Nat × Value)} (hps : parts.map (fun x => (x.1, a.eval x.2)) = ps) (hf : P.built t ps = some cells) (h : wpList P ops Q rest (a.put o.dst (.agg cells)) W)
 (hgd : o.guard = none := by exact rfl) (ho : o.op = .build t parts.toArray := by exact rfl) : wpList P ops Q (o :: rest) a W :=
 build_ hgd t parts ho ps hps cells hf h
theorem GU (t : TypeId) (parts : List (Nat × Operand)) (cells : Array Value) {ps : List (Nat × Value)} (hps : parts.map (fun x => (x.1, a.eval x.2)) = ps) (hf : P.built t ps = some cells) (h : wpList P ops Q rest (a.put o.dst (.agg cells)) W)
 (hw : Region.wanted o (yielded ops a.tmps) = true := by rfl) (ho : o.op = .build t parts.toArray := by exact rfl) : wpList P ops Q (o :: rest) a W :=
 gate_guard hw (build_ (o := { o with guard := none }) rfl t parts ho ps hps cells hf h)
end
end Go.Proofs.Ytocphkfkdadhaaa.H
namespace Go.Proofs.Ytocphkfkdadhaaa.K
open Go.RowKit Go.Proofs.YtocphkfkdadhaaaW.PrintWords Go.Proofs.YtocphkfkdadhaaaW.PrintLast Go.Proofs.YtocphkfkdadhaaaW.PrintMore Go.Proofs.Ytocphkfkdadhaaa.PRF
attribute [local go_sem] max2_int min2_int max_two min_two max_three min_three max_four min_four
section
variable {ops : Array Oper} {rest : List Oper} {o : Oper} {a : Act} {Q : Exit → Act → World → Prop}
theorem app_bytes {w0 W : World} (hgd : o.guard = none) (s x : Operand)
 (ho : o.op = .call { callee := .builtin .append, args := #[s, x], argTypes := #[74, 74] })
 (v : Value) (xs ys : List Int) (A : Option Addr) (c : Nat) (ok : Nat → Prop) (hs : a.eval s = v) (hx : a.eval x = .slice A ys.length c)
 (HB : Aside0 (Below w0.heap.size w0 W)) (HO : Kd.R (Kd.int .u8) 5 W w0.heap.size ok v xs) (HR : Kd.C (Kd.int .u8) W A ys.length ys) (hfresh : ∀ k, W.heap.size ≤ k → ok k)
 (hl : xs.length + ys.length ≤ 140737488355328)
 (h : ∀ v1 w1, Aside0 (Kd.R (Kd.int .u8) 5 w1 w0.heap.size ok v1 (xs ++ ys)) → Aside0 (Below w0.heap.size w0 w1) → Aside0 (W.grownBy w1 v.ownBlock) → Aside0 (v1.ownBlock = v.ownBlock ∨ ∃ b, v1.ownBlock = some b ∧ W.heap.size ≤ b) → wpList Try.prog ops Q rest (a.put o.dst v1) w1) :
 wpList Try.prog ops Q (o :: rest) a W :=
 Kd.R_append_rows (Kd.int .u8) (w0 := w0) w0.heap.size hgd s x 74 5 (.int .u8 0) 1 ho Try.underlying74 info5 rfl (by decide) (by omega) v xs ys _ _ _ ok (fun _ => False) hs hx HO HR (fun _ _ h => h) (fun _ h => h.elim) hfresh HB.out (below_size HB.out) (by omega)
  fun v1 w1 h1 h2 h3 h4 => h v1 w1 ⟨h1⟩ ⟨h2⟩ ⟨h3⟩ ⟨h4⟩
end
theorem cf1 {w : World} {g : Nat} {t : TypeId} {a : Value} (h : Aside0 (w.heap[g]? = some (.cells #[a] t (0, 0)))) : w.cell? ⟨g, 0, none⟩ = some a ∧ w.frozen? ⟨g, 0, none⟩ = false :=
 ⟨(blk_cell h.out 0).trans rfl, blk_frozen h.out 0⟩
theorem cf3 {w : World} {g : Nat} {t : TypeId} {a b c : Value} (h : Aside0 (w.heap[g]? = some (.cells #[a, b, c] t (0, 0)))) :
 w.cell? ⟨g, 0, none⟩ = some a ∧ w.cell? ⟨g, 1, none⟩ = some b ∧ w.cell? ⟨g, 2, none⟩ = some c ∧ w.frozen? ⟨g, 0, none⟩ = false ∧ w.frozen? ⟨g, 1, none⟩ = false ∧ w.frozen? ⟨g, 2, none⟩ = false :=
 ⟨(blk_cell h.out 0).trans rfl, (blk_cell h.out 1).trans rfl, (blk_cell h.out 2).trans rfl, blk_frozen h.out 0, blk_frozen h.out 1, blk_frozen h.out 2⟩
theorem put3 {w : World} {g : Nat} {t : TypeId} {a b c x y z : Value} (h : w.heap[g]? = some (.cells #[a, b, c] t (0, 0))) :
 (((w.setCell ⟨g, 0, none⟩ x).setCell ⟨g, 1, none⟩ y).setCell ⟨g, 2, none⟩ z).heap[g]? = some (.cells #[x, y, z] t (0, 0)) :=
 blk_put (cs := #[x, y, c]) (blk_put (cs := #[x, b, c]) (blk_put h 0 x rfl) 1 y rfl) 2 z rfl
theorem keep3 {w : World} {g : Nat} {x y z : Value} : KeepBut w (((w.setCell ⟨g, 0, none⟩ x).setCell ⟨g, 1, none⟩ y).setCell ⟨g, 2, none⟩ z) g none := ((KeepBut.refl w g none).set_ 0 x |>.set_ 1 y).set_ 2 z
theorem below3 {w0 w : World} {g : Nat} {x y z : Value} (h : Below w0.heap.size w0 w) (hg : w0.heap.size ≤ g) : Below w0.heap.size w0 (((w.setCell ⟨g, 0, none⟩ x).setCell ⟨g, 1, none⟩ y).setCell ⟨g, 2, none⟩ z) := below_set (below_set (below_set h hg) hg) hg
section
variable {P : Program} {ops : Array Oper} {rest : List Oper} {o : Oper} {a : Act} {Q : Exit → Act → World → Prop}
theorem alloc_ev {W w0 : World} (hgd : o.guard = none) {N : Tmp} (hd : o.dst = some N) {cs : Array Value} {t : TypeId} (HB : Aside0 (Below w0.heap.size w0 W))
 (hrun : (execOp a.eval o).run P W = .ok (.value (.pointer (some ⟨W.heap.size, 0, none⟩))) (W.alloc (.cells cs t (0, 0))))
 (h : ∀ g w1, Aside0 (w1.heap[g]? = some (.cells cs t (0, 0))) → Aside0 (W.heap.size = g) → Aside0 (Below W.heap.size W w1) → Aside0 (Below w0.heap.size w0 w1) → wpList P ops Q rest (a.put o.dst (.pointer (some ⟨g, 0, none⟩))) w1) : wpList P ops Q (o :: rest) a W :=
 box_event hgd hd hrun fun g hg w1 hb hbe => h g w1 ⟨hb⟩ ⟨hg.symm⟩ ⟨hbe⟩ ⟨below_step HB.out hbe⟩
end
section
variable {ops : Array Oper} {rest : List Oper} {o : Oper} {a : Act} {Q : Exit → Act → World → Prop}
theorem lit_bytes {W w0 : World} (hgd : o.guard = none) {N : Tmp} (hd : o.dst = some N) (xs : List Int) (HB : Aside0 (Below w0.heap.size w0 W)) (hm : xs.length ≤ 9223372036854775807)
 (hrun : (execOp a.eval o).run Try.prog W = .ok (.value (.slice (some ⟨W.heap.size, 0, none⟩) xs.length xs.length)) (W.alloc (.cells (xs.map (Value.int .u8)).toArray 5)))
 (h : ∀ A1 c1 w1, Aside0 (Kd.R (Kd.int .u8) 5 w1 W.heap.size (fun _ => True) (.slice A1 xs.length c1) xs) → Aside0 (Below W.heap.size W w1) → Aside0 (Below w0.heap.size w0 w1) → wpList Try.prog ops Q rest (a.put o.dst (.slice A1 xs.length c1)) w1) : wpList Try.prog ops Q (o :: rest) a W :=
 Kd.R_lit (Kd.int .u8) W.heap.size 5 hgd hd (xs := xs) (inner := xs.map (Value.int .u8)) (ok := fun _ => True) (okp := fun _ => True) (w0 := W) hrun (Kd.reps_scalar xs) (fun _ h => h) trivial (Below.refl _ _) (Nat.le_refl _) hm
  fun v1 w1 h1 h2 _ _ => by
   obtain ⟨A1, c1, rfl⟩ := Kd.R_slice h1
   exact h A1 c1 w1 ⟨h1⟩ ⟨h2⟩ ⟨below_step HB.out h2⟩
end
theorem clone_calls (A : Option Addr) (c : Nat) (l : List Int) (w : World) (hr : Kd.C (Kd.int .u8) w A l.length l) (hc : l.length ≤ c) (hl : l.length ≤ 140737488355327) :
 Calls Try.prog 152 #[.slice A l.length c] w fun e w' => ∃ v : Value, e = .returned v ∧ Kd.R (Kd.int .u8) 5 w' w.heap.size (fun _ => True) v l ∧ Below w.heap.size w w' := by
 have HR := Aside0.mk hr
 have HC := Aside0.mk hc
 have HL := Aside0.mk hl
 clear hr hc hl
 have HB := Aside0.mk (Below.refl w.heap.size w)
 have hq := fun W => Lib.run_eql_slice_nil (P := Try.prog) W 74 5 A l.length c 0 0 Try.underlying74
 cases A with
 | none =>
  simp only [Option.isNone_none] at hq
  have h0 : l = [] := by
   cases l with
   | nil => rfl
   | cons x l => obtain ⟨ad, h, _⟩ := HR.out.2.2 (by simp); cases h
  subst h0
  simp only [List.length_nil] at hq ⊢
  go_enter Try.func152, Try.ntmps152
  go_wp2
  go_ret
  exact ⟨_, rfl, Kd.R_nil _ _ _ _ _, HB.out⟩
 | some ad =>
  simp only [Option.isNone_some] at hq
  go_enter Try.func152, Try.ntmps152
  go_wp2_with (first
   | ((with_reducible refine gate_dst (N := 5) rfl ?_); refine Kd.R_lit (Kd.int .u8) _ 5 ?hg (N := 5) ?hd (xs := ([] : List Int)) (inner := []) (ok := fun _ => True) (okp := fun _ => True) ?hr ?hp (fun _ hk => hk) trivial (Below.refl _ _) (Nat.le_refl _) (by simp) ?_; (case hd => rfl); (case hg => rfl); (case hr => first | (go_simp; done) | (go_simp; rfl)); (case hp => exact (Reps.none _ _)); intro v0 w1 HO0 HB0 hg0 hn0; replace HO0 := Aside0.mk HO0; replace HB0 := Aside0.mk HB0; clear hg0 hn0)
   | ((with_reducible refine gate_builtin (b := .append) (xs := #[.tmp 5, .tmp 6]) rfl ?_); refine app_bytes (w0 := w) rfl (.tmp 5) (.tmp 6) rfl v0 [] l (some ad) c (fun _ => True) rfl rfl HB0 HO0.out (Kd.C_below HR.out HB0.out) (fun _ _ => trivial) (by have := HL.out; simp; omega) ?_; intro v1 w2 HO1 HB1 hg hat; simp only [List.nil_append] at HO1; clear hg hat))
  go_ret
  exact ⟨_, rfl, HO1.out, HB1.out⟩
def wrongP (k : Int) : List PanicEntry := [{ v := .iface 206 (.agg #[.int .i64 k]), recovered := false }]
theorem need_ok (k : Int) (w : World) : Calls Try.prog 146 #[.bool true, .int .i64 k] w fun e w' => e = .returned (.tuple #[]) ∧ w = w' := by
 go_enter Try.func146, Try.ntmps146
 go_wp2
 go_end0
 exact ⟨rfl, rfl⟩
theorem need_no (k : Int) (w : World) : Calls Try.prog 146 #[.bool false, .int .i64 k] w fun e w' => e = .panicked (wrongP k) ∧ w = w' := by
 go_enter Try.func146, Try.ntmps146
 go_wp2
 exact ⟨rfl, rfl, rfl⟩
theorem cut_no (A : Option Addr) (c m n : Nat) (w : World) (hm : m ≤ 9223372036854775807) (hn : m < n) (hn2 : n ≤ 18446744073709551615) :
 Calls Try.prog 169 #[.slice A m c, .int .u64 (n : Int)] w fun e w' => e = .panicked (wrongP 7) ∧ w = w' := by
 have hd : decide (n ≤ m) = false := decide_eq_false (by omega)
 go_enter Try.func169, Try.ntmps169
 go_wp2_with (go_at_call 146; refine (need_no 7 _).mono ?_; rintro e w' ⟨rfl, rfl⟩)
 exact ⟨rfl, rfl, rfl⟩
def CutPost (A : Option Addr) (l : List Int) (n : Nat) (w : World) (e : Ending) (w' : World) : Prop :=
 ∃ A1 A2, e = .returned (.tuple #[.slice A1 n n, .slice A2 (l.length - n) (l.length - n)]) ∧ Drawn0 w w' ∧ ∀ W, Kd.C (Kd.int .u8) W A l.length l → Kd.C (Kd.int .u8) W A1 n (l.take n) ∧ Kd.C (Kd.int .u8) W A2 (l.length - n) (l.drop n)
theorem cut_ok (A : Option Addr) (c n : Nat) (l : List Int) (w : World) (hm : l.length ≤ 9223372036854775807) (hc : l.length ≤ c) (hn : n ≤ l.length) :
 Calls Try.prog 169 #[.slice A l.length c, .int .u64 (n : Int)] w (CutPost A l n w) := by
 go_enter Try.func169, Try.ntmps169
 go_wp2_with (go_at_call 146; refine (need_ok 7 _).mono ?_; rintro e w' ⟨rfl, rfl⟩)
 go_quiet (fail)
 go_wp2
 ·have h : l.length = n := by assumption
  go_ret2
  refine ⟨A, A, by simp [h], ⟨⟨_, rfl⟩⟩, fun W HR => ⟨?_, ?_⟩⟩
  ·have := HR; rw [← h, List.take_length]; exact this
  ·rw [← h, List.drop_length, Nat.sub_self]; exact ⟨rfl, by omega, fun h => absurd h (by omega)⟩
 ·have h : ¬ l.length = n := by assumption
  go_ret2
  refine ⟨A, A.map (·.add n), rfl, ⟨⟨_, rfl⟩⟩, fun W HR => ⟨?_, ?_⟩⟩
  ·have h1 := Kd.C_take HR hn; rw [List.length_take, Nat.min_eq_left hn] at h1; exact h1
  ·have h1 := Kd.C_drop HR hn (Nat.le_refl _); rw [if_neg h, List.length_drop, show (Kd.int IntKind.u8).sz = 1 from rfl, Nat.mul_one] at h1; exact h1
end Go.Proofs.Ytocphkfkdadhaaa.K
namespace Go.Proofs.Ytocphkfkdadhaaa.K
open Go.Proofs.Ytocphkfkdadhaaa.PRF
def Byt (l : List Int) : Prop := ∀ x ∈ l, 0 ≤ x ∧ x ≤ 255
theorem Byt.take {l : List Int} (h : Byt l) (n : Nat) : Byt (l.take n) := fun x hx => h x (List.mem_of_mem_take hx)
theorem Byt.drop {l : List Int} (h : Byt l) (n : Nat) : Byt (l.drop n) := fun x hx => h x (List.mem_of_mem_drop hx)
theorem Byt.tail {c : Int} {l : List Int} (h : Byt (c :: l)) : Byt l := fun x hx => h x (List.mem_cons_of_mem _ hx)
theorem Byt.head {c : Int} {l : List Int} (h : Byt (c :: l)) : 0 ≤ c ∧ c ≤ 255 := h c List.mem_cons_self
theorem Byt.append {l m : List Int} (h : Byt l) (k : Byt m) : Byt (l ++ m) := fun x hx => (List.mem_append.1 hx).elim (h x) (k x)
theorem Byt.nil : Byt [] := fun _ h => by cases h
theorem Byt.cons {c : Int} {l : List Int} (hc : 0 ≤ c ∧ c ≤ 255) (h : Byt l) : Byt (c :: l) := fun x hx => by
 rcases List.mem_cons.1 hx with rfl | hx
 ·exact hc
 ·exact h x hx
theorem snoc_ind {α : Type} {P : List α → Prop} (h0 : P []) (h1 : ∀ l c, P l → P (l ++ [c])) (l : List α) : P l := by
 have h : ∀ m : List α, P m.reverse := by
  intro m
  induction m with
  | nil => exact h0
  | cons c m ih => rw [List.reverse_cons]; exact h1 _ _ ih
 have := h l.reverse
 rwa [List.reverse_reverse] at this
theorem bind_ok {ε α β : Type} {x : Except ε α} {f : α → Except ε β} {y : β} (h : x.bind f = .ok y) : ∃ a, x = .ok a ∧ f a = .ok y := by
 cases x with
 | error e => cases h
 | ok a => exact ⟨a, rfl, h⟩
def num (l : List Int) : Nat := l.foldl (fun n c => n * 256 + c.toNat) 0
theorem num_snoc (l : List Int) (c : Int) : num (l ++ [c]) = num l * 256 + c.toNat := by simp [num]
theorem num_lt (l : List Int) (h : Byt l) : num l < 256 ^ l.length := by
 revert h
 refine snoc_ind (P := fun l => Byt l → num l < 256 ^ l.length) ?_ ?_ l
 ·intro _; simp [num]
 ·intro l c ih h
  rw [num_snoc, List.length_append, List.length_singleton, Nat.pow_succ]
  have h1 := ih (fun x hx => h x (List.mem_append_left _ hx))
  have h2 := h c (by simp)
  omega
def cutP (b : List Int) (n : Nat) : Except Int (List Int × List Int) := if n ≤ b.length then .ok (b.take n, b.drop n) else .error 7
def bodyP (f : Nat) (b : List Int) : Except Int (List Int × List Int) :=
 if f ≤ 55 then cutP b f
 else if f - 55 ≤ b.length then
  if (b.take (f - 55)).headD 0 = 0 ∨ num (b.take (f - 55)) ≤ 55 then .error 8 else cutP (b.drop (f - 55)) (num (b.take (f - 55)))
 else .error 7
def itemsP (f : List Int → Except Int (S159 × List Int)) : Nat → List Int → Except Int (List S159)
 | _, [] => .ok []
 | 0, _ :: _ => .error 0
 | k + 1, c :: l => (f (c :: l)).bind fun q => (itemsP f k q.2).bind fun xs => .ok (q.1 :: xs)
def itemF (sub : Option (List Int → Except Int (S159 × List Int))) : List Int → Except Int (S159 × List Int)
 | [] => .error 7
 | c :: rest =>
  if c < 128 then .ok (⟨false, [c], []⟩, rest)
  else if c < 192 then
   (bodyP (c - 128).toNat rest).bind fun q => if q.1.length = 1 ∧ q.1.headD 0 < 128 then .error 8 else .ok (⟨false, q.1, []⟩, q.2)
  else match sub with
   | none => .error 8
   | some f => (bodyP (c - 192).toNat rest).bind fun q => (itemsP f q.1.length q.1).bind fun xs => .ok (⟨true, [], xs⟩, q.2)
def itemP : Nat → List Int → Except Int (S159 × List Int)
 | 0 => itemF none
 | lv + 1 => itemF (some (itemP lv))
def decodeP (b : List Int) : Except Int S159 :=
 if b.length > 65536 then .error 4
 else (itemP 16 b).bind fun q => if q.2 = [] then .ok q.1 else .error 8
theorem cutP_ok {b x y : List Int} {n : Nat} (h : cutP b n = .ok (x, y)) : n ≤ b.length ∧ x = b.take n ∧ y = b.drop n := by
 unfold cutP at h
 split at h
 ·simp only [Except.ok.injEq, Prod.mk.injEq] at h
  exact ⟨by assumption, h.1.symm, h.2.symm⟩
 ·cases h
theorem bodyP_len {f : Nat} {b x y : List Int} (h : bodyP f b = .ok (x, y)) : x.length + y.length ≤ b.length := by
 unfold bodyP at h
 split at h
 ·obtain ⟨h1, rfl, rfl⟩ := cutP_ok h
  rw [List.length_take, List.length_drop]; omega
 ·split at h
  ·split at h
   ·cases h
   ·obtain ⟨h1, rfl, rfl⟩ := cutP_ok h
    simp only [List.length_take, List.length_drop] at h1 ⊢
    omega
  ·cases h
theorem itemF_len {sub : Option (List Int → Except Int (S159 × List Int))} {l r : List Int} {x : S159} (h : itemF sub l = .ok (x, r)) : r.length < l.length := by
 cases l with
 | nil => cases h
 | cons c rest =>
  rw [List.length_cons]
  simp only [itemF] at h
  split at h
  ·cases h; omega
  ·split at h
   ·obtain ⟨q, hb, h⟩ := bind_ok h
    have := bodyP_len hb
    split at h
    ·cases h
    ·cases h; omega
   ·split at h
    ·cases h
    ·obtain ⟨q, hb, h⟩ := bind_ok h
     have := bodyP_len hb
     obtain ⟨xs, hx, h⟩ := bind_ok h
     cases h; omega
theorem itemP_len {lv : Nat} {l r : List Int} {x : S159} (h : itemP lv l = .ok (x, r)) : r.length < l.length := by
 cases lv <;> exact itemF_len h
theorem itemsP_mono (f : List Int → Except Int (S159 × List Int)) (hf : ∀ l x r, f l = .ok (x, r) → r.length < l.length) : ∀ (k : Nat) (l : List Int), l.length ≤ k → itemsP f k l = itemsP f l.length l := by
 intro k
 induction k using Nat.strongRecOn with
 | _ k ih =>
  intro l hl
  cases l with
  | nil => cases k <;> rfl
  | cons c l =>
   cases k with
   | zero => simp at hl
   | succ k =>
    simp only [List.length_cons, itemsP]
    cases hfl : f (c :: l) with
    | error e => rfl
    | ok xr =>
     obtain ⟨x, r⟩ := xr
     have h1 := hf _ _ _ hfl
     simp only [List.length_cons] at h1 hl
     simp only [Except.bind]
     rw [ih k (by omega) r (by omega), ih l.length (by omega) r (by omega)]
theorem bodyP_suffix {f : Nat} {b x y : List Int} (h : bodyP f b = .ok (x, y)) : ∃ k, y = b.drop k := by
 unfold bodyP at h
 split at h
 ·obtain ⟨h1, rfl, rfl⟩ := cutP_ok h
  exact ⟨_, rfl⟩
 ·split at h
  ·split at h
   ·cases h
   ·obtain ⟨h1, rfl, rfl⟩ := cutP_ok h
    exact ⟨_, by rw [List.drop_drop]⟩
  ·cases h
theorem itemF_suffix {sub : Option (List Int → Except Int (S159 × List Int))} {l r : List Int} {x : S159} (h : itemF sub l = .ok (x, r)) : ∃ k, r = l.drop k := by
 cases l with
 | nil => cases h
 | cons c rest =>
  simp only [itemF] at h
  split at h
  ·cases h; exact ⟨1, rfl⟩
  ·split at h
   ·obtain ⟨q, hb, h⟩ := bind_ok h
    obtain ⟨k, hk⟩ := bodyP_suffix (x := q.1) (y := q.2) hb
    split at h
    ·cases h
    ·cases h; exact ⟨k + 1, by rw [hk]; rfl⟩
   ·split at h
    ·cases h
    ·obtain ⟨q, hb, h⟩ := bind_ok h
     obtain ⟨k, hk⟩ := bodyP_suffix (x := q.1) (y := q.2) hb
     obtain ⟨xs, hx, h⟩ := bind_ok h
     cases h; exact ⟨k + 1, by rw [hk]; rfl⟩
theorem itemP_byt {lv : Nat} {l r : List Int} {x : S159} (hb : Byt l) (h : itemP lv l = .ok (x, r)) : Byt r := by
 have : ∃ k, r = l.drop k := by cases lv <;> exact itemF_suffix h
 obtain ⟨k, rfl⟩ := this
 exact hb.drop k
theorem items_step (lv : Nat) (l : List Int) (hl : 0 < l.length) :
 itemsP (itemP lv) l.length l = (itemP lv l).bind fun q => (itemsP (itemP lv) q.2.length q.2).bind fun xs => .ok (q.1 :: xs) := by
 cases l with
 | nil => simp at hl
 | cons c l =>
  simp only [List.length_cons, itemsP]
  cases hfl : itemP lv (c :: l) with
  | error e => rfl
  | ok q =>
   have h1 := itemP_len hfl
   simp only [List.length_cons] at h1
   simp only [Except.bind]
   rw [itemsP_mono (itemP lv) (fun _ _ _ h => itemP_len h) l.length q.2 (by omega)]
end Go.Proofs.Ytocphkfkdadhaaa.K
namespace Go.Proofs.Ytocphkfkdadhaaa.K
open Go.RowKit Go.Proofs.YtocphkfkdadhaaaW.PrintWords Go.Proofs.Ytocphkfkdadhaaa.PRF
theorem rd_nat (l : List Int) (i : Nat) (h : i < l.length) : rd l (i : Int) = l[i] := by
 simp [rd, List.getD_eq_getElem?_getD, List.getElem?_eq_getElem h]
theorem take_snoc (l : List Int) (i : Nat) (h : i < l.length) : l.take (i + 1) = l.take i ++ [l[i]] := by
 rw [List.take_succ_eq_append_getElem h]
theorem wrap64_in (n : Int) (h : -9223372036854775808 ≤ n ∧ n ≤ 9223372036854775807) : wrap64 n = n := by unfold wrap64; omega
theorem pow256_8 : (256 : Nat) ^ 8 = 18446744073709551616 := by decide
theorem pow256_7 : (256 : Nat) ^ 7 = 72057594037927936 := by decide
theorem pow256_le {a b : Nat} (h : a ≤ b) : 256 ^ a ≤ 256 ^ b := Nat.pow_le_pow_right (by omega) h
theorem num_small (l : List Int) (h : Byt l) (hl : l.length ≤ 8) : num l ≤ 18446744073709551615 := by
 have h1 := num_lt l h
 have h2 := pow256_le hl
 rw [pow256_8] at h2
 omega
theorem num_step (n c : Nat) (hn : n < 72057594037927936) (hc : c < 256) : Go.bits .or .u64 (IntKind.u64.wrap ((n : Int) * 256)) (IntKind.u64.wrap (c : Int)) = ((n * 256 + c : Nat) : Int) := by
 rw [IntWalk.u64_in _ (by omega), IntWalk.u64_in _ (by omega)]
 rw [show ((n : Int) * 256) = ((n * 256 : Nat) : Int) by omega, bits_or_u64_nat _ _ (by omega) (by omega)]
 congr 1
 have h2 := Nat.two_pow_add_eq_or_of_lt (i := 8) (b := c) (by omega) n
 rw [show (2 : Nat) ^ 8 = 256 from rfl, Nat.mul_comm] at h2
 exact h2.symm
theorem number_l0 (l : List Int) (hb : Byt l) (hl : l.length ≤ 8) : ∀ (d i : Nat), i + d = l.length → rlp_number.l0 (d + 1) (num (l.take i) : Nat) l (l.length : Int) (i : Int) = some (num l : Int)
 | 0, i, h => by
  simp only [rlp_number.l0]
  rw [if_neg (by omega), List.take_of_length_le (by omega)]
 | d + 1, i, h => by
  rw [rlp_number.l0]
  rw [if_pos (by omega), if_pos (by omega), if_pos (by omega), rd_nat l i (by omega), wrap64_in _ (by omega)]
  have h1 := hb l[i] (List.getElem_mem (by omega))
  obtain ⟨c, hc⟩ := Int.eq_ofNat_of_zero_le h1.1
  have h2 := num_lt (l.take i) (hb.take i)
  have h3 : (l.take i).length ≤ 7 := by rw [List.length_take]; omega
  have h4 := pow256_le h3
  rw [pow256_7] at h4
  have h5 : num (l.take (i + 1)) = num (l.take i) * 256 + c := by
   rw [take_snoc l i (by omega), num_snoc, hc]; rfl
  rw [hc, num_step _ c (by omega) (by omega), ← h5]
  exact number_l0 l hb hl d (i + 1) (by omega)
theorem number_f (l : List Int) (hb : Byt l) (hl : l.length ≤ 8) : ∃ k, rlp_number.f k l = some (num l : Int) :=
 ⟨l.length + 1, by have := number_l0 l hb hl l.length 0 (by omega); simpa [rlp_number.f, num] using this⟩
end Go.Proofs.Ytocphkfkdadhaaa.K
namespace Go.Proofs.Ytocphkfkdadhaaa.K
open Go.RowKit Go.Proofs.YtocphkfkdadhaaaW.PrintWords Go.Proofs.YtocphkfkdadhaaaW.PrintLast Go.Proofs.YtocphkfkdadhaaaW.PrintMore Go.Proofs.Ytocphkfkdadhaaa.PRF
attribute [local go_sem] max2_int min2_int max_two min_two max_three min_three max_four min_four
def BodyPost (A : Option Addr) (l : List Int) (r : Except Int (List Int × List Int)) (w : World) (e : Ending) (w' : World) : Prop :=
 Drawn0 w w' ∧ match r with
  | .ok q => ∃ A1 A2, e = .returned (.tuple #[.slice A1 q.1.length q.1.length, .slice A2 q.2.length q.2.length]) ∧ ∀ W, Kd.C (Kd.int .u8) W A l.length l → Kd.C (Kd.int .u8) W A1 q.1.length q.1 ∧ Kd.C (Kd.int .u8) W A2 q.2.length q.2
  | .error k => e = .panicked (wrongP k)
theorem cut_any (A : Option Addr) (c n : Nat) (l : List Int) (w : World) (hm : l.length ≤ 9223372036854775807) (hc : l.length ≤ c) (hn2 : n ≤ 18446744073709551615) :
 Calls Try.prog 169 #[.slice A l.length c, .int .u64 (n : Int)] w (BodyPost A l (cutP l n) w) := by
 unfold cutP
 by_cases h : n ≤ l.length
 ·rw [if_pos h]
  refine (cut_ok A c n l w hm hc h).mono fun e w' ⟨A1, A2, he, hd, h1⟩ => ⟨hd, A1, A2, ?_, fun W hW => ⟨?_, ?_⟩⟩
  ·simp only [List.length_take, List.length_drop, Nat.min_eq_left h]; exact he
  ·simp only [List.length_take, Nat.min_eq_left h]; exact (h1 W hW).1
  ·simp only [List.length_drop]; exact (h1 W hW).2
 ·rw [if_neg h]
  exact (cut_no A c l.length n w hm (by omega) hn2).mono fun e w' ⟨he, hw⟩ => ⟨⟨⟨0, by rw [← hw]; rfl⟩⟩, he⟩
theorem body_any (first from_ : Int) (f : Nat) (A : Option Addr) (c : Nat) (l : List Int) (w : World) (hf : first - from_ = (f : Int)) (h63 : f ≤ 63) (h0 : 0 ≤ from_) (h255 : first ≤ 255)
 (hr : Kd.C (Kd.int .u8) w A l.length l) (hc : l.length ≤ c) (hb : Byt l) :
 Calls Try.prog 163 #[.int .u8 first, .int .u8 from_, .slice A l.length c] w (BodyPost A l (bodyP f l) w) := by
 have HR := Aside0.mk hr
 have HC := Aside0.mk hc
 have HBy := Aside0.mk hb
 have hm := hr.2.1
 clear hr hc hb
 have hge : from_ ≤ first := by omega
 obtain ⟨res, hres⟩ : ∃ res, res = bodyP f l := ⟨_, rfl⟩
 rw [← hres]
 unfold bodyP at hres
 by_cases h55 : f ≤ 55
 ·rw [if_pos h55] at hres
  have HC1 := Aside0.mk (cut_any A c f l w hm HC.out (by omega))
  rw [← hres] at HC1
  clear hres
  go_enter Try.func163, Try.ntmps163
  go_wp2_with fail
  refine HC1.out.mono ?_
  rintro e w' ⟨hd, hp⟩
  cases res with
  | error k =>
   obtain rfl := hp
   exact ⟨rfl, hd, rfl⟩
  | ok q =>
   obtain ⟨A1, A2, rfl, h1⟩ := hp
   have H1 := Aside0.mk h1
   clear h1
   go_wp2
   go_ret2
   exact ⟨hd, A1, A2, rfl, H1.out⟩
 ·rw [if_neg h55] at hres
  have hk : ((f : Int) - 55) = ((f - 55 : Nat) : Int) := by omega
  obtain ⟨k, hk2⟩ : ∃ k, k = f - 55 := ⟨_, rfl⟩
  rw [← hk2] at hk hres
  have hk1 : 0 < k := by omega
  have hk8 : k ≤ 8 := by omega
  clear hk2
  by_cases hkl : k ≤ l.length
  ·rw [if_pos hkl] at hres
   have hx : (l.take k).length = k := by rw [List.length_take]; omega
   have hN := num_small (l.take k) (HBy.out.take k) (by omega)
   obtain ⟨kk, hkk⟩ := number_f (l.take k) (HBy.out.take k) (by omega)
   have HC1 := Aside0.mk (cut_any A c k l w hm HC.out (by omega))
   unfold cutP at HC1
   rw [if_pos hkl] at HC1
   have hm2 : (l.drop k).length ≤ 9223372036854775807 := by rw [List.length_drop]; omega
   generalize l.take k = x at *
   generalize l.drop k = y at *
   have HX := Aside0.mk hx
   have HK := Aside0.mk hkk
   have HRES := Aside0.mk hres
   clear hx hkk hres
   obtain ⟨N, hN2⟩ : ∃ N, N = num x := ⟨_, rfl⟩
   rw [← hN2] at HK HRES hN
   clear hN2
   go_enter Try.func163, Try.ntmps163
   go_wp2_with fail
   refine HC1.out.mono ?_
   rintro e w' ⟨hd, hp⟩
   obtain ⟨A1, A2, rfl, h12⟩ := hp
   obtain ⟨h1, h2⟩ := h12 _ HR.out
   have H12 := Aside0.mk h12
   clear h12
   obtain ⟨n, rfl⟩ := hd.out
   have H1 := Aside0.mk h1
   have H2 := Aside0.mk h2
   obtain ⟨ad, rfl, hcell⟩ := Kd.at_int h1 0 (by omega) (by have := HX.out; simp only; omega)
   clear h1 h2 hd
   obtain ⟨c0, hc0⟩ : ∃ c0, c0 = rd x 0 := ⟨_, rfl⟩
   rw [← hc0] at hcell
   have h0c : x.headD 0 = c0 := by rw [hc0]; cases x <;> rfl
   clear hc0
   rw [h0c] at HRES
   clear h0c
   simp only [Int.toNat_zero, Addr.add_zero'] at hcell
   have hxl : 0 < x.length := by have := HX.out; omega
   have hxc : x.length ≤ x.length := Nat.le_refl _
   by_cases hg : c0 = 0 ∨ N ≤ 55
   ·rw [if_pos hg] at HRES
    obtain rfl := HRES.out
    clear HRES
    by_cases hc0 : c0 = 0
    ·subst hc0
     go_wp2_with fail
     refine (rlp_number.calls kk _ _ x N _ (Kd.C_drewN H1.out n) (Nat.le_refl _) HK.out).mono ?_
     rintro e w' ⟨rfl, hd⟩
     obtain ⟨m, rfl⟩ := hd.out
     clear hd
     go_wp2_with fail
     refine (need_no 8 _).mono ?_
     rintro e w' ⟨rfl, rfl⟩
     exact ⟨rfl, by repeat (first | exact Drawn0.refl _ | apply Drawn0.step), rfl⟩
    ·have hb0 : (c0 != 0) = true := bne_iff_ne.2 hc0
     have hb1 : decide ((55 : Int) < (N : Int)) = false := decide_eq_false (by omega)
     have hb2 : decide (55 < N) = false := decide_eq_false (by omega)
     go_wp2_with fail
     refine (rlp_number.calls kk _ _ x N _ (Kd.C_drewN H1.out n) (Nat.le_refl _) HK.out).mono ?_
     rintro e w' ⟨rfl, hd⟩
     obtain ⟨m, rfl⟩ := hd.out
     clear hd
     go_wp2_with fail
     refine (need_no 8 _).mono ?_
     rintro e w' ⟨rfl, rfl⟩
     exact ⟨rfl, by repeat (first | exact Drawn0.refl _ | apply Drawn0.step), rfl⟩
   ·rw [if_neg hg] at HRES
    have hb0 : (c0 != 0) = true := bne_iff_ne.2 (fun h => hg (.inl h))
    have hb1 : decide ((55 : Int) < (N : Int)) = true := decide_eq_true (by omega)
    have hb2 : decide (55 < N) = true := decide_eq_true (by omega)
    clear hg
    go_wp2_with fail
    refine (rlp_number.calls kk _ _ x N _ (Kd.C_drewN H1.out n) (Nat.le_refl _) HK.out).mono ?_
    rintro e w' ⟨rfl, hd⟩
    obtain ⟨m, rfl⟩ := hd.out
    clear hd
    go_wp2_with fail
    refine (need_ok 8 _).mono ?_
    rintro e w' ⟨rfl, rfl⟩
    go_wp2_with fail
    refine (cut_any A2 _ N y _ hm2 (Nat.le_refl _) hN).mono ?_
    rintro e w' ⟨hd, hp⟩
    rw [← HRES.out] at hp
    obtain ⟨m2, rfl⟩ := hd.out
    clear hd
    cases res with
    | error k =>
     obtain rfl := hp
     exact ⟨rfl, by repeat (first | exact Drawn0.refl _ | apply Drawn0.step), rfl⟩
    | ok q =>
     obtain ⟨B1, B2, rfl, g1⟩ := hp
     have G1 := Aside0.mk g1
     clear g1
     go_wp2
     go_ret2
     refine ⟨by repeat (first | exact Drawn0.refl _ | apply Drawn0.step), B1, B2, rfl, fun W hW => G1.out W (H12.out W hW).2⟩
  ·rw [if_neg hkl] at hres
   subst hres
   go_enter Try.func163, Try.ntmps163
   go_wp2_with fail
   refine (cut_any A c k l _ hm HC.out (by omega)).mono ?_
   rintro e w' ⟨hd, hp⟩
   unfold cutP at hp
   rw [if_neg hkl] at hp
   obtain rfl := hp
   exact ⟨rfl, hd, rfl⟩
theorem tail_cut {A : Option Addr} {n c : Nat} {l : List Int} (hl : l.length = n) (h1 : 1 ≤ n) (hc : n ≤ c) :
 ∃ A', (∀ W : World, (Instr.slice 74 (.slice A n c) (some (.int .i64 1)) (some (.int .i64 (n : Int))) (some (.int .i64 (n : Int)))).run Try.prog W = .ok (.slice A' (n - 1) (n - 1)) W) ∧ ∀ W, Kd.C (Kd.int .u8) W A n l → Kd.C (Kd.int .u8) W A' (n - 1) (l.drop 1) := by
 subst hl
 obtain ⟨i, hi, hz⟩ := Option.map_eq_some_iff.1 info5
 simp only [Prod.mk.injEq] at hz
 have hel : Try.prog.elem 74 = 5 := by simp [Program.elem, Try.underlying74]
 have hu : Try.prog.underlying 74 = some (.slice (Try.prog.elem 74)) := by rw [hel]; exact Try.underlying74
 refine ⟨if l.length = 1 then A else A.map (·.add 1), fun W => ?_, fun W h => ?_⟩
 ·rw [run_slice_lhm W 74 A l.length c hu .i64 .i64 .i64 1 l.length l.length (by omega) (by omega) (by omega) (by omega), hel]
  simp [sizeOf, typeInfo, hi, hz.2.1, sliced, Result.andThen]
 ·have h2 := Kd.C_drop (c := l.length) h h1 (Nat.le_refl _)
  rw [show (Kd.int IntKind.u8).sz = 1 from rfl, Nat.mul_one, List.length_drop] at h2
  exact h2
def ItemPost (A0 : Option Addr) (l : List Int) (r : Except Int (S159 × List Int)) (w : World) (e : Ending) (w' : World) : Prop :=
 Below w.heap.size w w' ∧ match r with
  | .ok q => ∃ v1 v2 A, e = .returned (.tuple #[.agg #[.bool q.1.f0, v1, v2], .slice A q.2.length q.2.length]) ∧
   Kd.R (Kd.int .u8) 5 w' w.heap.size (fun _ => True) v1 q.1.f1 ∧ Kd.R k159 159 w' w.heap.size (fun _ => True) v2 q.1.f2 ∧ (∀ W, Kd.C (Kd.int .u8) W A0 l.length l → Kd.C (Kd.int .u8) W A q.2.length q.2)
  | .error k => e = .panicked (wrongP k)
theorem item_empty (A : Option Addr) (c : Nat) (lv : Nat) (w : World) :
 Calls Try.prog 145 #[.slice A 0 c, .int .i64 (lv : Int)] w fun e w' => e = .panicked (wrongP 7) ∧ Below w.heap.size w w' := by
 have HB := Aside0.mk (Below.refl w.heap.size w)
 go_enter Try.func145, Try.ntmps145
 go_wp2_with (first | ((with_reducible refine gate_dst (N := 4) rfl ?_); refine alloc_ev rfl (N := 4) rfl (cs := #[.bool false, .slice none 0 0, .slice none 0 0]) (t := 159) HB ?hr ?_; (case hr => first | (go_simp; done) | (go_simp; rfl)); intro g4 w1 HG HGe HE HB1))
 refine (need_no 7 _).mono ?_
 rintro e w' ⟨rfl, rfl⟩
 exact ⟨rfl, rfl, HB1.out⟩
theorem item_byte (A : Option Addr) (c n lv : Nat) (c0 : Int) (rest : List Int) (w : World) (hr : Kd.C (Kd.int .u8) w A n (c0 :: rest)) (hc : n ≤ c) (hlt : c0 < 128) :
 Calls Try.prog 145 #[.slice A n c, .int .i64 (lv : Int)] w (ItemPost A (c0 :: rest) (.ok (⟨false, [c0], []⟩, rest)) w) := by
 have HB := Aside0.mk (Below.refl w.heap.size w)
 have HR := Aside0.mk hr
 have hn : 0 < n := by have := hr.1; simp at this; omega
 have hm : n ≤ 9223372036854775807 := hr.2.1
 obtain ⟨ad, rfl, hcell⟩ := Kd.at_int hr 0 (by omega) (by omega)
 obtain ⟨A', hcut, hC'⟩ := tail_cut (A := some ad) hr.1 (by omega) hc
 have HC' := Aside0.mk hC'
 clear hr hC'
 simp only [Int.toNat_zero, Addr.add_zero', rd, List.getD_cons_zero] at hcell
 have hcw : ∀ w1, Below w.heap.size w w1 → w1.cell? ad = some (.int .u8 c0) := fun w1 hb => pw_cell_below hb hcell
 have HCW := Aside0.mk hcw
 clear hcw
 have hd : decide (c0 < 128) = true := decide_eq_true hlt
 go_enter Try.func145, Try.ntmps145
 go_wp2_with (first | ((with_reducible refine gate_dst (N := 4) rfl ?_); refine alloc_ev rfl (N := 4) rfl (cs := #[.bool false, .slice none 0 0, .slice none 0 0]) (t := 159) HB ?hr ?_; (case hr => first | (go_simp; done) | (go_simp; rfl)); intro g4 w1 HG HGe HE HB1; have hcw1 := HCW.out w1 HB1.out))
 refine (need_ok 7 _).mono ?_
 rintro e w' ⟨rfl, rfl⟩
 go_wp2_with (first | ((with_reducible refine gate_dst (N := 29) rfl ?_); refine lit_bytes rfl (N := 29) rfl [c0] HB1 (by simp) ?hr ?_; (case hr => first | (go_simp; done) | (go_simp; rfl)); intro A1 c1 w2 HV HE2 HB2; have HG2 := Aside0.mk (blk_below HG.out HE2.out); have hcf := cf3 HG2))
 have hg0 : w.heap.size ≤ g4 := Nat.le_of_eq HGe.out
 refine bodyPost_ret (results_ct rfl _ _ g4 159 #[.bool false, .slice A1 [c0].length c1, .slice none 0 0] (0, 0) _ rfl (put3 HG2.out) Try.underlying159 rfl (by kernel_rfl)) rfl ?_
 have hn1 : n - 1 = rest.length := by have hl := HR.out.1; simp only [List.length_cons] at hl; omega
 refine ⟨below3 HB2.out hg0, .slice A1 1 c1, .slice none 0 0, A', ?_, ?_, Kd.R_nil _ _ _ _ _, ?_⟩
 ·show Ending.returned (.tuple #[.agg #[.bool false, .slice A1 1 c1, .slice none 0 0], .slice A' (n - 1) (n - 1)]) = _
  rw [hn1]
 ·exact Kd.R_lower (Kd.R_mono (Kd.R_keep (Kd.R_newB HV.out HG.out) keep3 (fun k hk => hk.2)) (fun _ _ => trivial)) (below_size HB1.out)
 ·intro W hW; rw [← hn1]; rw [HR.out.1] at hW; exact HC'.out W hW
def strF (q : List Int × List Int) : Except Int (S159 × List Int) := if q.1.length = 1 ∧ q.1.headD 0 < 128 then .error 8 else .ok (⟨false, q.1, []⟩, q.2)
theorem item_str (A : Option Addr) (c n lv : Nat) (c0 : Int) (rest : List Int) (w : World) (hr : Kd.C (Kd.int .u8) w A n (c0 :: rest)) (hc : n ≤ c) (hlo : 128 ≤ c0) (hlt : c0 < 192) (hb : Byt rest) (hn65 : n ≤ 65536) :
 Calls Try.prog 145 #[.slice A n c, .int .i64 (lv : Int)] w (ItemPost A (c0 :: rest) ((bodyP (c0 - 128).toNat rest).bind strF) w) := by
 have HB := Aside0.mk (Below.refl w.heap.size w)
 have HR := Aside0.mk hr
 have hn : 0 < n := by have := hr.1; simp at this; omega
 have hm : n ≤ 9223372036854775807 := hr.2.1
 have hn1 : rest.length = n - 1 := by have hl := hr.1; simp only [List.length_cons] at hl; omega
 obtain ⟨ad, rfl, hcell⟩ := Kd.at_int hr 0 (by omega) (by omega)
 obtain ⟨A', hcut, hC0⟩ := tail_cut (A := some ad) hr.1 (by omega) hc
 have HC0 := Aside0.mk hC0
 have hC' := hC0 _ hr
 have HC' := Aside0.mk hC'
 simp only [List.drop_succ_cons, List.drop_zero] at HC' HC0
 clear hr hC' hC0
 simp only [Int.toNat_zero, Addr.add_zero', rd, List.getD_cons_zero] at hcell
 have hcw : ∀ w1, Below w.heap.size w w1 → w1.cell? ad = some (.int .u8 c0) := fun w1 hb => pw_cell_below hb hcell
 have HCW := Aside0.mk hcw
 clear hcw
 have hd : decide (c0 < 128) = false := decide_eq_false (by omega)
 have hd2 : decide (c0 < 192) = true := decide_eq_true (by omega)
 obtain ⟨r, hrr⟩ : ∃ r, r = bodyP (c0 - 128).toNat rest := ⟨_, rfl⟩
 have HBD := Aside0.mk (fun (W : World) (hbe : Below w.heap.size w W) => body_any c0 128 (c0 - 128).toNat A' (n - 1) rest W (by omega) (by omega) (by omega) (by omega) (by rw [hn1]; exact Kd.C_below HC'.out hbe) (by omega) hb)
 rw [hn1] at HBD
 rw [← hrr] at HBD ⊢
 obtain ⟨res, hres⟩ : ∃ res, res = r.bind strF := ⟨_, rfl⟩
 rw [← hres]
 have HRES := Aside0.mk hres
 have HRR := Aside0.mk hrr
 have HN1 := Aside0.mk hn1
 clear hrr hn1 hb hres
 go_enter Try.func145, Try.ntmps145
 go_wp2_with (first | ((with_reducible refine gate_dst (N := 4) rfl ?_); refine alloc_ev rfl (N := 4) rfl (cs := #[.bool false, .slice none 0 0, .slice none 0 0]) (t := 159) HB ?hr ?_; (case hr => first | (go_simp; done) | (go_simp; rfl)); intro g4 w1 HG HGe HE HB1; have hcw1 := HCW.out w1 HB1.out))
 refine (need_ok 7 _).mono ?_
 rintro e w' ⟨rfl, rfl⟩
 go_wp2_with fail
 refine (HBD.out _ HB1.out).mono ?_
 rintro e w' ⟨hdr, hp⟩
 obtain ⟨m, rfl⟩ := hdr.out
 clear hdr
 cases r with
 | error k =>
  obtain rfl := hp
  obtain rfl : res = .error k := HRES.out
  exact ⟨rfl, pw_below_drewN HB1.out m, rfl⟩
 | ok q =>
  obtain ⟨inner, left⟩ := q
  obtain ⟨A1, A2, rfl, hc12⟩ := hp
  obtain ⟨hc1, hc2⟩ := hc12 _ (by rw [HN1.out]; exact HC'.out)
  have HC12 := Aside0.mk hc12
  clear hc12
  simp only [Except.bind, strF] at HRES hc1 hc2
  have HC1 := Aside0.mk hc1
  have HC2 := Aside0.mk hc2
  have hil : inner.length ≤ 65536 := by have := bodyP_len HRR.out.symm; have := HN1.out; omega
  by_cases h1 : inner.length = 1
  ·obtain ⟨ad1, rfl, hcell0⟩ := Kd.at_int hc1 0 (by omega) (by omega)
   obtain ⟨i0, rfl⟩ : ∃ i0, inner = [i0] := by
    match inner, h1 with
    | [i0], _ => exact ⟨i0, rfl⟩
   simp only [Int.toNat_zero, Addr.add_zero', rd, List.getD_cons_zero] at hcell0
   have hcell1 := pw_cell_below HB1.out hcell0
   clear hc1 hc2 h1
   by_cases hi0 : i0 < 128
   ·have hd3 : decide (128 ≤ i0) = false := decide_eq_false (by omega)
    obtain rfl : res = .error 8 := by rw [HRES.out, if_pos ⟨rfl, by simpa using hi0⟩]
    go_wp2_with fail
    refine (need_no 8 _).mono ?_
    rintro e w' ⟨rfl, rfl⟩
    exact ⟨rfl, pw_below_drewN HB1.out m, rfl⟩
   ·have hd3 : decide (128 ≤ i0) = true := decide_eq_true (by omega)
    obtain rfl : res = .ok (⟨false, [i0], []⟩, left) := by rw [HRES.out, if_neg (fun h => hi0 (by simpa using h.2))]
    go_wp2_with fail
    refine (need_ok 8 _).mono ?_
    rintro e w' ⟨rfl, rfl⟩
    go_wp2_with fail
    refine (clone_calls (some ad1) 1 [i0] (w1.drewN m) (Kd.C_below HC1.out (pw_below_drewN HB1.out m)) (Nat.le_refl _) (by (try simp only [List.length_singleton] at *); omega)).mono ?_
    rintro e w3 ⟨v, rfl, hV, hE3⟩
    obtain ⟨A3, c3, rfl⟩ := Kd.R_slice hV
    have HV := Aside0.mk hV
    have HE3 := Aside0.mk hE3
    have HG3 := Aside0.mk (blk_below (w := w1.drewN m) HG.out hE3)
    have HB3 := Aside0.mk (below_step (pw_below_drewN HB1.out m) hE3)
    have hcf := cf3 HG3
    clear hV hE3
    go_wp2
    have hg0 : w.heap.size ≤ g4 := Nat.le_of_eq HGe.out
    refine bodyPost_ret (results_ct rfl _ _ g4 159 #[.bool false, .slice A3 [i0].length c3, .slice none 0 0] (0, 0) _ rfl (put3 HG3.out) Try.underlying159 rfl (by kernel_rfl)) rfl ?_
    refine ⟨below3 HB3.out hg0, .slice A3 [i0].length c3, .slice none 0 0, A2, rfl, ?_, Kd.R_nil _ _ _ _ _, ?_⟩
    ·exact Kd.R_lower (Kd.R_mono (Kd.R_keep (Kd.R_newB (w := w1.drewN m) HV.out HG.out) keep3 (fun k hk => hk.2)) (fun _ _ => trivial)) (below_size (pw_below_drewN HB1.out m))
    ·intro W hW; rw [HR.out.1] at hW; exact (HC12.out W (by rw [HN1.out]; exact HC0.out W hW)).2
  ·have h1b : ((inner.length : Int) == 1) = false := beq_eq_false_iff_ne.2 (by omega)
   obtain rfl : res = .ok (⟨false, inner, []⟩, left) := by rw [HRES.out, if_neg (fun h => h1 h.1)]
   have h1c : ((inner.length : Int) != 1) = true := by rw [bne_iff_ne]; omega
   clear hc1 hc2
   go_wp2_with fail
   refine (need_ok 8 _).mono ?_
   rintro e w' ⟨rfl, rfl⟩
   go_wp2_with fail
   refine (clone_calls A1 inner.length inner (w1.drewN m) (Kd.C_below HC1.out (pw_below_drewN HB1.out m)) (Nat.le_refl _) (by (try simp only [List.length_singleton] at *); omega)).mono ?_
   rintro e w3 ⟨v, rfl, hV, hE3⟩
   obtain ⟨A3, c3, rfl⟩ := Kd.R_slice hV
   have HV := Aside0.mk hV
   have HE3 := Aside0.mk hE3
   have HG3 := Aside0.mk (blk_below (w := w1.drewN m) HG.out hE3)
   have HB3 := Aside0.mk (below_step (pw_below_drewN HB1.out m) hE3)
   have hcf := cf3 HG3
   clear hV hE3
   go_wp2
   have hg0 : w.heap.size ≤ g4 := Nat.le_of_eq HGe.out
   refine bodyPost_ret (results_ct rfl _ _ g4 159 #[.bool false, .slice A3 inner.length c3, .slice none 0 0] (0, 0) _ rfl (put3 HG3.out) Try.underlying159 rfl (by kernel_rfl)) rfl ?_
   refine ⟨below3 HB3.out hg0, .slice A3 inner.length c3, .slice none 0 0, A2, rfl, ?_, Kd.R_nil _ _ _ _ _, ?_⟩
   ·exact Kd.R_lower (Kd.R_mono (Kd.R_keep (Kd.R_newB (w := w1.drewN m) HV.out HG.out) keep3 (fun k hk => hk.2)) (fun _ _ => trivial)) (below_size (pw_below_drewN HB1.out m))
   ·intro W hW; rw [HR.out.1] at hW; exact (HC12.out W (by rw [HN1.out]; exact HC0.out W hW)).2
end Go.Proofs.Ytocphkfkdadhaaa.K
