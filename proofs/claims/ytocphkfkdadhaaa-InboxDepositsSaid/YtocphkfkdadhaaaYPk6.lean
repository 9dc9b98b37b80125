import Derived.Test.YtocphkfkdadhaaaYPk5
import Derived.Test.YtocphkfkdadhaaaYPk2
import Derived.BigRegion
import Derived.Test.YtocphkfkdadhaaaYPk1
import Derived.Test.YtocphkfkdadhaaaYPk3
import Derived.Laws.Cover3
import Derived.RangeFuncNested
import Derived.RangeFuncBound
import Derived.RangeFuncCalls
import Derived.RangeFuncLeaves
import Derived.RangeFuncWrites
import Derived.Shelf.Abstract
import Derived.Shelf.RegionOpen
import Derived.WalkKit
import Derived.OwnWalkIn
import Derived.TacticsInMore
import Derived.LoopNIn
import Derived.LoopIn
namespace Go.Proofs.Ytocphkfkdadhaaa.H
open Go.RowKit Go.Proofs.YtocphkfkdadhaaaW.PrintWords Go.Proofs.YtocphkfkdadhaaaW.PrintLast Go.Proofs.YtocphkfkdadhaaaW.PrintMore
set_option linter.unusedVariables false
set_option linter.unusedSimpArgs false
theorem cellB {W : World} {A : Option Addr} {n : Nat} {l : List Int} (h : Kd.C kB W A n l) (i : Nat) (hi : i < n) (hl : i < l.length) : ∃ ad, A = some ad ∧ W.cell? (ad.add i) = some (.int .u8 l[i]) := by
 obtain ⟨ad, cs, hA, _, hK, hc⟩ := Kd.C_get h (0 : Int) (i : Int) (by omega) (by omega)
 refine ⟨ad, hA, ?_⟩
 have h1 := hc 0 (.int .u8 l[i]) (by
  have hK : cs = [.int .u8 (l.getD (i : Int).toNat 0)] := hK
  rw [hK, Int.toNat_natCast, List.getD_eq_getElem?_getD, List.getElem?_eq_getElem hl]; rfl)
 rw [Int.toNat_natCast, Nat.add_zero, show kB.sz = 1 from rfl, Nat.mul_one] at h1
 exact h1
theorem num_or (x y : Nat) (hx : x < 72057594037927936) (hy : y < 256) : bits .or .u64 ((x : Int) * 256) (y : Int) = ((x * 256 + y : Nat) : Int) := by
 have h := K.num_step x y hx hy
 rwa [IntKind.wrap_u64, IntKind.wrap_u64, Int.emod_eq_of_lt (by omega) (by omega), Int.emod_eq_of_lt (by omega) (by omega)] at h
def z13 : List Nat := List.replicate 13 0
def wordsM (b : List Int) : List Nat × Int := if b.length < 104 then (z13, 7) else if 104 < b.length then (z13, 8) else (wordsAll 13 b, 0)
set_option maxHeartbeats 4000000 in
set_option maxRecDepth 100000 in
theorem mwords_any (b : List Int) (A : Option Addr) (c : Nat) (w : World) (hb : ∀ x ∈ b, 0 ≤ x ∧ x ≤ 255) (hC : Kd.C kB w A b.length b) (hc : b.length ≤ c) :
 Calls Try.prog 157 #[.slice A b.length c] w fun e w' => e = .returned (.tuple #[.agg (cellsN (wordsM b).1), .int .i64 (wordsM b).2]) ∧ Below w.heap.size w w' := by
 have H0 := Aside0.mk (Own.start w)
 have HC := Aside0.mk hC
 have R13 : Aside0 (Arr 13 (cellsN z13)) := ⟨cellsN_arr rfl⟩
 have HBB := Aside0.mk hb
 clear hC hb
 obtain ⟨n, hn⟩ : ∃ n, n = b.length := ⟨_, rfl⟩
 have HN := Aside0.mk hn
 rw [← hn] at HC hc ⊢
 clear hn
 obtain ⟨r, hr⟩ : ∃ r, r = wordsM b := ⟨_, rfl⟩
 have HR := Aside0.mk hr
 rw [← hr]
 clear hr
 unfold wordsM at HR
 rw [← HN.out] at HR
 by_cases h1 : n < 104
 ·have hd1 : decide ((n : Int) < 104) = true := decide_eq_true (by omega)
  rw [if_pos h1] at HR
  obtain rfl := HR.out
  clear HR
  go_enter Try.func157, Try.ntmps157
  go_wp2_with (first
   | fail
   | ((with_reducible refine Gd 2 ?_); ( refine OA H0 194 (cellsN z13) 13 ?_; intro g2 w1 H1 B1))
   | ((with_reducible refine Gd 4 ?_); ( refine OA H1 194 (cellsN z13) 13 ?_; intro g4 w2 H2 B2))
   | ((with_reducible refine Gd 10 ?_); ( refine OL 4 H2 0 g4 194 Try.underlying194 13 R13 ?_))
   | ((with_reducible refine Gs 194 2 ?_); ( refine OS 2 10 H2 1 g2 194 (cellsN z13) 13 R13 R13 ?_; intro w3 H3))
   )
  refine bodyPost_ret (own_resultV_t rfl _ H3.out 1 g2 _ rfl rfl _ Try.underlying194 rfl (by kernel_rfl) _ rfl) rfl ?_
  exact ⟨rfl, H3.out.below⟩
 have hd1 : decide ((n : Int) < 104) = false := decide_eq_false (by omega)
 rw [if_neg h1] at HR
 by_cases h2 : 104 < n
 ·have hd2 : decide (104 < (n : Int)) = true := decide_eq_true (by omega)
  rw [if_pos h2] at HR
  obtain rfl := HR.out
  clear HR
  go_enter Try.func157, Try.ntmps157
  go_wp2_with (first
   | fail
   | ((with_reducible refine Gd 2 ?_); ( refine OA H0 194 (cellsN z13) 13 ?_; intro g2 w1 H1 B1))
   | ((with_reducible refine Gd 4 ?_); ( refine OA H1 194 (cellsN z13) 13 ?_; intro g4 w2 H2 B2))
   | ((with_reducible refine Gd 15 ?_); ( refine OL 4 H2 0 g4 194 Try.underlying194 13 R13 ?_))
   | ((with_reducible refine Gs 194 2 ?_); ( refine OS 2 15 H2 1 g2 194 (cellsN z13) 13 R13 R13 ?_; intro w3 H3))
   )
  refine bodyPost_ret (own_resultV_t rfl _ H3.out 1 g2 _ rfl rfl _ Try.underlying194 rfl (by kernel_rfl) _ rfl) rfl ?_
  exact ⟨rfl, H3.out.below⟩
 have hd2 : decide (104 < (n : Int)) = false := decide_eq_false (by omega)
 rw [if_neg h2] at HR
 obtain rfl : n = 104 := by omega
 obtain rfl := HR.out
 clear HR h1 h2
 go_enter Try.func157, Try.ntmps157
 go_wp2_with (first
  | fail
  | ((with_reducible refine Gd 2 ?_); ( refine OA H0 194 (cellsN z13) 13 ?_; intro g2 w1 H1 B1))
  | ((with_reducible refine Gd 4 ?_); ( refine OA H1 194 (cellsN z13) 13 ?_; intro g4 w2 H2 B2))
  )
 replace H2 : Aside0 (Own w.heap.size w w2 [.blk g4 (cellsN (wordsU 13 b 0)) 194, .blk g2 (cellsN z13) 194]) := ⟨by rw [wordsU_zero]; exact H2.out⟩
 clear H0 H1 B1 B2 hd1 hd2
 go_loopw [16] (fun vi wr => ∃ (i : Nat), i ≤ 104 ∧ vi = .int .i64 (i : Int) ∧ Aside0 (Own w.heap.size w wr [.blk g4 (cellsN (wordsU 13 b i)) 194, .blk g2 (cellsN z13) 194])) (fun vi _ => 104 - (intOf vi).toNat)
 case atStart => exact ⟨0, Nat.zero_le _, rfl, H2⟩
 case round =>
  clear H2
  obtain ⟨i, hi, rfl, HI⟩ := hrel
  by_cases hlt : i < 104
  ·have hdl : decide ((i : Int) < 104) = true := decide_eq_true (by omega)
   have hib : i < b.length := by rw [← HN.out]; exact hlt
   obtain ⟨ad, rfl, hcb⟩ := cellB (Kd.C_below HC.out HI.out.below) i hlt hib
   have hbb := HBB.out _ (List.getElem_mem hib)
   have hq : i / 8 < 13 := by omega
   have hxl := wordU_lt b i HBB.out hib
   have HST := Aside0.mk (wordsU_step 13 b i hib hq)
   have hx : wr.cell? ⟨g4, i / 8, none⟩ = some (.int .u64 ((wordU b i (i / 8) : Nat) : Int)) := HI.out.cell 0 rfl (i / 8) (by rw [cellsN_at _ _ (by rw [wordsU_len]; exact hq), wordsU_at])
   have hxf := HI.out.fz 0 rfl (i / 8)
   obtain ⟨y, hy⟩ := Int.eq_ofNat_of_zero_le hbb.1
   rw [hy, Int.toNat_natCast] at HST
   rw [hy] at hcb hbb
   have hor := num_or (wordU b i (i / 8)) y hxl (by omega)
   generalize wordU b i (i / 8) = x at *
   clear hy
   go_wp2_with fail
   go_region
   go_wp2_with fail
   go_roundw
   case rel => exact ⟨i + 1, hlt, by go_num, ⟨((HI.out.put 0 rfl (i / 8) _ ((cellsN_set _ _ _).trans (congrArg cellsN HST.out))).drew)⟩⟩
   case measure => simp [intOf]; omega
  ·have hdl : decide ((i : Int) < 104) = false := decide_eq_false (by omega)
   obtain rfl : i = 104 := by omega
   have HE : Aside0 (Own w.heap.size w wr [.blk g4 (cellsN (wordsAll 13 b)) 194, .blk g2 (cellsN z13) 194]) := ⟨by have h := HI.out; rwa [show (104 : Nat) = 8 * 13 from rfl, wordsU_all 13 b (by rw [← HN.out])] at h⟩
   have RA : Aside0 (Arr 13 (cellsN (wordsAll 13 b))) := ⟨cellsN_arr (by simp [wordsAll])⟩
   clear HI
   go_wp2_with (first
    | fail
    | ((with_reducible refine Gd 34 ?_); ( refine OL 4 HE 0 g4 194 Try.underlying194 13 RA ?_))
    | ((with_reducible refine Gs 194 2 ?_); ( refine OS 2 34 HE 1 g2 194 (cellsN (wordsAll 13 b)) 13 R13 RA ?_; intro w3 H3))
    )
   refine bodyPost_ret (own_resultV_t rfl _ H3.out 1 g2 _ rfl rfl _ Try.underlying194 rfl (by rw [(cellsN_arr (l := wordsAll 13 b) (n := 13) (by simp [wordsAll])).1]; kernel_rfl) _ rfl) rfl ?_
   exact ⟨rfl, H3.out.below⟩
set_option maxHeartbeats 4000000 in
set_option maxRecDepth 100000 in
theorem rwords_any (b : List Int) (A : Option Addr) (c : Nat) (w : World) (hb : ∀ x ∈ b, 0 ≤ x ∧ x ≤ 255) (hC : Kd.C kB w A b.length b) (hc : b.length ≤ c) :
 Calls Try.prog 131 #[.slice A b.length c] w fun e w' => e = .returned (.tuple #[.agg (cellsN (wordsM b).1), .int .i64 (wordsM b).2]) ∧ Below w.heap.size w w' := by
 have H0 := Aside0.mk (Own.start w)
 have HC := Aside0.mk hC
 have R13 : Aside0 (Arr 13 (cellsN z13)) := ⟨cellsN_arr rfl⟩
 have HBB := Aside0.mk hb
 clear hC hb
 obtain ⟨n, hn⟩ : ∃ n, n = b.length := ⟨_, rfl⟩
 have HN := Aside0.mk hn
 rw [← hn] at HC hc ⊢
 clear hn
 obtain ⟨r, hr⟩ : ∃ r, r = wordsM b := ⟨_, rfl⟩
 have HR := Aside0.mk hr
 rw [← hr]
 clear hr
 unfold wordsM at HR
 rw [← HN.out] at HR
 by_cases h1 : n < 104
 ·have hd1 : decide ((n : Int) < 104) = true := decide_eq_true (by omega)
  rw [if_pos h1] at HR
  obtain rfl := HR.out
  clear HR
  go_enter Try.func131, Try.ntmps131
  go_wp2_with (first
   | fail
   | ((with_reducible refine Gd 2 ?_); ( refine OA H0 194 (cellsN z13) 13 ?_; intro g2 w1 H1 B1))
   | ((with_reducible refine Gd 4 ?_); ( refine OA H1 194 (cellsN z13) 13 ?_; intro g4 w2 H2 B2))
   | ((with_reducible refine Gd 9 ?_); ( refine OL 4 H2 0 g4 194 Try.underlying194 13 R13 ?_))
   | ((with_reducible refine Gs 194 2 ?_); ( refine OS 2 9 H2 1 g2 194 (cellsN z13) 13 R13 R13 ?_; intro w3 H3))
   )
  refine bodyPost_ret (own_resultV_t rfl _ H3.out 1 g2 _ rfl rfl _ Try.underlying194 rfl (by kernel_rfl) _ rfl) rfl ?_
  exact ⟨rfl, H3.out.below⟩
 have hd1 : decide ((n : Int) < 104) = false := decide_eq_false (by omega)
 rw [if_neg h1] at HR
 by_cases h2 : 104 < n
 ·have hd2 : decide (104 < (n : Int)) = true := decide_eq_true (by omega)
  rw [if_pos h2] at HR
  obtain rfl := HR.out
  clear HR
  go_enter Try.func131, Try.ntmps131
  go_wp2_with (first
   | fail
   | ((with_reducible refine Gd 2 ?_); ( refine OA H0 194 (cellsN z13) 13 ?_; intro g2 w1 H1 B1))
   | ((with_reducible refine Gd 4 ?_); ( refine OA H1 194 (cellsN z13) 13 ?_; intro g4 w2 H2 B2))
   | ((with_reducible refine Gd 13 ?_); ( refine OL 4 H2 0 g4 194 Try.underlying194 13 R13 ?_))
   | ((with_reducible refine Gs 194 2 ?_); ( refine OS 2 13 H2 1 g2 194 (cellsN z13) 13 R13 R13 ?_; intro w3 H3))
   )
  refine bodyPost_ret (own_resultV_t rfl _ H3.out 1 g2 _ rfl rfl _ Try.underlying194 rfl (by kernel_rfl) _ rfl) rfl ?_
  exact ⟨rfl, H3.out.below⟩
 have hd2 : decide (104 < (n : Int)) = false := decide_eq_false (by omega)
 rw [if_neg h2] at HR
 obtain rfl : n = 104 := by omega
 obtain rfl := HR.out
 clear HR h1 h2
 go_enter Try.func131, Try.ntmps131
 go_wp2_with (first
  | fail
  | ((with_reducible refine Gd 2 ?_); ( refine OA H0 194 (cellsN z13) 13 ?_; intro g2 w1 H1 B1))
  | ((with_reducible refine Gd 4 ?_); ( refine OA H1 194 (cellsN z13) 13 ?_; intro g4 w2 H2 B2))
  )
 replace H2 : Aside0 (Own w.heap.size w w2 [.blk g4 (cellsN (wordsU 13 b 0)) 194, .blk g2 (cellsN z13) 194]) := ⟨by rw [wordsU_zero]; exact H2.out⟩
 clear H0 H1 B1 B2 hd1 hd2
 go_loopw [5] (fun vi wr => ∃ (i : Nat), i ≤ 104 ∧ vi = .int .i64 (i : Int) ∧ Aside0 (Own w.heap.size w wr [.blk g4 (cellsN (wordsU 13 b i)) 194, .blk g2 (cellsN z13) 194])) (fun vi _ => 104 - (intOf vi).toNat)
 case atStart => exact ⟨0, Nat.zero_le _, rfl, H2⟩
 case round =>
  clear H2
  obtain ⟨i, hi, rfl, HI⟩ := hrel
  by_cases hlt : i < 104
  ·have hdl : decide ((i : Int) < 104) = true := decide_eq_true (by omega)
   have hib : i < b.length := by rw [← HN.out]; exact hlt
   obtain ⟨ad, rfl, hcb⟩ := cellB (Kd.C_below HC.out HI.out.below) i hlt hib
   have hbb := HBB.out _ (List.getElem_mem hib)
   have hq : i / 8 < 13 := by omega
   have hxl := wordU_lt b i HBB.out hib
   have HST := Aside0.mk (wordsU_step 13 b i hib hq)
   have hx : wr.cell? ⟨g4, i / 8, none⟩ = some (.int .u64 ((wordU b i (i / 8) : Nat) : Int)) := HI.out.cell 0 rfl (i / 8) (by rw [cellsN_at _ _ (by rw [wordsU_len]; exact hq), wordsU_at])
   have hxf := HI.out.fz 0 rfl (i / 8)
   obtain ⟨y, hy⟩ := Int.eq_ofNat_of_zero_le hbb.1
   rw [hy, Int.toNat_natCast] at HST
   rw [hy] at hcb hbb
   have hor := num_or (wordU b i (i / 8)) y hxl (by omega)
   generalize wordU b i (i / 8) = x at *
   clear hy
   go_wp2_with fail
   go_region
   go_wp2_with fail
   go_roundw
   case rel => exact ⟨i + 1, hlt, by go_num, ⟨((HI.out.put 0 rfl (i / 8) _ ((cellsN_set _ _ _).trans (congrArg cellsN HST.out))).drew)⟩⟩
   case measure => simp [intOf]; omega
  ·have hdl : decide ((i : Int) < 104) = false := decide_eq_false (by omega)
   obtain rfl : i = 104 := by omega
   have HE : Aside0 (Own w.heap.size w wr [.blk g4 (cellsN (wordsAll 13 b)) 194, .blk g2 (cellsN z13) 194]) := ⟨by have h := HI.out; rwa [show (104 : Nat) = 8 * 13 from rfl, wordsU_all 13 b (by rw [← HN.out])] at h⟩
   have RA : Aside0 (Arr 13 (cellsN (wordsAll 13 b))) := ⟨cellsN_arr (by simp [wordsAll])⟩
   clear HI
   go_wp2_with (first
    | fail
    | ((with_reducible refine Gd 32 ?_); ( refine OL 4 HE 0 g4 194 Try.underlying194 13 RA ?_))
    | ((with_reducible refine Gs 194 2 ?_); ( refine OS 2 32 HE 1 g2 194 (cellsN (wordsAll 13 b)) 13 R13 RA ?_; intro w3 H3))
    )
   refine bodyPost_ret (own_resultV_t rfl _ H3.out 1 g2 _ rfl rfl _ Try.underlying194 rfl (by rw [(cellsN_arr (l := wordsAll 13 b) (n := 13) (by simp [wordsAll])).1]; kernel_rfl) _ rfl) rfl ?_
   exact ⟨rfl, H3.out.below⟩
theorem bytesOf_len (ws : List Nat) : (bytesOf ws).length = 8 * ws.length := by
 induction ws with
 | nil => rfl
 | cons x ws ih => simp only [bytesOf, List.map_cons, List.flatten_cons, List.length_append, List.length_cons] at ih ⊢; rw [ih]; show 8 + _ = _; omega
theorem bytesOf_at : ∀ (ws : List Nat) (i : Nat) (h : i / 8 < ws.length), (bytesOf ws)[i]? = some ((ws[i / 8] / 2 ^ (56 - 8 * (i % 8)) % 256 : Nat) : Int)
 | [], i, h => by simp at h
 | x :: ws, i, h => by
  have e : bytesOf (x :: ws) = be8I x ++ bytesOf ws := rfl
  rw [e]
  have hl : (be8I x).length = 8 := rfl
  by_cases hi : i < 8
  ·rw [List.getElem?_append_left (by omega)]
   have h0 : i / 8 = 0 := by omega
   simp only [h0, List.getElem_cons_zero]
   rw [Nat.mod_eq_of_lt hi]
   exact be8_at x i hi
  ·rw [List.getElem?_append_right (by omega), hl, bytesOf_at ws (i - 8) (by simp only [List.length_cons] at h; omega)]
   have h0 : i / 8 = (i - 8) / 8 + 1 := by omega
   simp only [h0, List.getElem_cons_succ]
   rw [show (i - 8) % 8 = i % 8 by omega]
def fromU (ws : List Nat) (i : Nat) : List Int := (bytesOf ws).take i ++ List.replicate (32 - i) 0
theorem fromU_len {ws : List Nat} (hw : ws.length = 4) {i : Nat} (hi : i ≤ 32) : (fromU ws i).length = 32 := by
 have := bytesOf_len ws
 simp [fromU, List.length_take]; omega
theorem fromU_step {ws : List Nat} (hw : ws.length = 4) {i : Nat} (hi : i < 32) : (cellsB (fromU ws i)).setIfInBounds i (.int .u8 ((ws[i / 8]'(by omega) / 2 ^ (56 - 8 * (i % 8)) % 256 : Nat) : Int)) = cellsB (fromU ws (i + 1)) := by
 have hl := bytesOf_len ws
 have ha := bytesOf_at ws i (by omega)
 have hlt : i < (bytesOf ws).length := by omega
 have hg : (bytesOf ws)[i] = ((ws[i / 8]'(by omega) / 2 ^ (56 - 8 * (i % 8)) % 256 : Nat) : Int) := by
  rw [List.getElem?_eq_getElem hlt] at ha
  exact Option.some.inj ha
 have e : fromU ws (i + 1) = (fromU ws i).set i (bytesOf ws)[i] := by
  unfold fromU
  rw [List.take_succ_eq_append_getElem hlt, show 32 - i = (32 - (i + 1)) + 1 by omega, List.replicate_succ, List.set_append_right _ _ (by rw [List.length_take]; omega)]
  rw [show i - ((bytesOf ws).take i).length = 0 by rw [List.length_take]; omega, List.set_cons_zero, List.append_assoc, List.singleton_append]
 rw [e, hg]
 simp [cellsB, List.map_set]
theorem fromU_all {ws : List Nat} (hw : ws.length = 4) : fromU ws 32 = bytesOf ws := by
 have := bytesOf_len ws
 unfold fromU
 rw [List.take_of_length_le (by omega)]
 simp
set_option maxHeartbeats 4000000 in
set_option maxRecDepth 100000 in
theorem sfrom_any (ws : List Nat) (hw : ws.length = 4) (hu : ∀ x ∈ ws, x ≤ 18446744073709551615) (w : World) :
 Calls Try.prog 158 #[.agg (cellsN ws)] w fun e w' => e = .returned (.agg (cellsB (bytesOf ws))) ∧ Below w.heap.size w w' := by
 have H0 := Aside0.mk (Own.start w)
 have HW := Aside0.mk hw
 have HU := Aside0.mk hu
 have R32 : Aside0 (Arr 32 (Array.replicate 32 (.int .u8 0))) := ⟨Arr_rep _ _ rfl⟩
 clear hu hw
 go_enter Try.func158, Try.ntmps158
 go_wp2_with (first
  | fail
  | ((with_reducible refine Gd 1 ?_); ( refine OB H0 198 ((cellsN ws)) ?_; intro g1 w1 H1 B1))
  | ((with_reducible refine Gd 2 ?_); ( refine OA H1 25 (Array.replicate 32 (.int .u8 0)) 32 ?_; intro g2 w2 H2 B2))
  | ((with_reducible refine Gd 3 ?_); ( refine OA H2 25 (Array.replicate 32 (.int .u8 0)) 32 ?_; intro g3 w3 H3 B3))
  )
 have H4 : Aside0 (Own w.heap.size w w3 [.blk g3 (cellsB (fromU ws 0)) 25, .blk g2 (Array.replicate 32 (.int .u8 0)) 25, .blk g1 (cellsN ws) 198]) := ⟨by
  have h : cellsB (fromU ws 0) = Array.replicate 32 (.int .u8 0) := by unfold fromU cellsB; rw [List.take_zero, List.nil_append, List.map_replicate, List.toArray_replicate]
  rw [h]; exact H3.out⟩
 clear H0 H1 H2 H3 B1 B2 B3
 go_loopw [5] (fun vi wr => ∃ (i : Nat), i ≤ 32 ∧ vi = .int .i64 (i : Int) ∧ Aside0 (Own w.heap.size w wr [.blk g3 (cellsB (fromU ws i)) 25, .blk g2 (Array.replicate 32 (.int .u8 0)) 25, .blk g1 (cellsN ws) 198])) (fun vi _ => 32 - (intOf vi).toNat)
 case atStart => exact ⟨0, Nat.zero_le _, rfl, H4⟩
 case round =>
  clear H4
  obtain ⟨i, hi, rfl, HI⟩ := hrel
  by_cases hlt : i < 32
  ·have hdl : decide ((i : Int) < 32) = true := decide_eq_true (by omega)
   have hq : i / 8 < ws.length := by rw [HW.out]; omega
   have hq4 : i / 8 < 4 := by omega
   have HST := Aside0.mk (fromU_step HW.out hlt)
   have hxu := HU.out _ (List.getElem_mem hq)
   have hx : wr.cell? ⟨g1, i / 8, none⟩ = some (.int .u64 ((ws[i / 8] : Nat) : Int)) := HI.out.cell 2 rfl (i / 8) (cellsN_at _ _ hq)
   have hf := HI.out.fz 0 rfl i
   obtain ⟨hth, _⟩ := HI.out.there_blk 0 rfl i 1 (by rw [(Arr_B (fromU_len HW.out hi)).1]; omega) 0 (by omega)
   rw [Nat.add_zero] at hth
   obtain ⟨vo, hvo⟩ := Option.isSome_iff_exists.1 hth
   clear hth
   generalize ws[i / 8] = x at *
   replace HST : Aside0 ((cellsB (fromU ws i)).setIfInBounds i (.int .u8 ((x : Int) / 2 ^ (56 - 8 * (i % 8)) % 256)) = cellsB (fromU ws (i + 1))) := ⟨by
    have h := HST.out
    simpa only [Int.natCast_emod, Int.natCast_ediv, Int.natCast_pow, Int.cast_ofNat_Int] using h⟩
   go_wp2_with fail
   skip
   go_roundw
   case rel => exact ⟨i + 1, hlt, by go_num, ⟨HI.out.put 0 rfl i _ HST.out⟩⟩
   case measure => simp [intOf]; omega
  ·have hdl : decide ((i : Int) < 32) = false := decide_eq_false (by omega)
   obtain rfl : i = 32 := by omega
   have HE : Aside0 (Own w.heap.size w wr [.blk g3 (cellsB (bytesOf ws)) 25, .blk g2 (Array.replicate 32 (.int .u8 0)) 25, .blk g1 (cellsN ws) 198]) := ⟨by have h := HI.out; rwa [fromU_all HW.out] at h⟩
   have RA : Aside0 (Arr 32 (cellsB (bytesOf ws))) := ⟨Arr_B (by rw [bytesOf_len, HW.out])⟩
   clear HI
   go_wp2_with (first
    | fail
    | ((with_reducible refine Gd 21 ?_); ( refine OL 3 HE 0 g3 25 Try.underlying25 32 RA ?_))
    | ((with_reducible refine Gs 25 2 ?_); ( refine OS 2 21 HE 1 g2 25 (cellsB (bytesOf ws)) 32 R32 RA ?_; intro w4 H4))
    )
   refine bodyPost_ret (own_resultV rfl _ H4.out 1 g2 _ rfl rfl _ Try.underlying25 rfl (by rw [RA.out.1]; exact sizeH)) rfl ?_
   exact ⟨rfl, H4.out.below⟩
set_option maxHeartbeats 4000000 in
set_option maxRecDepth 100000 in
theorem rfrom_any (ws : List Nat) (hw : ws.length = 4) (hu : ∀ x ∈ ws, x ≤ 18446744073709551615) (w : World) :
 Calls Try.prog 132 #[.agg (cellsN ws)] w fun e w' => e = .returned (.agg (cellsB (bytesOf ws))) ∧ Below w.heap.size w w' := by
 have H0 := Aside0.mk (Own.start w)
 have HW := Aside0.mk hw
 have HU := Aside0.mk hu
 have R32 : Aside0 (Arr 32 (Array.replicate 32 (.int .u8 0))) := ⟨Arr_rep _ _ rfl⟩
 clear hu hw
 go_enter Try.func132, Try.ntmps132
 go_wp2_with (first
  | fail
  | ((with_reducible refine Gd 1 ?_); ( refine OB H0 198 ((cellsN ws)) ?_; intro g1 w1 H1 B1))
  | ((with_reducible refine Gd 2 ?_); ( refine OA H1 25 (Array.replicate 32 (.int .u8 0)) 32 ?_; intro g2 w2 H2 B2))
  | ((with_reducible refine Gd 3 ?_); ( refine OA H2 25 (Array.replicate 32 (.int .u8 0)) 32 ?_; intro g3 w3 H3 B3))
  )
 have H4 : Aside0 (Own w.heap.size w w3 [.blk g3 (cellsB (fromU ws 0)) 25, .blk g2 (Array.replicate 32 (.int .u8 0)) 25, .blk g1 (cellsN ws) 198]) := ⟨by
  have h : cellsB (fromU ws 0) = Array.replicate 32 (.int .u8 0) := by unfold fromU cellsB; rw [List.take_zero, List.nil_append, List.map_replicate, List.toArray_replicate]
  rw [h]; exact H3.out⟩
 clear H0 H1 H2 H3 B1 B2 B3
 go_loopw [4] (fun vi wr => ∃ (i : Nat), i ≤ 32 ∧ vi = .int .i64 (i : Int) ∧ Aside0 (Own w.heap.size w wr [.blk g3 (cellsB (fromU ws i)) 25, .blk g2 (Array.replicate 32 (.int .u8 0)) 25, .blk g1 (cellsN ws) 198])) (fun vi _ => 32 - (intOf vi).toNat)
 case atStart => exact ⟨0, Nat.zero_le _, rfl, H4⟩
 case round =>
  clear H4
  obtain ⟨i, hi, rfl, HI⟩ := hrel
  by_cases hlt : i < 32
  ·have hdl : decide ((i : Int) < 32) = true := decide_eq_true (by omega)
   have hq : i / 8 < ws.length := by rw [HW.out]; omega
   have hq4 : i / 8 < 4 := by omega
   have HST := Aside0.mk (fromU_step HW.out hlt)
   have hxu := HU.out _ (List.getElem_mem hq)
   have hx : wr.cell? ⟨g1, i / 8, none⟩ = some (.int .u64 ((ws[i / 8] : Nat) : Int)) := HI.out.cell 2 rfl (i / 8) (cellsN_at _ _ hq)
   have hf := HI.out.fz 0 rfl i
   obtain ⟨hth, _⟩ := HI.out.there_blk 0 rfl i 1 (by rw [(Arr_B (fromU_len HW.out hi)).1]; omega) 0 (by omega)
   rw [Nat.add_zero] at hth
   obtain ⟨vo, hvo⟩ := Option.isSome_iff_exists.1 hth
   clear hth
   generalize ws[i / 8] = x at *
   replace HST : Aside0 ((cellsB (fromU ws i)).setIfInBounds i (.int .u8 ((x : Int) / 2 ^ (56 - 8 * (i % 8)) % 256)) = cellsB (fromU ws (i + 1))) := ⟨by
    have h := HST.out
    simpa only [Int.natCast_emod, Int.natCast_ediv, Int.natCast_pow, Int.cast_ofNat_Int] using h⟩
   go_wp2_with fail
   skip
   go_roundw
   case rel => exact ⟨i + 1, hlt, by go_num, ⟨HI.out.put 0 rfl i _ HST.out⟩⟩
   case measure => simp [intOf]; omega
  ·have hdl : decide ((i : Int) < 32) = false := decide_eq_false (by omega)
   obtain rfl : i = 32 := by omega
   have HE : Aside0 (Own w.heap.size w wr [.blk g3 (cellsB (bytesOf ws)) 25, .blk g2 (Array.replicate 32 (.int .u8 0)) 25, .blk g1 (cellsN ws) 198]) := ⟨by have h := HI.out; rwa [fromU_all HW.out] at h⟩
   have RA : Aside0 (Arr 32 (cellsB (bytesOf ws))) := ⟨Arr_B (by rw [bytesOf_len, HW.out])⟩
   clear HI
   go_wp2_with (first
    | fail
    | ((with_reducible refine Gd 22 ?_); ( refine OL 3 HE 0 g3 25 Try.underlying25 32 RA ?_))
    | ((with_reducible refine Gs 25 2 ?_); ( refine OS 2 22 HE 1 g2 25 (cellsB (bytesOf ws)) 32 R32 RA ?_; intro w4 H4))
    )
   refine bodyPost_ret (own_resultV rfl _ H4.out 1 g2 _ rfl rfl _ Try.underlying25 rfl (by rw [RA.out.1]; exact sizeH)) rfl ?_
   exact ⟨rfl, H4.out.below⟩
end Go.Proofs.Ytocphkfkdadhaaa.H

namespace Go.Proofs.Ytocphkfkdadhaaa.H
open Go.RowKit Go.Proofs.YtocphkfkdadhaaaW.PrintWords Go.Proofs.YtocphkfkdadhaaaW.PrintLast Go.Proofs.YtocphkfkdadhaaaW.PrintMore
set_option linter.unusedVariables false
set_option linter.unusedSimpArgs false
def placesM : Array (Nat × Nat) := #[(0, 1), (1, 1), (2, 1), (3, 1), (4, 1), (5, 32), (37, 32)]
theorem built_placesM (parts : List (Nat × Value)) : Try.prog.built 92 parts = Instr.fill (placesM[·]?) (msgA zeroM) parts := by kernel_rfl
theorem builtM (kd fr tt am no : Int) (ky nx : List Int) (h1 : ky.length = 32) (h2 : nx.length = 32) :
 Try.prog.built 92 [(0, .int .u8 kd), (1, .int .u64 fr), (2, .int .u64 tt), (3, .int .u64 am), (4, .int .u64 no), (5, .agg (cellsB ky)), (6, .agg (cellsB nx))] = some (msgA ⟨kd, fr, tt, am, no, ky, nx⟩) := by
 rw [built_placesM]
 have hs : ∀ m : MsgI, m.ky.length = 32 → m.nx.length = 32 → (msgA m).size = 69 := fun m a b => msgA_size a b
 rw [fill_step (o := 0) (n := 1) rfl rfl (by rw [hs zeroM rfl rfl]; decide)]
 rw [show (splice (msgA zeroM).toList 0 (Value.int .u8 kd).cells.toList).toArray = msgA ⟨kd, 0, 0, 0, 0, z32, z32⟩ from rfl]
 rw [fill_step (o := 1) (n := 1) rfl rfl (by rw [hs _ rfl rfl]; decide)]
 rw [show (splice (msgA ⟨kd, 0, 0, 0, 0, z32, z32⟩).toList 1 (Value.int .u64 fr).cells.toList).toArray = msgA ⟨kd, fr, 0, 0, 0, z32, z32⟩ from rfl]
 rw [fill_step (o := 2) (n := 1) rfl rfl (by rw [hs _ rfl rfl]; decide)]
 rw [show (splice (msgA ⟨kd, fr, 0, 0, 0, z32, z32⟩).toList 2 (Value.int .u64 tt).cells.toList).toArray = msgA ⟨kd, fr, tt, 0, 0, z32, z32⟩ from rfl]
 rw [fill_step (o := 3) (n := 1) rfl rfl (by rw [hs _ rfl rfl]; decide)]
 rw [show (splice (msgA ⟨kd, fr, tt, 0, 0, z32, z32⟩).toList 3 (Value.int .u64 am).cells.toList).toArray = msgA ⟨kd, fr, tt, am, 0, z32, z32⟩ from rfl]
 rw [fill_step (o := 4) (n := 1) rfl rfl (by rw [hs _ rfl rfl]; decide)]
 rw [show (splice (msgA ⟨kd, fr, tt, am, 0, z32, z32⟩).toList 4 (Value.int .u64 no).cells.toList).toArray = msgA ⟨kd, fr, tt, am, no, z32, z32⟩ from rfl]
 rw [fill_step (v := .agg (cellsB ky)) (o := 5) (n := 32) rfl (Arr_B h1).1 (by rw [hs _ rfl rfl]; decide)]
 rw [show (splice (msgA ⟨kd, fr, tt, am, no, z32, z32⟩).toList 5 (Value.agg (cellsB ky)).cells.toList).toArray = msgA ⟨kd, fr, tt, am, no, ky, z32⟩ from spl5 (by rw [vB_len]; exact (vB_len ky).symm ▸ h1.symm)]
 rw [fill_step (v := .agg (cellsB nx)) (o := 37) (n := 32) rfl (Arr_B h2).1 (by rw [hs _ h1 rfl]; decide)]
 rw [show (splice (msgA ⟨kd, fr, tt, am, no, ky, z32⟩).toList 37 (Value.agg (cellsB nx)).cells.toList).toArray = msgA ⟨kd, fr, tt, am, no, ky, nx⟩ from spl37 (by rw [vB_len]; exact h1) (by rw [vB_len]; exact (vB_len nx).symm ▸ h2.symm)]
 rfl
theorem yields_build {P : Program} {ops : Array Oper} {S : World → Prop} {o : Oper} {a : Act} (hw : Region.wanted o (yielded ops a.tmps) = true) (t : TypeId) (parts : List (Nat × Operand)) (ho : o.op = .build t parts.toArray) (ps : List (Nat × Value)) (hps : parts.map (fun x => (x.1, a.eval x.2)) = ps) (cells : Array Value) (hf : P.built t ps = some cells) :
 YieldsIf P ops S o (.agg cells) a := by
 refine Or.inl ⟨hw, fun w _ => ?_⟩
 rw [← hps] at hf
 unfold execOp
 simp only [ho, Sem.run_bind]
 rw [run_build w t _ cells (by simpa using hf)]
 rfl
def fieldsOfM (b : List Int) : MsgI := ⟨((wordsAll 13 b).getD 0 0 : Nat), ((wordsAll 13 b).getD 1 0 : Nat), ((wordsAll 13 b).getD 2 0 : Nat), ((wordsAll 13 b).getD 3 0 : Nat), ((wordsAll 13 b).getD 4 0 : Nat), (b.drop 40).take 32, (b.drop 72).take 32⟩
def readM (b : List Int) : MsgI × Int :=
 if b.length < 104 then (zeroM, 7) else if 104 < b.length then (zeroM, 8) else if 3 < (fieldsOfM b).kd then (zeroM, 8) else if mayM (fieldsOfM b) then (fieldsOfM b, 0) else (zeroM, 8)
theorem thirteen {l : List Nat} (h : l.length = 13) : ∃ a0 a1 a2 a3 a4 a5 a6 a7 a8 a9 a10 a11 a12, l = [a0, a1, a2, a3, a4, a5, a6, a7, a8, a9, a10, a11, a12] := by
 match l, h with
 | [a0, a1, a2, a3, a4, a5, a6, a7, a8, a9, a10, a11, a12], _ => exact ⟨a0, a1, a2, a3, a4, a5, a6, a7, a8, a9, a10, a11, a12, rfl⟩
theorem wordsAll_shift (n m k : Nat) (b : List Int) : wordsAll n ((b.drop (8 * k)).take (8 * m)) = ((wordsAll (k + m) b).drop k).take n ∨ m < n := by
 by_cases h : n ≤ m
 ·left
  refine List.ext_getElem (by simp [wordsAll]; omega) fun j h1 h2 => ?_
  have hj : j < n := by simpa [wordsAll] using h1
  simp only [wordsAll, List.getElem_map, List.getElem_range, List.getElem_take, List.getElem_drop]
  congr 1
  rw [List.drop_take, List.drop_drop, List.take_take, Nat.min_eq_left (by omega), show 8 * k + 8 * j = 8 * (k + j) by omega]
 ·right; omega
theorem bytes_key {b : List Int} (hb : ∀ x ∈ b, 0 ≤ x ∧ x ≤ 255) (hl : b.length = 104) : bytesOf (((wordsAll 13 b).drop 5).take 4) = (b.drop 40).take 32 ∧ bytesOf (((wordsAll 13 b).drop 9).take 4) = (b.drop 72).take 32 := by
 have h1 := (wordsAll_shift 4 8 5 b).resolve_right (by omega)
 have h2 := (wordsAll_shift 4 4 9 b).resolve_right (by omega)
 have h3 := (wordsAll_shift 4 4 5 b).resolve_right (by omega)
 have hp : ((wordsAll 9 b).drop 5).take 4 = ((wordsAll 13 b).drop 5).take 4 := by
  refine List.ext_getElem (by simp [wordsAll]) fun j h1 h2 => ?_
  simp [wordsAll]
 rw [hp] at h3
 constructor
 ·rw [← h3]
  exact bytesOf_four _ (fun x hx => hb x (List.mem_of_mem_drop (List.mem_of_mem_take hx))) (by simp [List.length_take]; omega)
 ·rw [← h2]
  exact bytesOf_four _ (fun x hx => hb x (List.mem_of_mem_drop (List.mem_of_mem_take hx))) (by simp [List.length_take]; omega)
end Go.Proofs.Ytocphkfkdadhaaa.H

namespace Go.Proofs.Ytocphkfkdadhaaa.H
open Go.RowKit Go.Proofs.YtocphkfkdadhaaaW.PrintWords Go.Proofs.YtocphkfkdadhaaaW.PrintLast Go.Proofs.YtocphkfkdadhaaaW.PrintMore
set_option linter.unusedVariables false
set_option linter.unusedSimpArgs false
theorem spl_all {cs seg : Array Value} (h : cs.toList.length = seg.toList.length) : (splice cs.toList 0 seg.toList).toArray = seg := by
 unfold splice
 rw [List.take_zero, List.nil_append, List.drop_of_length_le (by omega), List.append_nil]
theorem readM_len {b : List Int} (h : b.length = 104) : wordsM b = (wordsAll 13 b, 0) := by
 unfold wordsM; rw [if_neg (by omega), if_neg (by omega)]
theorem fieldsOfM_ok {b : List Int} (hb : ∀ x ∈ b, 0 ≤ x ∧ x ≤ 255) (hl : b.length = 104) (h : ¬ 3 < (fieldsOfM b).kd) : (fieldsOfM b).ok := by
 have hw := wordsAll_lt 13 b hb
 have hg (j : Nat) : (0 : Int) ≤ ((wordsAll 13 b).getD j 0 : Nat) ∧ (((wordsAll 13 b).getD j 0 : Nat) : Int) ≤ 18446744073709551615 := by
  refine ⟨by omega, ?_⟩
  rw [List.getD_eq_getElem?_getD]
  cases he : (wordsAll 13 b)[j]? with
  | none => simp
  | some x =>
   have := hw x (List.mem_of_getElem? he)
   simp only [Option.getD_some]
   omega
 have h0 := hg 0
 refine ⟨⟨h0.1, by have h' : ¬ 3 < (((wordsAll 13 b).getD 0 0 : Nat) : Int) := h; show (((wordsAll 13 b).getD 0 0 : Nat) : Int) ≤ 255; omega⟩, hg 1, hg 2, hg 3, hg 4, ⟨?_, ?_⟩, ⟨?_, ?_⟩⟩
 ·simp [fieldsOfM, List.length_take]; omega
 ·exact fun x hx => hb x (List.mem_of_mem_drop (List.mem_of_mem_take hx))
 ·simp [fieldsOfM, List.length_take]; omega
 ·exact fun x hx => hb x (List.mem_of_mem_drop (List.mem_of_mem_take hx))
set_option maxHeartbeats 4000000 in
set_option maxRecDepth 100000 in
theorem mread_any (b : List Int) (A : Option Addr) (c : Nat) (w : World) (hb : ∀ x ∈ b, 0 ≤ x ∧ x ≤ 255) (hC : Kd.C kB w A b.length b) (hc : b.length ≤ c) :
 Calls Try.prog 129 #[.slice A b.length c] w fun e w' => e = .returned (.tuple #[.agg (msgA (readM b).1), .int .i64 (readM b).2]) ∧ Below w.heap.size w w' := by
 have H0 := Aside0.mk (Own.start w)
 have R13 : Aside0 (Arr 13 (cellsN z13)) := ⟨cellsN_arr rfl⟩
 have RZ : Aside0 (Arr 69 (msgA zeroM)) := ⟨msgA_arr rfl rfl⟩
 have HWD := Aside0.mk (fun W (h : Below w.heap.size w W) => mwords_any b A c W hb (Kd.C_below hC h) hc)
 obtain ⟨r, hr⟩ : ∃ r, r = readM b := ⟨_, rfl⟩
 rw [← hr]
 by_cases h1 : b.length = 104
 case neg =>
  have hz : ∃ e : Int, wordsM b = (z13, e) ∧ r = (zeroM, e) ∧ (e == 0) = false := by
   rw [hr]
   unfold wordsM readM
   by_cases h2 : b.length < 104
   ·exact ⟨7, by rw [if_pos h2], by rw [if_pos h2], rfl⟩
   ·exact ⟨8, by rw [if_neg h2, if_pos (by omega)], by rw [if_neg h2, if_pos (by omega)], rfl⟩
  obtain ⟨e, hw, rfl, he⟩ := hz
  rw [hw] at HWD
  clear hr hw h1 hC hc hb
  generalize b.length = n at *
  have hbn : (e != 0) = true := by simp [bne, he]
  go_enter Try.func129, Try.ntmps129
  go_upto_if 13 with (first
   | fail
   | ((with_reducible refine Gd 2 ?_); ( refine OA H0 92 (msgA zeroM) 69 ?_; intro g2 w1 H1 B1))
   | (go_at_call 157; refine (HWD.out _ H1.out.below).mono ?_; rintro e w3 ⟨rfl, hB3⟩; have H3 := Aside0.mk (H1.out.step hB3); clear hB3)
   | ((with_reducible refine Gd 4 ?_); ( refine OA H3 194 (cellsN z13) 13 ?_; intro g4 w4 H4 B4))
   | ((with_reducible refine Gs 194 4 ?_); ( refine OS 4 10 H4 0 g4 194 (cellsN z13) 13 R13 R13 ?_; intro w5 H5))
   )
  go_wp2_with (first
   | fail
   | ((with_reducible refine Gd 14 ?_); ( refine OU 92 [] (msgA zeroM) rfl (builtM0) ?_))
   | ((with_reducible refine Gs 92 2 ?_); ( refine OS 2 14 H5 1 g2 92 (msgA zeroM) 69 RZ RZ ?_; intro w6 H6))
   )
  refine bodyPost_ret (own_resultV_t rfl _ H6.out 1 g2 _ rfl rfl _ Try.underlying92 rfl (sizeM_of (msgA_size rfl rfl)) _ rfl) rfl ?_
  exact ⟨rfl, H6.out.below⟩
 have HLN := Aside0.mk h1
 have HOK := Aside0.mk (fieldsOfM_ok hb h1)
 have HKY := Aside0.mk (bytes_key hb h1)
 have HWL := Aside0.mk (wordsAll_lt 13 b hb)
 have HFM : Aside0 (fieldsOfM b = ⟨((wordsAll 13 b).getD 0 0 : Nat), ((wordsAll 13 b).getD 1 0 : Nat), ((wordsAll 13 b).getD 2 0 : Nat), ((wordsAll 13 b).getD 3 0 : Nat), ((wordsAll 13 b).getD 4 0 : Nat), (b.drop 40).take 32, (b.drop 72).take 32⟩) := ⟨rfl⟩
 unfold readM at hr
 rw [if_neg (by omega), if_neg (by omega)] at hr
 rw [readM_len h1, h1] at HWD
 rw [h1]
 have HR := Aside0.mk hr
 have hwl : (wordsAll 13 b).length = 13 := by simp [wordsAll]
 clear hr hC hc hb h1
 generalize fieldsOfM b = m at *
 generalize (b.drop 40).take 32 = ky at *
 generalize (b.drop 72).take 32 = nx at *
 generalize wordsAll 13 b = ws at *
 obtain ⟨a0, a1, a2, a3, a4, a5, a6, a7, a8, a9, a10, a11, a12, rfl⟩ := thirteen hwl
 clear hwl HLN
 replace HFM : Aside0 (m = ⟨(a0 : Int), (a1 : Int), (a2 : Int), (a3 : Int), (a4 : Int), ky, nx⟩) := HFM
 replace HKY : Aside0 (bytesOf [a5, a6, a7, a8] = ky ∧ bytesOf [a9, a10, a11, a12] = nx) := HKY
 obtain rfl := HFM.out
 clear HFM
 have RW : Aside0 (Arr 13 (cellsN [a0, a1, a2, a3, a4, a5, a6, a7, a8, a9, a10, a11, a12])) := ⟨cellsN_arr rfl⟩
 have hu (x : Nat) (h : x ∈ [a0, a1, a2, a3, a4, a5, a6, a7, a8, a9, a10, a11, a12]) := HWL.out x h
 have HF1 : Aside0 (∀ W, Calls Try.prog 158 #[.agg #[.int .u64 (a5 : Int), .int .u64 (a6 : Int), .int .u64 (a7 : Int), .int .u64 (a8 : Int)]] W fun e w' => e = .returned (.agg (cellsB ky)) ∧ Below W.heap.size W w') := ⟨fun W => by
  have h := sfrom_any [a5, a6, a7, a8] rfl (fun x hx => hu x (by simp only [List.mem_cons, List.not_mem_nil, or_false] at hx ⊢; omega)) W
  rw [HKY.out.1] at h
  exact h⟩
 have HF2 : Aside0 (∀ W, Calls Try.prog 158 #[.agg #[.int .u64 (a9 : Int), .int .u64 (a10 : Int), .int .u64 (a11 : Int), .int .u64 (a12 : Int)]] W fun e w' => e = .returned (.agg (cellsB nx)) ∧ Below W.heap.size W w') := ⟨fun W => by
  have h := sfrom_any [a9, a10, a11, a12] rfl (fun x hx => hu x (by simp only [List.mem_cons, List.not_mem_nil, or_false] at hx ⊢; omega)) W
  rw [HKY.out.2] at h
  exact h⟩
 have ha0 := hu a0 (by simp)
 clear HWL HKY hu
 by_cases h3 : 3 < a0
 ·have hd : decide (3 < (a0 : Int)) = true := decide_eq_true (by omega)
  obtain rfl : r = (zeroM, 8) := by rw [HR.out, if_pos (show (3 : Int) < (a0 : Int) by omega)]
  clear HR HOK HF1 HF2
  go_enter Try.func129, Try.ntmps129
  go_upto_if 13 with (first
   | fail
   | ((with_reducible refine Gd 2 ?_); ( refine OA H0 92 (msgA zeroM) 69 ?_; intro g2 w1 H1 B1))
   | (go_at_call 157; refine (HWD.out _ H1.out.below).mono ?_; rintro e w3 ⟨rfl, hB3⟩; have H3 := Aside0.mk (H1.out.step hB3); clear hB3)
   | ((with_reducible refine Gd 4 ?_); ( refine OA H3 194 (cellsN z13) 13 ?_; intro g4 w4 H4 B4))
   | ((with_reducible refine Gs 194 4 ?_); ( refine OS 4 10 H4 0 g4 194 (cellsN [a0, a1, a2, a3, a4, a5, a6, a7, a8, a9, a10, a11, a12]) 13 R13 RW ?_; intro w5 H5))
   )
  have k0 : w5.cell? ⟨g4, 0, none⟩ = some (.int .u64 (a0 : Int)) := H5.out.cell 0 rfl 0 rfl
  go_wp2_with (first
   | fail
   | ((with_reducible refine Gd 19 ?_); ( refine OU 92 [] (msgA zeroM) rfl (builtM0) ?_))
   | ((with_reducible refine Gs 92 2 ?_); ( refine OS 2 19 H5 1 g2 92 (msgA zeroM) 69 RZ RZ ?_; intro w6 H6))
   )
  refine bodyPost_ret (own_resultV_t rfl _ H6.out 1 g2 _ rfl rfl _ Try.underlying92 rfl (sizeM_of (msgA_size rfl rfl)) _ rfl) rfl ?_
  exact ⟨rfl, H6.out.below⟩
 have hd : decide (3 < (a0 : Int)) = false := decide_eq_false (by omega)
 rw [if_neg (show ¬ (3 : Int) < (a0 : Int) by omega)] at HR
 have hok := HOK.out (show ¬ (3 : Int) < (a0 : Int) by omega)
 have HOKM := Aside0.mk hok
 have RK : Aside0 (ky.length = 32) := ⟨hok.ky.1⟩
 have RN : Aside0 (nx.length = 32) := ⟨hok.nx.1⟩
 have RM : Aside0 (Arr 69 (msgA ⟨(a0 : Int), (a1 : Int), (a2 : Int), (a3 : Int), (a4 : Int), ky, nx⟩)) := ⟨msgA_arr hok.ky.1 hok.nx.1⟩
 have RM1 : Aside0 (∀ v ∈ (msgA ⟨(a0 : Int), (a1 : Int), (a2 : Int), (a3 : Int), (a4 : Int), ky, nx⟩).toList, v.oneCell' = true) := ⟨fun v hv => Array.all_eq_true_iff_forall_mem.1 RM.out.2 v (by simpa using hv)⟩
 clear hok HOK
 have hcv : IntKind.u8.wrap (a0 : Int) = (a0 : Int) := by rw [IntKind.wrap_u8]; omega
 go_enter Try.func129, Try.ntmps129
 go_upto_if 13 with (first
  | fail
  | ((with_reducible refine Gd 2 ?_); ( refine OA H0 92 (msgA zeroM) 69 ?_; intro g2 w1 H1 B1))
  | (go_at_call 157; refine (HWD.out _ H1.out.below).mono ?_; rintro e w3 ⟨rfl, hB3⟩; have H3 := Aside0.mk (H1.out.step hB3); clear hB3)
  | ((with_reducible refine Gd 4 ?_); ( refine OA H3 194 (cellsN z13) 13 ?_; intro g4 w4 H4 B4))
  | ((with_reducible refine Gs 194 4 ?_); ( refine OS 4 10 H4 0 g4 194 (cellsN [a0, a1, a2, a3, a4, a5, a6, a7, a8, a9, a10, a11, a12]) 13 R13 RW ?_; intro w5 H5))
  )
 have k0 : w5.cell? ⟨g4, 0, none⟩ = some (.int .u64 (a0 : Int)) := H5.out.cell 0 rfl 0 rfl
 go_upto_region 6 with fail
 clear H0 H1 H3 H4 HWD B1 B4
 go_cut [6] (fun v6 wc => ∃ g6 : Nat, v6 = .pointer (some ⟨g6, 0, none⟩) ∧ Aside0 (Own w.heap.size w wc [.blk g6 (msgA ⟨(a0 : Int), (a1 : Int), (a2 : Int), (a3 : Int), (a4 : Int), ky, nx⟩) 92, .blk g4 (cellsN [a0, a1, a2, a3, a4, a5, a6, a7, a8, a9, a10, a11, a12]) 194, .blk g2 (msgA zeroM) 92]))
 case first =>
  have hA5 : ∀ W : World, (Instr.arrayAt 198 (.slice (some ⟨g4, 5, none⟩) 4 8)).run Try.prog W = .ok (.pointer (some ⟨g4, 5, none⟩)) W := fun W => run_arrayAt (e := 23) (n := 4) (h := Try.underlying198) (hn := Nat.le_refl _) ..
  have hA9 : ∀ W : World, (Instr.arrayAt 198 (.slice (some ⟨g4, 9, none⟩) 4 4)).run Try.prog W = .ok (.pointer (some ⟨g4, 9, none⟩)) W := fun W => run_arrayAt (e := 23) (n := 4) (h := Try.underlying198) (hn := Nat.le_refl _) ..
  refine St (fun W => W.cell? ⟨g4, 0, none⟩ = some (.int .u64 (a0 : Int)) ∧ W.cell? ⟨g4, 1, none⟩ = some (.int .u64 (a1 : Int)) ∧ W.cell? ⟨g4, 2, none⟩ = some (.int .u64 (a2 : Int)) ∧ W.cell? ⟨g4, 3, none⟩ = some (.int .u64 (a3 : Int)) ∧ W.cell? ⟨g4, 4, none⟩ = some (.int .u64 (a4 : Int)) ∧ W.cell? ⟨g4, 5, none⟩ = some (.int .u64 (a5 : Int)) ∧ W.cell? ⟨g4, 6, none⟩ = some (.int .u64 (a6 : Int)) ∧ W.cell? ⟨g4, 7, none⟩ = some (.int .u64 (a7 : Int)) ∧ W.cell? ⟨g4, 8, none⟩ = some (.int .u64 (a8 : Int)) ∧ W.cell? ⟨g4, 9, none⟩ = some (.int .u64 (a9 : Int)) ∧ W.cell? ⟨g4, 10, none⟩ = some (.int .u64 (a10 : Int)) ∧ W.cell? ⟨g4, 11, none⟩ = some (.int .u64 (a11 : Int)) ∧ W.cell? ⟨g4, 12, none⟩ = some (.int .u64 (a12 : Int))) (fun hHeld => ?_) (by exact ⟨H5.out.drew.cell 0 rfl 0 rfl, H5.out.drew.cell 0 rfl 1 rfl, H5.out.drew.cell 0 rfl 2 rfl, H5.out.drew.cell 0 rfl 3 rfl, H5.out.drew.cell 0 rfl 4 rfl, H5.out.drew.cell 0 rfl 5 rfl, H5.out.drew.cell 0 rfl 6 rfl, H5.out.drew.cell 0 rfl 7 rfl, H5.out.drew.cell 0 rfl 8 rfl, H5.out.drew.cell 0 rfl 9 rfl, H5.out.drew.cell 0 rfl 10 rfl, H5.out.drew.cell 0 rfl 11 rfl, H5.out.drew.cell 0 rfl 12 rfl⟩)
  refine Tk 0 ?_
  refine Tk 1 ?_
  refine Tk 2 ?_
  refine Tk 3 ?_
  refine Tk 4 ?_
  refine Tk 5 ?_
  refine Tk 6 ?_
  refine Tk 7 ?_
  refine Tk 8 ?_
  refine Tk 9 ?_
  refine Tk 10 ?_
  refine Tk 11 ?_
  refine Tk 12 ?_
  refine Tk 13 ?_
  refine Tk 15 ?_
  refine Tk 16 ?_
  refine Tk 17 ?_
  have H6 := Aside0.mk H5.out.drew
  clear k0 hA5 hA9
  generalize w5.drew = wd at *
  refine Rd2 14 20 (fun K hK => ?_) fun K hK => ?_
  ·
   go_simp
   refine (HF1.out _).mono ?_
   rintro e w7 ⟨rfl, hBx⟩
   have H7 := Aside0.mk (H6.out.step hBx)
   clear hBx
   go_wp2_with fail
   refine Ag hK (fun hHeld => ?_) (by exact ⟨H7.out.cell 0 rfl 0 rfl, H7.out.cell 0 rfl 1 rfl, H7.out.cell 0 rfl 2 rfl, H7.out.cell 0 rfl 3 rfl, H7.out.cell 0 rfl 4 rfl, H7.out.cell 0 rfl 5 rfl, H7.out.cell 0 rfl 6 rfl, H7.out.cell 0 rfl 7 rfl, H7.out.cell 0 rfl 8 rfl, H7.out.cell 0 rfl 9 rfl, H7.out.cell 0 rfl 10 rfl, H7.out.cell 0 rfl 11 rfl, H7.out.cell 0 rfl 12 rfl⟩)
   clear hK K
   refine Rd2 18 20 (fun K hK => ?_) fun K hK => ?_
   ·
    go_simp
    refine (HF2.out _).mono ?_
    rintro e w8 ⟨rfl, hBx⟩
    have H8 := Aside0.mk (H7.out.step hBx)
    clear hBx
    go_wp2_with fail
    refine Ag hK (fun hHeld => ?_) (by exact ⟨H8.out.cell 0 rfl 0 rfl, H8.out.cell 0 rfl 1 rfl, H8.out.cell 0 rfl 2 rfl, H8.out.cell 0 rfl 3 rfl, H8.out.cell 0 rfl 4 rfl, H8.out.cell 0 rfl 5 rfl, H8.out.cell 0 rfl 6 rfl, H8.out.cell 0 rfl 7 rfl, H8.out.cell 0 rfl 8 rfl, H8.out.cell 0 rfl 9 rfl, H8.out.cell 0 rfl 10 rfl, H8.out.cell 0 rfl 11 rfl, H8.out.cell 0 rfl 12 rfl⟩)
    clear hK K
    refine Ty 19 (.agg (msgA ⟨(a0 : Int), (a1 : Int), (a2 : Int), (a3 : Int), (a4 : Int), ky, nx⟩)) ?_ ?_
    ·exact yields_build (by rfl) 92 [(0, .tmp 22), (1, .tmp 24), (2, .tmp 26), (3, .tmp 28), (4, .tmp 30), (5, .tmp 34), (6, .tmp 38)] (by rfl) _ (by rfl) _ (builtM (a0 : Int) (a1 : Int) (a2 : Int) (a3 : Int) (a4 : Int) ky nx RK.out RN.out)
    refine Rd 20 fun K hK => ?_
    refine own_alloc_step H8.out (by rfl) (N := 6) rfl (t := 92) rfl (msgA zeroM) 69 (by kernel_rfl) ?_; intro g6 w9 H9; replace H9 := Aside0.mk H9
    refine Ag hK (fun hHeld => ?_) (by exact ⟨H9.out.cell 1 rfl 0 rfl, H9.out.cell 1 rfl 1 rfl, H9.out.cell 1 rfl 2 rfl, H9.out.cell 1 rfl 3 rfl, H9.out.cell 1 rfl 4 rfl, H9.out.cell 1 rfl 5 rfl, H9.out.cell 1 rfl 6 rfl, H9.out.cell 1 rfl 7 rfl, H9.out.cell 1 rfl 8 rfl, H9.out.cell 1 rfl 9 rfl, H9.out.cell 1 rfl 10 rfl, H9.out.cell 1 rfl 11 rfl, H9.out.cell 1 rfl 12 rfl⟩)
    clear hK K
    refine Rd 21 fun K hK => ?_
    refine own_st_step H9.out 0 g6 _ (msgA ⟨(a0 : Int), (a1 : Int), (a2 : Int), (a3 : Int), (a4 : Int), ky, nx⟩) 92 (by rfl) (by rfl) 92 (.tmp 6) _ rfl 0 ((msgA ⟨(a0 : Int), (a1 : Int), (a2 : Int), (a3 : Int), (a4 : Int), ky, nx⟩).toList) (.agg (msgA ⟨(a0 : Int), (a1 : Int), (a2 : Int), (a3 : Int), (a4 : Int), ky, nx⟩)) (by rfl) (by rfl) (by rfl) (by rw [Array.length_toList, RM.out.1, RZ.out.1]; decide) (by rw [Array.length_toList, RM.out.1]; exact sizeM) (by exact RM1.out) (by exact spl_all (by rw [Array.length_toList, Array.length_toList, RM.out.1, RZ.out.1])) ?_; intro wz HZ; replace HZ := Aside0.mk HZ
    refine Ag hK (fun hHeld => ?_) (by exact ⟨HZ.out.cell 1 rfl 0 rfl, HZ.out.cell 1 rfl 1 rfl, HZ.out.cell 1 rfl 2 rfl, HZ.out.cell 1 rfl 3 rfl, HZ.out.cell 1 rfl 4 rfl, HZ.out.cell 1 rfl 5 rfl, HZ.out.cell 1 rfl 6 rfl, HZ.out.cell 1 rfl 7 rfl, HZ.out.cell 1 rfl 8 rfl, HZ.out.cell 1 rfl 9 rfl, HZ.out.cell 1 rfl 10 rfl, HZ.out.cell 1 rfl 11 rfl, HZ.out.cell 1 rfl 12 rfl⟩)
    clear hK K
    refine Dn ?_
    go_wp2_with fail
    go_meet
    exact ⟨g6, rfl, HZ⟩
   ·
    refine own_alloc_step H7.out (by rfl) (N := 6) rfl (t := 92) rfl (msgA zeroM) 69 (by kernel_rfl) ?_; intro g6 w8 H8; replace H8 := Aside0.mk H8
    refine Ag hK (fun hHeld => ?_) (by exact ⟨H8.out.cell 1 rfl 0 rfl, H8.out.cell 1 rfl 1 rfl, H8.out.cell 1 rfl 2 rfl, H8.out.cell 1 rfl 3 rfl, H8.out.cell 1 rfl 4 rfl, H8.out.cell 1 rfl 5 rfl, H8.out.cell 1 rfl 6 rfl, H8.out.cell 1 rfl 7 rfl, H8.out.cell 1 rfl 8 rfl, H8.out.cell 1 rfl 9 rfl, H8.out.cell 1 rfl 10 rfl, H8.out.cell 1 rfl 11 rfl, H8.out.cell 1 rfl 12 rfl⟩)
    clear hK K
    refine Rd 18 fun K hK => ?_
    go_simp
    refine (HF2.out _).mono ?_
    rintro e w9 ⟨rfl, hBx⟩
    have H9 := Aside0.mk (H8.out.step hBx)
    clear hBx
    go_wp2_with fail
    refine Ag hK (fun hHeld => ?_) (by exact ⟨H9.out.cell 1 rfl 0 rfl, H9.out.cell 1 rfl 1 rfl, H9.out.cell 1 rfl 2 rfl, H9.out.cell 1 rfl 3 rfl, H9.out.cell 1 rfl 4 rfl, H9.out.cell 1 rfl 5 rfl, H9.out.cell 1 rfl 6 rfl, H9.out.cell 1 rfl 7 rfl, H9.out.cell 1 rfl 8 rfl, H9.out.cell 1 rfl 9 rfl, H9.out.cell 1 rfl 10 rfl, H9.out.cell 1 rfl 11 rfl, H9.out.cell 1 rfl 12 rfl⟩)
    clear hK K
    refine Ty 19 (.agg (msgA ⟨(a0 : Int), (a1 : Int), (a2 : Int), (a3 : Int), (a4 : Int), ky, nx⟩)) ?_ ?_
    ·exact yields_build (by rfl) 92 [(0, .tmp 22), (1, .tmp 24), (2, .tmp 26), (3, .tmp 28), (4, .tmp 30), (5, .tmp 34), (6, .tmp 38)] (by rfl) _ (by rfl) _ (builtM (a0 : Int) (a1 : Int) (a2 : Int) (a3 : Int) (a4 : Int) ky nx RK.out RN.out)
    refine Rd 21 fun K hK => ?_
    refine own_st_step H9.out 0 g6 _ (msgA ⟨(a0 : Int), (a1 : Int), (a2 : Int), (a3 : Int), (a4 : Int), ky, nx⟩) 92 (by rfl) (by rfl) 92 (.tmp 6) _ rfl 0 ((msgA ⟨(a0 : Int), (a1 : Int), (a2 : Int), (a3 : Int), (a4 : Int), ky, nx⟩).toList) (.agg (msgA ⟨(a0 : Int), (a1 : Int), (a2 : Int), (a3 : Int), (a4 : Int), ky, nx⟩)) (by rfl) (by rfl) (by rfl) (by rw [Array.length_toList, RM.out.1, RZ.out.1]; decide) (by rw [Array.length_toList, RM.out.1]; exact sizeM) (by exact RM1.out) (by exact spl_all (by rw [Array.length_toList, Array.length_toList, RM.out.1, RZ.out.1])) ?_; intro wz HZ; replace HZ := Aside0.mk HZ
    refine Ag hK (fun hHeld => ?_) (by exact ⟨HZ.out.cell 1 rfl 0 rfl, HZ.out.cell 1 rfl 1 rfl, HZ.out.cell 1 rfl 2 rfl, HZ.out.cell 1 rfl 3 rfl, HZ.out.cell 1 rfl 4 rfl, HZ.out.cell 1 rfl 5 rfl, HZ.out.cell 1 rfl 6 rfl, HZ.out.cell 1 rfl 7 rfl, HZ.out.cell 1 rfl 8 rfl, HZ.out.cell 1 rfl 9 rfl, HZ.out.cell 1 rfl 10 rfl, HZ.out.cell 1 rfl 11 rfl, HZ.out.cell 1 rfl 12 rfl⟩)
    clear hK K
    refine Dn ?_
    go_wp2_with fail
    go_meet
    exact ⟨g6, rfl, HZ⟩
  ·
   refine own_alloc_step H6.out (by rfl) (N := 6) rfl (t := 92) rfl (msgA zeroM) 69 (by kernel_rfl) ?_; intro g6 w7 H7; replace H7 := Aside0.mk H7
   refine Ag hK (fun hHeld => ?_) (by exact ⟨H7.out.cell 1 rfl 0 rfl, H7.out.cell 1 rfl 1 rfl, H7.out.cell 1 rfl 2 rfl, H7.out.cell 1 rfl 3 rfl, H7.out.cell 1 rfl 4 rfl, H7.out.cell 1 rfl 5 rfl, H7.out.cell 1 rfl 6 rfl, H7.out.cell 1 rfl 7 rfl, H7.out.cell 1 rfl 8 rfl, H7.out.cell 1 rfl 9 rfl, H7.out.cell 1 rfl 10 rfl, H7.out.cell 1 rfl 11 rfl, H7.out.cell 1 rfl 12 rfl⟩)
   clear hK K
   refine Rd 14 fun K hK => ?_
   go_simp
   refine (HF1.out _).mono ?_
   rintro e w8 ⟨rfl, hBx⟩
   have H8 := Aside0.mk (H7.out.step hBx)
   clear hBx
   go_wp2_with fail
   refine Ag hK (fun hHeld => ?_) (by exact ⟨H8.out.cell 1 rfl 0 rfl, H8.out.cell 1 rfl 1 rfl, H8.out.cell 1 rfl 2 rfl, H8.out.cell 1 rfl 3 rfl, H8.out.cell 1 rfl 4 rfl, H8.out.cell 1 rfl 5 rfl, H8.out.cell 1 rfl 6 rfl, H8.out.cell 1 rfl 7 rfl, H8.out.cell 1 rfl 8 rfl, H8.out.cell 1 rfl 9 rfl, H8.out.cell 1 rfl 10 rfl, H8.out.cell 1 rfl 11 rfl, H8.out.cell 1 rfl 12 rfl⟩)
   clear hK K
   refine Rd 18 fun K hK => ?_
   go_simp
   refine (HF2.out _).mono ?_
   rintro e w9 ⟨rfl, hBx⟩
   have H9 := Aside0.mk (H8.out.step hBx)
   clear hBx
   go_wp2_with fail
   refine Ag hK (fun hHeld => ?_) (by exact ⟨H9.out.cell 1 rfl 0 rfl, H9.out.cell 1 rfl 1 rfl, H9.out.cell 1 rfl 2 rfl, H9.out.cell 1 rfl 3 rfl, H9.out.cell 1 rfl 4 rfl, H9.out.cell 1 rfl 5 rfl, H9.out.cell 1 rfl 6 rfl, H9.out.cell 1 rfl 7 rfl, H9.out.cell 1 rfl 8 rfl, H9.out.cell 1 rfl 9 rfl, H9.out.cell 1 rfl 10 rfl, H9.out.cell 1 rfl 11 rfl, H9.out.cell 1 rfl 12 rfl⟩)
   clear hK K
   refine Ty 19 (.agg (msgA ⟨(a0 : Int), (a1 : Int), (a2 : Int), (a3 : Int), (a4 : Int), ky, nx⟩)) ?_ ?_
   ·exact yields_build (by rfl) 92 [(0, .tmp 22), (1, .tmp 24), (2, .tmp 26), (3, .tmp 28), (4, .tmp 30), (5, .tmp 34), (6, .tmp 38)] (by rfl) _ (by rfl) _ (builtM (a0 : Int) (a1 : Int) (a2 : Int) (a3 : Int) (a4 : Int) ky nx RK.out RN.out)
   refine Rd 21 fun K hK => ?_
   refine own_st_step H9.out 0 g6 _ (msgA ⟨(a0 : Int), (a1 : Int), (a2 : Int), (a3 : Int), (a4 : Int), ky, nx⟩) 92 (by rfl) (by rfl) 92 (.tmp 6) _ rfl 0 ((msgA ⟨(a0 : Int), (a1 : Int), (a2 : Int), (a3 : Int), (a4 : Int), ky, nx⟩).toList) (.agg (msgA ⟨(a0 : Int), (a1 : Int), (a2 : Int), (a3 : Int), (a4 : Int), ky, nx⟩)) (by rfl) (by rfl) (by rfl) (by rw [Array.length_toList, RM.out.1, RZ.out.1]; decide) (by rw [Array.length_toList, RM.out.1]; exact sizeM) (by exact RM1.out) (by exact spl_all (by rw [Array.length_toList, Array.length_toList, RM.out.1, RZ.out.1])) ?_; intro wz HZ; replace HZ := Aside0.mk HZ
   refine Ag hK (fun hHeld => ?_) (by exact ⟨HZ.out.cell 1 rfl 0 rfl, HZ.out.cell 1 rfl 1 rfl, HZ.out.cell 1 rfl 2 rfl, HZ.out.cell 1 rfl 3 rfl, HZ.out.cell 1 rfl 4 rfl, HZ.out.cell 1 rfl 5 rfl, HZ.out.cell 1 rfl 6 rfl, HZ.out.cell 1 rfl 7 rfl, HZ.out.cell 1 rfl 8 rfl, HZ.out.cell 1 rfl 9 rfl, HZ.out.cell 1 rfl 10 rfl, HZ.out.cell 1 rfl 11 rfl, HZ.out.cell 1 rfl 12 rfl⟩)
   clear hK K
   refine Dn ?_
   go_wp2_with fail
   go_meet
   exact ⟨g6, rfl, HZ⟩
 case rest =>
  obtain ⟨g6, rfl, HC0⟩ := hcut
  have HMY := Aside0.mk (fun W => mmay_any ⟨(a0 : Int), (a1 : Int), (a2 : Int), (a3 : Int), (a4 : Int), ky, nx⟩ HOKM.out W)
  clear H5 HF1 HF2 HOKM RK RN RM1 hd hcv k0
  cases hmay : mayM ⟨(a0 : Int), (a1 : Int), (a2 : Int), (a3 : Int), (a4 : Int), ky, nx⟩
  ·obtain rfl : r = (zeroM, 8) := by rw [HR.out, hmay]; rfl
   clear HR
   rw [hmay] at HMY
   clear hmay
   go_wp2_with (first
    | fail
    | ((with_reducible refine Gd 40 ?_); ( refine OV 6 HC0 0 g6 92 rfl Try.underlying92 (sizeM_of RM.out.1) ?_))
    | (go_at_call 136; refine (HMY.out _).mono ?_; rintro e w8 ⟨rfl, hB8⟩; have H8 := Aside0.mk (HC0.out.step hB8); clear hB8)
    | ((with_reducible refine Gd 43 ?_); ( refine OU 92 [] (msgA zeroM) rfl (builtM0) ?_))
    | ((with_reducible refine Gs 92 2 ?_); ( refine OS 2 43 H8 2 g2 92 (msgA zeroM) 69 RZ RZ ?_; intro w9 H9))
    )
   refine bodyPost_ret (own_resultV_t rfl _ H9.out 2 g2 _ rfl rfl _ Try.underlying92 rfl (sizeM_of (msgA_size rfl rfl)) _ rfl) rfl ?_
   exact ⟨rfl, H9.out.below⟩
  ·obtain rfl : r = (⟨(a0 : Int), (a1 : Int), (a2 : Int), (a3 : Int), (a4 : Int), ky, nx⟩, 0) := by rw [HR.out, hmay]; rfl
   clear HR
   rw [hmay] at HMY
   clear hmay
   go_wp2_with (first
    | fail
    | ((with_reducible refine Gd 40 ?_); ( refine OV 6 HC0 0 g6 92 rfl Try.underlying92 (sizeM_of RM.out.1) ?_))
    | (go_at_call 136; refine (HMY.out _).mono ?_; rintro e w8 ⟨rfl, hB8⟩; have H8 := Aside0.mk (HC0.out.step hB8); clear hB8)
    | ((with_reducible refine Gd 44 ?_); ( refine OV 6 H8 0 g6 92 rfl Try.underlying92 (sizeM_of RM.out.1) ?_))
    | ((with_reducible refine Gs 92 2 ?_); ( refine OS 2 44 H8 2 g2 92 (msgA ⟨(a0 : Int), (a1 : Int), (a2 : Int), (a3 : Int), (a4 : Int), ky, nx⟩) 69 RZ RM ?_; intro w9 H9))
    )
   refine bodyPost_ret (own_resultV_t rfl _ H9.out 2 g2 _ rfl rfl _ Try.underlying92 rfl (sizeM_of RM.out.1) _ rfl) rfl ?_
   exact ⟨rfl, H9.out.below⟩
end Go.Proofs.Ytocphkfkdadhaaa.H

namespace Go.Proofs.Ytocphkfkdadhaaa.H
open Go.RowKit Go.Proofs.YtocphkfkdadhaaaW.PrintWords Go.Proofs.YtocphkfkdadhaaaW.PrintLast Go.Proofs.YtocphkfkdadhaaaW.PrintMore
set_option linter.unusedVariables false
set_option linter.unusedSimpArgs false
def depB (b : List Int) : Bool := decide ((readM b).2 = 0) && decide ((readM b).1.kd = 1)
theorem readM_size (b : List Int) (hb : ∀ x ∈ b, 0 ≤ x ∧ x ≤ 255) : (readM b).1.ky.length = 32 ∧ (readM b).1.nx.length = 32 := by
 unfold readM
 split
 ·exact ⟨rfl, rfl⟩
 split
 ·exact ⟨rfl, rfl⟩
 have h : (fieldsOfM b).ky.length = 32 ∧ (fieldsOfM b).nx.length = 32 := by constructor <;> (simp [fieldsOfM, List.length_take]; omega)
 split
 ·exact ⟨rfl, rfl⟩
 split
 ·exact h
 ·exact ⟨rfl, rfl⟩
set_option maxHeartbeats 4000000 in
set_option maxRecDepth 100000 in
theorem deposit_any (b : List Int) (A : Option Addr) (c : Nat) (w : World) (hb : ∀ x ∈ b, 0 ≤ x ∧ x ≤ 255) (hC : Kd.C kB w A b.length b) (hc : b.length ≤ c) :
 Calls Try.prog 83 #[.slice A b.length c] w fun e w' => e = .returned (.bool (depB b)) ∧ Below w.heap.size w w' := by
 have H0 := Aside0.mk (Own.start w)
 have RZ : Aside0 (Arr 69 (msgA zeroM)) := ⟨msgA_arr rfl rfl⟩
 have HRD := Aside0.mk (fun W (h : Below w.heap.size w W) => mread_any b A c W hb (Kd.C_below hC h) hc)
 have hsz := readM_size b hb
 have RM : Aside0 (Arr 69 (msgA (readM b).1)) := ⟨msgA_arr hsz.1 hsz.2⟩
 obtain ⟨r, hr⟩ : ∃ r, r = depB b := ⟨_, rfl⟩
 rw [← hr]
 unfold depB at hr
 clear hC hc hb hsz
 generalize b.length = n at *
 generalize (readM b).2 = er at *
 generalize (readM b).1 = m at *
 obtain ⟨kd, fr, tt, am, no, ky, nx⟩ := m
 dsimp only at hr
 by_cases h0 : er = 0
 ·subst h0
  rw [decide_eq_true rfl, Bool.true_and] at hr
  have hk : (kd == 1) = r := by rw [hr]; rfl
  clear hr
  go_enter Try.func83, Try.ntmps83
  go_wp2_with (first
   | fail
   | (go_at_call 129; refine (HRD.out _ H0.out.below).mono ?_; rintro e w1 ⟨rfl, hB1⟩; have H1 := Aside0.mk (H0.out.step hB1); clear hB1)
   | ((with_reducible refine Gd 3 ?_); ( refine OA H1 92 (msgA zeroM) 69 ?_; intro g3 w2 H2 B2))
   | ((with_reducible refine Gs 92 3 ?_); ( refine OS 3 8 H2 0 g3 92 (msgA ⟨kd, fr, tt, am, no, ky, nx⟩) 69 RZ RM ?_; intro w3 H3))
   | ((with_reducible refine Gd 14 ?_); ( refine GD 13 90 H3 0 g3 0 (.int .u8 kd) Try.underlying90 ?_))
   )
  go_ret
  exact ⟨rfl, H3.out.below⟩
 ·have he : (er == 0) = false := beq_eq_false_iff_ne.2 h0
  obtain rfl : r = false := by rw [hr, decide_eq_false h0]; rfl
  clear hr h0
  go_enter Try.func83, Try.ntmps83
  go_wp2_with (first
   | fail
   | (go_at_call 129; refine (HRD.out _ H0.out.below).mono ?_; rintro e w1 ⟨rfl, hB1⟩; have H1 := Aside0.mk (H0.out.step hB1); clear hB1)
   | ((with_reducible refine Gd 3 ?_); ( refine OA H1 92 (msgA zeroM) 69 ?_; intro g3 w2 H2 B2))
   | ((with_reducible refine Gs 92 3 ?_); ( refine OS 3 8 H2 0 g3 92 (msgA ⟨kd, fr, tt, am, no, ky, nx⟩) 69 RZ RM ?_; intro w3 H3))
   )
  go_ret
  exact ⟨rfl, H3.out.below⟩
end Go.Proofs.Ytocphkfkdadhaaa.H

namespace Go.Proofs.Ytocphkfkdadhaaa.H
open Go.RowKit Go.Shelf Go.Proofs.YtocphkfkdadhaaaW.PrintWords Go.Proofs.YtocphkfkdadhaaaW.PrintLast Go.Proofs.YtocphkfkdadhaaaW.PrintMore
attribute [local go_sem] Oper.semAt_some
set_option linter.unusedVariables false
set_option linter.unusedSimpArgs false
theorem keepM_any (b : List Int) (A : Option Addr) (c : Nat) (w : World) (hb : ∀ x ∈ b, 0 ≤ x ∧ x ≤ 255) (hC : Kd.C kB w A b.length b) (hc : b.length ≤ c) :
 Calls Try.prog 90 #[.slice A b.length c] w fun e w' => e = .returned (.bool (!depB b)) ∧ Below w.heap.size w w' := by
 have HD := Aside0.mk (fun W (h : Below w.heap.size w W) => deposit_any b A c W hb (Kd.C_below hC h) hc)
 have H0 := Aside0.mk (Below.refl w.heap.size w)
 clear hC hc hb
 generalize b.length = n at *
 generalize depB b = r at *
 go_enter Try.func90, Try.ntmps90
 go_wp2_with (go_at_call 83; refine (HD.out _ H0.out).mono ?_; rintro e w1 ⟨rfl, hB1⟩; have H1 := Aside0.mk (below_step H0.out hB1); clear hB1)
 go_ret
 exact ⟨rfl, H1.out⟩
set_option maxHeartbeats 400000 in
theorem keptM_call (v f : Value) (w : World) (hv : ∃ A n c, v = .slice A n c) (hf : ∃ g a b, f = .func g a b) : Calls Try.prog 89 #[v, f] w fun e w' => e = .returned (.func (.func 135) #[] #[.pointer (some ⟨w.heap.size, 0, none⟩), .pointer (some ⟨w.heap.size + 1, 0, none⟩)]) ∧ w' = (w.alloc (.cells #[v] 71)).alloc (.cells #[f] 82) := by
 obtain ⟨A, n, c, rfl⟩ := hv
 obtain ⟨g, a, b, rfl⟩ := hf
 have hmf : ∀ (fn : Fn) (first cap : Array Value) (w : World), (Instr.makeFunc fn first cap).run Try.prog w = .ok (.func fn first cap) w := fun _ _ _ _ => rfl
 go_enter Try.func89, Try.ntmps89
 go_wp2
 go_ret
 exact ⟨rfl, rfl⟩
structure EV where
 b : List Int
 A : Option Addr
 c : Nat
 i : Nat
def EV.val (p : EV) : Value := .slice p.A p.b.length p.c
def GoodE (W0 : World) (g : Nat) (ms : List (List Int)) (p : EV) : Prop := (∃ h : p.i < ms.length, p.b = ms[p.i]) ∧ W0.cell? ⟨g, p.i, none⟩ = some p.val ∧ p.b.length ≤ p.c ∧ ∀ x ∈ p.b, 0 ≤ x ∧ x ≤ 255
abbrev GE (W0 : World) (g : Nat) (ms : List (List Int)) := { p : EV // GoodE W0 g ms p }
set_option maxRecDepth 100000 in
set_option maxHeartbeats 1000000 in
theorem keptM_in (n : Nat) (hn : 1 ≤ n) (W0 : World) (Kp : World → World → Prop) (hKt : ∀ {A B C : World}, Kp A B → Kp B C → Kp A C) (hKn : ∀ {A B : World}, Below A.heap.size A B → Kp A B)
 (g : Nat) (ms : List (List Int)) (V : List (GE W0 g ms)) (A : Option Addr) (cap : Nat) (hA : 0 < V.length → A = some ⟨g, 0, none⟩) (l Bs Bk : Nat) (J Jx : List (GE W0 g ms) → World → Prop) (W : World) (hW0 : Kp W0 W)
 (hJ : AbidesFrom W.heap.size J) (hN : V.length ≤ 9223372036854775807)
 (hrow : ∀ W', Kp W0 W' → ∀ i (h : i < V.length), W'.cell? ⟨g, i, none⟩ = some V[i].1.val ∧ Kd.C kB W' V[i].1.A V[i].1.b.length V[i].1.b)
 (hs : ∀ W', Kp W0 W' → W'.cell? ⟨Bs, 0, none⟩ = some (.slice A V.length cap)) (hk : ∀ W', Kp W0 W' → W'.cell? ⟨Bk, 0, none⟩ = some (.func (.func 90) #[] #[]))
 (hY : ∀ pre x W1, J pre W1 → pre.length < V.length → YieldAt Fence.wide (n - 1) Try.prog l #[x.1.val] W1 fun e W' =>
  (e = .returned (.bool true) ∧ J (pre ++ [x]) W' ∧ Kp W1 W') ∨ (e = .returned (.bool false) ∧ Jx (pre ++ [x]) W')) (h0 : J [] W) :
 CallsIn Fence.wide n Try.prog 135 #[.func (.yield l) #[] #[], .pointer (some ⟨Bs, 0, none⟩), .pointer (some ⟨Bk, 0, none⟩)] W fun e W' => (∃ v, e = .returned v) ∧
  ((∃ ys, ys = V.filter (fun p => !depB p.1.b) ∧ J ys W') ∨ (∃ pre, True ∧ Jx pre W')) := by
 have hs' := hs W hW0
 refine callsIn_of_wp Try.func135 rfl trivial ?_ rfl
 simp only [Try.ntmps135, List.size_toArray, List.length_cons, List.length_nil, Nat.reduceAdd, Nat.reduceSub, Array.replicate_succ, Array.replicate_zero, List.push_toArray, List.append_toArray, List.nil_append, List.cons_append]
 gi_wp2
 gi_loopw [8] (fun v8 wr => ∃ k : Nat, k ≤ V.length ∧ v8 = .int .i64 (k : Int) ∧ Aside0 (J ((V.take k).filter (fun p => !depB p.1.b)) wr) ∧ Aside0 (Kp W0 wr)) (fun v8 _ => V.length - (intOf v8).toNat)
 case atStart => exact ⟨0, Nat.zero_le _, rfl, ⟨by simpa using h0⟩, ⟨hW0⟩⟩
 case round =>
  obtain ⟨k, hkl, rfl, HJs, HB0⟩ := hrel
  by_cases hlt : k < V.length
  ·obtain rfl := hA (by omega)
   obtain ⟨q0, hCx⟩ := hrow wr HB0.out k hlt
   have HCx := Aside0.mk hCx
   clear hCx
   have q4 := hk _ HB0.out
   have HT := Aside0.mk (List.take_succ_eq_append_getElem hlt)
   have HG := Aside0.mk V[k].2
   have HLen : Aside0 (((V.take k).filter (fun p => !depB p.1.b)).length < V.length) := ⟨by
    have h1 := List.length_filter_le (fun p : GE W0 g ms => !depB p.1.b) (V.take k)
    rw [List.length_take] at h1
    omega⟩
   generalize V[k] = x at *
   have HFT : Aside0 ((V.take (k + 1)).filter (fun p => !depB p.1.b) = (V.take k).filter (fun p => !depB p.1.b) ++ (if (!depB x.1.b) = true then [x] else [])) := ⟨by
    rw [HT.out, List.filter_append]
    congr 1
    by_cases hkx : (!depB x.1.b) = true
    ·simp [hkx]
    ·simp [hkx]⟩
   generalize ((V.take k).filter (fun p => !depB p.1.b)) = pre at *
   obtain ⟨⟨b, Ax, cx, ix⟩, hgood⟩ := x
   simp only [EV.val] at *
   gi_wp2
   refine ⟨trivial, ?_⟩
   refine (callsIn_wide.2 (keepM_any b Ax cx _ HG.out.2.2.2 HCx.out HG.out.2.2.1)).mono ?_
   rintro e w3 ⟨rfl, hE3⟩
   have HE := Aside0.mk hE3
   have HBr3 := Aside0.mk (hKt HB0.out (hKn HE.out))
   have HJ3 := Aside0.mk (hJ _ _ _ none HJs.out ⟨HE.out.os, HE.out.tape, HE.out.output, HE.out.size, fun k hk _ => HE.out.block k hk⟩ (fun r h => by cases h))
   clear hE3 q0 q4
   cases hkp : (!depB b) with
   | false =>
    have HFT2 := Aside0.mk (HFT.out.trans (by rw [hkp, if_neg (by decide), List.append_nil]))
    clear HFT
    gi_wp2
    refine ⟨fun _ h => (by cases h), ?_⟩
    gi_wp2
    go_roundw
    case rel => exact ⟨k + 1, hlt, by go_num, ⟨by rw [HFT2.out]; exact HJ3.out⟩, HBr3⟩
    case measure => simp [intOf]; omega
   | true =>
    have HFT2 := Aside0.mk (HFT.out.trans (by rw [hkp, if_pos rfl]))
    clear HFT
    obtain ⟨fn, tmps, assign, body, hy, hR⟩ := hY pre ⟨⟨b, Ax, cx, ix⟩, hgood⟩ w3 HJ3.out HLen.out
    dsimp only [EV.val] at hy
    gi_wp2
    refine hR.mono ?_
    rintro e w4 (⟨rfl, hJ4, hk4⟩ | ⟨rfl, hJx4⟩)
    ·gi_wp2
     go_roundw
     case rel => exact ⟨k + 1, hlt, by go_num, ⟨by rw [HFT2.out]; exact hJ4⟩, ⟨hKt HBr3.out hk4⟩⟩
     case measure => simp [intOf]; omega
    ·gi_wp2
     refine bodyPost_ret (results_none rfl _ _ _) rfl ?_
     exact ⟨⟨_, rfl⟩, .inr ⟨_, trivial, hJx4⟩⟩
  ·obtain rfl : k = V.length := by omega
   have hJ1 := HJs.out
   rw [List.take_length] at hJ1
   gi_wp2
   go_end0
   exact ⟨⟨_, rfl⟩, .inl ⟨_, rfl, hJ1⟩⟩
end Go.Proofs.Ytocphkfkdadhaaa.H

