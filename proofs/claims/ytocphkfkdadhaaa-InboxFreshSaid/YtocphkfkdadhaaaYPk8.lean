import Derived.Test.YtocphkfkdadhaaaYPk7
import Derived.Test.YtocphkfkdadhaaaYPk4
import Derived.Test.YtocphkfkdadhaaaYPk1
import Derived.Test.YtocphkfkdadhaaaYPk3
import Derived.BigRegion
import Derived.Test.YtocphkfkdadhaaaYPk5
import Derived.Laws.Cover3
import Derived.Test.YtocphkfkdadhaaaYPk6
import Derived.Lib.Strings
import Derived.Lib.Slices
import Derived.Lib.Walk
import Derived.Lib.Bytes
import Derived.Test.YtocphkfkdadhaaaYPk2
set_option maxHeartbeats 4000000
set_option linter.unusedVariables false
set_option linter.unusedSimpArgs false
set_option maxRecDepth 100000
namespace Go.Proofs.Ytocphkfkdadhaaa.H
open Go.RowKit Go.Proofs.YtocphkfkdadhaaaW.PrintWords Go.Proofs.YtocphkfkdadhaaaW.PrintLast Go.Proofs.YtocphkfkdadhaaaW.PrintMore
def wordU (b : List Int) (i j : Nat) : Nat := K.num (((b.take i).drop (8 * j)).take 8)
def wordsU (n : Nat) (b : List Int) (i : Nat) : List Nat := (List.range n).map fun j => wordU b i j
theorem wordsU_len (n : Nat) (b : List Int) (i : Nat) : (wordsU n b i).length = n := by simp [wordsU]
theorem wordsU_at (n : Nat) (b : List Int) (i j : Nat) (h : j < (wordsU n b i).length) : (wordsU n b i)[j] = wordU b i j := by simp [wordsU]
theorem wordU_snoc (b : List Int) (i : Nat) (h : i < b.length) : wordU b (i + 1) (i / 8) = wordU b i (i / 8) * 256 + b[i].toNat := by
 unfold wordU
 rw [List.take_succ_eq_append_getElem h, List.drop_append_of_le_length (by rw [List.length_take]; omega)]
 have hl : ((b.take i).drop (8 * (i / 8))).length ≤ 7 := by simp [List.length_take]; omega
 generalize (b.take i).drop (8 * (i / 8)) = t at *
 rw [List.take_of_length_le (l := t ++ _) (by simp; omega), List.take_of_length_le (l := t) (by omega), K.num_snoc]
theorem wordU_other (b : List Int) (i j : Nat) (h : i < b.length) (hj : j ≠ i / 8) : wordU b (i + 1) j = wordU b i j := by
 unfold wordU
 rw [List.take_succ_eq_append_getElem h]
 by_cases hlt : 8 * j ≤ i
 ·rw [List.drop_append_of_le_length (by rw [List.length_take]; omega), List.take_append_of_le_length (by simp [List.length_take]; omega)]
 ·rw [List.drop_of_length_le (by simp [List.length_take]; omega), List.drop_of_length_le (by simp [List.length_take]; omega)]
theorem wordsU_step (n : Nat) (b : List Int) (i : Nat) (h : i < b.length) (hi : i / 8 < n) : (wordsU n b i).set (i / 8) (wordU b i (i / 8) * 256 + b[i].toNat) = wordsU n b (i + 1) := by
 refine List.ext_getElem (by simp [wordsU]) fun j h1 h2 => ?_
 rw [wordsU_at, List.getElem_set]
 split
 ·rename_i he
  rw [← he, wordU_snoc b i h]
 ·rename_i he
  rw [wordsU_at, wordU_other b i j h (fun e => he e.symm)]
theorem wordsU_zero (n : Nat) (b : List Int) : wordsU n b 0 = List.replicate n 0 := by
 refine List.ext_getElem (by simp [wordsU]) fun j h1 h2 => ?_
 rw [wordsU_at, List.getElem_replicate]
 simp [wordU, K.num]
theorem wordU_lt (b : List Int) (i : Nat) (hb : ∀ x ∈ b, 0 ≤ x ∧ x ≤ 255) (hi : i < b.length) : wordU b i (i / 8) < 72057594037927936 := by
 have h1 : K.Byt (((b.take i).drop (8 * (i / 8))).take 8) := fun x hx => hb x (List.mem_of_mem_take (List.mem_of_mem_drop (List.mem_of_mem_take hx)))
 have h2 := K.num_lt _ h1
 have h3 : (((b.take i).drop (8 * (i / 8))).take 8).length ≤ 7 := by simp [List.length_take]; omega
 have h4 := K.pow256_le h3
 rw [K.pow256_7] at h4
 exact Nat.lt_of_lt_of_le h2 h4
def cellsN (l : List Nat) : Array Value := (l.map fun n : Nat => Value.int .u64 (n : Int)).toArray
theorem cellsN_size (l : List Nat) : (cellsN l).size = l.length := by simp [cellsN]
theorem cellsN_at (l : List Nat) (i : Nat) (h : i < l.length) : (cellsN l)[i]? = some (.int .u64 ((l[i] : Nat) : Int)) := by simp [cellsN, h]
theorem cellsN_set (l : List Nat) (i : Nat) (x : Nat) : (cellsN l).setIfInBounds i (.int .u64 (x : Int)) = cellsN (l.set i x) := by
 simp [cellsN, List.map_set]
theorem cellsN_arr {l : List Nat} {n : Nat} (h : l.length = n) : Arr n (cellsN l) := ⟨by rw [cellsN_size, h], all_oneCell_toArray (by
 intro v hv
 obtain ⟨x, _, rfl⟩ := List.mem_map.1 hv
 rfl)⟩
def wordsAll (n : Nat) (b : List Int) : List Nat := (List.range n).map fun j => K.num ((b.drop (8 * j)).take 8)
theorem wordsU_all (n : Nat) (b : List Int) (h : b.length = 8 * n) : wordsU n b (8 * n) = wordsAll n b := by
 refine List.ext_getElem (by simp [wordsU, wordsAll]) fun j h1 h2 => ?_
 rw [wordsU_at]
 simp only [wordsAll, List.getElem_map, List.getElem_range, wordU]
 rw [List.take_of_length_le (l := b) (by omega)]
theorem wordsAll_lt (n : Nat) (b : List Int) (hb : ∀ x ∈ b, 0 ≤ x ∧ x ≤ 255) : ∀ x ∈ wordsAll n b, x ≤ 18446744073709551615 := by
 intro x hx
 obtain ⟨j, _, rfl⟩ := List.mem_map.1 hx
 exact K.num_small _ (fun y hy => hb y (List.mem_of_mem_drop (List.mem_of_mem_take hy))) (by simp; omega)
theorem be8I_num (l : List Int) (hb : ∀ x ∈ l, 0 ≤ x ∧ x ≤ 255) (hl : l.length = 8) : be8I (K.num l) = l := by
 match l, hl with
 | [a, b, c, d, e, f, g, h], _ =>
  have ha := hb a (by simp); have hb' := hb b (by simp); have hc := hb c (by simp); have hd := hb d (by simp)
  have he := hb e (by simp); have hf := hb f (by simp); have hg := hb g (by simp); have hh := hb h (by simp)
  clear hb
  obtain ⟨a, rfl⟩ := Int.eq_ofNat_of_zero_le ha.1
  obtain ⟨b, rfl⟩ := Int.eq_ofNat_of_zero_le hb'.1
  obtain ⟨c, rfl⟩ := Int.eq_ofNat_of_zero_le hc.1
  obtain ⟨d, rfl⟩ := Int.eq_ofNat_of_zero_le hd.1
  obtain ⟨e, rfl⟩ := Int.eq_ofNat_of_zero_le he.1
  obtain ⟨f, rfl⟩ := Int.eq_ofNat_of_zero_le hf.1
  obtain ⟨g, rfl⟩ := Int.eq_ofNat_of_zero_le hg.1
  obtain ⟨h, rfl⟩ := Int.eq_ofNat_of_zero_le hh.1
  simp only [be8I, toI, be8, K.num, List.foldl_cons, List.foldl_nil, Int.toNat_natCast, List.map_cons, List.map_nil, Nat.zero_mul, Nat.zero_add]
  have h1 : (((((((a * 256 + b) * 256 + c) * 256 + d) * 256 + e) * 256 + f) * 256 + g) * 256 + h) = a * 72057594037927936 + b * 281474976710656 + c * 1099511627776 + d * 4294967296 + e * 16777216 + f * 65536 + g * 256 + h := by omega
  rw [h1]
  simp only [List.cons.injEq, and_true]
  refine ⟨?_, ?_, ?_, ?_, ?_, ?_, ?_, ?_⟩ <;> (congr 1; omega)
def bytesOf (ws : List Nat) : List Int := (ws.map be8I).flatten
theorem bytesOf_four (b : List Int) (hb : ∀ x ∈ b, 0 ≤ x ∧ x ≤ 255) (hl : b.length = 32) : bytesOf (wordsAll 4 b) = b := by
 have h (j : Nat) (hj : j < 4) : be8I (K.num ((b.drop (8 * j)).take 8)) = (b.drop (8 * j)).take 8 := be8I_num _ (fun y hy => hb y (List.mem_of_mem_drop (List.mem_of_mem_take hy))) (by simp; omega)
 have e : wordsAll 4 b = [K.num ((b.drop (8 * 0)).take 8), K.num ((b.drop (8 * 1)).take 8), K.num ((b.drop (8 * 2)).take 8), K.num ((b.drop (8 * 3)).take 8)] := rfl
 rw [e]
 simp only [bytesOf, List.map_cons, List.map_nil, List.flatten_cons, List.flatten_nil, h 0 (by omega), h 1 (by omega), h 2 (by omega), h 3 (by omega)]
 have e1 : b.drop (8 * 3) = (b.drop (8 * 3)).take 8 ++ [] := by rw [List.append_nil, List.take_of_length_le (by simp; omega)]
 have e2 : b.drop (8 * 2) = (b.drop (8 * 2)).take 8 ++ b.drop (8 * 3) := by
  rw [show 8 * 3 = 8 * 2 + 8 by omega, ← List.drop_drop, List.take_append_drop]
 have e3 : b.drop (8 * 1) = (b.drop (8 * 1)).take 8 ++ b.drop (8 * 2) := by
  rw [show 8 * 2 = 8 * 1 + 8 by omega, ← List.drop_drop, List.take_append_drop]
 have e4 : b = (b.drop (8 * 0)).take 8 ++ b.drop (8 * 1) := by
  rw [show 8 * 1 = 8 by omega, show 8 * 0 = 0 by omega, List.drop_zero, List.take_append_drop]
 rw [← e1, ← e2, ← e3, ← e4]
theorem cellB {W : World} {A : Option Addr} {n : Nat} {l : List Int} (h : Kd.C kB W A n l) (i : Nat) (hi : i < n) (hl : i < l.length) : ∃ ad, A = some ad ∧ W.cell? (ad.add i) = some (.int .u8 l[i]) := by
 obtain ⟨ad, cs, hA, _, hK, hc⟩ := Kd.C_get h (0 : Int) (i : Int) (by omega) (by omega)
 refine ⟨ad, hA, ?_⟩
 have h1 := hc 0 (.int .u8 l[i]) (by
  have hK : cs = [.int .u8 (l.getD (i : Int).toNat 0)] := hK
  rw [hK, Int.toNat_natCast, List.getD_eq_getElem?_getD, List.getElem?_eq_getElem hl]; rfl)
 rw [Int.toNat_natCast, Nat.add_zero, show kB.sz = 1 from rfl, Nat.mul_one] at h1
 exact h1
theorem num_or (x y : Nat) (hx : x < 72057594037927936) (hy : y < 256) : bits .or .u64 ((x : Int) * 256) (y : Int) = ((x * 256 + y : Nat) : Int) := by
 have h := K.num_step x y hx hy
 rwa [IntKind.wrap_u64, IntKind.wrap_u64, Int.emod_eq_of_lt (by omega) (by omega), Int.emod_eq_of_lt (by omega) (by omega)] at h
def z13 : List Nat := List.replicate 13 0
def wordsM (b : List Int) : List Nat × Int := if b.length < 104 then (z13, 7) else if 104 < b.length then (z13, 8) else (wordsAll 13 b, 0)
theorem mwords_any (b : List Int) (A : Option Addr) (c : Nat) (w : World) (hb : ∀ x ∈ b, 0 ≤ x ∧ x ≤ 255) (hC : Kd.C kB w A b.length b) (hc : b.length ≤ c) :
 Calls Try.prog 157 #[.slice A b.length c] w fun e w' => e = .returned (.tuple #[.agg (cellsN (wordsM b).1), .int .i64 (wordsM b).2]) ∧ Below w.heap.size w w' := by
 have H0 := Aside0.mk (Own.start w)
 have HC := Aside0.mk hC
 have R13 : Aside0 (Arr 13 (cellsN z13)) := ⟨cellsN_arr rfl⟩
 have HBB := Aside0.mk hb
 clear hC hb
 obtain ⟨n, hn⟩ : ∃ n, n = b.length := ⟨_, rfl⟩
 have HN := Aside0.mk hn
 rw [← hn] at HC hc ⊢
 clear hn
 obtain ⟨r, hr⟩ : ∃ r, r = wordsM b := ⟨_, rfl⟩
 have HR := Aside0.mk hr
 rw [← hr]
 clear hr
 unfold wordsM at HR
 rw [← HN.out] at HR
 by_cases h1 : n < 104
 ·have hd1 : decide ((n : Int) < 104) = true := decide_eq_true (by omega)
  rw [if_pos h1] at HR
  obtain rfl := HR.out
  clear HR
  go_enter Try.func157, Try.ntmps157
  go_wp2_with (first
   | fail
   | ((with_reducible refine Gd 2 ?_); refine OA H0 194 (cellsN z13) 13 ?_; intro g2 w1 H1 B1)
   | ((with_reducible refine Gd 4 ?_); refine OA H1 194 (cellsN z13) 13 ?_; intro g4 w2 H2 B2)
   | ((with_reducible refine Gd 10 ?_); refine OL 4 H2 0 g4 194 Try.underlying194 13 R13 ?_)
   | ((with_reducible refine Gs 194 2 ?_); refine OS 2 10 H2 1 g2 194 (cellsN z13) 13 R13 R13 ?_; intro w3 H3)
   )
  refine bodyPost_ret (own_resultV_t rfl _ H3.out 1 g2 _ rfl rfl _ Try.underlying194 rfl (by kernel_rfl) _ rfl) rfl ?_
  exact ⟨rfl, H3.out.below⟩
 have hd1 : decide ((n : Int) < 104) = false := decide_eq_false (by omega)
 rw [if_neg h1] at HR
 by_cases h2 : 104 < n
 ·have hd2 : decide (104 < (n : Int)) = true := decide_eq_true (by omega)
  rw [if_pos h2] at HR
  obtain rfl := HR.out
  clear HR
  go_enter Try.func157, Try.ntmps157
  go_wp2_with (first
   | fail
   | ((with_reducible refine Gd 2 ?_); refine OA H0 194 (cellsN z13) 13 ?_; intro g2 w1 H1 B1)
   | ((with_reducible refine Gd 4 ?_); refine OA H1 194 (cellsN z13) 13 ?_; intro g4 w2 H2 B2)
   | ((with_reducible refine Gd 15 ?_); refine OL 4 H2 0 g4 194 Try.underlying194 13 R13 ?_)
   | ((with_reducible refine Gs 194 2 ?_); refine OS 2 15 H2 1 g2 194 (cellsN z13) 13 R13 R13 ?_; intro w3 H3)
   )
  refine bodyPost_ret (own_resultV_t rfl _ H3.out 1 g2 _ rfl rfl _ Try.underlying194 rfl (by kernel_rfl) _ rfl) rfl ?_
  exact ⟨rfl, H3.out.below⟩
 have hd2 : decide (104 < (n : Int)) = false := decide_eq_false (by omega)
 rw [if_neg h2] at HR
 obtain rfl : n = 104 := by omega
 obtain rfl := HR.out
 clear HR h1 h2
 go_enter Try.func157, Try.ntmps157
 go_wp2_with (first
  | fail
  | ((with_reducible refine Gd 2 ?_); refine OA H0 194 (cellsN z13) 13 ?_; intro g2 w1 H1 B1)
  | ((with_reducible refine Gd 4 ?_); refine OA H1 194 (cellsN z13) 13 ?_; intro g4 w2 H2 B2)
  )
 replace H2 : Aside0 (Own w.heap.size w w2 [.blk g4 (cellsN (wordsU 13 b 0)) 194, .blk g2 (cellsN z13) 194]) := ⟨by rw [wordsU_zero]; exact H2.out⟩
 clear H0 H1 B1 B2 hd1 hd2
 go_loopw [16] (fun vi wr => ∃ (i : Nat), i ≤ 104 ∧ vi = .int .i64 (i : Int) ∧ Aside0 (Own w.heap.size w wr [.blk g4 (cellsN (wordsU 13 b i)) 194, .blk g2 (cellsN z13) 194])) (fun vi _ => 104 - (intOf vi).toNat)
 case atStart => exact ⟨0, Nat.zero_le _, rfl, H2⟩
 case round =>
  clear H2
  obtain ⟨i, hi, rfl, HI⟩ := hrel
  by_cases hlt : i < 104
  ·have hdl : decide ((i : Int) < 104) = true := decide_eq_true (by omega)
   have hib : i < b.length := by rw [← HN.out]; exact hlt
   obtain ⟨ad, rfl, hcb⟩ := cellB (Kd.C_below HC.out HI.out.below) i hlt hib
   have hbb := HBB.out _ (List.getElem_mem hib)
   have hq : i / 8 < 13 := by omega
   have hxl := wordU_lt b i HBB.out hib
   have HST := Aside0.mk (wordsU_step 13 b i hib hq)
   have hx : wr.cell? ⟨g4, i / 8, none⟩ = some (.int .u64 ((wordU b i (i / 8) : Nat) : Int)) := HI.out.cell 0 rfl (i / 8) (by rw [cellsN_at _ _ (by rw [wordsU_len]; exact hq), wordsU_at])
   have hxf := HI.out.fz 0 rfl (i / 8)
   obtain ⟨y, hy⟩ := Int.eq_ofNat_of_zero_le hbb.1
   rw [hy, Int.toNat_natCast] at HST
   rw [hy] at hcb hbb
   have hor := num_or (wordU b i (i / 8)) y hxl (by omega)
   generalize wordU b i (i / 8) = x at *
   clear hy
   go_wp2_with fail
   go_region
   go_wp2_with fail
   go_roundw
   case rel => exact ⟨i + 1, hlt, by go_num, ⟨((HI.out.put 0 rfl (i / 8) _ ((cellsN_set _ _ _).trans (congrArg cellsN HST.out))).drew)⟩⟩
   case measure => simp [intOf]; omega
  ·have hdl : decide ((i : Int) < 104) = false := decide_eq_false (by omega)
   obtain rfl : i = 104 := by omega
   have HE : Aside0 (Own w.heap.size w wr [.blk g4 (cellsN (wordsAll 13 b)) 194, .blk g2 (cellsN z13) 194]) := ⟨by have h := HI.out; rwa [show (104 : Nat) = 8 * 13 from rfl, wordsU_all 13 b (by rw [← HN.out])] at h⟩
   have RA : Aside0 (Arr 13 (cellsN (wordsAll 13 b))) := ⟨cellsN_arr (by simp [wordsAll])⟩
   clear HI
   go_wp2_with (first
    | fail
    | ((with_reducible refine Gd 34 ?_); refine OL 4 HE 0 g4 194 Try.underlying194 13 RA ?_)
    | ((with_reducible refine Gs 194 2 ?_); refine OS 2 34 HE 1 g2 194 (cellsN (wordsAll 13 b)) 13 R13 RA ?_; intro w3 H3)
    )
   refine bodyPost_ret (own_resultV_t rfl _ H3.out 1 g2 _ rfl rfl _ Try.underlying194 rfl (by rw [(cellsN_arr (l := wordsAll 13 b) (n := 13) (by simp [wordsAll])).1]; kernel_rfl) _ rfl) rfl ?_
   exact ⟨rfl, H3.out.below⟩
theorem bytesOf_len (ws : List Nat) : (bytesOf ws).length = 8 * ws.length := by
 induction ws with
 | nil => rfl
 | cons x ws ih => simp only [bytesOf, List.map_cons, List.flatten_cons, List.length_append, List.length_cons] at ih ⊢; rw [ih]; show 8 + _ = _; omega
theorem bytesOf_at : ∀ (ws : List Nat) (i : Nat) (h : i / 8 < ws.length), (bytesOf ws)[i]? = some ((ws[i / 8] / 2 ^ (56 - 8 * (i % 8)) % 256 : Nat) : Int)
 | [], i, h => by simp at h
 | x :: ws, i, h => by
  have e : bytesOf (x :: ws) = be8I x ++ bytesOf ws := rfl
  rw [e]
  have hl : (be8I x).length = 8 := rfl
  by_cases hi : i < 8
  ·rw [List.getElem?_append_left (by omega)]
   have h0 : i / 8 = 0 := by omega
   simp only [h0, List.getElem_cons_zero]
   rw [Nat.mod_eq_of_lt hi]
   exact be8_at x i hi
  ·rw [List.getElem?_append_right (by omega), hl, bytesOf_at ws (i - 8) (by simp only [List.length_cons] at h; omega)]
   have h0 : i / 8 = (i - 8) / 8 + 1 := by omega
   simp only [h0, List.getElem_cons_succ]
   rw [show (i - 8) % 8 = i % 8 by omega]
def fromU (ws : List Nat) (i : Nat) : List Int := (bytesOf ws).take i ++ List.replicate (32 - i) 0
theorem fromU_len {ws : List Nat} (hw : ws.length = 4) {i : Nat} (hi : i ≤ 32) : (fromU ws i).length = 32 := by
 have := bytesOf_len ws
 simp [fromU, List.length_take]; omega
theorem fromU_step {ws : List Nat} (hw : ws.length = 4) {i : Nat} (hi : i < 32) : (cellsB (fromU ws i)).setIfInBounds i (.int .u8 ((ws[i / 8]'(by omega) / 2 ^ (56 - 8 * (i % 8)) % 256 : Nat) : Int)) = cellsB (fromU ws (i + 1)) := by
 have hl := bytesOf_len ws
 have ha := bytesOf_at ws i (by omega)
 have hlt : i < (bytesOf ws).length := by omega
 have hg : (bytesOf ws)[i] = ((ws[i / 8]'(by omega) / 2 ^ (56 - 8 * (i % 8)) % 256 : Nat) : Int) := by
  rw [List.getElem?_eq_getElem hlt] at ha
  exact Option.some.inj ha
 have e : fromU ws (i + 1) = (fromU ws i).set i (bytesOf ws)[i] := by
  unfold fromU
  rw [List.take_succ_eq_append_getElem hlt, show 32 - i = (32 - (i + 1)) + 1 by omega, List.replicate_succ, List.set_append_right _ _ (by rw [List.length_take]; omega)]
  rw [show i - ((bytesOf ws).take i).length = 0 by rw [List.length_take]; omega, List.set_cons_zero, List.append_assoc, List.singleton_append]
 rw [e, hg]
 simp [cellsB, List.map_set]
theorem fromU_all {ws : List Nat} (hw : ws.length = 4) : fromU ws 32 = bytesOf ws := by
 have := bytesOf_len ws
 unfold fromU
 rw [List.take_of_length_le (by omega)]
 simp
theorem sfrom_any (ws : List Nat) (hw : ws.length = 4) (hu : ∀ x ∈ ws, x ≤ 18446744073709551615) (w : World) :
 Calls Try.prog 158 #[.agg (cellsN ws)] w fun e w' => e = .returned (.agg (cellsB (bytesOf ws))) ∧ Below w.heap.size w w' := by
 have H0 := Aside0.mk (Own.start w)
 have HW := Aside0.mk hw
 have HU := Aside0.mk hu
 have R32 : Aside0 (Arr 32 (Array.replicate 32 (.int .u8 0))) := ⟨Arr_rep _ _ rfl⟩
 clear hu hw
 go_enter Try.func158, Try.ntmps158
 go_wp2_with (first
  | fail
  | ((with_reducible refine Gd 1 ?_); refine OB H0 198 ((cellsN ws)) ?_; intro g1 w1 H1 B1)
  | ((with_reducible refine Gd 2 ?_); refine OA H1 25 (Array.replicate 32 (.int .u8 0)) 32 ?_; intro g2 w2 H2 B2)
  | ((with_reducible refine Gd 3 ?_); refine OA H2 25 (Array.replicate 32 (.int .u8 0)) 32 ?_; intro g3 w3 H3 B3)
  )
 have H4 : Aside0 (Own w.heap.size w w3 [.blk g3 (cellsB (fromU ws 0)) 25, .blk g2 (Array.replicate 32 (.int .u8 0)) 25, .blk g1 (cellsN ws) 198]) := ⟨by
  have h : cellsB (fromU ws 0) = Array.replicate 32 (.int .u8 0) := by unfold fromU cellsB; rw [List.take_zero, List.nil_append, List.map_replicate, List.toArray_replicate]
  rw [h]; exact H3.out⟩
 clear H0 H1 H2 H3 B1 B2 B3
 go_loopw [5] (fun vi wr => ∃ (i : Nat), i ≤ 32 ∧ vi = .int .i64 (i : Int) ∧ Aside0 (Own w.heap.size w wr [.blk g3 (cellsB (fromU ws i)) 25, .blk g2 (Array.replicate 32 (.int .u8 0)) 25, .blk g1 (cellsN ws) 198])) (fun vi _ => 32 - (intOf vi).toNat)
 case atStart => exact ⟨0, Nat.zero_le _, rfl, H4⟩
 case round =>
  clear H4
  obtain ⟨i, hi, rfl, HI⟩ := hrel
  by_cases hlt : i < 32
  ·have hdl : decide ((i : Int) < 32) = true := decide_eq_true (by omega)
   have hq : i / 8 < ws.length := by rw [HW.out]; omega
   have hq4 : i / 8 < 4 := by omega
   have HST := Aside0.mk (fromU_step HW.out hlt)
   have hxu := HU.out _ (List.getElem_mem hq)
   have hx : wr.cell? ⟨g1, i / 8, none⟩ = some (.int .u64 ((ws[i / 8] : Nat) : Int)) := HI.out.cell 2 rfl (i / 8) (cellsN_at _ _ hq)
   have hf := HI.out.fz 0 rfl i
   obtain ⟨hth, _⟩ := HI.out.there_blk 0 rfl i 1 (by rw [(Arr_B (fromU_len HW.out hi)).1]; omega) 0 (by omega)
   rw [Nat.add_zero] at hth
   obtain ⟨vo, hvo⟩ := Option.isSome_iff_exists.1 hth
   clear hth
   generalize ws[i / 8] = x at *
   replace HST : Aside0 ((cellsB (fromU ws i)).setIfInBounds i (.int .u8 ((x : Int) / 2 ^ (56 - 8 * (i % 8)) % 256)) = cellsB (fromU ws (i + 1))) := ⟨by
    have h := HST.out
    simpa only [Int.natCast_emod, Int.natCast_ediv, Int.natCast_pow, Int.cast_ofNat_Int] using h⟩
   go_wp2_with fail
   skip
   go_roundw
   case rel => exact ⟨i + 1, hlt, by go_num, ⟨HI.out.put 0 rfl i _ HST.out⟩⟩
   case measure => simp [intOf]; omega
  ·have hdl : decide ((i : Int) < 32) = false := decide_eq_false (by omega)
   obtain rfl : i = 32 := by omega
   have HE : Aside0 (Own w.heap.size w wr [.blk g3 (cellsB (bytesOf ws)) 25, .blk g2 (Array.replicate 32 (.int .u8 0)) 25, .blk g1 (cellsN ws) 198]) := ⟨by have h := HI.out; rwa [fromU_all HW.out] at h⟩
   have RA : Aside0 (Arr 32 (cellsB (bytesOf ws))) := ⟨Arr_B (by rw [bytesOf_len, HW.out])⟩
   clear HI
   go_wp2_with (first
    | fail
    | ((with_reducible refine Gd 21 ?_); refine OL 3 HE 0 g3 25 Try.underlying25 32 RA ?_)
    | ((with_reducible refine Gs 25 2 ?_); refine OS 2 21 HE 1 g2 25 (cellsB (bytesOf ws)) 32 R32 RA ?_; intro w4 H4)
    )
   refine bodyPost_ret (own_resultV rfl _ H4.out 1 g2 _ rfl rfl _ Try.underlying25 rfl (by rw [RA.out.1]; exact sizeH)) rfl ?_
   exact ⟨rfl, H4.out.below⟩
def placesM : Array (Nat × Nat) := #[(0, 1), (1, 1), (2, 1), (3, 1), (4, 1), (5, 32), (37, 32)]
theorem built_placesM (parts : List (Nat × Value)) : Try.prog.built 92 parts = Instr.fill (placesM[·]?) (msgA zeroM) parts := by kernel_rfl
theorem builtM (kd fr tt am no : Int) (ky nx : List Int) (h1 : ky.length = 32) (h2 : nx.length = 32) :
 Try.prog.built 92 [(0, .int .u8 kd), (1, .int .u64 fr), (2, .int .u64 tt), (3, .int .u64 am), (4, .int .u64 no), (5, .agg (cellsB ky)), (6, .agg (cellsB nx))] = some (msgA ⟨kd, fr, tt, am, no, ky, nx⟩) := by
 rw [built_placesM]
 have hs : ∀ m : MsgI, m.ky.length = 32 → m.nx.length = 32 → (msgA m).size = 69 := fun m a b => msgA_size a b
 rw [fill_step (o := 0) (n := 1) rfl rfl (by rw [hs zeroM rfl rfl]; decide)]
 rw [show (splice (msgA zeroM).toList 0 (Value.int .u8 kd).cells.toList).toArray = msgA ⟨kd, 0, 0, 0, 0, z32, z32⟩ from rfl]
 rw [fill_step (o := 1) (n := 1) rfl rfl (by rw [hs _ rfl rfl]; decide)]
 rw [show (splice (msgA ⟨kd, 0, 0, 0, 0, z32, z32⟩).toList 1 (Value.int .u64 fr).cells.toList).toArray = msgA ⟨kd, fr, 0, 0, 0, z32, z32⟩ from rfl]
 rw [fill_step (o := 2) (n := 1) rfl rfl (by rw [hs _ rfl rfl]; decide)]
 rw [show (splice (msgA ⟨kd, fr, 0, 0, 0, z32, z32⟩).toList 2 (Value.int .u64 tt).cells.toList).toArray = msgA ⟨kd, fr, tt, 0, 0, z32, z32⟩ from rfl]
 rw [fill_step (o := 3) (n := 1) rfl rfl (by rw [hs _ rfl rfl]; decide)]
 rw [show (splice (msgA ⟨kd, fr, tt, 0, 0, z32, z32⟩).toList 3 (Value.int .u64 am).cells.toList).toArray = msgA ⟨kd, fr, tt, am, 0, z32, z32⟩ from rfl]
 rw [fill_step (o := 4) (n := 1) rfl rfl (by rw [hs _ rfl rfl]; decide)]
 rw [show (splice (msgA ⟨kd, fr, tt, am, 0, z32, z32⟩).toList 4 (Value.int .u64 no).cells.toList).toArray = msgA ⟨kd, fr, tt, am, no, z32, z32⟩ from rfl]
 rw [fill_step (v := .agg (cellsB ky)) (o := 5) (n := 32) rfl (Arr_B h1).1 (by rw [hs _ rfl rfl]; decide)]
 rw [show (splice (msgA ⟨kd, fr, tt, am, no, z32, z32⟩).toList 5 (Value.agg (cellsB ky)).cells.toList).toArray = msgA ⟨kd, fr, tt, am, no, ky, z32⟩ from spl5 (by rw [vB_len]; exact (vB_len ky).symm ▸ h1.symm)]
 rw [fill_step (v := .agg (cellsB nx)) (o := 37) (n := 32) rfl (Arr_B h2).1 (by rw [hs _ h1 rfl]; decide)]
 rw [show (splice (msgA ⟨kd, fr, tt, am, no, ky, z32⟩).toList 37 (Value.agg (cellsB nx)).cells.toList).toArray = msgA ⟨kd, fr, tt, am, no, ky, nx⟩ from spl37 (by rw [vB_len]; exact h1) (by rw [vB_len]; exact (vB_len nx).symm ▸ h2.symm)]
 rfl
theorem yields_build {P : Program} {ops : Array Oper} {S : World → Prop} {o : Oper} {a : Act} (hw : Region.wanted o (yielded ops a.tmps) = true) (t : TypeId) (parts : List (Nat × Operand)) (ho : o.op = .build t parts.toArray) (ps : List (Nat × Value)) (hps : parts.map (fun x => (x.1, a.eval x.2)) = ps) (cells : Array Value) (hf : P.built t ps = some cells) :
 YieldsIf P ops S o (.agg cells) a := by
 refine Or.inl ⟨hw, fun w _ => ?_⟩
 rw [← hps] at hf
 unfold execOp
 simp only [ho, Sem.run_bind]
 rw [run_build w t _ cells (by simpa using hf)]
 rfl
def fieldsOfM (b : List Int) : MsgI := ⟨((wordsAll 13 b).getD 0 0 : Nat), ((wordsAll 13 b).getD 1 0 : Nat), ((wordsAll 13 b).getD 2 0 : Nat), ((wordsAll 13 b).getD 3 0 : Nat), ((wordsAll 13 b).getD 4 0 : Nat), (b.drop 40).take 32, (b.drop 72).take 32⟩
def readM (b : List Int) : MsgI × Int :=
 if b.length < 104 then (zeroM, 7) else if 104 < b.length then (zeroM, 8) else if 3 < (fieldsOfM b).kd then (zeroM, 8) else if mayM (fieldsOfM b) then (fieldsOfM b, 0) else (zeroM, 8)
theorem thirteen {l : List Nat} (h : l.length = 13) : ∃ a0 a1 a2 a3 a4 a5 a6 a7 a8 a9 a10 a11 a12, l = [a0, a1, a2, a3, a4, a5, a6, a7, a8, a9, a10, a11, a12] := by
 match l, h with
 | [a0, a1, a2, a3, a4, a5, a6, a7, a8, a9, a10, a11, a12], _ => exact ⟨a0, a1, a2, a3, a4, a5, a6, a7, a8, a9, a10, a11, a12, rfl⟩
theorem wordsAll_shift (n m k : Nat) (b : List Int) : wordsAll n ((b.drop (8 * k)).take (8 * m)) = ((wordsAll (k + m) b).drop k).take n ∨ m < n := by
 by_cases h : n ≤ m
 ·left
  refine List.ext_getElem (by simp [wordsAll]; omega) fun j h1 h2 => ?_
  have hj : j < n := by simpa [wordsAll] using h1
  simp only [wordsAll, List.getElem_map, List.getElem_range, List.getElem_take, List.getElem_drop]
  congr 1
  rw [List.drop_take, List.drop_drop, List.take_take, Nat.min_eq_left (by omega), show 8 * k + 8 * j = 8 * (k + j) by omega]
 ·right; omega
theorem bytes_key {b : List Int} (hb : ∀ x ∈ b, 0 ≤ x ∧ x ≤ 255) (hl : b.length = 104) : bytesOf (((wordsAll 13 b).drop 5).take 4) = (b.drop 40).take 32 ∧ bytesOf (((wordsAll 13 b).drop 9).take 4) = (b.drop 72).take 32 := by
 have h1 := (wordsAll_shift 4 8 5 b).resolve_right (by omega)
 have h2 := (wordsAll_shift 4 4 9 b).resolve_right (by omega)
 have h3 := (wordsAll_shift 4 4 5 b).resolve_right (by omega)
 have hp : ((wordsAll 9 b).drop 5).take 4 = ((wordsAll 13 b).drop 5).take 4 := by
  refine List.ext_getElem (by simp [wordsAll]) fun j h1 h2 => ?_
  simp [wordsAll]
 rw [hp] at h3
 constructor
 ·rw [← h3]
  exact bytesOf_four _ (fun x hx => hb x (List.mem_of_mem_drop (List.mem_of_mem_take hx))) (by simp [List.length_take]; omega)
 ·rw [← h2]
  exact bytesOf_four _ (fun x hx => hb x (List.mem_of_mem_drop (List.mem_of_mem_take hx))) (by simp [List.length_take]; omega)
theorem spl_all {cs seg : Array Value} (h : cs.toList.length = seg.toList.length) : (splice cs.toList 0 seg.toList).toArray = seg := by
 unfold splice
 rw [List.take_zero, List.nil_append, List.drop_of_length_le (by omega), List.append_nil]
theorem readM_len {b : List Int} (h : b.length = 104) : wordsM b = (wordsAll 13 b, 0) := by
 unfold wordsM; rw [if_neg (by omega), if_neg (by omega)]
theorem fieldsOfM_ok {b : List Int} (hb : ∀ x ∈ b, 0 ≤ x ∧ x ≤ 255) (hl : b.length = 104) (h : ¬ 3 < (fieldsOfM b).kd) : (fieldsOfM b).ok := by
 have hw := wordsAll_lt 13 b hb
 have hg (j : Nat) : (0 : Int) ≤ ((wordsAll 13 b).getD j 0 : Nat) ∧ (((wordsAll 13 b).getD j 0 : Nat) : Int) ≤ 18446744073709551615 := by
  refine ⟨by omega, ?_⟩
  rw [List.getD_eq_getElem?_getD]
  cases he : (wordsAll 13 b)[j]? with
  | none => simp
  | some x =>
   have := hw x (List.mem_of_getElem? he)
   simp only [Option.getD_some]
   omega
 have h0 := hg 0
 refine ⟨⟨h0.1, by have h' : ¬ 3 < (((wordsAll 13 b).getD 0 0 : Nat) : Int) := h; show (((wordsAll 13 b).getD 0 0 : Nat) : Int) ≤ 255; omega⟩, hg 1, hg 2, hg 3, hg 4, ⟨?_, ?_⟩, ⟨?_, ?_⟩⟩
 ·simp [fieldsOfM, List.length_take]; omega
 ·exact fun x hx => hb x (List.mem_of_mem_drop (List.mem_of_mem_take hx))
 ·simp [fieldsOfM, List.length_take]; omega
 ·exact fun x hx => hb x (List.mem_of_mem_drop (List.mem_of_mem_take hx))
theorem mread_any (b : List Int) (A : Option Addr) (c : Nat) (w : World) (hb : ∀ x ∈ b, 0 ≤ x ∧ x ≤ 255) (hC : Kd.C kB w A b.length b) (hc : b.length ≤ c) :
 Calls Try.prog 129 #[.slice A b.length c] w fun e w' => e = .returned (.tuple #[.agg (msgA (readM b).1), .int .i64 (readM b).2]) ∧ Below w.heap.size w w' := by
 have H0 := Aside0.mk (Own.start w)
 have R13 : Aside0 (Arr 13 (cellsN z13)) := ⟨cellsN_arr rfl⟩
 have RZ : Aside0 (Arr 69 (msgA zeroM)) := ⟨msgA_arr rfl rfl⟩
 have HWD := Aside0.mk (fun W (h : Below w.heap.size w W) => mwords_any b A c W hb (Kd.C_below hC h) hc)
 obtain ⟨r, hr⟩ : ∃ r, r = readM b := ⟨_, rfl⟩
 rw [← hr]
 by_cases h1 : b.length = 104
 case neg =>
  have hz : ∃ e : Int, wordsM b = (z13, e) ∧ r = (zeroM, e) ∧ (e == 0) = false := by
   rw [hr]
   unfold wordsM readM
   by_cases h2 : b.length < 104
   ·exact ⟨7, by rw [if_pos h2], by rw [if_pos h2], rfl⟩
   ·exact ⟨8, by rw [if_neg h2, if_pos (by omega)], by rw [if_neg h2, if_pos (by omega)], rfl⟩
  obtain ⟨e, hw, rfl, he⟩ := hz
  rw [hw] at HWD
  clear hr hw h1 hC hc hb
  generalize b.length = n at *
  have hbn : (e != 0) = true := by simp [bne, he]
  go_enter Try.func129, Try.ntmps129
  go_upto_if 13 with (first
   | fail
   | ((with_reducible refine Gd 2 ?_); refine OA H0 92 (msgA zeroM) 69 ?_; intro g2 w1 H1 B1)
   | (go_at_call 157; refine (HWD.out _ H1.out.below).mono ?_; rintro e w3 ⟨rfl, hB3⟩; have H3 := Aside0.mk (H1.out.step hB3); clear hB3)
   | ((with_reducible refine Gd 4 ?_); refine OA H3 194 (cellsN z13) 13 ?_; intro g4 w4 H4 B4)
   | ((with_reducible refine Gs 194 4 ?_); refine OS 4 10 H4 0 g4 194 (cellsN z13) 13 R13 R13 ?_; intro w5 H5)
   )
  go_wp2_with (first
   | fail
   | ((with_reducible refine Gd 14 ?_); refine OU 92 [] (msgA zeroM) rfl (builtM0) ?_)
   | ((with_reducible refine Gs 92 2 ?_); refine OS 2 14 H5 1 g2 92 (msgA zeroM) 69 RZ RZ ?_; intro w6 H6)
   )
  refine bodyPost_ret (own_resultV_t rfl _ H6.out 1 g2 _ rfl rfl _ Try.underlying92 rfl (sizeM_of (msgA_size rfl rfl)) _ rfl) rfl ?_
  exact ⟨rfl, H6.out.below⟩
 have HLN := Aside0.mk h1
 have HOK := Aside0.mk (fieldsOfM_ok hb h1)
 have HKY := Aside0.mk (bytes_key hb h1)
 have HWL := Aside0.mk (wordsAll_lt 13 b hb)
 have HFM : Aside0 (fieldsOfM b = ⟨((wordsAll 13 b).getD 0 0 : Nat), ((wordsAll 13 b).getD 1 0 : Nat), ((wordsAll 13 b).getD 2 0 : Nat), ((wordsAll 13 b).getD 3 0 : Nat), ((wordsAll 13 b).getD 4 0 : Nat), (b.drop 40).take 32, (b.drop 72).take 32⟩) := ⟨rfl⟩
 unfold readM at hr
 rw [if_neg (by omega), if_neg (by omega)] at hr
 rw [readM_len h1, h1] at HWD
 rw [h1]
 have HR := Aside0.mk hr
 have hwl : (wordsAll 13 b).length = 13 := by simp [wordsAll]
 clear hr hC hc hb h1
 generalize fieldsOfM b = m at *
 generalize (b.drop 40).take 32 = ky at *
 generalize (b.drop 72).take 32 = nx at *
 generalize wordsAll 13 b = ws at *
 obtain ⟨a0, a1, a2, a3, a4, a5, a6, a7, a8, a9, a10, a11, a12, rfl⟩ := thirteen hwl
 clear hwl HLN
 replace HFM : Aside0 (m = ⟨(a0 : Int), (a1 : Int), (a2 : Int), (a3 : Int), (a4 : Int), ky, nx⟩) := HFM
 replace HKY : Aside0 (bytesOf [a5, a6, a7, a8] = ky ∧ bytesOf [a9, a10, a11, a12] = nx) := HKY
 obtain rfl := HFM.out
 clear HFM
 have RW : Aside0 (Arr 13 (cellsN [a0, a1, a2, a3, a4, a5, a6, a7, a8, a9, a10, a11, a12])) := ⟨cellsN_arr rfl⟩
 have hu (x : Nat) (h : x ∈ [a0, a1, a2, a3, a4, a5, a6, a7, a8, a9, a10, a11, a12]) := HWL.out x h
 have HF1 : Aside0 (∀ W, Calls Try.prog 158 #[.agg #[.int .u64 (a5 : Int), .int .u64 (a6 : Int), .int .u64 (a7 : Int), .int .u64 (a8 : Int)]] W fun e w' => e = .returned (.agg (cellsB ky)) ∧ Below W.heap.size W w') := ⟨fun W => by
  have h := sfrom_any [a5, a6, a7, a8] rfl (fun x hx => hu x (by simp only [List.mem_cons, List.not_mem_nil, or_false] at hx ⊢; omega)) W
  rw [HKY.out.1] at h
  exact h⟩
 have HF2 : Aside0 (∀ W, Calls Try.prog 158 #[.agg #[.int .u64 (a9 : Int), .int .u64 (a10 : Int), .int .u64 (a11 : Int), .int .u64 (a12 : Int)]] W fun e w' => e = .returned (.agg (cellsB nx)) ∧ Below W.heap.size W w') := ⟨fun W => by
  have h := sfrom_any [a9, a10, a11, a12] rfl (fun x hx => hu x (by simp only [List.mem_cons, List.not_mem_nil, or_false] at hx ⊢; omega)) W
  rw [HKY.out.2] at h
  exact h⟩
 have ha0 := hu a0 (by simp)
 clear HWL HKY hu
 by_cases h3 : 3 < a0
 ·have hd : decide (3 < (a0 : Int)) = true := decide_eq_true (by omega)
  obtain rfl : r = (zeroM, 8) := by rw [HR.out, if_pos (show (3 : Int) < (a0 : Int) by omega)]
  clear HR HOK HF1 HF2
  go_enter Try.func129, Try.ntmps129
  go_upto_if 13 with (first
   | fail
   | ((with_reducible refine Gd 2 ?_); refine OA H0 92 (msgA zeroM) 69 ?_; intro g2 w1 H1 B1)
   | (go_at_call 157; refine (HWD.out _ H1.out.below).mono ?_; rintro e w3 ⟨rfl, hB3⟩; have H3 := Aside0.mk (H1.out.step hB3); clear hB3)
   | ((with_reducible refine Gd 4 ?_); refine OA H3 194 (cellsN z13) 13 ?_; intro g4 w4 H4 B4)
   | ((with_reducible refine Gs 194 4 ?_); refine OS 4 10 H4 0 g4 194 (cellsN [a0, a1, a2, a3, a4, a5, a6, a7, a8, a9, a10, a11, a12]) 13 R13 RW ?_; intro w5 H5)
   )
  have k0 : w5.cell? ⟨g4, 0, none⟩ = some (.int .u64 (a0 : Int)) := H5.out.cell 0 rfl 0 rfl
  go_wp2_with (first
   | fail
   | ((with_reducible refine Gd 19 ?_); refine OU 92 [] (msgA zeroM) rfl (builtM0) ?_)
   | ((with_reducible refine Gs 92 2 ?_); refine OS 2 19 H5 1 g2 92 (msgA zeroM) 69 RZ RZ ?_; intro w6 H6)
   )
  refine bodyPost_ret (own_resultV_t rfl _ H6.out 1 g2 _ rfl rfl _ Try.underlying92 rfl (sizeM_of (msgA_size rfl rfl)) _ rfl) rfl ?_
  exact ⟨rfl, H6.out.below⟩
 have hd : decide (3 < (a0 : Int)) = false := decide_eq_false (by omega)
 rw [if_neg (show ¬ (3 : Int) < (a0 : Int) by omega)] at HR
 have hok := HOK.out (show ¬ (3 : Int) < (a0 : Int) by omega)
 have HOKM := Aside0.mk hok
 have RK : Aside0 (ky.length = 32) := ⟨hok.ky.1⟩
 have RN : Aside0 (nx.length = 32) := ⟨hok.nx.1⟩
 have RM : Aside0 (Arr 69 (msgA ⟨(a0 : Int), (a1 : Int), (a2 : Int), (a3 : Int), (a4 : Int), ky, nx⟩)) := ⟨msgA_arr hok.ky.1 hok.nx.1⟩
 have RM1 : Aside0 (∀ v ∈ (msgA ⟨(a0 : Int), (a1 : Int), (a2 : Int), (a3 : Int), (a4 : Int), ky, nx⟩).toList, v.oneCell' = true) := ⟨fun v hv => Array.all_eq_true_iff_forall_mem.1 RM.out.2 v (by simpa using hv)⟩
 clear hok HOK
 have hcv : IntKind.u8.wrap (a0 : Int) = (a0 : Int) := by rw [IntKind.wrap_u8]; omega
 go_enter Try.func129, Try.ntmps129
 go_upto_if 13 with (first
  | fail
  | ((with_reducible refine Gd 2 ?_); refine OA H0 92 (msgA zeroM) 69 ?_; intro g2 w1 H1 B1)
  | (go_at_call 157; refine (HWD.out _ H1.out.below).mono ?_; rintro e w3 ⟨rfl, hB3⟩; have H3 := Aside0.mk (H1.out.step hB3); clear hB3)
  | ((with_reducible refine Gd 4 ?_); refine OA H3 194 (cellsN z13) 13 ?_; intro g4 w4 H4 B4)
  | ((with_reducible refine Gs 194 4 ?_); refine OS 4 10 H4 0 g4 194 (cellsN [a0, a1, a2, a3, a4, a5, a6, a7, a8, a9, a10, a11, a12]) 13 R13 RW ?_; intro w5 H5)
  )
 have k0 : w5.cell? ⟨g4, 0, none⟩ = some (.int .u64 (a0 : Int)) := H5.out.cell 0 rfl 0 rfl
 go_upto_region 6 with fail
 clear H0 H1 H3 H4 HWD B1 B4
 go_cut [6] (fun v6 wc => ∃ g6 : Nat, v6 = .pointer (some ⟨g6, 0, none⟩) ∧ Aside0 (Own w.heap.size w wc [.blk g6 (msgA ⟨(a0 : Int), (a1 : Int), (a2 : Int), (a3 : Int), (a4 : Int), ky, nx⟩) 92, .blk g4 (cellsN [a0, a1, a2, a3, a4, a5, a6, a7, a8, a9, a10, a11, a12]) 194, .blk g2 (msgA zeroM) 92]))
 case first =>
  have hA5 : ∀ W : World, (Instr.arrayAt 198 (.slice (some ⟨g4, 5, none⟩) 4 8)).run Try.prog W = .ok (.pointer (some ⟨g4, 5, none⟩)) W := fun W => run_arrayAt (e := 23) (n := 4) (h := Try.underlying198) (hn := Nat.le_refl _) ..
  have hA9 : ∀ W : World, (Instr.arrayAt 198 (.slice (some ⟨g4, 9, none⟩) 4 4)).run Try.prog W = .ok (.pointer (some ⟨g4, 9, none⟩)) W := fun W => run_arrayAt (e := 23) (n := 4) (h := Try.underlying198) (hn := Nat.le_refl _) ..
  refine St (fun W => W.cell? ⟨g4, 0, none⟩ = some (.int .u64 (a0 : Int)) ∧ W.cell? ⟨g4, 1, none⟩ = some (.int .u64 (a1 : Int)) ∧ W.cell? ⟨g4, 2, none⟩ = some (.int .u64 (a2 : Int)) ∧ W.cell? ⟨g4, 3, none⟩ = some (.int .u64 (a3 : Int)) ∧ W.cell? ⟨g4, 4, none⟩ = some (.int .u64 (a4 : Int)) ∧ W.cell? ⟨g4, 5, none⟩ = some (.int .u64 (a5 : Int)) ∧ W.cell? ⟨g4, 6, none⟩ = some (.int .u64 (a6 : Int)) ∧ W.cell? ⟨g4, 7, none⟩ = some (.int .u64 (a7 : Int)) ∧ W.cell? ⟨g4, 8, none⟩ = some (.int .u64 (a8 : Int)) ∧ W.cell? ⟨g4, 9, none⟩ = some (.int .u64 (a9 : Int)) ∧ W.cell? ⟨g4, 10, none⟩ = some (.int .u64 (a10 : Int)) ∧ W.cell? ⟨g4, 11, none⟩ = some (.int .u64 (a11 : Int)) ∧ W.cell? ⟨g4, 12, none⟩ = some (.int .u64 (a12 : Int))) (fun hHeld => ?_) (by exact ⟨H5.out.drew.cell 0 rfl 0 rfl, H5.out.drew.cell 0 rfl 1 rfl, H5.out.drew.cell 0 rfl 2 rfl, H5.out.drew.cell 0 rfl 3 rfl, H5.out.drew.cell 0 rfl 4 rfl, H5.out.drew.cell 0 rfl 5 rfl, H5.out.drew.cell 0 rfl 6 rfl, H5.out.drew.cell 0 rfl 7 rfl, H5.out.drew.cell 0 rfl 8 rfl, H5.out.drew.cell 0 rfl 9 rfl, H5.out.drew.cell 0 rfl 10 rfl, H5.out.drew.cell 0 rfl 11 rfl, H5.out.drew.cell 0 rfl 12 rfl⟩)
  refine Tk 0 ?_
  refine Tk 1 ?_
  refine Tk 2 ?_
  refine Tk 3 ?_
  refine Tk 4 ?_
  refine Tk 5 ?_
  refine Tk 6 ?_
  refine Tk 7 ?_
  refine Tk 8 ?_
  refine Tk 9 ?_
  refine Tk 10 ?_
  refine Tk 11 ?_
  refine Tk 12 ?_
  refine Tk 13 ?_
  refine Tk 15 ?_
  refine Tk 16 ?_
  refine Tk 17 ?_
  have H6 := Aside0.mk H5.out.drew
  clear k0 hA5 hA9
  generalize w5.drew = wd at *
  refine Rd2 14 20 (fun K hK => ?_) fun K hK => ?_
  ·
   go_simp
   refine (HF1.out _).mono ?_
   rintro e w7 ⟨rfl, hBx⟩
   have H7 := Aside0.mk (H6.out.step hBx)
   clear hBx
   go_wp2_with fail
   refine Ag hK (fun hHeld => ?_) (by exact ⟨H7.out.cell 0 rfl 0 rfl, H7.out.cell 0 rfl 1 rfl, H7.out.cell 0 rfl 2 rfl, H7.out.cell 0 rfl 3 rfl, H7.out.cell 0 rfl 4 rfl, H7.out.cell 0 rfl 5 rfl, H7.out.cell 0 rfl 6 rfl, H7.out.cell 0 rfl 7 rfl, H7.out.cell 0 rfl 8 rfl, H7.out.cell 0 rfl 9 rfl, H7.out.cell 0 rfl 10 rfl, H7.out.cell 0 rfl 11 rfl, H7.out.cell 0 rfl 12 rfl⟩)
   clear hK K
   refine Rd2 18 20 (fun K hK => ?_) fun K hK => ?_
   ·
    go_simp
    refine (HF2.out _).mono ?_
    rintro e w8 ⟨rfl, hBx⟩
    have H8 := Aside0.mk (H7.out.step hBx)
    clear hBx
    go_wp2_with fail
    refine Ag hK (fun hHeld => ?_) (by exact ⟨H8.out.cell 0 rfl 0 rfl, H8.out.cell 0 rfl 1 rfl, H8.out.cell 0 rfl 2 rfl, H8.out.cell 0 rfl 3 rfl, H8.out.cell 0 rfl 4 rfl, H8.out.cell 0 rfl 5 rfl, H8.out.cell 0 rfl 6 rfl, H8.out.cell 0 rfl 7 rfl, H8.out.cell 0 rfl 8 rfl, H8.out.cell 0 rfl 9 rfl, H8.out.cell 0 rfl 10 rfl, H8.out.cell 0 rfl 11 rfl, H8.out.cell 0 rfl 12 rfl⟩)
    clear hK K
    refine Ty 19 (.agg (msgA ⟨(a0 : Int), (a1 : Int), (a2 : Int), (a3 : Int), (a4 : Int), ky, nx⟩)) ?_ ?_
    ·exact yields_build (by rfl) 92 [(0, .tmp 22), (1, .tmp 24), (2, .tmp 26), (3, .tmp 28), (4, .tmp 30), (5, .tmp 34), (6, .tmp 38)] (by rfl) _ (by rfl) _ (builtM (a0 : Int) (a1 : Int) (a2 : Int) (a3 : Int) (a4 : Int) ky nx RK.out RN.out)
    refine Rd 20 fun K hK => ?_
    refine own_alloc_step H8.out (by rfl) (N := 6) rfl (t := 92) rfl (msgA zeroM) 69 (by kernel_rfl) ?_; intro g6 w9 H9; replace H9 := Aside0.mk H9
    refine Ag hK (fun hHeld => ?_) (by exact ⟨H9.out.cell 1 rfl 0 rfl, H9.out.cell 1 rfl 1 rfl, H9.out.cell 1 rfl 2 rfl, H9.out.cell 1 rfl 3 rfl, H9.out.cell 1 rfl 4 rfl, H9.out.cell 1 rfl 5 rfl, H9.out.cell 1 rfl 6 rfl, H9.out.cell 1 rfl 7 rfl, H9.out.cell 1 rfl 8 rfl, H9.out.cell 1 rfl 9 rfl, H9.out.cell 1 rfl 10 rfl, H9.out.cell 1 rfl 11 rfl, H9.out.cell 1 rfl 12 rfl⟩)
    clear hK K
    refine Rd 21 fun K hK => ?_
    refine own_st_step H9.out 0 g6 _ (msgA ⟨(a0 : Int), (a1 : Int), (a2 : Int), (a3 : Int), (a4 : Int), ky, nx⟩) 92 (by rfl) (by rfl) 92 (.tmp 6) _ rfl 0 ((msgA ⟨(a0 : Int), (a1 : Int), (a2 : Int), (a3 : Int), (a4 : Int), ky, nx⟩).toList) (.agg (msgA ⟨(a0 : Int), (a1 : Int), (a2 : Int), (a3 : Int), (a4 : Int), ky, nx⟩)) (by rfl) (by rfl) (by rfl) (by rw [Array.length_toList, RM.out.1, RZ.out.1]; decide) (by rw [Array.length_toList, RM.out.1]; exact sizeM) (by exact RM1.out) (by exact spl_all (by rw [Array.length_toList, Array.length_toList, RM.out.1, RZ.out.1])) ?_; intro wz HZ; replace HZ := Aside0.mk HZ
    refine Ag hK (fun hHeld => ?_) (by exact ⟨HZ.out.cell 1 rfl 0 rfl, HZ.out.cell 1 rfl 1 rfl, HZ.out.cell 1 rfl 2 rfl, HZ.out.cell 1 rfl 3 rfl, HZ.out.cell 1 rfl 4 rfl, HZ.out.cell 1 rfl 5 rfl, HZ.out.cell 1 rfl 6 rfl, HZ.out.cell 1 rfl 7 rfl, HZ.out.cell 1 rfl 8 rfl, HZ.out.cell 1 rfl 9 rfl, HZ.out.cell 1 rfl 10 rfl, HZ.out.cell 1 rfl 11 rfl, HZ.out.cell 1 rfl 12 rfl⟩)
    clear hK K
    refine Dn ?_
    go_wp2_with fail
    go_meet
    exact ⟨g6, rfl, HZ⟩
   ·
    refine own_alloc_step H7.out (by rfl) (N := 6) rfl (t := 92) rfl (msgA zeroM) 69 (by kernel_rfl) ?_; intro g6 w8 H8; replace H8 := Aside0.mk H8
    refine Ag hK (fun hHeld => ?_) (by exact ⟨H8.out.cell 1 rfl 0 rfl, H8.out.cell 1 rfl 1 rfl, H8.out.cell 1 rfl 2 rfl, H8.out.cell 1 rfl 3 rfl, H8.out.cell 1 rfl 4 rfl, H8.out.cell 1 rfl 5 rfl, H8.out.cell 1 rfl 6 rfl, H8.out.cell 1 rfl 7 rfl, H8.out.cell 1 rfl 8 rfl, H8.out.cell 1 rfl 9 rfl, H8.out.cell 1 rfl 10 rfl, H8.out.cell 1 rfl 11 rfl, H8.out.cell 1 rfl 12 rfl⟩)
    clear hK K
    refine Rd 18 fun K hK => ?_
    go_simp
    refine (HF2.out _).mono ?_
    rintro e w9 ⟨rfl, hBx⟩
    have H9 := Aside0.mk (H8.out.step hBx)
    clear hBx
    go_wp2_with fail
    refine Ag hK (fun hHeld => ?_) (by exact ⟨H9.out.cell 1 rfl 0 rfl, H9.out.cell 1 rfl 1 rfl, H9.out.cell 1 rfl 2 rfl, H9.out.cell 1 rfl 3 rfl, H9.out.cell 1 rfl 4 rfl, H9.out.cell 1 rfl 5 rfl, H9.out.cell 1 rfl 6 rfl, H9.out.cell 1 rfl 7 rfl, H9.out.cell 1 rfl 8 rfl, H9.out.cell 1 rfl 9 rfl, H9.out.cell 1 rfl 10 rfl, H9.out.cell 1 rfl 11 rfl, H9.out.cell 1 rfl 12 rfl⟩)
    clear hK K
    refine Ty 19 (.agg (msgA ⟨(a0 : Int), (a1 : Int), (a2 : Int), (a3 : Int), (a4 : Int), ky, nx⟩)) ?_ ?_
    ·exact yields_build (by rfl) 92 [(0, .tmp 22), (1, .tmp 24), (2, .tmp 26), (3, .tmp 28), (4, .tmp 30), (5, .tmp 34), (6, .tmp 38)] (by rfl) _ (by rfl) _ (builtM (a0 : Int) (a1 : Int) (a2 : Int) (a3 : Int) (a4 : Int) ky nx RK.out RN.out)
    refine Rd 21 fun K hK => ?_
    refine own_st_step H9.out 0 g6 _ (msgA ⟨(a0 : Int), (a1 : Int), (a2 : Int), (a3 : Int), (a4 : Int), ky, nx⟩) 92 (by rfl) (by rfl) 92 (.tmp 6) _ rfl 0 ((msgA ⟨(a0 : Int), (a1 : Int), (a2 : Int), (a3 : Int), (a4 : Int), ky, nx⟩).toList) (.agg (msgA ⟨(a0 : Int), (a1 : Int), (a2 : Int), (a3 : Int), (a4 : Int), ky, nx⟩)) (by rfl) (by rfl) (by rfl) (by rw [Array.length_toList, RM.out.1, RZ.out.1]; decide) (by rw [Array.length_toList, RM.out.1]; exact sizeM) (by exact RM1.out) (by exact spl_all (by rw [Array.length_toList, Array.length_toList, RM.out.1, RZ.out.1])) ?_; intro wz HZ; replace HZ := Aside0.mk HZ
    refine Ag hK (fun hHeld => ?_) (by exact ⟨HZ.out.cell 1 rfl 0 rfl, HZ.out.cell 1 rfl 1 rfl, HZ.out.cell 1 rfl 2 rfl, HZ.out.cell 1 rfl 3 rfl, HZ.out.cell 1 rfl 4 rfl, HZ.out.cell 1 rfl 5 rfl, HZ.out.cell 1 rfl 6 rfl, HZ.out.cell 1 rfl 7 rfl, HZ.out.cell 1 rfl 8 rfl, HZ.out.cell 1 rfl 9 rfl, HZ.out.cell 1 rfl 10 rfl, HZ.out.cell 1 rfl 11 rfl, HZ.out.cell 1 rfl 12 rfl⟩)
    clear hK K
    refine Dn ?_
    go_wp2_with fail
    go_meet
    exact ⟨g6, rfl, HZ⟩
  ·
   refine own_alloc_step H6.out (by rfl) (N := 6) rfl (t := 92) rfl (msgA zeroM) 69 (by kernel_rfl) ?_; intro g6 w7 H7; replace H7 := Aside0.mk H7
   refine Ag hK (fun hHeld => ?_) (by exact ⟨H7.out.cell 1 rfl 0 rfl, H7.out.cell 1 rfl 1 rfl, H7.out.cell 1 rfl 2 rfl, H7.out.cell 1 rfl 3 rfl, H7.out.cell 1 rfl 4 rfl, H7.out.cell 1 rfl 5 rfl, H7.out.cell 1 rfl 6 rfl, H7.out.cell 1 rfl 7 rfl, H7.out.cell 1 rfl 8 rfl, H7.out.cell 1 rfl 9 rfl, H7.out.cell 1 rfl 10 rfl, H7.out.cell 1 rfl 11 rfl, H7.out.cell 1 rfl 12 rfl⟩)
   clear hK K
   refine Rd 14 fun K hK => ?_
   go_simp
   refine (HF1.out _).mono ?_
   rintro e w8 ⟨rfl, hBx⟩
   have H8 := Aside0.mk (H7.out.step hBx)
   clear hBx
   go_wp2_with fail
   refine Ag hK (fun hHeld => ?_) (by exact ⟨H8.out.cell 1 rfl 0 rfl, H8.out.cell 1 rfl 1 rfl, H8.out.cell 1 rfl 2 rfl, H8.out.cell 1 rfl 3 rfl, H8.out.cell 1 rfl 4 rfl, H8.out.cell 1 rfl 5 rfl, H8.out.cell 1 rfl 6 rfl, H8.out.cell 1 rfl 7 rfl, H8.out.cell 1 rfl 8 rfl, H8.out.cell 1 rfl 9 rfl, H8.out.cell 1 rfl 10 rfl, H8.out.cell 1 rfl 11 rfl, H8.out.cell 1 rfl 12 rfl⟩)
   clear hK K
   refine Rd 18 fun K hK => ?_
   go_simp
   refine (HF2.out _).mono ?_
   rintro e w9 ⟨rfl, hBx⟩
   have H9 := Aside0.mk (H8.out.step hBx)
   clear hBx
   go_wp2_with fail
   refine Ag hK (fun hHeld => ?_) (by exact ⟨H9.out.cell 1 rfl 0 rfl, H9.out.cell 1 rfl 1 rfl, H9.out.cell 1 rfl 2 rfl, H9.out.cell 1 rfl 3 rfl, H9.out.cell 1 rfl 4 rfl, H9.out.cell 1 rfl 5 rfl, H9.out.cell 1 rfl 6 rfl, H9.out.cell 1 rfl 7 rfl, H9.out.cell 1 rfl 8 rfl, H9.out.cell 1 rfl 9 rfl, H9.out.cell 1 rfl 10 rfl, H9.out.cell 1 rfl 11 rfl, H9.out.cell 1 rfl 12 rfl⟩)
   clear hK K
   refine Ty 19 (.agg (msgA ⟨(a0 : Int), (a1 : Int), (a2 : Int), (a3 : Int), (a4 : Int), ky, nx⟩)) ?_ ?_
   ·exact yields_build (by rfl) 92 [(0, .tmp 22), (1, .tmp 24), (2, .tmp 26), (3, .tmp 28), (4, .tmp 30), (5, .tmp 34), (6, .tmp 38)] (by rfl) _ (by rfl) _ (builtM (a0 : Int) (a1 : Int) (a2 : Int) (a3 : Int) (a4 : Int) ky nx RK.out RN.out)
   refine Rd 21 fun K hK => ?_
   refine own_st_step H9.out 0 g6 _ (msgA ⟨(a0 : Int), (a1 : Int), (a2 : Int), (a3 : Int), (a4 : Int), ky, nx⟩) 92 (by rfl) (by rfl) 92 (.tmp 6) _ rfl 0 ((msgA ⟨(a0 : Int), (a1 : Int), (a2 : Int), (a3 : Int), (a4 : Int), ky, nx⟩).toList) (.agg (msgA ⟨(a0 : Int), (a1 : Int), (a2 : Int), (a3 : Int), (a4 : Int), ky, nx⟩)) (by rfl) (by rfl) (by rfl) (by rw [Array.length_toList, RM.out.1, RZ.out.1]; decide) (by rw [Array.length_toList, RM.out.1]; exact sizeM) (by exact RM1.out) (by exact spl_all (by rw [Array.length_toList, Array.length_toList, RM.out.1, RZ.out.1])) ?_; intro wz HZ; replace HZ := Aside0.mk HZ
   refine Ag hK (fun hHeld => ?_) (by exact ⟨HZ.out.cell 1 rfl 0 rfl, HZ.out.cell 1 rfl 1 rfl, HZ.out.cell 1 rfl 2 rfl, HZ.out.cell 1 rfl 3 rfl, HZ.out.cell 1 rfl 4 rfl, HZ.out.cell 1 rfl 5 rfl, HZ.out.cell 1 rfl 6 rfl, HZ.out.cell 1 rfl 7 rfl, HZ.out.cell 1 rfl 8 rfl, HZ.out.cell 1 rfl 9 rfl, HZ.out.cell 1 rfl 10 rfl, HZ.out.cell 1 rfl 11 rfl, HZ.out.cell 1 rfl 12 rfl⟩)
   clear hK K
   refine Dn ?_
   go_wp2_with fail
   go_meet
   exact ⟨g6, rfl, HZ⟩
 case rest =>
  obtain ⟨g6, rfl, HC0⟩ := hcut
  have HMY := Aside0.mk (fun W => mmay_any ⟨(a0 : Int), (a1 : Int), (a2 : Int), (a3 : Int), (a4 : Int), ky, nx⟩ HOKM.out W)
  clear H5 HF1 HF2 HOKM RK RN RM1 hd hcv k0
  cases hmay : mayM ⟨(a0 : Int), (a1 : Int), (a2 : Int), (a3 : Int), (a4 : Int), ky, nx⟩
  ·obtain rfl : r = (zeroM, 8) := by rw [HR.out, hmay]; rfl
   clear HR
   rw [hmay] at HMY
   clear hmay
   go_wp2_with (first
    | fail
    | ((with_reducible refine Gd 40 ?_); refine OV 6 HC0 0 g6 92 rfl Try.underlying92 (sizeM_of RM.out.1) ?_)
    | (go_at_call 136; refine (HMY.out _).mono ?_; rintro e w8 ⟨rfl, hB8⟩; have H8 := Aside0.mk (HC0.out.step hB8); clear hB8)
    | ((with_reducible refine Gd 43 ?_); refine OU 92 [] (msgA zeroM) rfl (builtM0) ?_)
    | ((with_reducible refine Gs 92 2 ?_); refine OS 2 43 H8 2 g2 92 (msgA zeroM) 69 RZ RZ ?_; intro w9 H9)
    )
   refine bodyPost_ret (own_resultV_t rfl _ H9.out 2 g2 _ rfl rfl _ Try.underlying92 rfl (sizeM_of (msgA_size rfl rfl)) _ rfl) rfl ?_
   exact ⟨rfl, H9.out.below⟩
  ·obtain rfl : r = (⟨(a0 : Int), (a1 : Int), (a2 : Int), (a3 : Int), (a4 : Int), ky, nx⟩, 0) := by rw [HR.out, hmay]; rfl
   clear HR
   rw [hmay] at HMY
   clear hmay
   go_wp2_with (first
    | fail
    | ((with_reducible refine Gd 40 ?_); refine OV 6 HC0 0 g6 92 rfl Try.underlying92 (sizeM_of RM.out.1) ?_)
    | (go_at_call 136; refine (HMY.out _).mono ?_; rintro e w8 ⟨rfl, hB8⟩; have H8 := Aside0.mk (HC0.out.step hB8); clear hB8)
    | ((with_reducible refine Gd 44 ?_); refine OV 6 H8 0 g6 92 rfl Try.underlying92 (sizeM_of RM.out.1) ?_)
    | ((with_reducible refine Gs 92 2 ?_); refine OS 2 44 H8 2 g2 92 (msgA ⟨(a0 : Int), (a1 : Int), (a2 : Int), (a3 : Int), (a4 : Int), ky, nx⟩) 69 RZ RM ?_; intro w9 H9)
    )
   refine bodyPost_ret (own_resultV_t rfl _ H9.out 2 g2 _ rfl rfl _ Try.underlying92 rfl (sizeM_of RM.out.1) _ rfl) rfl ?_
   exact ⟨rfl, H9.out.below⟩
def depB (b : List Int) : Bool := decide ((readM b).2 = 0) && decide ((readM b).1.kd = 1)
theorem readM_size (b : List Int) (hb : ∀ x ∈ b, 0 ≤ x ∧ x ≤ 255) : (readM b).1.ky.length = 32 ∧ (readM b).1.nx.length = 32 := by
 unfold readM
 split
 ·exact ⟨rfl, rfl⟩
 split
 ·exact ⟨rfl, rfl⟩
 have h : (fieldsOfM b).ky.length = 32 ∧ (fieldsOfM b).nx.length = 32 := by constructor <;> (simp [fieldsOfM, List.length_take]; omega)
 split
 ·exact ⟨rfl, rfl⟩
 split
 ·exact h
 ·exact ⟨rfl, rfl⟩
theorem deposit_any (b : List Int) (A : Option Addr) (c : Nat) (w : World) (hb : ∀ x ∈ b, 0 ≤ x ∧ x ≤ 255) (hC : Kd.C kB w A b.length b) (hc : b.length ≤ c) :
 Calls Try.prog 83 #[.slice A b.length c] w fun e w' => e = .returned (.bool (depB b)) ∧ Below w.heap.size w w' := by
 have H0 := Aside0.mk (Own.start w)
 have RZ : Aside0 (Arr 69 (msgA zeroM)) := ⟨msgA_arr rfl rfl⟩
 have HRD := Aside0.mk (fun W (h : Below w.heap.size w W) => mread_any b A c W hb (Kd.C_below hC h) hc)
 have hsz := readM_size b hb
 have RM : Aside0 (Arr 69 (msgA (readM b).1)) := ⟨msgA_arr hsz.1 hsz.2⟩
 obtain ⟨r, hr⟩ : ∃ r, r = depB b := ⟨_, rfl⟩
 rw [← hr]
 unfold depB at hr
 clear hC hc hb hsz
 generalize b.length = n at *
 generalize (readM b).2 = er at *
 generalize (readM b).1 = m at *
 obtain ⟨kd, fr, tt, am, no, ky, nx⟩ := m
 dsimp only at hr
 by_cases h0 : er = 0
 ·subst h0
  rw [decide_eq_true rfl, Bool.true_and] at hr
  have hk : (kd == 1) = r := by rw [hr]; rfl
  clear hr
  go_enter Try.func83, Try.ntmps83
  go_wp2_with (first
   | fail
   | (go_at_call 129; refine (HRD.out _ H0.out.below).mono ?_; rintro e w1 ⟨rfl, hB1⟩; have H1 := Aside0.mk (H0.out.step hB1); clear hB1)
   | ((with_reducible refine Gd 3 ?_); refine OA H1 92 (msgA zeroM) 69 ?_; intro g3 w2 H2 B2)
   | ((with_reducible refine Gs 92 3 ?_); refine OS 3 8 H2 0 g3 92 (msgA ⟨kd, fr, tt, am, no, ky, nx⟩) 69 RZ RM ?_; intro w3 H3)
   | ((with_reducible refine Gd 14 ?_); refine GD 13 90 H3 0 g3 0 (.int .u8 kd) Try.underlying90 ?_)
   )
  go_ret
  exact ⟨rfl, H3.out.below⟩
 ·have he : (er == 0) = false := beq_eq_false_iff_ne.2 h0
  obtain rfl : r = false := by rw [hr, decide_eq_false h0]; rfl
  clear hr h0
  go_enter Try.func83, Try.ntmps83
  go_wp2_with (first
   | fail
   | (go_at_call 129; refine (HRD.out _ H0.out.below).mono ?_; rintro e w1 ⟨rfl, hB1⟩; have H1 := Aside0.mk (H0.out.step hB1); clear hB1)
   | ((with_reducible refine Gd 3 ?_); refine OA H1 92 (msgA zeroM) 69 ?_; intro g3 w2 H2 B2)
   | ((with_reducible refine Gs 92 3 ?_); refine OS 3 8 H2 0 g3 92 (msgA ⟨kd, fr, tt, am, no, ky, nx⟩) 69 RZ RM ?_; intro w3 H3)
   )
  go_ret
  exact ⟨rfl, H3.out.below⟩
def enqI (x : Box) (block : Int) (m : List Int) : Box × Int := if sinceI x.q x.tk x.l block && decide (m.length ≤ 65536) && !depB m then queueI x block m else (zeroB, 2)
theorem sinceI_may {q : List SQ} {tk : Int} {l : List (List Int)} {block : Int} (h : sinceI q tk l block = true) : mayI q tk l = true ∧ 0 ≤ block := by
 unfold sinceI at h
 rw [Bool.and_eq_true, Bool.and_eq_true, decide_eq_true_eq] at h
 exact h.1
theorem enqueue_any (x : Box) (block : Int) (msg : List Int) (A1 A2 Am : Option Addr) (c1 c2 cm : Nat) (w : World) (hC1 : Kd.C kQ w A1 x.q.length x.q) (hc1 : x.q.length ≤ c1) (hC2 : Kd.C kL w A2 x.l.length x.l) (hc2 : x.l.length ≤ c2)
 (hC3 : Kd.C kB w Am msg.length msg) (hc3 : msg.length ≤ cm) (hb : ∀ y ∈ msg, 0 ≤ y ∧ y ≤ 255) :
 Calls Try.prog 34 #[.agg #[.slice A1 x.q.length c1, .int .i64 x.tk, .slice A2 x.l.length c2, .int .u64 x.nx], .int .i64 block, .slice Am msg.length cm] w (BoxPost w (enqI x block msg)) := by
 have HS := Aside0.mk (fun W (h : Below w.heap.size w W) => since_any x.q x.tk x.l x.nx block A1 A2 c1 c2 W (Kd.C_below hC1 h) hc1 (Kd.C_below hC2 h) hc2)
 have HSH := Aside0.mk (fun W (h : Below w.heap.size w W) => short_any msg Am cm W (Kd.C_below hC3 h) hc3)
 have HD := Aside0.mk (fun W (h : Below w.heap.size w W) => deposit_any msg Am cm W hb (Kd.C_below hC3 h) hc3)
 have HQ := Aside0.mk (fun (W : World) (h : Below w.heap.size w W) (h1 : mayI x.q x.tk x.l = true) (h2 : msg.length ≤ 65536) => queue_any x block msg A1 A2 Am c1 c2 cm W (Kd.C_below hC1 h) hc1 (Kd.C_below hC2 h) hc2 (Kd.C_below hC3 h) hc3 (by omega) (by have := (mayI_len h1).2.1; omega) (fun d hd => by have := ((mayI_all h1).1 d hd).2; omega) (fun m hm => by have := (mayI_all h1).2 m hm; omega))
 have HSM := Aside0.mk (fun h : sinceI x.q x.tk x.l block = true => (sinceI_may h).1)
 have H0 := Aside0.mk (Own.start w)
 obtain ⟨r, hr⟩ : ∃ r, r = enqI x block msg := ⟨_, rfl⟩
 rw [← hr]
 unfold enqI at hr
 have HR := Aside0.mk hr
 have HL : Aside0 (decide (msg.length ≤ 65536) = true → msg.length ≤ 65536) := ⟨of_decide_eq_true⟩
 clear hr hC1 hC2 hC3 hc1 hc2 hc3 hb
 generalize hs1 : sinceI x.q x.tk x.l block = s1 at *
 generalize hs2 : decide (msg.length ≤ 65536) = s2 at *
 generalize hs3 : depB msg = s3 at *
 clear hs1 hs2 hs3
 have HQ2 := Aside0.mk (fun (W : World) (h : Below w.heap.size w W) (h1 : s1 = true) (h2 : s2 = true) => HQ.out W h (HSM.out h1) (HL.out h2))
 clear HQ HSM HL
 generalize queueI x block msg = qr at *
 obtain ⟨q, tk, l, nx⟩ := x
 dsimp only at *
 generalize q.length = n at *
 generalize l.length = m at *
 generalize msg.length = k at *
 cases s1
 ·
  obtain rfl : r = (zeroB, 2) := by rw [HR.out]; rfl
  clear HR
  have HA0 : Aside0 (Arr 4 #[.slice none 0 0, .int .i64 0, .slice none 0 0, .int .u64 0]) := ⟨rfl, by simp [Value.oneCell']⟩
  go_enter Try.func34, Try.ntmps34
  go_wp2_with (first
   | fail
   | ((with_reducible refine Gd 3 ?_); refine OB H0 73 #[.slice A1 n c1, .int .i64 tk, .slice A2 m c2, .int .u64 nx] ?_; intro g3 w1 H1 B1)
   | ((with_reducible refine Gd 6 ?_); refine OA H1 73 #[.slice none 0 0, .int .i64 0, .slice none 0 0, .int .u64 0] 4 ?_; intro g6 w2 H2 B2)
   | ((with_reducible refine Gd 8 ?_); refine OV 3 H2 1 g3 73 rfl Try.underlying73 (by kernel_rfl) ?_)
   | (go_at_call 81; refine (HS.out _ H2.out.below).mono ?_; rintro e w3 ⟨rfl, hB3⟩; have H3 := Aside0.mk (H2.out.step hB3); clear hB3)
   | (go_at_call 82; refine (HSH.out _ H3.out.below).mono ?_; rintro e w4 ⟨rfl, hB4⟩; have H4 := Aside0.mk (H3.out.step hB4); clear hB4)
   | (go_at_call 83; refine (HD.out _ H4.out.below).mono ?_; rintro e w5 ⟨rfl, hB5⟩; have H5 := Aside0.mk (H4.out.step hB5); clear hB5)
   | ((with_reducible refine Gs 73 6 ?_); refine OS 6 21 H3 0 g6 73 #[.slice none 0 0, .int .i64 0, .slice none 0 0, .int .u64 0] 4 HA0 HA0 ?_; intro w7 HG)
   | ((with_reducible refine Gd 22 ?_); refine OV 3 H5 1 g3 73 rfl Try.underlying73 (by kernel_rfl) ?_)
   | (go_at_call 84; refine (HQ2.out _ H5.out.below (by first | rfl | trivial) (by first | rfl | trivial)).mono ?_; rintro e w8 ⟨v1, v2, rfl, hO8⟩; have H8 := Aside0.mk (H5.out.call hO8); have HA8 : Aside0 (Arr 4 #[v1, .int .i64 qr.1.tk, v2, .int .u64 qr.1.nx]) := ⟨rfl, by obtain ⟨A, c, rfl, _⟩ := hO8.reads 0 rfl; obtain ⟨A', c', rfl, _⟩ := hO8.reads 1 rfl; simp [Value.oneCell']⟩; clear hO8)
   | ((with_reducible refine Gs 73 6 ?_); refine OS 6 26 H8 2 g6 73 #[v1, .int .i64 qr.1.tk, v2, .int .u64 qr.1.nx] 4 HA0 HA8 ?_; intro w9 H9)
   )
  refine bodyPost_ret (own_resultV_t rfl _ HG.out 0 g6 _ rfl rfl _ Try.underlying73 rfl (by kernel_rfl) _ rfl) rfl ?_
  exact ⟨_, _, rfl, ((((HG.out.erase 0).erase 0).null kL _).null kQ _)⟩
 cases s2
 ·
  obtain rfl : r = (zeroB, 2) := by rw [HR.out]; rfl
  clear HR
  have HA0 : Aside0 (Arr 4 #[.slice none 0 0, .int .i64 0, .slice none 0 0, .int .u64 0]) := ⟨rfl, by simp [Value.oneCell']⟩
  go_enter Try.func34, Try.ntmps34
  go_wp2_with (first
   | fail
   | ((with_reducible refine Gd 3 ?_); refine OB H0 73 #[.slice A1 n c1, .int .i64 tk, .slice A2 m c2, .int .u64 nx] ?_; intro g3 w1 H1 B1)
   | ((with_reducible refine Gd 6 ?_); refine OA H1 73 #[.slice none 0 0, .int .i64 0, .slice none 0 0, .int .u64 0] 4 ?_; intro g6 w2 H2 B2)
   | ((with_reducible refine Gd 8 ?_); refine OV 3 H2 1 g3 73 rfl Try.underlying73 (by kernel_rfl) ?_)
   | (go_at_call 81; refine (HS.out _ H2.out.below).mono ?_; rintro e w3 ⟨rfl, hB3⟩; have H3 := Aside0.mk (H2.out.step hB3); clear hB3)
   | (go_at_call 82; refine (HSH.out _ H3.out.below).mono ?_; rintro e w4 ⟨rfl, hB4⟩; have H4 := Aside0.mk (H3.out.step hB4); clear hB4)
   | (go_at_call 83; refine (HD.out _ H4.out.below).mono ?_; rintro e w5 ⟨rfl, hB5⟩; have H5 := Aside0.mk (H4.out.step hB5); clear hB5)
   | ((with_reducible refine Gs 73 6 ?_); refine OS 6 21 H4 0 g6 73 #[.slice none 0 0, .int .i64 0, .slice none 0 0, .int .u64 0] 4 HA0 HA0 ?_; intro w7 HG)
   | ((with_reducible refine Gd 22 ?_); refine OV 3 H5 1 g3 73 rfl Try.underlying73 (by kernel_rfl) ?_)
   | (go_at_call 84; refine (HQ2.out _ H5.out.below (by first | rfl | trivial) (by first | rfl | trivial)).mono ?_; rintro e w8 ⟨v1, v2, rfl, hO8⟩; have H8 := Aside0.mk (H5.out.call hO8); have HA8 : Aside0 (Arr 4 #[v1, .int .i64 qr.1.tk, v2, .int .u64 qr.1.nx]) := ⟨rfl, by obtain ⟨A, c, rfl, _⟩ := hO8.reads 0 rfl; obtain ⟨A', c', rfl, _⟩ := hO8.reads 1 rfl; simp [Value.oneCell']⟩; clear hO8)
   | ((with_reducible refine Gs 73 6 ?_); refine OS 6 26 H8 2 g6 73 #[v1, .int .i64 qr.1.tk, v2, .int .u64 qr.1.nx] 4 HA0 HA8 ?_; intro w9 H9)
   )
  refine bodyPost_ret (own_resultV_t rfl _ HG.out 0 g6 _ rfl rfl _ Try.underlying73 rfl (by kernel_rfl) _ rfl) rfl ?_
  exact ⟨_, _, rfl, ((((HG.out.erase 0).erase 0).null kL _).null kQ _)⟩
 cases s3
 case true =>
  obtain rfl : r = (zeroB, 2) := by rw [HR.out]; rfl
  clear HR
  have HA0 : Aside0 (Arr 4 #[.slice none 0 0, .int .i64 0, .slice none 0 0, .int .u64 0]) := ⟨rfl, by simp [Value.oneCell']⟩
  go_enter Try.func34, Try.ntmps34
  go_wp2_with (first
   | fail
   | ((with_reducible refine Gd 3 ?_); refine OB H0 73 #[.slice A1 n c1, .int .i64 tk, .slice A2 m c2, .int .u64 nx] ?_; intro g3 w1 H1 B1)
   | ((with_reducible refine Gd 6 ?_); refine OA H1 73 #[.slice none 0 0, .int .i64 0, .slice none 0 0, .int .u64 0] 4 ?_; intro g6 w2 H2 B2)
   | ((with_reducible refine Gd 8 ?_); refine OV 3 H2 1 g3 73 rfl Try.underlying73 (by kernel_rfl) ?_)
   | (go_at_call 81; refine (HS.out _ H2.out.below).mono ?_; rintro e w3 ⟨rfl, hB3⟩; have H3 := Aside0.mk (H2.out.step hB3); clear hB3)
   | (go_at_call 82; refine (HSH.out _ H3.out.below).mono ?_; rintro e w4 ⟨rfl, hB4⟩; have H4 := Aside0.mk (H3.out.step hB4); clear hB4)
   | (go_at_call 83; refine (HD.out _ H4.out.below).mono ?_; rintro e w5 ⟨rfl, hB5⟩; have H5 := Aside0.mk (H4.out.step hB5); clear hB5)
   | ((with_reducible refine Gs 73 6 ?_); refine OS 6 21 H5 0 g6 73 #[.slice none 0 0, .int .i64 0, .slice none 0 0, .int .u64 0] 4 HA0 HA0 ?_; intro w7 HG)
   | ((with_reducible refine Gd 22 ?_); refine OV 3 H5 1 g3 73 rfl Try.underlying73 (by kernel_rfl) ?_)
   | (go_at_call 84; refine (HQ2.out _ H5.out.below (by first | rfl | trivial) (by first | rfl | trivial)).mono ?_; rintro e w8 ⟨v1, v2, rfl, hO8⟩; have H8 := Aside0.mk (H5.out.call hO8); have HA8 : Aside0 (Arr 4 #[v1, .int .i64 qr.1.tk, v2, .int .u64 qr.1.nx]) := ⟨rfl, by obtain ⟨A, c, rfl, _⟩ := hO8.reads 0 rfl; obtain ⟨A', c', rfl, _⟩ := hO8.reads 1 rfl; simp [Value.oneCell']⟩; clear hO8)
   | ((with_reducible refine Gs 73 6 ?_); refine OS 6 26 H8 2 g6 73 #[v1, .int .i64 qr.1.tk, v2, .int .u64 qr.1.nx] 4 HA0 HA8 ?_; intro w9 H9)
   )
  refine bodyPost_ret (own_resultV_t rfl _ HG.out 0 g6 _ rfl rfl _ Try.underlying73 rfl (by kernel_rfl) _ rfl) rfl ?_
  exact ⟨_, _, rfl, ((((HG.out.erase 0).erase 0).null kL _).null kQ _)⟩
 obtain rfl : r = qr := by rw [HR.out]; rfl
 clear HR
 have HA0 : Aside0 (Arr 4 #[.slice none 0 0, .int .i64 0, .slice none 0 0, .int .u64 0]) := ⟨rfl, by simp [Value.oneCell']⟩
 go_enter Try.func34, Try.ntmps34
 go_wp2_with (first
  | fail
  | ((with_reducible refine Gd 3 ?_); refine OB H0 73 #[.slice A1 n c1, .int .i64 tk, .slice A2 m c2, .int .u64 nx] ?_; intro g3 w1 H1 B1)
  | ((with_reducible refine Gd 6 ?_); refine OA H1 73 #[.slice none 0 0, .int .i64 0, .slice none 0 0, .int .u64 0] 4 ?_; intro g6 w2 H2 B2)
  | ((with_reducible refine Gd 8 ?_); refine OV 3 H2 1 g3 73 rfl Try.underlying73 (by kernel_rfl) ?_)
  | (go_at_call 81; refine (HS.out _ H2.out.below).mono ?_; rintro e w3 ⟨rfl, hB3⟩; have H3 := Aside0.mk (H2.out.step hB3); clear hB3)
  | (go_at_call 82; refine (HSH.out _ H3.out.below).mono ?_; rintro e w4 ⟨rfl, hB4⟩; have H4 := Aside0.mk (H3.out.step hB4); clear hB4)
  | (go_at_call 83; refine (HD.out _ H4.out.below).mono ?_; rintro e w5 ⟨rfl, hB5⟩; have H5 := Aside0.mk (H4.out.step hB5); clear hB5)
  | ((with_reducible refine Gs 73 6 ?_); refine OS 6 21 H5 0 g6 73 #[.slice none 0 0, .int .i64 0, .slice none 0 0, .int .u64 0] 4 HA0 HA0 ?_; intro w7 HG)
  | ((with_reducible refine Gd 22 ?_); refine OV 3 H5 1 g3 73 rfl Try.underlying73 (by kernel_rfl) ?_)
  | (go_at_call 84; refine (HQ2.out _ H5.out.below (by first | rfl | trivial) (by first | rfl | trivial)).mono ?_; rintro e w8 ⟨v1, v2, rfl, hO8⟩; have H8 := Aside0.mk (H5.out.call hO8); have HA8 : Aside0 (Arr 4 #[v1, .int .i64 r.1.tk, v2, .int .u64 r.1.nx]) := ⟨rfl, by obtain ⟨A, c, rfl, _⟩ := hO8.reads 0 rfl; obtain ⟨A', c', rfl, _⟩ := hO8.reads 1 rfl; simp [Value.oneCell']⟩; clear hO8)
  | ((with_reducible refine Gs 73 6 ?_); refine OS 6 26 H8 2 g6 73 #[v1, .int .i64 r.1.tk, v2, .int .u64 r.1.nx] 4 HA0 HA8 ?_; intro w9 H9)
  )
 refine bodyPost_ret (own_resultV_t rfl _ H9.out 2 g6 _ rfl rfl _ Try.underlying73 rfl (by kernel_rfl) _ rfl) rfl ?_
 exact ⟨_, _, rfl, (H9.out.erase 2).erase 2⟩
theorem arr4_ {v : Value} {k : IntKind} {n : Int} {A : Option Addr} {c m : Nat} {x : Int} (h : v.oneCell' = true) : Arr 4 #[v, .int .i64 x, .slice A m c, .int k n] := ⟨rfl, by
 simp only [Array.all_eq_true_iff_forall_mem]
 intro y hy
 simp at hy
 rcases hy with rfl | rfl | rfl | rfl
 ·exact h
 ·rfl
 ·rfl
 ·rfl⟩
theorem reps_one {α : Type} {d : Kd α} {W : World} {S : Nat → Prop} {x : α} {cs : List Value} (h : d.M W 0 S x cs) : Reps (d.M W 0 S) d.sz [x] cs := by
 have hl := d.K_len (d.K_of_M h)
 refine ⟨by simp [hl], fun j p hj => ?_⟩
 cases j with
 | zero =>
  obtain rfl : x = p := by simpa using hj
  rw [Nat.zero_mul, List.drop_zero, List.take_of_length_le (by omega)]
  exact h
 | succ j => simp at hj
def anc1 : Box := ⟨[⟨3, [7]⟩], 0, [], 0⟩
theorem anc_enq : enqI zeroB 3 [7] = (anc1, 0) := by
 have h : depB [7] = false := rfl
 have h2 : sinceI zeroB.q zeroB.tk zeroB.l 3 = true := by decide
 unfold enqI
 rw [h, h2]
 rfl
theorem anc_t10 : tickI anc1 10 = (anc1, 0) := by
 have h : mayI anc1.q anc1.tk anc1.l = true := by decide
 unfold tickI
 rw [h]
 rfl
theorem anc_t11 : tickI anc1 11 = (⟨[⟨3, [7]⟩], 1, [[7]], 0⟩, 0) := by
 have h : mayI anc1.q anc1.tk anc1.l = true := by decide
 unfold tickI
 rw [h]
 rfl
theorem anchored20_any (w : World) : Calls Try.prog 33 #[] w fun e w' => e = .returned (.bool true) ∧ Below w.heap.size w w' := by
 have H0 := Aside0.mk (Own.start w)
 have HE : Aside0 (∀ (W : World) (A : Option Addr) (c : Nat), 1 ≤ c → Kd.C kB W A 1 [7] → Calls Try.prog 34 #[.agg #[.slice none 0 0, .int .i64 0, .slice none 0 0, .int .u64 0], .int .i64 3, .slice A 1 c] W fun e w' => ∃ A1 c1 A2 c2, e = .returned (.tuple #[.agg #[.slice A1 1 c1, .int .i64 0, .slice A2 0 c2, .int .u64 0], .int .i64 0]) ∧ 1 ≤ c1 ∧ Own W.heap.size W w' [.row kQ 78 (.slice A1 1 c1) anc1.q, .row kL 74 (.slice A2 0 c2) []]) := ⟨fun W A c hc hC => by
  have h := enqueue_any zeroB 3 [7] none none A 0 0 c W (Kd.C_nil _ _) (Nat.zero_le _) (Kd.C_nil _ _) (Nat.zero_le _) hC hc (by decide)
  rw [anc_enq] at h
  refine h.mono ?_
  rintro e w' ⟨v1, v2, rfl, hO⟩
  obtain ⟨A1, c1, rfl, h1, _⟩ := hO.reads 0 rfl
  obtain ⟨A2, c2, rfl, h2, _⟩ := hO.reads 1 rfl
  exact ⟨A1, c1, A2, c2, rfl, h1, hO⟩⟩
 have HT1 : Aside0 (∀ (W : World) (A1 A2 : Option Addr) (c1 c2 : Nat), 1 ≤ c1 → Kd.C kQ W A1 1 anc1.q → Kd.C kL W A2 0 ([] : List (List Int)) → Calls Try.prog 38 #[.agg #[.slice A1 1 c1, .int .i64 0, .slice A2 0 c2, .int .u64 0], .int .i64 10] W fun e w' => ∃ v1 A3 c3, e = .returned (.tuple #[.agg #[v1, .int .i64 0, .slice A3 0 c3, .int .u64 0], .int .i64 0]) ∧ v1.oneCell' = true ∧ Below W.heap.size W w') := ⟨fun W A1 A2 c1 c2 hc h1 h2 => by
  have h := tick_any anc1 10 A1 A2 c1 c2 W h1 hc h2 (Nat.zero_le _) (by decide) (by decide)
  rw [anc_t10] at h
  refine h.mono ?_
  rintro e w' ⟨v1, v2, rfl, hO⟩
  obtain ⟨A1, c1, rfl, h1, _⟩ := hO.reads 0 rfl
  obtain ⟨A2, c2, rfl, h2, _⟩ := hO.reads 1 rfl
  exact ⟨_, A2, c2, rfl, rfl, hO.below⟩⟩
 have HT2 : Aside0 (∀ (W : World) (A1 A2 : Option Addr) (c1 c2 : Nat), 1 ≤ c1 → Kd.C kQ W A1 1 anc1.q → Kd.C kL W A2 0 ([] : List (List Int)) → Calls Try.prog 38 #[.agg #[.slice A1 1 c1, .int .i64 0, .slice A2 0 c2, .int .u64 0], .int .i64 11] W fun e w' => ∃ v1 A3 c3, e = .returned (.tuple #[.agg #[v1, .int .i64 1, .slice A3 1 c3, .int .u64 0], .int .i64 0]) ∧ v1.oneCell' = true ∧ 1 ≤ c3 ∧ Own W.heap.size W w' [.row kL 74 (.slice A3 1 c3) [[7]]]) := ⟨fun W A1 A2 c1 c2 hc h1 h2 => by
  have h := tick_any anc1 11 A1 A2 c1 c2 W h1 hc h2 (Nat.zero_le _) (by decide) (by decide)
  rw [anc_t11] at h
  refine h.mono ?_
  rintro e w' ⟨v1, v2, rfl, hO⟩
  obtain ⟨A1, c1, rfl, h1, _⟩ := hO.reads 0 rfl
  obtain ⟨A2, c2, rfl, h2, _⟩ := hO.reads 1 rfl
  exact ⟨_, A2, c2, rfl, rfl, h2, hO.erase 0⟩⟩
 have HLS : Aside0 (∀ (W : World) (A1 A2 : Option Addr) (c1 c2 : Nat), 1 ≤ c1 → 1 ≤ c2 → Kd.C kL W A1 1 [[7]] → Kd.C kL W A2 1 [[7]] → Calls Try.prog 39 #[.slice A1 1 c1, .slice A2 1 c2] W fun e w' => e = .returned (.bool true) ∧ Below W.heap.size W w') := ⟨fun W A1 A2 c1 c2 h1 h2 h3 h4 => (PRF.proctorref20_Lists.calls 5 A1 c1 [[7]] A2 c2 [[7]] true W h3 h1 h4 h2 (by decide +kernel)).mono fun e w' ⟨he, hd⟩ => ⟨he, hd.below⟩⟩
 have HZI : Aside0 (Arr 4 #[.slice none 0 0, .int .i64 0, .slice none 0 0, .int .u64 0]) := ⟨rfl, by simp [Value.oneCell']⟩
 go_enter Try.func33, Try.ntmps33
 go_upto_region 3 with (first
  | fail
  | ((with_reducible refine gate_dst (N := 9) rfl ?_); refine own_lit kB Flat_B H0.out 5 rfl (N := 9) rfl (xs := [7]) (inner := ([7]).map (Value.int .u8)) ?hr9 (Kd.reps_scalar _) (by simp) ?_; (case hr9 => first | (go_simp; done) | (go_simp; rfl)); intro A9 c9 w1 H1 B1; replace H1 := Aside0.mk H1; replace B1 := Aside0.mk B1)
  | (go_at_call 34; obtain ⟨A9', c9', he9, hc9, hC9⟩ := H1.out.reads 0 rfl; injection he9 with he1 he2 he3; subst he1 he3; refine (HE.out _ _ _ hc9 hC9).mono ?_; rintro e w3 ⟨A1, c1, A2, c2, rfl, hc1, hO3⟩; have H3 := Aside0.mk (H1.out.call hO3); have HAy : Aside0 (Arr 4 #[.slice A1 1 c1, .int .i64 0, .slice A2 0 c2, .int .u64 0]) := ⟨rfl, by simp [Value.oneCell']⟩; clear hO3)
  | ((with_reducible refine Gd 1 ?_); refine OA H3 73 #[.slice none 0 0, .int .i64 0, .slice none 0 0, .int .u64 0] 4 ?_; intro g1 w4 H4 B4)
  | ((with_reducible refine Gs 73 1 ?_); refine OS 1 11 H4 0 g1 73 #[.slice A1 1 c1, .int .i64 0, .slice A2 0 c2, .int .u64 0] 4 HZI HAy ?_; intro w5 H5)
  | ((with_reducible refine Gd 14 ?_); refine OV 1 H5 0 g1 73 rfl Try.underlying73 (by kernel_rfl) ?_)
  | (go_at_call 38; (refine (HT1.out _ A1 A2 c1 c2 hc1 (H5.out.C_of 1 rfl) (H5.out.C_of 2 rfl)).mono ?_); rintro e w6 ⟨v6, A6, c6, rfl, hv6, hB6⟩; have H6 := Aside0.mk (H5.out.step hB6); have HAz : Aside0 (Arr 4 #[v6, .int .i64 0, .slice A6 0 c6, .int .u64 0]) := ⟨arr4_ hv6⟩; clear hB6)
  | ((with_reducible refine Gd 3 ?_); refine OA H6 73 #[.slice none 0 0, .int .i64 0, .slice none 0 0, .int .u64 0] 4 ?_; intro g3 w7 H7 B7)
  | ((with_reducible refine Gs 73 3 ?_); refine OS 3 16 H7 0 g3 73 #[v6, .int .i64 0, .slice A6 0 c6, .int .u64 0] 4 HZI HAz ?_; intro w8 H8)
  )
 clear H0 H1 H3 H4 H6 H7 HT1 HE B1 B4 B7
 go_wp2_with (first
  | fail
  | ((with_reducible refine Gd 19 ?_); refine OV 1 H8 1 g1 73 rfl Try.underlying73 (by kernel_rfl) ?_)
  | (go_at_call 38; (refine (HT2.out _ A1 A2 c1 c2 hc1 (H8.out.C_of 2 rfl) (H8.out.C_of 3 rfl)).mono ?_); rintro e w9 ⟨v9, A9, c9', rfl, hv9, hc9', hO9⟩; have H9 := Aside0.mk (H8.out.call hO9); have HAw : Aside0 (Arr 4 #[v9, .int .i64 1, .slice A9 1 c9', .int .u64 0]) := ⟨arr4_ hv9⟩; clear hO9)
  | ((with_reducible refine Gd 5 ?_); refine OA H9 73 #[.slice none 0 0, .int .i64 0, .slice none 0 0, .int .u64 0] 4 ?_; intro g5 w10 H10 B10)
  | ((with_reducible refine Gs 73 5 ?_); refine OS 5 21 H10 0 g5 73 #[v9, .int .i64 1, .slice A9 1 c9', .int .u64 0] 4 HZI HAw ?_; intro w11 H11)
  | ((with_reducible refine Gd 35 ?_); refine GD 34 71 H11 2 g3 2 (.slice A6 0 c6) Try.underlying71 ?_)
  | ((with_reducible refine Gd 41 ?_); refine GD 40 71 H11 0 g5 2 (.slice A9 1 c9') Try.underlying71 ?_)
  | ((with_reducible refine gate_dst (N := 42) rfl ?_); (refine gate_guard (by rfl) ?_); refine own_lit kB Flat_B H11.out 5 rfl (N := 42) rfl (xs := [7]) (inner := ([7]).map (Value.int .u8)) ?hr42 (Kd.reps_scalar _) (by simp) ?_; (case hr42 => first | (go_simp; done) | (go_simp; rfl)); intro A42 c42 w12 H12 B12; replace H12 := Aside0.mk H12)
  | ((with_reducible refine gate_dst (N := 43) rfl ?_); (refine gate_guard (by rfl) ?_); refine own_litM kL H12.out 74 rfl (N := 43) rfl (xs := [[7]]) (inner := [.slice A42 1 c42]) ?hr43 (fun S hS => reps_one (d := kL) ⟨_, rfl, hS⟩) (by simp) ?_; (case hr43 => first | (go_simp; done) | (go_simp; rfl)); intro A43 c43 w13 hc43 H13 B13; replace H13 := Aside0.mk H13)
  | (go_at_call 39; refine (HLS.out _ _ _ _ _ hc9' hc43 (H13.out.C_of 2 rfl) (H13.out.C_of 0 rfl)).mono ?_; rintro e w14 ⟨rfl, hB14⟩; have H14 := Aside0.mk (H13.out.step hB14); clear hB14)
  | ((with_reducible refine Gd 48 ?_); refine GD 47 3 H14 1 g5 1 (.int .i64 1) Try.underlying3 ?_)
  )
 go_ret
 exact ⟨rfl, H14.out.below⟩
def eqL {α : Type} (f : α → α → Bool) : List α → List α → Bool
 | [], [] => true
 | a :: r, b :: s => f a b && eqL f r s
 | _, _ => false
theorem eqL_len {α : Type} (f : α → α → Bool) : ∀ (a b : List α), a.length ≠ b.length → eqL f a b = false
 | [], [], h => absurd rfl h
 | [], _ :: _, _ => rfl
 | _ :: _, [], _ => rfl
 | _ :: a, _ :: b, h => by rw [eqL, eqL_len f a b (fun e => h (by simp [e])), Bool.and_false]
theorem eqL_refl {α : Type} {f : α → α → Bool} (hf : ∀ x, f x x = true) : ∀ l : List α, eqL f l l = true
 | [] => rfl
 | x :: l => by rw [eqL, hf, eqL_refl hf l]; rfl
theorem eqL_drop {α : Type} (f : α → α → Bool) (a b : List α) (i : Nat) (ha : i < a.length) (hb : i < b.length) : eqL f (a.drop i) (b.drop i) = (f a[i] b[i] && eqL f (a.drop (i + 1)) (b.drop (i + 1))) := by
 rw [List.drop_eq_getElem_cons ha, List.drop_eq_getElem_cons hb]; rfl
def eqD (a b : SQ) : Bool := (a.f0 == b.f0) && (a.f1 == b.f1)
def eqB (a b : List Int) : Bool := a == b
def sameI (x y : Box) : Bool := (x.tk == y.tk) && ((x.nx == y.nx) && (eqL eqD x.q y.q && eqL eqB x.l y.l))
def BytB (x : Box) : Prop := (∀ d ∈ x.q, ∀ z ∈ d.f1, 0 ≤ z ∧ z ≤ 255) ∧ (∀ m ∈ x.l, ∀ z ∈ m, 0 ≤ z ∧ z ≤ 255)
section
variable {P : Program} {ops : Array Oper} {rest : List Oper} {o : Oper} {a : Act} {Q : Exit → Act → World → Prop} {Kc : Act → World → Prop} {B : Nat} {w0 W : World} {L : List Item} {α : Type}
end
theorem short_l0 (l : List (List Int)) (hl : l.length ≤ 9223372036854775807) : ∀ (d i : Nat), i + d = l.length → PRF.proctorref20_short.l0 (d + 1) l (i : Int) = some (!longP (l.drop i))
 | 0, i, h => by
  simp only [PRF.proctorref20_short.l0]
  rw [if_neg (by omega), List.drop_of_length_le (by omega)]
  rfl
 | d + 1, i, h => by
  rw [PRF.proctorref20_short.l0]
  have hi : i < l.length := by omega
  have hrd : PRF.rd_L2 l (i : Int) = l[i] := by simp [PRF.rd_L2, List.getD_eq_getElem?_getD, hi]
  rw [if_pos (by omega), if_pos (by omega), hrd, List.drop_eq_getElem_cons hi]
  by_cases hb : ((l[i].length : Nat) : Int) > 65536
  ·rw [if_pos hb]
   have : decide (l[i].length ≤ 65536) = false := decide_eq_false (by omega)
   unfold longP
   rw [List.any_cons, this]
   rfl
  ·rw [if_neg hb, K.wrap64_in _ (by omega), show ((i : Int) + 1) = ((i + 1 : Nat) : Int) by omega, short_l0 l hl d (i + 1) (by omega)]
   have : decide (l[i].length ≤ 65536) = true := decide_eq_true (by omega)
   unfold longP
   rw [List.any_cons, this]
   rfl
theorem short_f (l : List (List Int)) (hl : l.length ≤ 9223372036854775807) : PRF.proctorref20_short.f (l.length + 1) l = some (!longP l) := short_l0 l hl l.length 0 (by omega)
theorem same01_any (a b : List Int) (ha : ∀ z ∈ a, 0 ≤ z ∧ z ≤ 255) (hb : ∀ z ∈ b, 0 ≤ z ∧ z ≤ 255) (A1 A2 : Option Addr) (c1 c2 : Nat) (W : World) (h1 : Kd.C kB W A1 a.length a) (k1 : a.length ≤ c1) (h2 : Kd.C kB W A2 b.length b) (k2 : b.length ≤ c2) :
 Calls Try.prog 47 #[.slice A1 a.length c1, .slice A2 b.length c2] W fun e w' => e = .returned (.bool (decide (a = b))) ∧ Below W.heap.size W w' :=
 (PRF.proctorref01_Same.calls A1 c1 a A2 c2 b _ W h1 k1 h2 k2 (K.same01_f a b ha hb)).mono fun e w' ⟨h1, h2⟩ => ⟨h1, h2.below⟩
theorem rnumP_nat (y : SI) (hb : K.Byt y.f1) : ((K.rnumP y).1.toNat : Int) = (K.rnumP y).1 ∧ (K.rnumP y).1.toNat ≤ 18446744073709551615 := by
 unfold K.rnumP
 split
 ·exact ⟨rfl, by decide⟩
 ·rename_i h
  have := K.num_small y.f1 hb (by omega)
  exact ⟨by simp, by simpa using this⟩
theorem rdQ (q : List SQ) (i : Nat) (h : i < q.length) : PRF.rd_T78 q (i : Int) = q[i] := by simp [PRF.rd_T78, List.getD_eq_getElem?_getD, h]
theorem rdL (l : List (List Int)) (i : Nat) (h : i < l.length) : PRF.rd_L2 l (i : Int) = l[i] := by simp [PRF.rd_L2, List.getD_eq_getElem?_getD, h]
theorem w1_ (i : Nat) (h : i < 9223372036854775807) : wrap64 ((i : Int) + 1) = ((i + 1 : Nat) : Int) := by rw [K.wrap64_in _ (by omega)]; omega
theorem short_ev (l : List (List Int)) (hl : l.length ≤ 9223372036854775807) : K.Ev (fun k => PRF.proctorref20_short.f k l) (!longP l) :=
 K.Ev.of_mono (fun k => PRF.proctorref20_short.mono l k) (short_f l hl)
theorem may20_ev (q : List SQ) (tk : Int) (l : List (List Int)) (nx : Int) (hq : q.length ≤ 9223372036854775807) (hl : l.length ≤ 9223372036854775807) : ∃ k, PRF.proctorref20_May.f k q tk l nx = some (mayI q tk l) := by
 obtain ⟨M, hM⟩ := short_ev l hl
 have key : ∀ (d i : Nat) (last : Int), i + d = q.length → ∀ k, d + 1 + M ≤ k → PRF.proctorref20_May.l0 k last (i : Int) q tk l nx = some (riseP last (q.drop i) && !longP l) := by
  intro d
  induction d with
  | zero =>
   intro i last h k hk
   obtain ⟨k, rfl⟩ : ∃ k', k = k' + 1 := ⟨k - 1, by omega⟩
   rw [PRF.proctorref20_May.l0, if_neg (by omega), show PRF.proctorref20_short.f k l = _ from hM k (by omega), List.drop_of_length_le (by omega)]
   rfl
  | succ d ih =>
   intro i last h k hk
   obtain ⟨k, rfl⟩ : ∃ k', k = k' + 1 := ⟨k - 1, by omega⟩
   have hi : i < q.length := by omega
   rw [PRF.proctorref20_May.l0, if_pos (by omega), if_pos (by omega), rdQ q i hi, List.drop_eq_getElem_cons hi]
   by_cases h1 : q[i].f0 < last
   ·rw [if_pos h1]
    have : decide (last ≤ q[i].f0) = false := decide_eq_false (by omega)
    simp only [riseP, this, Bool.false_and]
   ·rw [if_neg h1]
    have e1 : decide (last ≤ q[i].f0) = true := decide_eq_true (by omega)
    by_cases h2 : (q[i].f1.length : Int) > 65536
    ·rw [if_pos h2]
     have : decide (q[i].f1.length ≤ 65536) = false := decide_eq_false (by omega)
     simp only [riseP, this, Bool.and_false, Bool.false_and]
    ·rw [if_neg h2, w1_ i (by omega), ih (i + 1) _ (by omega) k (by omega)]
     have : decide (q[i].f1.length ≤ 65536) = true := decide_eq_true (by omega)
     simp only [riseP, this, e1, Bool.true_and]
 refine ⟨q.length + 2 + M, ?_⟩
 unfold PRF.proctorref20_May.f mayI
 by_cases h1 : (q.length : Int) > 4096
 ·rw [if_pos h1, show q.length + 2 + M = (q.length + 1 + M) + 1 by omega, PRF.proctorref20_May.j0, if_pos rfl]
  have : decide (q.length ≤ 4096) = false := decide_eq_false (by omega)
  rw [this]; rfl
 rw [if_neg h1]
 by_cases h2 : (l.length : Int) > 4096
 ·rw [if_pos h2, show q.length + 2 + M = (q.length + 1 + M) + 1 by omega, PRF.proctorref20_May.j0, if_pos rfl]
  have : decide (l.length ≤ 4096) = false := decide_eq_false (by omega)
  rw [this]; simp
 rw [if_neg h2]
 have e1 : decide (q.length ≤ 4096) = true := decide_eq_true (by omega)
 have e2 : decide (l.length ≤ 4096) = true := decide_eq_true (by omega)
 by_cases h3 : tk < 0
 ·rw [if_pos h3, show q.length + 2 + M = (q.length + 1 + M) + 1 by omega, PRF.proctorref20_May.j0, if_pos rfl]
  have : decide (0 ≤ tk) = false := decide_eq_false (by omega)
  rw [this]; simp
 rw [if_neg h3]
 have e3 : decide (0 ≤ tk) = true := decide_eq_true (by omega)
 by_cases h4 : tk > (q.length : Int)
 ·rw [decide_eq_true h4, show q.length + 2 + M = (q.length + 1 + M) + 1 by omega, PRF.proctorref20_May.j0, if_pos rfl]
  have : decide (tk ≤ (q.length : Int)) = false := decide_eq_false (by omega)
  rw [this]; simp
 have e4 : decide (tk ≤ (q.length : Int)) = true := decide_eq_true (by omega)
 rw [decide_eq_false h4, show q.length + 2 + M = (q.length + 1 + M) + 1 by omega, PRF.proctorref20_May.j0, if_neg (by decide), e1, e2, e3, e4]
 have := key q.length 0 0 (by omega) (q.length + 1 + M) (Nat.le_refl _)
 rw [List.drop_zero] at this
 rw [show ((0 : Nat) : Int) = 0 from rfl] at this
 rw [this]
 rfl
theorem copy01_f (m : List Int) (h : m.length ≤ 140737488351232) : PRF.proctorref01_Copy.f m = some m := by
 rw [PRF.proctorref01_Copy.f]
 simp only [Option.bind_some, List.nil_append]
 rw [if_pos (by simp; omega)]
theorem copylist_ev (l : List (List Int)) (hl : l.length ≤ 5864062014800) (hm : ∀ m ∈ l, m.length ≤ 140737488351232) : ∀ k, l.length + 1 ≤ k → PRF.proctorref20_CopyList.f k l = some l := by
 have key : ∀ (d i : Nat), i + d = l.length → ∀ k, d + 1 ≤ k → PRF.proctorref20_CopyList.l0 k l (l.take i) (i : Int) = some l := by
  intro d
  induction d with
  | zero =>
   intro i h k hk
   obtain ⟨k, rfl⟩ : ∃ k', k = k' + 1 := ⟨k - 1, by omega⟩
   rw [PRF.proctorref20_CopyList.l0, if_neg (by omega), List.take_of_length_le (by omega)]
  | succ d ih =>
   intro i h k hk
   obtain ⟨k, rfl⟩ : ∃ k', k = k' + 1 := ⟨k - 1, by omega⟩
   have hi : i < l.length := by omega
   rw [PRF.proctorref20_CopyList.l0, if_pos (by omega), if_pos (by omega), rdL l i hi, copy01_f _ (hm _ (List.getElem_mem hi)), Option.bind_some, if_pos (by rw [List.length_take]; omega), w1_ i (by omega), ← List.take_succ_eq_append_getElem hi]
   exact ih (i + 1) (by omega) k (by omega)
 intro k hk
 have := key l.length 0 (by omega) k hk
 rw [List.take_zero] at this
 exact this
end Go.Proofs.Ytocphkfkdadhaaa.H
