import Derived.Test.YtocphkfkdadhaaaZPk6
import Derived.Test.YtocphkfkdadhaaaZPk3
import Derived.Test.YtocphkfkdadhaaaZPk4
import Derived.Laws.Cover3
import Derived.Test.YtocphkfkdadhaaaZPk5
import Derived.RangeFuncNested
import Derived.RangeFuncBound
import Derived.RangeFuncCalls
import Derived.RangeFuncLeaves
import Derived.RangeFuncWrites
import Derived.Shelf.Abstract
import Derived.Shelf.RegionOpen
import Derived.WalkKit
import Derived.OwnWalkIn
import Derived.TacticsInMore
import Derived.LoopNIn
import Derived.LoopIn
namespace Go.Proofs.Ytocphkfkdadhaaa.H
open Go.RowKit Go.Proofs.YtocphkfkdadhaaaW.PrintWords Go.Proofs.YtocphkfkdadhaaaW.PrintLast Go.Proofs.YtocphkfkdadhaaaW.PrintMore
set_option linter.unusedVariables false
set_option linter.unusedSimpArgs false
theorem spl_all {cs seg : Array Value} (h : cs.toList.length = seg.toList.length) : (splice cs.toList 0 seg.toList).toArray = seg := by
 unfold splice
 rw [List.take_zero, List.nil_append, List.drop_of_length_le (by omega), List.append_nil]
theorem readM_len {b : List Int} (h : b.length = 104) : wordsM b = (wordsAll 13 b, 0) := by
 unfold wordsM; rw [if_neg (by omega), if_neg (by omega)]
theorem fieldsOfM_ok {b : List Int} (hb : ∀ x ∈ b, 0 ≤ x ∧ x ≤ 255) (hl : b.length = 104) (h : ¬ 3 < (fieldsOfM b).kd) : (fieldsOfM b).ok := by
 have hw := wordsAll_lt 13 b hb
 have hg (j : Nat) : (0 : Int) ≤ ((wordsAll 13 b).getD j 0 : Nat) ∧ (((wordsAll 13 b).getD j 0 : Nat) : Int) ≤ 18446744073709551615 := by
  refine ⟨by omega, ?_⟩
  rw [List.getD_eq_getElem?_getD]
  cases he : (wordsAll 13 b)[j]? with
  | none => simp
  | some x =>
   have := hw x (List.mem_of_getElem? he)
   simp only [Option.getD_some]
   omega
 have h0 := hg 0
 refine ⟨⟨h0.1, by have h' : ¬ 3 < (((wordsAll 13 b).getD 0 0 : Nat) : Int) := h; show (((wordsAll 13 b).getD 0 0 : Nat) : Int) ≤ 255; omega⟩, hg 1, hg 2, hg 3, hg 4, ⟨?_, ?_⟩, ⟨?_, ?_⟩⟩
 ·simp [fieldsOfM, List.length_take]; omega
 ·exact fun x hx => hb x (List.mem_of_mem_drop (List.mem_of_mem_take hx))
 ·simp [fieldsOfM, List.length_take]; omega
 ·exact fun x hx => hb x (List.mem_of_mem_drop (List.mem_of_mem_take hx))
set_option maxHeartbeats 4000000 in
set_option maxRecDepth 100000 in
theorem mread_any (b : List Int) (A : Option Addr) (c : Nat) (w : World) (hb : ∀ x ∈ b, 0 ≤ x ∧ x ≤ 255) (hC : Kd.C kB w A b.length b) (hc : b.length ≤ c) :
 Calls Try.prog 129 #[.slice A b.length c] w fun e w' => e = .returned (.tuple #[.agg (msgA (readM b).1), .int .i64 (readM b).2]) ∧ Below w.heap.size w w' := by
 have H0 := Aside0.mk (Own.start w)
 have R13 : Aside0 (Arr 13 (cellsN z13)) := ⟨cellsN_arr rfl⟩
 have RZ : Aside0 (Arr 69 (msgA zeroM)) := ⟨msgA_arr rfl rfl⟩
 have HWD := Aside0.mk (fun W (h : Below w.heap.size w W) => mwords_any b A c W hb (Kd.C_below hC h) hc)
 obtain ⟨r, hr⟩ : ∃ r, r = readM b := ⟨_, rfl⟩
 rw [← hr]
 by_cases h1 : b.length = 104
 case neg =>
  have hz : ∃ e : Int, wordsM b = (z13, e) ∧ r = (zeroM, e) ∧ (e == 0) = false := by
   rw [hr]
   unfold wordsM readM
   by_cases h2 : b.length < 104
   ·exact ⟨7, by rw [if_pos h2], by rw [if_pos h2], rfl⟩
   ·exact ⟨8, by rw [if_neg h2, if_pos (by omega)], by rw [if_neg h2, if_pos (by omega)], rfl⟩
  obtain ⟨e, hw, rfl, he⟩ := hz
  rw [hw] at HWD
  clear hr hw h1 hC hc hb
  generalize b.length = n at *
  have hbn : (e != 0) = true := by simp [bne, he]
  go_enter Try.func129, Try.ntmps129
  go_upto_if 13 with (first
   | fail
   | ((with_reducible refine Gd 2 ?_); ( refine OA H0 92 (msgA zeroM) 69 ?_; intro g2 w1 H1 B1))
   | (go_at_call 157; refine (HWD.out _ H1.out.below).mono ?_; rintro e w3 ⟨rfl, hB3⟩; have H3 := Aside0.mk (H1.out.step hB3); clear hB3)
   | ((with_reducible refine Gd 4 ?_); ( refine OA H3 194 (cellsN z13) 13 ?_; intro g4 w4 H4 B4))
   | ((with_reducible refine Gs 194 4 ?_); ( refine OS 4 10 H4 0 g4 194 (cellsN z13) 13 R13 R13 ?_; intro w5 H5))
   )
  go_wp2_with (first
   | fail
   | ((with_reducible refine Gd 14 ?_); ( refine OU 92 [] (msgA zeroM) rfl (builtM0) ?_))
   | ((with_reducible refine Gs 92 2 ?_); ( refine OS 2 14 H5 1 g2 92 (msgA zeroM) 69 RZ RZ ?_; intro w6 H6))
   )
  refine bodyPost_ret (own_resultV_t rfl _ H6.out 1 g2 _ rfl rfl _ Try.underlying92 rfl (sizeM_of (msgA_size rfl rfl)) _ rfl) rfl ?_
  exact ⟨rfl, H6.out.below⟩
 have HLN := Aside0.mk h1
 have HOK := Aside0.mk (fieldsOfM_ok hb h1)
 have HKY := Aside0.mk (bytes_key hb h1)
 have HWL := Aside0.mk (wordsAll_lt 13 b hb)
 have HFM : Aside0 (fieldsOfM b = ⟨((wordsAll 13 b).getD 0 0 : Nat), ((wordsAll 13 b).getD 1 0 : Nat), ((wordsAll 13 b).getD 2 0 : Nat), ((wordsAll 13 b).getD 3 0 : Nat), ((wordsAll 13 b).getD 4 0 : Nat), (b.drop 40).take 32, (b.drop 72).take 32⟩) := ⟨rfl⟩
 unfold readM at hr
 rw [if_neg (by omega), if_neg (by omega)] at hr
 rw [readM_len h1, h1] at HWD
 rw [h1]
 have HR := Aside0.mk hr
 have hwl : (wordsAll 13 b).length = 13 := by simp [wordsAll]
 clear hr hC hc hb h1
 generalize fieldsOfM b = m at *
 generalize (b.drop 40).take 32 = ky at *
 generalize (b.drop 72).take 32 = nx at *
 generalize wordsAll 13 b = ws at *
 obtain ⟨a0, a1, a2, a3, a4, a5, a6, a7, a8, a9, a10, a11, a12, rfl⟩ := thirteen hwl
 clear hwl HLN
 replace HFM : Aside0 (m = ⟨(a0 : Int), (a1 : Int), (a2 : Int), (a3 : Int), (a4 : Int), ky, nx⟩) := HFM
 replace HKY : Aside0 (bytesOf [a5, a6, a7, a8] = ky ∧ bytesOf [a9, a10, a11, a12] = nx) := HKY
 obtain rfl := HFM.out
 clear HFM
 have RW : Aside0 (Arr 13 (cellsN [a0, a1, a2, a3, a4, a5, a6, a7, a8, a9, a10, a11, a12])) := ⟨cellsN_arr rfl⟩
 have hu (x : Nat) (h : x ∈ [a0, a1, a2, a3, a4, a5, a6, a7, a8, a9, a10, a11, a12]) := HWL.out x h
 have HF1 : Aside0 (∀ W, Calls Try.prog 158 #[.agg #[.int .u64 (a5 : Int), .int .u64 (a6 : Int), .int .u64 (a7 : Int), .int .u64 (a8 : Int)]] W fun e w' => e = .returned (.agg (cellsB ky)) ∧ Below W.heap.size W w') := ⟨fun W => by
  have h := sfrom_any [a5, a6, a7, a8] rfl (fun x hx => hu x (by simp only [List.mem_cons, List.not_mem_nil, or_false] at hx ⊢; omega)) W
  rw [HKY.out.1] at h
  exact h⟩
 have HF2 : Aside0 (∀ W, Calls Try.prog 158 #[.agg #[.int .u64 (a9 : Int), .int .u64 (a10 : Int), .int .u64 (a11 : Int), .int .u64 (a12 : Int)]] W fun e w' => e = .returned (.agg (cellsB nx)) ∧ Below W.heap.size W w') := ⟨fun W => by
  have h := sfrom_any [a9, a10, a11, a12] rfl (fun x hx => hu x (by simp only [List.mem_cons, List.not_mem_nil, or_false] at hx ⊢; omega)) W
  rw [HKY.out.2] at h
  exact h⟩
 have ha0 := hu a0 (by simp)
 clear HWL HKY hu
 by_cases h3 : 3 < a0
 ·have hd : decide (3 < (a0 : Int)) = true := decide_eq_true (by omega)
  obtain rfl : r = (zeroM, 8) := by rw [HR.out, if_pos (show (3 : Int) < (a0 : Int) by omega)]
  clear HR HOK HF1 HF2
  go_enter Try.func129, Try.ntmps129
  go_upto_if 13 with (first
   | fail
   | ((with_reducible refine Gd 2 ?_); ( refine OA H0 92 (msgA zeroM) 69 ?_; intro g2 w1 H1 B1))
   | (go_at_call 157; refine (HWD.out _ H1.out.below).mono ?_; rintro e w3 ⟨rfl, hB3⟩; have H3 := Aside0.mk (H1.out.step hB3); clear hB3)
   | ((with_reducible refine Gd 4 ?_); ( refine OA H3 194 (cellsN z13) 13 ?_; intro g4 w4 H4 B4))
   | ((with_reducible refine Gs 194 4 ?_); ( refine OS 4 10 H4 0 g4 194 (cellsN [a0, a1, a2, a3, a4, a5, a6, a7, a8, a9, a10, a11, a12]) 13 R13 RW ?_; intro w5 H5))
   )
  have k0 : w5.cell? ⟨g4, 0, none⟩ = some (.int .u64 (a0 : Int)) := H5.out.cell 0 rfl 0 rfl
  go_wp2_with (first
   | fail
   | ((with_reducible refine Gd 19 ?_); ( refine OU 92 [] (msgA zeroM) rfl (builtM0) ?_))
   | ((with_reducible refine Gs 92 2 ?_); ( refine OS 2 19 H5 1 g2 92 (msgA zeroM) 69 RZ RZ ?_; intro w6 H6))
   )
  refine bodyPost_ret (own_resultV_t rfl _ H6.out 1 g2 _ rfl rfl _ Try.underlying92 rfl (sizeM_of (msgA_size rfl rfl)) _ rfl) rfl ?_
  exact ⟨rfl, H6.out.below⟩
 have hd : decide (3 < (a0 : Int)) = false := decide_eq_false (by omega)
 rw [if_neg (show ¬ (3 : Int) < (a0 : Int) by omega)] at HR
 have hok := HOK.out (show ¬ (3 : Int) < (a0 : Int) by omega)
 have HOKM := Aside0.mk hok
 have RK : Aside0 (ky.length = 32) := ⟨hok.ky.1⟩
 have RN : Aside0 (nx.length = 32) := ⟨hok.nx.1⟩
 have RM : Aside0 (Arr 69 (msgA ⟨(a0 : Int), (a1 : Int), (a2 : Int), (a3 : Int), (a4 : Int), ky, nx⟩)) := ⟨msgA_arr hok.ky.1 hok.nx.1⟩
 have RM1 : Aside0 (∀ v ∈ (msgA ⟨(a0 : Int), (a1 : Int), (a2 : Int), (a3 : Int), (a4 : Int), ky, nx⟩).toList, v.oneCell' = true) := ⟨fun v hv => Array.all_eq_true_iff_forall_mem.1 RM.out.2 v (by simpa using hv)⟩
 clear hok HOK
 have hcv : IntKind.u8.wrap (a0 : Int) = (a0 : Int) := by rw [IntKind.wrap_u8]; omega
 go_enter Try.func129, Try.ntmps129
 go_upto_if 13 with (first
  | fail
  | ((with_reducible refine Gd 2 ?_); ( refine OA H0 92 (msgA zeroM) 69 ?_; intro g2 w1 H1 B1))
  | (go_at_call 157; refine (HWD.out _ H1.out.below).mono ?_; rintro e w3 ⟨rfl, hB3⟩; have H3 := Aside0.mk (H1.out.step hB3); clear hB3)
  | ((with_reducible refine Gd 4 ?_); ( refine OA H3 194 (cellsN z13) 13 ?_; intro g4 w4 H4 B4))
  | ((with_reducible refine Gs 194 4 ?_); ( refine OS 4 10 H4 0 g4 194 (cellsN [a0, a1, a2, a3, a4, a5, a6, a7, a8, a9, a10, a11, a12]) 13 R13 RW ?_; intro w5 H5))
  )
 have k0 : w5.cell? ⟨g4, 0, none⟩ = some (.int .u64 (a0 : Int)) := H5.out.cell 0 rfl 0 rfl
 go_upto_region 6 with fail
 clear H0 H1 H3 H4 HWD B1 B4
 go_cut [6] (fun v6 wc => ∃ g6 : Nat, v6 = .pointer (some ⟨g6, 0, none⟩) ∧ Aside0 (Own w.heap.size w wc [.blk g6 (msgA ⟨(a0 : Int), (a1 : Int), (a2 : Int), (a3 : Int), (a4 : Int), ky, nx⟩) 92, .blk g4 (cellsN [a0, a1, a2, a3, a4, a5, a6, a7, a8, a9, a10, a11, a12]) 194, .blk g2 (msgA zeroM) 92]))
 case first =>
  have hA5 : ∀ W : World, (Instr.arrayAt 198 (.slice (some ⟨g4, 5, none⟩) 4 8)).run Try.prog W = .ok (.pointer (some ⟨g4, 5, none⟩)) W := fun W => run_arrayAt (e := 23) (n := 4) (h := Try.underlying198) (hn := Nat.le_refl _) ..
  have hA9 : ∀ W : World, (Instr.arrayAt 198 (.slice (some ⟨g4, 9, none⟩) 4 4)).run Try.prog W = .ok (.pointer (some ⟨g4, 9, none⟩)) W := fun W => run_arrayAt (e := 23) (n := 4) (h := Try.underlying198) (hn := Nat.le_refl _) ..
  refine St (fun W => W.cell? ⟨g4, 0, none⟩ = some (.int .u64 (a0 : Int)) ∧ W.cell? ⟨g4, 1, none⟩ = some (.int .u64 (a1 : Int)) ∧ W.cell? ⟨g4, 2, none⟩ = some (.int .u64 (a2 : Int)) ∧ W.cell? ⟨g4, 3, none⟩ = some (.int .u64 (a3 : Int)) ∧ W.cell? ⟨g4, 4, none⟩ = some (.int .u64 (a4 : Int)) ∧ W.cell? ⟨g4, 5, none⟩ = some (.int .u64 (a5 : Int)) ∧ W.cell? ⟨g4, 6, none⟩ = some (.int .u64 (a6 : Int)) ∧ W.cell? ⟨g4, 7, none⟩ = some (.int .u64 (a7 : Int)) ∧ W.cell? ⟨g4, 8, none⟩ = some (.int .u64 (a8 : Int)) ∧ W.cell? ⟨g4, 9, none⟩ = some (.int .u64 (a9 : Int)) ∧ W.cell? ⟨g4, 10, none⟩ = some (.int .u64 (a10 : Int)) ∧ W.cell? ⟨g4, 11, none⟩ = some (.int .u64 (a11 : Int)) ∧ W.cell? ⟨g4, 12, none⟩ = some (.int .u64 (a12 : Int))) (fun hHeld => ?_) (by exact ⟨H5.out.drew.cell 0 rfl 0 rfl, H5.out.drew.cell 0 rfl 1 rfl, H5.out.drew.cell 0 rfl 2 rfl, H5.out.drew.cell 0 rfl 3 rfl, H5.out.drew.cell 0 rfl 4 rfl, H5.out.drew.cell 0 rfl 5 rfl, H5.out.drew.cell 0 rfl 6 rfl, H5.out.drew.cell 0 rfl 7 rfl, H5.out.drew.cell 0 rfl 8 rfl, H5.out.drew.cell 0 rfl 9 rfl, H5.out.drew.cell 0 rfl 10 rfl, H5.out.drew.cell 0 rfl 11 rfl, H5.out.drew.cell 0 rfl 12 rfl⟩)
  refine Tk 0 ?_
  refine Tk 1 ?_
  refine Tk 2 ?_
  refine Tk 3 ?_
  refine Tk 4 ?_
  refine Tk 5 ?_
  refine Tk 6 ?_
  refine Tk 7 ?_
  refine Tk 8 ?_
  refine Tk 9 ?_
  refine Tk 10 ?_
  refine Tk 11 ?_
  refine Tk 12 ?_
  refine Tk 13 ?_
  refine Tk 15 ?_
  refine Tk 16 ?_
  refine Tk 17 ?_
  have H6 := Aside0.mk H5.out.drew
  clear k0 hA5 hA9
  generalize w5.drew = wd at *
  refine Rd2 14 20 (fun K hK => ?_) fun K hK => ?_
  ·
   go_simp
   refine (HF1.out _).mono ?_
   rintro e w7 ⟨rfl, hBx⟩
   have H7 := Aside0.mk (H6.out.step hBx)
   clear hBx
   go_wp2_with fail
   refine Ag hK (fun hHeld => ?_) (by exact ⟨H7.out.cell 0 rfl 0 rfl, H7.out.cell 0 rfl 1 rfl, H7.out.cell 0 rfl 2 rfl, H7.out.cell 0 rfl 3 rfl, H7.out.cell 0 rfl 4 rfl, H7.out.cell 0 rfl 5 rfl, H7.out.cell 0 rfl 6 rfl, H7.out.cell 0 rfl 7 rfl, H7.out.cell 0 rfl 8 rfl, H7.out.cell 0 rfl 9 rfl, H7.out.cell 0 rfl 10 rfl, H7.out.cell 0 rfl 11 rfl, H7.out.cell 0 rfl 12 rfl⟩)
   clear hK K
   refine Rd2 18 20 (fun K hK => ?_) fun K hK => ?_
   ·
    go_simp
    refine (HF2.out _).mono ?_
    rintro e w8 ⟨rfl, hBx⟩
    have H8 := Aside0.mk (H7.out.step hBx)
    clear hBx
    go_wp2_with fail
    refine Ag hK (fun hHeld => ?_) (by exact ⟨H8.out.cell 0 rfl 0 rfl, H8.out.cell 0 rfl 1 rfl, H8.out.cell 0 rfl 2 rfl, H8.out.cell 0 rfl 3 rfl, H8.out.cell 0 rfl 4 rfl, H8.out.cell 0 rfl 5 rfl, H8.out.cell 0 rfl 6 rfl, H8.out.cell 0 rfl 7 rfl, H8.out.cell 0 rfl 8 rfl, H8.out.cell 0 rfl 9 rfl, H8.out.cell 0 rfl 10 rfl, H8.out.cell 0 rfl 11 rfl, H8.out.cell 0 rfl 12 rfl⟩)
    clear hK K
    refine Ty 19 (.agg (msgA ⟨(a0 : Int), (a1 : Int), (a2 : Int), (a3 : Int), (a4 : Int), ky, nx⟩)) ?_ ?_
    ·exact yields_build (by rfl) 92 [(0, .tmp 22), (1, .tmp 24), (2, .tmp 26), (3, .tmp 28), (4, .tmp 30), (5, .tmp 34), (6, .tmp 38)] (by rfl) _ (by rfl) _ (builtM (a0 : Int) (a1 : Int) (a2 : Int) (a3 : Int) (a4 : Int) ky nx RK.out RN.out)
    refine Rd 20 fun K hK => ?_
    refine own_alloc_step H8.out (by rfl) (N := 6) rfl (t := 92) rfl (msgA zeroM) 69 (by kernel_rfl) ?_; intro g6 w9 H9; replace H9 := Aside0.mk H9
    refine Ag hK (fun hHeld => ?_) (by exact ⟨H9.out.cell 1 rfl 0 rfl, H9.out.cell 1 rfl 1 rfl, H9.out.cell 1 rfl 2 rfl, H9.out.cell 1 rfl 3 rfl, H9.out.cell 1 rfl 4 rfl, H9.out.cell 1 rfl 5 rfl, H9.out.cell 1 rfl 6 rfl, H9.out.cell 1 rfl 7 rfl, H9.out.cell 1 rfl 8 rfl, H9.out.cell 1 rfl 9 rfl, H9.out.cell 1 rfl 10 rfl, H9.out.cell 1 rfl 11 rfl, H9.out.cell 1 rfl 12 rfl⟩)
    clear hK K
    refine Rd 21 fun K hK => ?_
    refine own_st_step H9.out 0 g6 _ (msgA ⟨(a0 : Int), (a1 : Int), (a2 : Int), (a3 : Int), (a4 : Int), ky, nx⟩) 92 (by rfl) (by rfl) 92 (.tmp 6) _ rfl 0 ((msgA ⟨(a0 : Int), (a1 : Int), (a2 : Int), (a3 : Int), (a4 : Int), ky, nx⟩).toList) (.agg (msgA ⟨(a0 : Int), (a1 : Int), (a2 : Int), (a3 : Int), (a4 : Int), ky, nx⟩)) (by rfl) (by rfl) (by rfl) (by rw [Array.length_toList, RM.out.1, RZ.out.1]; decide) (by rw [Array.length_toList, RM.out.1]; exact sizeM) (by exact RM1.out) (by exact spl_all (by rw [Array.length_toList, Array.length_toList, RM.out.1, RZ.out.1])) ?_; intro wz HZ; replace HZ := Aside0.mk HZ
    refine Ag hK (fun hHeld => ?_) (by exact ⟨HZ.out.cell 1 rfl 0 rfl, HZ.out.cell 1 rfl 1 rfl, HZ.out.cell 1 rfl 2 rfl, HZ.out.cell 1 rfl 3 rfl, HZ.out.cell 1 rfl 4 rfl, HZ.out.cell 1 rfl 5 rfl, HZ.out.cell 1 rfl 6 rfl, HZ.out.cell 1 rfl 7 rfl, HZ.out.cell 1 rfl 8 rfl, HZ.out.cell 1 rfl 9 rfl, HZ.out.cell 1 rfl 10 rfl, HZ.out.cell 1 rfl 11 rfl, HZ.out.cell 1 rfl 12 rfl⟩)
    clear hK K
    refine Dn ?_
    go_wp2_with fail
    go_meet
    exact ⟨g6, rfl, HZ⟩
   ·
    refine own_alloc_step H7.out (by rfl) (N := 6) rfl (t := 92) rfl (msgA zeroM) 69 (by kernel_rfl) ?_; intro g6 w8 H8; replace H8 := Aside0.mk H8
    refine Ag hK (fun hHeld => ?_) (by exact ⟨H8.out.cell 1 rfl 0 rfl, H8.out.cell 1 rfl 1 rfl, H8.out.cell 1 rfl 2 rfl, H8.out.cell 1 rfl 3 rfl, H8.out.cell 1 rfl 4 rfl, H8.out.cell 1 rfl 5 rfl, H8.out.cell 1 rfl 6 rfl, H8.out.cell 1 rfl 7 rfl, H8.out.cell 1 rfl 8 rfl, H8.out.cell 1 rfl 9 rfl, H8.out.cell 1 rfl 10 rfl, H8.out.cell 1 rfl 11 rfl, H8.out.cell 1 rfl 12 rfl⟩)
    clear hK K
    refine Rd 18 fun K hK => ?_
    go_simp
    refine (HF2.out _).mono ?_
    rintro e w9 ⟨rfl, hBx⟩
    have H9 := Aside0.mk (H8.out.step hBx)
    clear hBx
    go_wp2_with fail
    refine Ag hK (fun hHeld => ?_) (by exact ⟨H9.out.cell 1 rfl 0 rfl, H9.out.cell 1 rfl 1 rfl, H9.out.cell 1 rfl 2 rfl, H9.out.cell 1 rfl 3 rfl, H9.out.cell 1 rfl 4 rfl, H9.out.cell 1 rfl 5 rfl, H9.out.cell 1 rfl 6 rfl, H9.out.cell 1 rfl 7 rfl, H9.out.cell 1 rfl 8 rfl, H9.out.cell 1 rfl 9 rfl, H9.out.cell 1 rfl 10 rfl, H9.out.cell 1 rfl 11 rfl, H9.out.cell 1 rfl 12 rfl⟩)
    clear hK K
    refine Ty 19 (.agg (msgA ⟨(a0 : Int), (a1 : Int), (a2 : Int), (a3 : Int), (a4 : Int), ky, nx⟩)) ?_ ?_
    ·exact yields_build (by rfl) 92 [(0, .tmp 22), (1, .tmp 24), (2, .tmp 26), (3, .tmp 28), (4, .tmp 30), (5, .tmp 34), (6, .tmp 38)] (by rfl) _ (by rfl) _ (builtM (a0 : Int) (a1 : Int) (a2 : Int) (a3 : Int) (a4 : Int) ky nx RK.out RN.out)
    refine Rd 21 fun K hK => ?_
    refine own_st_step H9.out 0 g6 _ (msgA ⟨(a0 : Int), (a1 : Int), (a2 : Int), (a3 : Int), (a4 : Int), ky, nx⟩) 92 (by rfl) (by rfl) 92 (.tmp 6) _ rfl 0 ((msgA ⟨(a0 : Int), (a1 : Int), (a2 : Int), (a3 : Int), (a4 : Int), ky, nx⟩).toList) (.agg (msgA ⟨(a0 : Int), (a1 : Int), (a2 : Int), (a3 : Int), (a4 : Int), ky, nx⟩)) (by rfl) (by rfl) (by rfl) (by rw [Array.length_toList, RM.out.1, RZ.out.1]; decide) (by rw [Array.length_toList, RM.out.1]; exact sizeM) (by exact RM1.out) (by exact spl_all (by rw [Array.length_toList, Array.length_toList, RM.out.1, RZ.out.1])) ?_; intro wz HZ; replace HZ := Aside0.mk HZ
    refine Ag hK (fun hHeld => ?_) (by exact ⟨HZ.out.cell 1 rfl 0 rfl, HZ.out.cell 1 rfl 1 rfl, HZ.out.cell 1 rfl 2 rfl, HZ.out.cell 1 rfl 3 rfl, HZ.out.cell 1 rfl 4 rfl, HZ.out.cell 1 rfl 5 rfl, HZ.out.cell 1 rfl 6 rfl, HZ.out.cell 1 rfl 7 rfl, HZ.out.cell 1 rfl 8 rfl, HZ.out.cell 1 rfl 9 rfl, HZ.out.cell 1 rfl 10 rfl, HZ.out.cell 1 rfl 11 rfl, HZ.out.cell 1 rfl 12 rfl⟩)
    clear hK K
    refine Dn ?_
    go_wp2_with fail
    go_meet
    exact ⟨g6, rfl, HZ⟩
  ·
   refine own_alloc_step H6.out (by rfl) (N := 6) rfl (t := 92) rfl (msgA zeroM) 69 (by kernel_rfl) ?_; intro g6 w7 H7; replace H7 := Aside0.mk H7
   refine Ag hK (fun hHeld => ?_) (by exact ⟨H7.out.cell 1 rfl 0 rfl, H7.out.cell 1 rfl 1 rfl, H7.out.cell 1 rfl 2 rfl, H7.out.cell 1 rfl 3 rfl, H7.out.cell 1 rfl 4 rfl, H7.out.cell 1 rfl 5 rfl, H7.out.cell 1 rfl 6 rfl, H7.out.cell 1 rfl 7 rfl, H7.out.cell 1 rfl 8 rfl, H7.out.cell 1 rfl 9 rfl, H7.out.cell 1 rfl 10 rfl, H7.out.cell 1 rfl 11 rfl, H7.out.cell 1 rfl 12 rfl⟩)
   clear hK K
   refine Rd 14 fun K hK => ?_
   go_simp
   refine (HF1.out _).mono ?_
   rintro e w8 ⟨rfl, hBx⟩
   have H8 := Aside0.mk (H7.out.step hBx)
   clear hBx
   go_wp2_with fail
   refine Ag hK (fun hHeld => ?_) (by exact ⟨H8.out.cell 1 rfl 0 rfl, H8.out.cell 1 rfl 1 rfl, H8.out.cell 1 rfl 2 rfl, H8.out.cell 1 rfl 3 rfl, H8.out.cell 1 rfl 4 rfl, H8.out.cell 1 rfl 5 rfl, H8.out.cell 1 rfl 6 rfl, H8.out.cell 1 rfl 7 rfl, H8.out.cell 1 rfl 8 rfl, H8.out.cell 1 rfl 9 rfl, H8.out.cell 1 rfl 10 rfl, H8.out.cell 1 rfl 11 rfl, H8.out.cell 1 rfl 12 rfl⟩)
   clear hK K
   refine Rd 18 fun K hK => ?_
   go_simp
   refine (HF2.out _).mono ?_
   rintro e w9 ⟨rfl, hBx⟩
   have H9 := Aside0.mk (H8.out.step hBx)
   clear hBx
   go_wp2_with fail
   refine Ag hK (fun hHeld => ?_) (by exact ⟨H9.out.cell 1 rfl 0 rfl, H9.out.cell 1 rfl 1 rfl, H9.out.cell 1 rfl 2 rfl, H9.out.cell 1 rfl 3 rfl, H9.out.cell 1 rfl 4 rfl, H9.out.cell 1 rfl 5 rfl, H9.out.cell 1 rfl 6 rfl, H9.out.cell 1 rfl 7 rfl, H9.out.cell 1 rfl 8 rfl, H9.out.cell 1 rfl 9 rfl, H9.out.cell 1 rfl 10 rfl, H9.out.cell 1 rfl 11 rfl, H9.out.cell 1 rfl 12 rfl⟩)
   clear hK K
   refine Ty 19 (.agg (msgA ⟨(a0 : Int), (a1 : Int), (a2 : Int), (a3 : Int), (a4 : Int), ky, nx⟩)) ?_ ?_
   ·exact yields_build (by rfl) 92 [(0, .tmp 22), (1, .tmp 24), (2, .tmp 26), (3, .tmp 28), (4, .tmp 30), (5, .tmp 34), (6, .tmp 38)] (by rfl) _ (by rfl) _ (builtM (a0 : Int) (a1 : Int) (a2 : Int) (a3 : Int) (a4 : Int) ky nx RK.out RN.out)
   refine Rd 21 fun K hK => ?_
   refine own_st_step H9.out 0 g6 _ (msgA ⟨(a0 : Int), (a1 : Int), (a2 : Int), (a3 : Int), (a4 : Int), ky, nx⟩) 92 (by rfl) (by rfl) 92 (.tmp 6) _ rfl 0 ((msgA ⟨(a0 : Int), (a1 : Int), (a2 : Int), (a3 : Int), (a4 : Int), ky, nx⟩).toList) (.agg (msgA ⟨(a0 : Int), (a1 : Int), (a2 : Int), (a3 : Int), (a4 : Int), ky, nx⟩)) (by rfl) (by rfl) (by rfl) (by rw [Array.length_toList, RM.out.1, RZ.out.1]; decide) (by rw [Array.length_toList, RM.out.1]; exact sizeM) (by exact RM1.out) (by exact spl_all (by rw [Array.length_toList, Array.length_toList, RM.out.1, RZ.out.1])) ?_; intro wz HZ; replace HZ := Aside0.mk HZ
   refine Ag hK (fun hHeld => ?_) (by exact ⟨HZ.out.cell 1 rfl 0 rfl, HZ.out.cell 1 rfl 1 rfl, HZ.out.cell 1 rfl 2 rfl, HZ.out.cell 1 rfl 3 rfl, HZ.out.cell 1 rfl 4 rfl, HZ.out.cell 1 rfl 5 rfl, HZ.out.cell 1 rfl 6 rfl, HZ.out.cell 1 rfl 7 rfl, HZ.out.cell 1 rfl 8 rfl, HZ.out.cell 1 rfl 9 rfl, HZ.out.cell 1 rfl 10 rfl, HZ.out.cell 1 rfl 11 rfl, HZ.out.cell 1 rfl 12 rfl⟩)
   clear hK K
   refine Dn ?_
   go_wp2_with fail
   go_meet
   exact ⟨g6, rfl, HZ⟩
 case rest =>
  obtain ⟨g6, rfl, HC0⟩ := hcut
  have HMY := Aside0.mk (fun W => mmay_any ⟨(a0 : Int), (a1 : Int), (a2 : Int), (a3 : Int), (a4 : Int), ky, nx⟩ HOKM.out W)
  clear H5 HF1 HF2 HOKM RK RN RM1 hd hcv k0
  cases hmay : mayM ⟨(a0 : Int), (a1 : Int), (a2 : Int), (a3 : Int), (a4 : Int), ky, nx⟩
  ·obtain rfl : r = (zeroM, 8) := by rw [HR.out, hmay]; rfl
   clear HR
   rw [hmay] at HMY
   clear hmay
   go_wp2_with (first
    | fail
    | ((with_reducible refine Gd 40 ?_); ( refine OV 6 HC0 0 g6 92 rfl Try.underlying92 (sizeM_of RM.out.1) ?_))
    | (go_at_call 136; refine (HMY.out _).mono ?_; rintro e w8 ⟨rfl, hB8⟩; have H8 := Aside0.mk (HC0.out.step hB8); clear hB8)
    | ((with_reducible refine Gd 43 ?_); ( refine OU 92 [] (msgA zeroM) rfl (builtM0) ?_))
    | ((with_reducible refine Gs 92 2 ?_); ( refine OS 2 43 H8 2 g2 92 (msgA zeroM) 69 RZ RZ ?_; intro w9 H9))
    )
   refine bodyPost_ret (own_resultV_t rfl _ H9.out 2 g2 _ rfl rfl _ Try.underlying92 rfl (sizeM_of (msgA_size rfl rfl)) _ rfl) rfl ?_
   exact ⟨rfl, H9.out.below⟩
  ·obtain rfl : r = (⟨(a0 : Int), (a1 : Int), (a2 : Int), (a3 : Int), (a4 : Int), ky, nx⟩, 0) := by rw [HR.out, hmay]; rfl
   clear HR
   rw [hmay] at HMY
   clear hmay
   go_wp2_with (first
    | fail
    | ((with_reducible refine Gd 40 ?_); ( refine OV 6 HC0 0 g6 92 rfl Try.underlying92 (sizeM_of RM.out.1) ?_))
    | (go_at_call 136; refine (HMY.out _).mono ?_; rintro e w8 ⟨rfl, hB8⟩; have H8 := Aside0.mk (HC0.out.step hB8); clear hB8)
    | ((with_reducible refine Gd 44 ?_); ( refine OV 6 H8 0 g6 92 rfl Try.underlying92 (sizeM_of RM.out.1) ?_))
    | ((with_reducible refine Gs 92 2 ?_); ( refine OS 2 44 H8 2 g2 92 (msgA ⟨(a0 : Int), (a1 : Int), (a2 : Int), (a3 : Int), (a4 : Int), ky, nx⟩) 69 RZ RM ?_; intro w9 H9))
    )
   refine bodyPost_ret (own_resultV_t rfl _ H9.out 2 g2 _ rfl rfl _ Try.underlying92 rfl (sizeM_of RM.out.1) _ rfl) rfl ?_
   exact ⟨rfl, H9.out.below⟩
end Go.Proofs.Ytocphkfkdadhaaa.H

namespace Go.Proofs.Ytocphkfkdadhaaa.H
open Go.RowKit Go.Proofs.YtocphkfkdadhaaaW.PrintWords Go.Proofs.YtocphkfkdadhaaaW.PrintLast Go.Proofs.YtocphkfkdadhaaaW.PrintMore
set_option linter.unusedVariables false
set_option linter.unusedSimpArgs false
def depB (b : List Int) : Bool := decide ((readM b).2 = 0) && decide ((readM b).1.kd = 1)
theorem readM_size (b : List Int) (hb : ∀ x ∈ b, 0 ≤ x ∧ x ≤ 255) : (readM b).1.ky.length = 32 ∧ (readM b).1.nx.length = 32 := by
 unfold readM
 split
 ·exact ⟨rfl, rfl⟩
 split
 ·exact ⟨rfl, rfl⟩
 have h : (fieldsOfM b).ky.length = 32 ∧ (fieldsOfM b).nx.length = 32 := by constructor <;> (simp [fieldsOfM, List.length_take]; omega)
 split
 ·exact ⟨rfl, rfl⟩
 split
 ·exact h
 ·exact ⟨rfl, rfl⟩
set_option maxHeartbeats 4000000 in
set_option maxRecDepth 100000 in
theorem deposit_any (b : List Int) (A : Option Addr) (c : Nat) (w : World) (hb : ∀ x ∈ b, 0 ≤ x ∧ x ≤ 255) (hC : Kd.C kB w A b.length b) (hc : b.length ≤ c) :
 Calls Try.prog 83 #[.slice A b.length c] w fun e w' => e = .returned (.bool (depB b)) ∧ Below w.heap.size w w' := by
 have H0 := Aside0.mk (Own.start w)
 have RZ : Aside0 (Arr 69 (msgA zeroM)) := ⟨msgA_arr rfl rfl⟩
 have HRD := Aside0.mk (fun W (h : Below w.heap.size w W) => mread_any b A c W hb (Kd.C_below hC h) hc)
 have hsz := readM_size b hb
 have RM : Aside0 (Arr 69 (msgA (readM b).1)) := ⟨msgA_arr hsz.1 hsz.2⟩
 obtain ⟨r, hr⟩ : ∃ r, r = depB b := ⟨_, rfl⟩
 rw [← hr]
 unfold depB at hr
 clear hC hc hb hsz
 generalize b.length = n at *
 generalize (readM b).2 = er at *
 generalize (readM b).1 = m at *
 obtain ⟨kd, fr, tt, am, no, ky, nx⟩ := m
 dsimp only at hr
 by_cases h0 : er = 0
 ·subst h0
  rw [decide_eq_true rfl, Bool.true_and] at hr
  have hk : (kd == 1) = r := by rw [hr]; rfl
  clear hr
  go_enter Try.func83, Try.ntmps83
  go_wp2_with (first
   | fail
   | (go_at_call 129; refine (HRD.out _ H0.out.below).mono ?_; rintro e w1 ⟨rfl, hB1⟩; have H1 := Aside0.mk (H0.out.step hB1); clear hB1)
   | ((with_reducible refine Gd 3 ?_); ( refine OA H1 92 (msgA zeroM) 69 ?_; intro g3 w2 H2 B2))
   | ((with_reducible refine Gs 92 3 ?_); ( refine OS 3 8 H2 0 g3 92 (msgA ⟨kd, fr, tt, am, no, ky, nx⟩) 69 RZ RM ?_; intro w3 H3))
   | ((with_reducible refine Gd 14 ?_); ( refine GD 13 90 H3 0 g3 0 (.int .u8 kd) Try.underlying90 ?_))
   )
  go_ret
  exact ⟨rfl, H3.out.below⟩
 ·have he : (er == 0) = false := beq_eq_false_iff_ne.2 h0
  obtain rfl : r = false := by rw [hr, decide_eq_false h0]; rfl
  clear hr h0
  go_enter Try.func83, Try.ntmps83
  go_wp2_with (first
   | fail
   | (go_at_call 129; refine (HRD.out _ H0.out.below).mono ?_; rintro e w1 ⟨rfl, hB1⟩; have H1 := Aside0.mk (H0.out.step hB1); clear hB1)
   | ((with_reducible refine Gd 3 ?_); ( refine OA H1 92 (msgA zeroM) 69 ?_; intro g3 w2 H2 B2))
   | ((with_reducible refine Gs 92 3 ?_); ( refine OS 3 8 H2 0 g3 92 (msgA ⟨kd, fr, tt, am, no, ky, nx⟩) 69 RZ RM ?_; intro w3 H3))
   )
  go_ret
  exact ⟨rfl, H3.out.below⟩
end Go.Proofs.Ytocphkfkdadhaaa.H

namespace Go.Proofs.Ytocphkfkdadhaaa.H
open Go.RowKit Go.Shelf Go.Proofs.YtocphkfkdadhaaaW.PrintWords Go.Proofs.YtocphkfkdadhaaaW.PrintLast Go.Proofs.YtocphkfkdadhaaaW.PrintMore
attribute [local go_sem] Oper.semAt_some
set_option linter.unusedVariables false
set_option linter.unusedSimpArgs false
theorem keepM_any (b : List Int) (A : Option Addr) (c : Nat) (w : World) (hb : ∀ x ∈ b, 0 ≤ x ∧ x ≤ 255) (hC : Kd.C kB w A b.length b) (hc : b.length ≤ c) :
 Calls Try.prog 90 #[.slice A b.length c] w fun e w' => e = .returned (.bool (!depB b)) ∧ Below w.heap.size w w' := by
 have HD := Aside0.mk (fun W (h : Below w.heap.size w W) => deposit_any b A c W hb (Kd.C_below hC h) hc)
 have H0 := Aside0.mk (Below.refl w.heap.size w)
 clear hC hc hb
 generalize b.length = n at *
 generalize depB b = r at *
 go_enter Try.func90, Try.ntmps90
 go_wp2_with (go_at_call 83; refine (HD.out _ H0.out).mono ?_; rintro e w1 ⟨rfl, hB1⟩; have H1 := Aside0.mk (below_step H0.out hB1); clear hB1)
 go_ret
 exact ⟨rfl, H1.out⟩
set_option maxHeartbeats 400000 in
theorem keptM_call (v f : Value) (w : World) (hv : ∃ A n c, v = .slice A n c) (hf : ∃ g a b, f = .func g a b) : Calls Try.prog 89 #[v, f] w fun e w' => e = .returned (.func (.func 135) #[] #[.pointer (some ⟨w.heap.size, 0, none⟩), .pointer (some ⟨w.heap.size + 1, 0, none⟩)]) ∧ w' = (w.alloc (.cells #[v] 71)).alloc (.cells #[f] 82) := by
 obtain ⟨A, n, c, rfl⟩ := hv
 obtain ⟨g, a, b, rfl⟩ := hf
 have hmf : ∀ (fn : Fn) (first cap : Array Value) (w : World), (Instr.makeFunc fn first cap).run Try.prog w = .ok (.func fn first cap) w := fun _ _ _ _ => rfl
 go_enter Try.func89, Try.ntmps89
 go_wp2
 go_ret
 exact ⟨rfl, rfl⟩
structure EV where
 b : List Int
 A : Option Addr
 c : Nat
 i : Nat
def EV.val (p : EV) : Value := .slice p.A p.b.length p.c
def GoodE (W0 : World) (g : Nat) (ms : List (List Int)) (p : EV) : Prop := (∃ h : p.i < ms.length, p.b = ms[p.i]) ∧ W0.cell? ⟨g, p.i, none⟩ = some p.val ∧ p.b.length ≤ p.c ∧ ∀ x ∈ p.b, 0 ≤ x ∧ x ≤ 255
abbrev GE (W0 : World) (g : Nat) (ms : List (List Int)) := { p : EV // GoodE W0 g ms p }
set_option maxRecDepth 100000 in
set_option maxHeartbeats 1000000 in
theorem keptM_in (n : Nat) (hn : 1 ≤ n) (W0 : World) (Kp : World → World → Prop) (hKt : ∀ {A B C : World}, Kp A B → Kp B C → Kp A C) (hKn : ∀ {A B : World}, Below A.heap.size A B → Kp A B)
 (g : Nat) (ms : List (List Int)) (V : List (GE W0 g ms)) (A : Option Addr) (cap : Nat) (hA : 0 < V.length → A = some ⟨g, 0, none⟩) (l Bs Bk : Nat) (J Jx : List (GE W0 g ms) → World → Prop) (W : World) (hW0 : Kp W0 W)
 (hJ : AbidesFrom W.heap.size J) (hN : V.length ≤ 9223372036854775807)
 (hrow : ∀ W', Kp W0 W' → ∀ i (h : i < V.length), W'.cell? ⟨g, i, none⟩ = some V[i].1.val ∧ Kd.C kB W' V[i].1.A V[i].1.b.length V[i].1.b)
 (hs : ∀ W', Kp W0 W' → W'.cell? ⟨Bs, 0, none⟩ = some (.slice A V.length cap)) (hk : ∀ W', Kp W0 W' → W'.cell? ⟨Bk, 0, none⟩ = some (.func (.func 90) #[] #[]))
 (hY : ∀ pre x W1, J pre W1 → pre.length < V.length → YieldAt Fence.wide (n - 1) Try.prog l #[x.1.val] W1 fun e W' =>
  (e = .returned (.bool true) ∧ J (pre ++ [x]) W' ∧ Kp W1 W') ∨ (e = .returned (.bool false) ∧ Jx (pre ++ [x]) W')) (h0 : J [] W) :
 CallsIn Fence.wide n Try.prog 135 #[.func (.yield l) #[] #[], .pointer (some ⟨Bs, 0, none⟩), .pointer (some ⟨Bk, 0, none⟩)] W fun e W' => (∃ v, e = .returned v) ∧
  ((∃ ys, ys = V.filter (fun p => !depB p.1.b) ∧ J ys W') ∨ (∃ pre, True ∧ Jx pre W')) := by
 have hs' := hs W hW0
 refine callsIn_of_wp Try.func135 rfl trivial ?_ rfl
 simp only [Try.ntmps135, List.size_toArray, List.length_cons, List.length_nil, Nat.reduceAdd, Nat.reduceSub, Array.replicate_succ, Array.replicate_zero, List.push_toArray, List.append_toArray, List.nil_append, List.cons_append]
 gi_wp2
 gi_loopw [8] (fun v8 wr => ∃ k : Nat, k ≤ V.length ∧ v8 = .int .i64 (k : Int) ∧ Aside0 (J ((V.take k).filter (fun p => !depB p.1.b)) wr) ∧ Aside0 (Kp W0 wr)) (fun v8 _ => V.length - (intOf v8).toNat)
 case atStart => exact ⟨0, Nat.zero_le _, rfl, ⟨by simpa using h0⟩, ⟨hW0⟩⟩
 case round =>
  obtain ⟨k, hkl, rfl, HJs, HB0⟩ := hrel
  by_cases hlt : k < V.length
  ·obtain rfl := hA (by omega)
   obtain ⟨q0, hCx⟩ := hrow wr HB0.out k hlt
   have HCx := Aside0.mk hCx
   clear hCx
   have q4 := hk _ HB0.out
   have HT := Aside0.mk (List.take_succ_eq_append_getElem hlt)
   have HG := Aside0.mk V[k].2
   have HLen : Aside0 (((V.take k).filter (fun p => !depB p.1.b)).length < V.length) := ⟨by
    have h1 := List.length_filter_le (fun p : GE W0 g ms => !depB p.1.b) (V.take k)
    rw [List.length_take] at h1
    omega⟩
   generalize V[k] = x at *
   have HFT : Aside0 ((V.take (k + 1)).filter (fun p => !depB p.1.b) = (V.take k).filter (fun p => !depB p.1.b) ++ (if (!depB x.1.b) = true then [x] else [])) := ⟨by
    rw [HT.out, List.filter_append]
    congr 1
    by_cases hkx : (!depB x.1.b) = true
    ·simp [hkx]
    ·simp [hkx]⟩
   generalize ((V.take k).filter (fun p => !depB p.1.b)) = pre at *
   obtain ⟨⟨b, Ax, cx, ix⟩, hgood⟩ := x
   simp only [EV.val] at *
   gi_wp2
   refine ⟨trivial, ?_⟩
   refine (callsIn_wide.2 (keepM_any b Ax cx _ HG.out.2.2.2 HCx.out HG.out.2.2.1)).mono ?_
   rintro e w3 ⟨rfl, hE3⟩
   have HE := Aside0.mk hE3
   have HBr3 := Aside0.mk (hKt HB0.out (hKn HE.out))
   have HJ3 := Aside0.mk (hJ _ _ _ none HJs.out ⟨HE.out.os, HE.out.tape, HE.out.output, HE.out.size, fun k hk _ => HE.out.block k hk⟩ (fun r h => by cases h))
   clear hE3 q0 q4
   cases hkp : (!depB b) with
   | false =>
    have HFT2 := Aside0.mk (HFT.out.trans (by rw [hkp, if_neg (by decide), List.append_nil]))
    clear HFT
    gi_wp2
    refine ⟨fun _ h => (by cases h), ?_⟩
    gi_wp2
    go_roundw
    case rel => exact ⟨k + 1, hlt, by go_num, ⟨by rw [HFT2.out]; exact HJ3.out⟩, HBr3⟩
    case measure => simp [intOf]; omega
   | true =>
    have HFT2 := Aside0.mk (HFT.out.trans (by rw [hkp, if_pos rfl]))
    clear HFT
    obtain ⟨fn, tmps, assign, body, hy, hR⟩ := hY pre ⟨⟨b, Ax, cx, ix⟩, hgood⟩ w3 HJ3.out HLen.out
    dsimp only [EV.val] at hy
    gi_wp2
    refine hR.mono ?_
    rintro e w4 (⟨rfl, hJ4, hk4⟩ | ⟨rfl, hJx4⟩)
    ·gi_wp2
     go_roundw
     case rel => exact ⟨k + 1, hlt, by go_num, ⟨by rw [HFT2.out]; exact hJ4⟩, ⟨hKt HBr3.out hk4⟩⟩
     case measure => simp [intOf]; omega
    ·gi_wp2
     refine bodyPost_ret (results_none rfl _ _ _) rfl ?_
     exact ⟨⟨_, rfl⟩, .inr ⟨_, trivial, hJx4⟩⟩
  ·obtain rfl : k = V.length := by omega
   have hJ1 := HJs.out
   rw [List.take_length] at hJ1
   gi_wp2
   go_end0
   exact ⟨⟨_, rfl⟩, .inl ⟨_, rfl, hJ1⟩⟩
end Go.Proofs.Ytocphkfkdadhaaa.H

namespace Go.Proofs.Ytocphkfkdadhaaa.H
open Go.RowKit Go.Proofs.YtocphkfkdadhaaaW.PrintWords Go.Proofs.YtocphkfkdadhaaaW.PrintLast Go.Proofs.YtocphkfkdadhaaaW.PrintMore
set_option linter.unusedVariables false
set_option linter.unusedSimpArgs false
theorem z3_one : Aside0 (Arr 3 #[.bool false, .slice none 0 0, .slice none 0 0]) := ⟨rfl, by simp [Value.oneCell']⟩
theorem zB_one : Aside0 (Arr 3 #[.int .u64 0, .int .u64 0, .slice none 0 0]) := ⟨rfl, by simp [Value.oneCell']⟩
theorem arr3_ {b : Bool} {v : Value} {A : Option Addr} {n c : Nat} (h : v.oneCell' = true) : Arr 3 #[.bool b, v, .slice A n c] := ⟨rfl, by
 show (#[Value.bool b, v, .slice A n c].all (·.oneCell')) = true
 simp only [Array.all_eq_true_iff_forall_mem]
 intro x hx
 simp at hx
 rcases hx with rfl | rfl | rfl
 ·rfl
 ·exact h
 ·rfl⟩
theorem R_one {α : Type} {d : Kd α} {e : Nat} {w : World} {base : Nat} {ok : Nat → Prop} {v : Value} {xs : List α} (h : d.R e w base ok v xs) : v.oneCell' = true := by
 obtain ⟨A, c, rfl⟩ := Kd.R_slice h
 rfl
theorem run_index_ptr {P : Program} (t e u : TypeId) (n : Nat) (ht : P.underlying t = some (.array n e)) (he : P.underlying e = some (.pointer u)) (hs : (P.info? e).map (·.size) = some 1) (cs : Array Value) (i : Int) (hi : 0 ≤ i ∧ i < n) {v : Value} (hv : cs[i.toNat]? = some v) (w : World) :
 (Instr.index t (.agg cs) (.int .i64 i)).run P w = .ok v w := by
 obtain ⟨ti, hti, hsz⟩ := Option.map_eq_some_iff.1 hs
 have hag : (isAgg e).run P w = .ok false w := by
  unfold isAgg
  simp [run_underlying he, go_sem]
 simp only [Instr.index, asIntOf, Sem.run_bind, Sem.run_pure, Result.andThen_ok, run_underlying ht]
 rw [if_pos hi]
 simp [sizeOf, typeInfo, hti, hsz, part, hag, hv, go_sem]
def stB (n0 n1 : Int) : Nat → Array Value
 | 0 => #[.int .u64 0, .int .u64 0, .slice none 0 0]
 | 1 => #[.int .u64 n0, .int .u64 0, .slice none 0 0]
 | _ => #[.int .u64 n0, .int .u64 n1, .slice none 0 0]
theorem readnum_any (y : SI) (hb : K.Byt y.f1) (A1 : Option Addr) (c1 : Nat) (A2 : Option Addr) (c2 : Nat) (W : World) (h1 : Kd.C kB W A1 y.f1.length y.f1) (h2 : y.f1.length ≤ c1) (h3 : Kd.C kI W A2 y.f2.length y.f2) (h4 : y.f2.length ≤ c2) :
 Calls Try.prog 108 #[.agg #[.bool y.f0, .slice A1 y.f1.length c1, .slice A2 y.f2.length c2]] W fun e w' => e = .returned (.tuple #[.int .u64 (K.rnumP y).1, .int .i64 (K.rnumP y).2]) ∧ Below W.heap.size W w' := by
 obtain ⟨k, hk⟩ := K.readnum_f y hb
 exact PRF.rlp_ReadNum.calls k y.f0 A1 c1 y.f1 A2 c2 y.f2 _ _ W h1 h2 h3 h4 hk
theorem R_item {W : World} {base : Nat} {ok : Nat → Prop} {v : Value} {xs : List SI} {e : Nat} (h : Kd.R kI e W base ok v xs) (i : Nat) (hi : i < xs.length) :
 ∃ g cap A1 c1 A2 c2, v = .slice (some ⟨g, 0, none⟩) xs.length cap ∧ xs.length ≤ cap ∧ Kd.R kB 5 W base ok (.slice A1 xs[i].f1.length c1) xs[i].f1 ∧ Kd.R kI 159 W base ok (.slice A2 xs[i].f2.length c2) xs[i].f2 ∧ xs[i].f1.length ≤ c1 ∧ xs[i].f2.length ≤ c2 ∧
  ∀ (j : Nat) (u : Value), [Value.bool xs[i].f0, .slice A1 xs[i].f1.length c1, .slice A2 xs[i].f2.length c2][j]? = some u → W.cell? ⟨g, i * 3 + j, none⟩ = some u := by
 obtain ⟨g, cap, cs, h1, h2, hM, hcl⟩ := R_elem h i hi
 obtain ⟨v1, v2, rfl, hr1, hr2⟩ := PRF.k159_openM hM
 obtain ⟨A1, c1, rfl, hc1, _⟩ := Kd.R_reads hr1
 obtain ⟨A2, c2, rfl, hc2, _⟩ := Kd.R_reads hr2
 exact ⟨g, cap, A1, c1, A2, c2, h1, h2, hr1, hr2, hc1, hc2, hcl⟩
theorem all_snoc (l : List SI) (j : Nat) (h : j < l.length) : ((l.take (j + 1)).all fun y => !y.f0) = (((l.take j).all fun y => !y.f0) && !l[j].f0) := by
 rw [List.take_succ_eq_append_getElem h, List.all_append]; simp
theorem f1s_snoc (l : List SI) (j : Nat) (h : j < l.length) : (l.take (j + 1)).map (fun y => y.f1) = (l.take j).map (fun y => y.f1) ++ [l[j].f1] := by
 rw [List.take_succ_eq_append_getElem h, List.map_append]; rfl
set_option maxHeartbeats 4000000 in
set_option maxRecDepth 100000 in
theorem readbatch_any (b : List Int) (A : Option Addr) (c : Nat) (w : World) (hB : ∀ x ∈ b, 0 ≤ x ∧ x ≤ 255) (hC : Kd.C kB w A b.length b) (hc : b.length ≤ c) :
 Calls Try.prog 55 #[.slice A b.length c] w (BatchPost w (batchP b)) := by
 have H0 := Aside0.mk (Own.start w)
 have HD := Aside0.mk (fun W (h : Below w.heap.size w W) => K.decode_any A c b W (Kd.C_below hC h) hc hB)
 have hmf : ∀ (fn : Fn) (first cap : Array Value) (w : World), (Instr.makeFunc fn first cap).run Try.prog w = .ok (.func fn first cap) w := fun _ _ _ _ => rfl
 obtain ⟨r, hr⟩ : ∃ r, r = batchP b := ⟨_, rfl⟩
 rw [← hr]
 unfold batchP at hr
 have HBI := fun (x : SI) (h : K.decodeP b = .ok x) => decodeP_byt hB h
 have HER := fun (e : Int) (h : K.decodeP b = .error e) => decodeP_err h
 clear hC hc hB
 generalize K.decodeP b = dec at *
 generalize b.length = nb at *
 have HZ3 := z3_one
 have HZB := zB_one
 cases dec with
 | error e =>
  obtain rfl : r = (zeroBt, e) := hr
  have he : (e != 0) = true := by have := HER e rfl; simpa using this
  clear HBI HER
  go_enter Try.func55, Try.ntmps55
  go_wp2_with (first
   | fail
   | ((with_reducible refine Gd 2 ?_); ( refine OA H0 108 #[.int .u64 0, .int .u64 0, .slice none 0 0] 3 ?_; intro g2 w1 H1 B1))
   | (go_at_call 106; ( refine (HD.out _ H1.out.below).mono ?_; rintro e' w3 ⟨hB3, rfl⟩; have H3 := Aside0.mk (H1.out.step hB3); clear hB3))
   | ((with_reducible refine Gd 4 ?_); ( refine OA H3 159 #[.bool false, .slice none 0 0, .slice none 0 0] 3 ?_; intro g4 w4 H4 B4))
   | ((with_reducible refine Gs 159 4 ?_); ( refine OS 4 17 H4 0 g4 159 #[.bool false, .slice none 0 0, .slice none 0 0] 3 HZ3 HZ3 ?_; intro w5 H5))
   | ((with_reducible refine Gs 108 2 ?_); ( refine OS 2 21 H5 1 g2 108 #[.int .u64 0, .int .u64 0, .slice none 0 0] 3 HZB HZB ?_; intro w6 H6))
   )
  refine bodyPost_ret (own_resultV_t rfl _ H6.out 1 g2 _ rfl rfl _ Try.underlying108 rfl (by kernel_rfl) _ rfl) rfl ?_
  exact ⟨_, rfl, ((H6.out.erase 0).erase 0).null kL _⟩
 | ok x =>
 obtain ⟨f0, f1, f2⟩ := x
 have hbi := HBI _ rfl
 clear HBI HER
 replace HD : Aside0 (∀ W, Below w.heap.size w W → Calls Try.prog 106 #[.slice A nb c] W fun e w' => ∃ v1 v2, e = .returned (.tuple #[.agg #[.bool f0, v1, v2], .int .i64 0]) ∧ Below W.heap.size W w' ∧ v1.oneCell' = true ∧ ∃ A2 c2, v2 = .slice A2 f2.length c2 ∧ f2.length ≤ c2 ∧ Kd.R kI 159 w' W.heap.size (fun _ => True) (.slice A2 f2.length c2) f2) := ⟨fun W h => (HD.out W h).mono fun e w' hp => by
  obtain ⟨hb, v1, v2, he, hr1, hr2⟩ := hp
  obtain ⟨A2, c2, rfl, hc2, _⟩ := Kd.R_reads hr2
  exact ⟨v1, _, he, hb, R_one hr1, A2, c2, rfl, hc2, hr2⟩⟩
 have HR : Aside0 (r = shapeB f0 f2) := ⟨hr⟩
 clear hr
 by_cases hl : f2.length = 3
 case neg =>
  have hl3 : ((f2.length : Int) != 3) = true := by simp; omega
  obtain ⟨n2, hn2⟩ : ∃ n2, n2 = f2.length := ⟨_, rfl⟩
  rw [← hn2] at HD hl3
  clear hn2
  cases f0
  ·
   obtain rfl : r = (zeroBt, 8) := HR.out.trans (shapeB_bad (by first | exact Or.inl rfl | exact Or.inr hl))
   clear HR hbi
   go_enter Try.func55, Try.ntmps55
   go_upto_region 6 with (first
    | fail
    | ((with_reducible refine Gd 2 ?_); ( refine OA H0 108 #[.int .u64 0, .int .u64 0, .slice none 0 0] 3 ?_; intro g2 w1 H1 B1))
    | (go_at_call 106; ( refine (HD.out _ H1.out.below).mono ?_; rintro e' wd ⟨v1, v2, rfl, hB3, hv1, A2, c2, rfl, hc2, hR2⟩; have HBD := Aside0.mk hB3; have H3 := Aside0.mk (Own.start wd); replace hR2 := Aside0.mk hR2; clear hB3))
    | ((with_reducible refine Gd 4 ?_); ( refine OA H3 159 #[.bool false, .slice none 0 0, .slice none 0 0] 3 ?_; intro g4 w4 H4 B4))
    | ((with_reducible refine gate_store (t := 159) (p := 4) rfl ?_); ( have HX3 : Aside0 (Arr 3 #[.bool false, v1, .slice A2 n2 c2]) := ⟨arr3_ hv1⟩; refine own_store H4.out 0 g4 _ 159 rfl rfl (.tmp 4) (.tmp 17) rfl #[.bool false, v1, .slice A2 n2 c2] (by rfl) (by rfl) 3 HZ3.out HX3.out (by kernel_rfl) ?_; intro w5 H5; replace H5 := Aside0.mk H5))
    | ((with_reducible refine Gd 24 ?_); ( refine OD 23 157 H5 0 g4 2 (.slice A2 n2 c2) Try.underlying157 ?_))
    | ((with_reducible refine Gd 6 ?_); ( refine OA1 H5 157 (.slice none 0 0) ?_; intro g6 w6 H6 B6))
    | ((with_reducible refine Gs 157 6 ?_); ( refine OT1 6 157 H6 0 g6 157 0 (.slice A2 n2 c2) #[.slice A2 n2 c2] rfl (by simp) ?_; intro w7 H7))
    )
   have H8 := Aside0.mk (H1.out.step (below_step HBD.out H7.out.below))
   go_wp2_with (first
    | fail
    | ((with_reducible refine Gd 27 ?_); ( refine OD 26 4 H7 1 g4 0 (.bool false) Try.underlying4 ?_))
    | ((with_reducible refine Gd 30 ?_); ( refine GD 6 157 H7 0 g6 0 (.slice A2 n2 c2) Try.underlying157 ?_))
    | ((with_reducible refine Gs 108 2 ?_); ( refine OS 2 34 H8 0 g2 108 #[.int .u64 0, .int .u64 0, .slice none 0 0] 3 HZB HZB ?_; intro w9 H9))
    )
   refine bodyPost_ret (own_resultV_t rfl _ H9.out 0 g2 _ rfl rfl _ Try.underlying108 rfl (by kernel_rfl) _ rfl) rfl ?_
   exact ⟨_, rfl, (H9.out.erase 0).null kL _⟩
  ·
   obtain rfl : r = (zeroBt, 8) := HR.out.trans (shapeB_bad (by first | exact Or.inl rfl | exact Or.inr hl))
   clear HR hbi
   go_enter Try.func55, Try.ntmps55
   go_upto_region 6 with (first
    | fail
    | ((with_reducible refine Gd 2 ?_); ( refine OA H0 108 #[.int .u64 0, .int .u64 0, .slice none 0 0] 3 ?_; intro g2 w1 H1 B1))
    | (go_at_call 106; ( refine (HD.out _ H1.out.below).mono ?_; rintro e' wd ⟨v1, v2, rfl, hB3, hv1, A2, c2, rfl, hc2, hR2⟩; have HBD := Aside0.mk hB3; have H3 := Aside0.mk (Own.start wd); replace hR2 := Aside0.mk hR2; clear hB3))
    | ((with_reducible refine Gd 4 ?_); ( refine OA H3 159 #[.bool false, .slice none 0 0, .slice none 0 0] 3 ?_; intro g4 w4 H4 B4))
    | ((with_reducible refine gate_store (t := 159) (p := 4) rfl ?_); ( have HX3 : Aside0 (Arr 3 #[.bool true, v1, .slice A2 n2 c2]) := ⟨arr3_ hv1⟩; refine own_store H4.out 0 g4 _ 159 rfl rfl (.tmp 4) (.tmp 17) rfl #[.bool true, v1, .slice A2 n2 c2] (by rfl) (by rfl) 3 HZ3.out HX3.out (by kernel_rfl) ?_; intro w5 H5; replace H5 := Aside0.mk H5))
    | ((with_reducible refine Gd 24 ?_); ( refine OD 23 157 H5 0 g4 2 (.slice A2 n2 c2) Try.underlying157 ?_))
    | ((with_reducible refine Gd 6 ?_); ( refine OA1 H5 157 (.slice none 0 0) ?_; intro g6 w6 H6 B6))
    | ((with_reducible refine Gs 157 6 ?_); ( refine OT1 6 157 H6 0 g6 157 0 (.slice A2 n2 c2) #[.slice A2 n2 c2] rfl (by simp) ?_; intro w7 H7))
    )
   have H8 := Aside0.mk (H1.out.step (below_step HBD.out H7.out.below))
   go_wp2_with (first
    | fail
    | ((with_reducible refine Gd 27 ?_); ( refine OD 26 4 H7 1 g4 0 (.bool true) Try.underlying4 ?_))
    | ((with_reducible refine Gd 30 ?_); ( refine GD 6 157 H7 0 g6 0 (.slice A2 n2 c2) Try.underlying157 ?_))
    | ((with_reducible refine Gs 108 2 ?_); ( refine OS 2 34 H8 0 g2 108 #[.int .u64 0, .int .u64 0, .slice none 0 0] 3 HZB HZB ?_; intro w9 H9))
    )
   refine bodyPost_ret (own_resultV_t rfl _ H9.out 0 g2 _ rfl rfl _ Try.underlying108 rfl (by kernel_rfl) _ rfl) rfl ?_
   exact ⟨_, rfl, (H9.out.erase 0).null kL _⟩
 cases f0
 ·
  rw [hl] at HD
  obtain rfl : r = (zeroBt, 8) := HR.out.trans (shapeB_bad (by first | exact Or.inl rfl | exact Or.inr hl))
  clear HR hbi
  go_enter Try.func55, Try.ntmps55
  go_upto_region 6 with (first
   | fail
   | ((with_reducible refine Gd 2 ?_); ( refine OA H0 108 #[.int .u64 0, .int .u64 0, .slice none 0 0] 3 ?_; intro g2 w1 H1 B1))
   | (go_at_call 106; ( refine (HD.out _ H1.out.below).mono ?_; rintro e' wd ⟨v1, v2, rfl, hB3, hv1, A2, c2, rfl, hc2, hR2⟩; have HBD := Aside0.mk hB3; have H3 := Aside0.mk (Own.start wd); replace hR2 := Aside0.mk hR2; clear hB3))
   | ((with_reducible refine Gd 4 ?_); ( refine OA H3 159 #[.bool false, .slice none 0 0, .slice none 0 0] 3 ?_; intro g4 w4 H4 B4))
   | ((with_reducible refine gate_store (t := 159) (p := 4) rfl ?_); ( have HX3 : Aside0 (Arr 3 #[.bool false, v1, .slice A2 3 c2]) := ⟨arr3_ hv1⟩; refine own_store H4.out 0 g4 _ 159 rfl rfl (.tmp 4) (.tmp 17) rfl #[.bool false, v1, .slice A2 3 c2] (by rfl) (by rfl) 3 HZ3.out HX3.out (by kernel_rfl) ?_; intro w5 H5; replace H5 := Aside0.mk H5))
   | ((with_reducible refine Gd 24 ?_); ( refine OD 23 157 H5 0 g4 2 (.slice A2 3 c2) Try.underlying157 ?_))
   | ((with_reducible refine Gd 6 ?_); ( refine OA1 H5 157 (.slice none 0 0) ?_; intro g6 w6 H6 B6))
   | ((with_reducible refine Gs 157 6 ?_); ( refine OT1 6 157 H6 0 g6 157 0 (.slice A2 3 c2) #[.slice A2 3 c2] rfl (by simp) ?_; intro w7 H7))
   )
  have H8 := Aside0.mk (H1.out.step (below_step HBD.out H7.out.below))
  go_wp2_with (first
   | fail
   | ((with_reducible refine Gd 27 ?_); ( refine OD 26 4 H7 1 g4 0 (.bool false) Try.underlying4 ?_))
   | ((with_reducible refine Gd 30 ?_); ( refine GD 6 157 H7 0 g6 0 (.slice A2 3 c2) Try.underlying157 ?_))
   | ((with_reducible refine Gs 108 2 ?_); ( refine OS 2 34 H8 0 g2 108 #[.int .u64 0, .int .u64 0, .slice none 0 0] 3 HZB HZB ?_; intro w9 H9))
   )
  refine bodyPost_ret (own_resultV_t rfl _ H9.out 0 g2 _ rfl rfl _ Try.underlying108 rfl (by kernel_rfl) _ rfl) rfl ?_
  exact ⟨_, rfl, (H9.out.erase 0).null kL _⟩
 obtain ⟨y0, y1, y2, rfl⟩ : ∃ y0 y1 y2, f2 = [y0, y1, y2] := by
  match f2, hl with
  | [a, b, c], _ => exact ⟨a, b, c, rfl⟩
 replace HR : Aside0 (r = itemsB y0 y1 y2) := ⟨HR.out⟩
 have hb0 := BytI_f1 (BytI_f2 hbi y0 (by simp))
 have hb1 := BytI_f1 (BytI_f2 hbi y1 (by simp))
 clear hbi hl
 go_enter Try.func55, Try.ntmps55
 go_upto_region 6 with (first
  | fail
  | ((with_reducible refine Gd 2 ?_); ( refine OA H0 108 #[.int .u64 0, .int .u64 0, .slice none 0 0] 3 ?_; intro g2 w1 H1 B1))
  | (go_at_call 106; ( refine (HD.out _ H1.out.below).mono ?_; rintro e' wd ⟨v1, v2, rfl, hB3, hv1, A2, c2, rfl, hc2, hR2⟩; have HBD := Aside0.mk hB3; have H3 := Aside0.mk (Own.start wd); replace hR2 := Aside0.mk hR2; clear hB3))
  | ((with_reducible refine Gd 4 ?_); ( refine OA H3 159 #[.bool false, .slice none 0 0, .slice none 0 0] 3 ?_; intro g4 w4 H4 B4))
  | ((with_reducible refine gate_store (t := 159) (p := 4) rfl ?_); ( have HX3 : Aside0 (Arr 3 #[.bool true, v1, .slice A2 3 c2]) := ⟨arr3_ hv1⟩; refine own_store H4.out 0 g4 _ 159 rfl rfl (.tmp 4) (.tmp 17) rfl #[.bool true, v1, .slice A2 3 c2] (by rfl) (by rfl) 3 HZ3.out HX3.out (by kernel_rfl) ?_; intro w5 H5; replace H5 := Aside0.mk H5))
  | ((with_reducible refine Gd 24 ?_); ( refine OD 23 157 H5 0 g4 2 (.slice A2 3 c2) Try.underlying157 ?_))
  | ((with_reducible refine Gd 6 ?_); ( refine OA1 H5 157 (.slice none 0 0) ?_; intro g6 w6 H6 B6))
  | ((with_reducible refine Gs 157 6 ?_); ( refine OT1 6 157 H6 0 g6 157 0 (.slice A2 3 c2) #[.slice A2 3 c2] rfl (by simp) ?_; intro w7 H7))
  )
 obtain ⟨gI, cap, a1, d1, a2, d2, he, hcap, q1, q2, q3, q4, hcl0⟩ := R_item hR2.out 0 (by simp)
 injection he with he1 he2 he3
 subst he1 he3
 obtain ⟨_, _, b1, e1, b2, e2, he, _, p1, p2, p3, p4, hcl1⟩ := R_item hR2.out 1 (by simp)
 injection he with he1 he2 he3
 injection he1 with he1
 injection he1 with he1
 subst he1 he3
 obtain ⟨_, _, f1', g1', f2', g2', he, _, s1, s2, s3, s4, hcl2⟩ := R_item hR2.out 2 (by simp)
 injection he with he1 he2 he3
 injection he1 with he1
 injection he1 with he1
 subst he1 he3
 simp only [List.getElem_cons_zero, List.getElem_cons_succ, Nat.zero_mul, Nat.one_mul, Nat.zero_add] at *
 have HCL0 := Aside0.mk hcl0
 have HCL1 := Aside0.mk hcl1
 have HCL2 := Aside0.mk hcl2
 have HN0 : Aside0 (∀ W, Below wd.heap.size wd W → Calls Try.prog 108 #[.agg #[.bool y0.f0, .slice a1 y0.f1.length d1, .slice a2 y0.f2.length d2]] W fun e w' => e = .returned (.tuple #[.int .u64 (K.rnumP y0).1, .int .i64 (K.rnumP y0).2]) ∧ Below W.heap.size W w') := ⟨fun W h => by
  obtain ⟨_, _, x1, _, x3⟩ := Kd.R_reads q1
  injection x1 with x1 _ _
  subst x1
  obtain ⟨_, _, x1, _, x4⟩ := Kd.R_reads q2
  injection x1 with x1 _ _
  subst x1
  exact readnum_any y0 hb0 _ d1 _ d2 W (Kd.C_below x3 h) q3 (Kd.C_below x4 h) q4⟩
 have HN1 : Aside0 (∀ W, Below wd.heap.size wd W → Calls Try.prog 108 #[.agg #[.bool y1.f0, .slice b1 y1.f1.length e1, .slice b2 y1.f2.length e2]] W fun e w' => e = .returned (.tuple #[.int .u64 (K.rnumP y1).1, .int .i64 (K.rnumP y1).2]) ∧ Below W.heap.size W w') := ⟨fun W h => by
  obtain ⟨_, _, x1, _, x3⟩ := Kd.R_reads p1
  injection x1 with x1 _ _
  subst x1
  obtain ⟨_, _, x1, _, x4⟩ := Kd.R_reads p2
  injection x1 with x1 _ _
  subst x1
  exact readnum_any y1 hb1 _ e1 _ e2 W (Kd.C_below x3 h) p3 (Kd.C_below x4 h) p4⟩
 have HS2 := Aside0.mk s2
 unfold itemsB at HR
 clear hb0 hb1 hcl0 hcl1 hcl2 q1 q2 q3 q4 p1 p2 p3 p4 s1 s2 s3 hR2 HD B4 B6 H3 H4 H5 H6
 generalize y0.f1.length = x1 at *
 generalize y0.f2.length = x2 at *
 generalize y1.f1.length = x3 at *
 generalize y1.f2.length = x4 at *
 generalize y2.f1.length = x5 at *
 generalize K.rnumP y0 = rn0 at *
 generalize K.rnumP y1 = rn1 at *
 obtain ⟨n0, er0⟩ := rn0
 obtain ⟨n1, er1⟩ := rn1
 dsimp only at HR HN0 HN1
 go_wp2_with (first
  | fail
  | ((with_reducible refine Gd 27 ?_); ( refine OD 26 4 H7 1 g4 0 (.bool true) Try.underlying4 ?_))
  | ((with_reducible refine Gd 30 ?_); ( refine GD 6 157 H7 0 g6 0 (.slice (some ⟨gI, 0, none⟩) 3 c2) Try.underlying157 ?_))
  | ((with_reducible refine Gd 8 ?_); ( refine OA H7 108 #[.int .u64 0, .int .u64 0, .slice none 0 0] 3 ?_; intro g8 w8 H8 B8))
  )
 have hc0 : 3 ≤ c2 := hc2
 replace H8 : Aside0 (Own wd.heap.size wd w8 [.blk g8 (stB n0 n1 0) 108, .blk g6 #[.slice (some ⟨gI, 3 * 0, none⟩) (3 - 0) c2] 157, .blk g4 #[.bool true, v1, .slice (some ⟨gI, 0, none⟩) 3 c2] 159]) := ⟨H8.out⟩
 clear hc2 hcap H7 H0 B8
 go_loopw [38] (fun v38 wr => ∃ (i c' : Nat), i ≤ 2 ∧ v38 = .int .i64 (i : Int) ∧ 3 - i ≤ c' ∧ Aside0 ((1 ≤ i → er0 = 0) ∧ (2 ≤ i → er1 = 0)) ∧ Aside0 (Own wd.heap.size wd wr [.blk g8 (stB n0 n1 i) 108, .blk g6 #[.slice (some ⟨gI, 3 * i, none⟩) (3 - i) c'] 157, .blk g4 #[.bool true, v1, .slice (some ⟨gI, 0, none⟩) 3 c2] 159])) (fun v38 _ => 2 - (intOf v38).toNat)
 case atStart => exact ⟨0, c2, by decide, rfl, hc0, ⟨fun h => by omega, fun h => by omega⟩, H8⟩
 case round =>
  clear H8 hc0
  obtain ⟨i, c', hi, rfl, hc', HE, HI⟩ := hrel
  have hix0 : ∀ W : World, (Instr.index 169 (.agg #[.pointer (some ⟨g8, 0, none⟩), .pointer (some ⟨g8, 1, none⟩)]) (.int .i64 0)).run Try.prog W = .ok (.pointer (some ⟨g8, 0, none⟩)) W := fun W => run_index_ptr _ _ _ _ Try.underlying169 Try.underlying168 (by kernel_rfl) _ 0 (by decide) rfl W
  have hix1 : ∀ W : World, (Instr.index 169 (.agg #[.pointer (some ⟨g8, 0, none⟩), .pointer (some ⟨g8, 1, none⟩)]) (.int .i64 1)).run Try.prog W = .ok (.pointer (some ⟨g8, 1, none⟩)) W := fun W => run_index_ptr _ _ _ _ Try.underlying169 Try.underlying168 (by kernel_rfl) _ 1 (by decide) rfl W
  obtain rfl | rfl | rfl : i = 0 ∨ i = 1 ∨ i = 2 := by omega
  ·
   have HC := Aside0.mk (next_any y0.f0 (.slice a1 x1 d1) (.slice a2 x2 d2) rfl rfl gI 0 g6 3 c' (HI.out.bring 1 rfl) (fun j u hj => by have h := pw_cell_below HI.out.below (HCL0.out j u hj); first | exact h | (rw [Nat.zero_add]; exact h)) (by decide) hc')
   rw [if_neg (by omega)] at HC
   by_cases hz : er0 = 0
   ·have hzb : (er0 != 0) = false := by simp [hz]
    replace hz := Aside0.mk hz
    go_wp2_with (first
     | fail
     | (go_at_call 107; ( refine HC.out.mono ?_; rintro e w5 ⟨rfl, H5⟩; replace H5 := Aside0.mk H5))
     | (go_at_call 108; ( refine (HN0.out _ H5.out.below).mono ?_; rintro e w6 ⟨rfl, hB6⟩; have H6 := Aside0.mk (H5.out.step hB6); clear hB6))
     | ((with_reducible refine Gs 23 48 ?_); ( refine OT1 48 23 H6 1 g8 108 0 (.int .u64 n0) #[.int .u64 n0, .int .u64 0, .slice none 0 0] rfl (by simp [stB]) ?_; intro w7 H7))
     )
    go_roundw
    case rel => exact ⟨0 + 1, c' - 1, by decide, rfl, by omega, ⟨fun _ => hz.out, fun h => absurd h (by decide)⟩, ⟨H7.out.bring 1 rfl⟩⟩
    case measure => simp [intOf]
   ·have hzb : (er0 != 0) = true := by simpa using hz
    obtain rfl : r = (zeroBt, 8) := by rw [HR.out, if_neg (by rintro ⟨h1, h2, _⟩; first | exact hz h1 | exact hz h2)]
    clear HR
    go_upto_if 50 with (first
     | fail
     | (go_at_call 107; ( refine HC.out.mono ?_; rintro e w5 ⟨rfl, H5⟩; replace H5 := Aside0.mk H5))
     | (go_at_call 108; ( refine (HN0.out _ H5.out.below).mono ?_; rintro e w6 ⟨rfl, hB6⟩; have H6 := Aside0.mk (H5.out.step hB6); clear hB6))
     | ((with_reducible refine Gs 23 48 ?_); ( refine OT1 48 23 H6 1 g8 108 0 (.int .u64 n0) #[.int .u64 n0, .int .u64 0, .slice none 0 0] rfl (by simp [stB]) ?_; intro w7 H7))
     )
    have H8 := Aside0.mk (H1.out.step (below_step HBD.out H7.out.below))
    go_wp2_with (first
     | fail
     | ((with_reducible refine Gs 108 2 ?_); ( refine OS 2 51 H8 0 g2 108 #[.int .u64 0, .int .u64 0, .slice none 0 0] 3 HZB HZB ?_; intro w9 H9))
     )
    refine bodyPost_ret (own_resultV_t rfl _ H9.out 0 g2 _ rfl rfl _ Try.underlying108 rfl (by kernel_rfl) _ rfl) rfl ?_
    exact ⟨_, rfl, (H9.out.erase 0).null kL _⟩
  ·
   have HC := Aside0.mk (next_any y1.f0 (.slice b1 x3 e1) (.slice b2 x4 e2) rfl rfl gI 3 g6 2 c' (HI.out.bring 1 rfl) (fun j u hj => by have h := pw_cell_below HI.out.below (HCL1.out j u hj); first | exact h | (rw [Nat.zero_add]; exact h)) (by decide) hc')
   rw [if_neg (by omega)] at HC
   by_cases hz : er1 = 0
   ·have hzb : (er1 != 0) = false := by simp [hz]
    replace hz := Aside0.mk hz
    go_wp2_with (first
     | fail
     | (go_at_call 107; ( refine HC.out.mono ?_; rintro e w5 ⟨rfl, H5⟩; replace H5 := Aside0.mk H5))
     | (go_at_call 108; ( refine (HN1.out _ H5.out.below).mono ?_; rintro e w6 ⟨rfl, hB6⟩; have H6 := Aside0.mk (H5.out.step hB6); clear hB6))
     | ((with_reducible refine Gs 23 48 ?_); ( refine OT1 48 23 H6 1 g8 108 1 (.int .u64 n1) #[.int .u64 n0, .int .u64 n1, .slice none 0 0] rfl (by simp [stB]) ?_; intro w7 H7))
     )
    go_roundw
    case rel => exact ⟨1 + 1, c' - 1, by decide, rfl, by omega, ⟨fun _ => HE.out.1 (by decide), fun _ => hz.out⟩, ⟨H7.out.bring 1 rfl⟩⟩
    case measure => simp [intOf]
   ·have hzb : (er1 != 0) = true := by simpa using hz
    obtain rfl : r = (zeroBt, 8) := by rw [HR.out, if_neg (by rintro ⟨h1, h2, _⟩; first | exact hz h1 | exact hz h2)]
    clear HR
    go_upto_if 50 with (first
     | fail
     | (go_at_call 107; ( refine HC.out.mono ?_; rintro e w5 ⟨rfl, H5⟩; replace H5 := Aside0.mk H5))
     | (go_at_call 108; ( refine (HN1.out _ H5.out.below).mono ?_; rintro e w6 ⟨rfl, hB6⟩; have H6 := Aside0.mk (H5.out.step hB6); clear hB6))
     | ((with_reducible refine Gs 23 48 ?_); ( refine OT1 48 23 H6 1 g8 108 1 (.int .u64 n1) #[.int .u64 n0, .int .u64 n1, .slice none 0 0] rfl (by simp [stB]) ?_; intro w7 H7))
     )
    have H8 := Aside0.mk (H1.out.step (below_step HBD.out H7.out.below))
    go_wp2_with (first
     | fail
     | ((with_reducible refine Gs 108 2 ?_); ( refine OS 2 51 H8 0 g2 108 #[.int .u64 0, .int .u64 0, .slice none 0 0] 3 HZB HZB ?_; intro w9 H9))
     )
    refine bodyPost_ret (own_resultV_t rfl _ H9.out 0 g2 _ rfl rfl _ Try.underlying108 rfl (by kernel_rfl) _ rfl) rfl ?_
    exact ⟨_, rfl, (H9.out.erase 0).null kL _⟩
  have hN := Aside0.mk (next_any y2.f0 (.slice f1' x5 g1') (.slice f2' y2.f2.length g2') rfl rfl gI 6 g6 1 c' (HI.out.bring 1 rfl) (fun j u hj => pw_cell_below HI.out.below (HCL2.out j u hj)) (by decide) hc')
  obtain ⟨he0, he1⟩ := HE.out
  replace he0 : er0 = 0 := he0 (by decide)
  replace he1 : er1 = 0 := he1 (by decide)
  subst he0 he1
  obtain ⟨n5, hn5⟩ : ∃ n5, n5 = y2.f2.length := ⟨_, rfl⟩
  have HN5 := Aside0.mk hn5
  rw [← hn5] at hN HS2 s4
  rw [← hn5] at HCL2
  clear hn5 HE HI HCL0 HCL1 HN0 HN1 hix0 hix1
  have hdl2 : decide ((2 : Int) < 2) = false := by decide
  obtain ⟨Ax, hN⟩ : ∃ Ax, Aside0 (Calls Try.prog 107 #[.pointer (some ⟨g6, 0, none⟩)] wr fun e w' => e = .returned (.agg #[.bool y2.f0, .slice f1' x5 g1', .slice f2' n5 g2']) ∧ Own wd.heap.size wd w' [.blk g6 #[.slice Ax 0 (c' - 1)] 157, .blk g8 #[.int .u64 n0, .int .u64 n1, .slice none 0 0] 108, .blk g4 #[.bool true, v1, .slice (some ⟨gI, 0, none⟩) 3 c2] 159]) := ⟨_, hN⟩
  generalize y2.f0 = b2 at *
  have HX5 : Aside0 (Arr 3 #[.bool b2, .slice f1' x5 g1', .slice f2' n5 g2']) := ⟨arr3_ rfl⟩
  clear hc' hi
  cases b2
  ·
   obtain rfl : r = (zeroBt, 8) := by rw [HR.out, if_neg (by rintro ⟨_, _, h, _⟩; cases h)]
   clear HR
   go_upto_if 63 with (first
    | fail
    | (go_at_call 107; ( refine hN.out.mono ?_; rintro e w5 ⟨rfl, H5⟩; replace H5 := Aside0.mk H5))
    | ((with_reducible refine Gd 11 ?_); ( refine OA H5 159 #[.bool false, .slice none 0 0, .slice none 0 0] 3 ?_; intro g11 w6 H6 B6))
    | ((with_reducible refine Gs 159 11 ?_); ( refine OS 11 54 H6 0 g11 159 #[.bool false, .slice f1' x5 g1', .slice f2' n5 g2'] 3 HZ3 HX5 ?_; intro w7 H7))
    | ((with_reducible refine Gd 56 ?_); ( refine OD 55 4 H7 0 g11 0 (.bool false) Try.underlying4 ?_))
    | ((with_reducible refine Gd 60 ?_); ( refine GD 59 157 H7 0 g11 2 (.slice f2' n5 g2') Try.underlying157 ?_))
    | ((with_reducible refine Gd 66 ?_); ( refine OD 65 157 H7 0 g11 2 (.slice f2' n5 g2') Try.underlying157 ?_))
    )
   have H8 := Aside0.mk (H1.out.step (below_step HBD.out H7.out.below))
   go_wp2_with (first
    | fail
    | ((with_reducible refine Gs 108 2 ?_); ( refine OS 2 64 H8 0 g2 108 #[.int .u64 0, .int .u64 0, .slice none 0 0] 3 HZB HZB ?_; intro w9 H9))
    )
   refine bodyPost_ret (own_resultV_t rfl _ H9.out 0 g2 _ rfl rfl _ Try.underlying108 rfl (by kernel_rfl) _ rfl) rfl ?_
   exact ⟨_, rfl, (H9.out.erase 0).null kL _⟩
  by_cases hbig : n5 ≤ 4096
  case neg =>
   have hdb : decide (4096 < (n5 : Int)) = true := decide_eq_true (by omega)
   obtain rfl : r = (zeroBt, 8) := by rw [HR.out, if_neg (by rintro ⟨_, _, _, h, _⟩; rw [← HN5.out] at h; exact hbig h)]
   clear HR
   go_upto_if 63 with (first
    | fail
    | (go_at_call 107; ( refine hN.out.mono ?_; rintro e w5 ⟨rfl, H5⟩; replace H5 := Aside0.mk H5))
    | ((with_reducible refine Gd 11 ?_); ( refine OA H5 159 #[.bool false, .slice none 0 0, .slice none 0 0] 3 ?_; intro g11 w6 H6 B6))
    | ((with_reducible refine Gs 159 11 ?_); ( refine OS 11 54 H6 0 g11 159 #[.bool true, .slice f1' x5 g1', .slice f2' n5 g2'] 3 HZ3 HX5 ?_; intro w7 H7))
    | ((with_reducible refine Gd 56 ?_); ( refine OD 55 4 H7 0 g11 0 (.bool true) Try.underlying4 ?_))
    | ((with_reducible refine Gd 60 ?_); ( refine GD 59 157 H7 0 g11 2 (.slice f2' n5 g2') Try.underlying157 ?_))
    | ((with_reducible refine Gd 66 ?_); ( refine OD 65 157 H7 0 g11 2 (.slice f2' n5 g2') Try.underlying157 ?_))
    )
   have H8 := Aside0.mk (H1.out.step (below_step HBD.out H7.out.below))
   go_wp2_with (first
    | fail
    | ((with_reducible refine Gs 108 2 ?_); ( refine OS 2 64 H8 0 g2 108 #[.int .u64 0, .int .u64 0, .slice none 0 0] 3 HZB HZB ?_; intro w9 H9))
    )
   refine bodyPost_ret (own_resultV_t rfl _ H9.out 0 g2 _ rfl rfl _ Try.underlying108 rfl (by kernel_rfl) _ rfl) rfl ?_
   exact ⟨_, rfl, (H9.out.erase 0).null kL _⟩
  have hdb : decide (4096 < (n5 : Int)) = false := decide_eq_false (by omega)
  replace HR : Aside0 (r = if (y2.f2.all fun y => !y.f0) = true then (⟨n0, n1, y2.f2.map fun y => y.f1⟩, 0) else (zeroBt, 8)) := ⟨by
   rw [HR.out]
   by_cases h : (y2.f2.all fun y => !y.f0) = true
   ·rw [if_pos ⟨rfl, rfl, rfl, by rw [← HN5.out]; exact hbig, h⟩, if_pos h]
   ·rw [if_neg (by rintro ⟨_, _, _, _, h'⟩; exact h h'), if_neg h]⟩
  go_wp2_with (first
   | fail
   | (go_at_call 107; ( refine hN.out.mono ?_; rintro e w5 ⟨rfl, H5⟩; replace H5 := Aside0.mk H5))
   | ((with_reducible refine Gd 11 ?_); ( refine OA H5 159 #[.bool false, .slice none 0 0, .slice none 0 0] 3 ?_; intro g11 w6 H6 B6))
   | ((with_reducible refine Gs 159 11 ?_); ( refine OS 11 54 H6 0 g11 159 #[.bool true, .slice f1' x5 g1', .slice f2' n5 g2'] 3 HZ3 HX5 ?_; intro w7 H7))
   | ((with_reducible refine Gd 56 ?_); ( refine OD 55 4 H7 0 g11 0 (.bool true) Try.underlying4 ?_))
   | ((with_reducible refine Gd 60 ?_); ( refine GD 59 157 H7 0 g11 2 (.slice f2' n5 g2') Try.underlying157 ?_))
   | ((with_reducible refine Gd 66 ?_); ( refine OD 65 157 H7 0 g11 2 (.slice f2' n5 g2') Try.underlying157 ?_))
   )
  have H8 : Aside0 (Own wd.heap.size wd w7 [.row (shM kL wd (fun k => w1.heap.size ≤ k)) 74 (.slice none 0 0) ((y2.f2.take 0).map fun y => y.f1), .blk g8 #[.int .u64 n0, .int .u64 n1, .slice none 0 0] 108]) := ⟨((H7.out.erase 0).erase 0 |>.erase 1).null _ _⟩
  clear H5 H6 H7 B6 hN HCL2 HX5
  go_loopw [68] (fun v68 wr => ∃ (j : Nat) (vm : Value), j ≤ n5 ∧ v68 = .int .i64 (j : Int) ∧ Aside0 (((y2.f2.take j).all fun y => !y.f0) = true) ∧ Aside0 (Own wd.heap.size wd wr [.row (shM kL wd (fun k => w1.heap.size ≤ k)) 74 vm ((y2.f2.take j).map fun y => y.f1), .blk g8 #[.int .u64 n0, .int .u64 n1, vm] 108])) (fun v68 _ => n5 - (intOf v68).toNat)
  case atStart => exact ⟨0, _, Nat.zero_le _, rfl, ⟨rfl⟩, H8⟩
  case round =>
   clear H8
   obtain ⟨j, vm, hj, rfl, HA, HI⟩ := hrel
   by_cases hlt : j < n5
   ·have hdl : decide (j < n5) = true := decide_eq_true hlt
    have hib : (0 : Int) ≤ (j : Int) ∧ (j : Int) < (n5 : Int) := by omega
    have hjl : j < y2.f2.length := by rw [← HN5.out]; exact hlt
    obtain ⟨gL, cap, m1, k1, m2, k2, he, hcap, hr1, hr2, hm1, hm2, hcl⟩ := R_item HS2.out j hjl
    injection he with he he2 he3
    subst he he3
    clear he2
    have HAS := Aside0.mk (all_snoc y2.f2 j hjl)
    have HMS := Aside0.mk (f1s_snoc y2.f2 j hjl)
    obtain ⟨A5, c5, hv5, _, _⟩ := HI.out.reads 0 rfl
    have hlen : ((y2.f2.take j).map fun y => y.f1).length = j := by simp; omega
    rw [hlen] at hv5
    subst hv5
    have HP : Aside0 (∀ w : World, (shM kL wd (fun k => w1.heap.size ≤ k)).M w 0 (fun _ => False) y2.f2[j].f1 [.slice m1 y2.f2[j].f1.length k1]) := ⟨fun _ => ⟨_, rfl, Kd.R_lower (Kd.R_mono (Kd.R_bound hr1) fun k hk => hk.2.1) (Nat.zero_le _)⟩⟩
    have HCJ : Aside0 (∀ W, Below wd.heap.size wd W → ∀ (q : Nat) (u : Value), [Value.bool y2.f2[j].f0, .slice m1 y2.f2[j].f1.length k1, .slice m2 y2.f2[j].f2.length k2][q]? = some u → W.cell? ((⟨gL, j * 3, none⟩ : Addr).add q) = some u) := ⟨fun W hb q u hq => by
     rw [Addr.add_mid]; exact pw_cell_below hb (hcl q u hq)⟩
    have HX6 : Aside0 (Arr 3 #[.bool y2.f2[j].f0, .slice m1 y2.f2[j].f1.length k1, .slice m2 y2.f2[j].f2.length k2]) := ⟨arr3_ rfl⟩
    clear hr1 hr2 hm1 hm2 hcl hcap hlen
    generalize y2.f2[j].f1.length = l1 at *
    generalize y2.f2[j].f2.length = l2 at *
    generalize y2.f2[j].f1 = msg at *
    generalize y2.f2[j].f0 = bj at *
    have HL1 : Aside0 (((y2.f2.take j).map (fun y => y.f1) ++ [msg]).length = j + 1) := ⟨by simp; omega⟩
    cases bj
    ·
     rw [HA.out] at HAS
     go_wp2_with (first
      | fail
      | ((with_reducible refine gate_dst (N := 71) rfl ?_); ( refine ld_at rfl 159 (.tmp 70) rfl (⟨gL, j * 3, none⟩) ([.bool false, .slice m1 l1 k1, .slice m2 l2 k2]) _ rfl (HCJ.out _ HI.out.below) Try.underlying159 rfl (by kernel_rfl) ?_))
      | ((with_reducible refine Gd 13 ?_); ( refine OA HI 159 #[.bool false, .slice none 0 0, .slice none 0 0] 3 ?_; intro g13 w5 H5 B5))
      | ((with_reducible refine Gs 159 13 ?_); ( refine OS 13 71 H5 0 g13 159 #[.bool false, .slice m1 l1 k1, .slice m2 l2 k2] 3 HZ3 HX6 ?_; intro w6 H6))
      | ((with_reducible refine Gd 73 ?_); ( refine OD 72 4 H6 0 g13 0 (.bool false) Try.underlying4 ?_))
      | ((with_reducible refine Gd 76 ?_); ( refine OD 75 71 H6 2 g8 2 (.slice A5 j c5) Try.underlying71 ?_))
      | ((with_reducible refine Gd 78 ?_); ( refine OD 77 74 H6 0 g13 1 (.slice m1 l1 k1) Try.underlying74 ?_))
      | ((with_reducible refine gate_dst (N := 80) rfl ?_); (with_reducible refine gate_builtin (b := .append) (xs := #[.tmp 76, .tmp 79]) rfl ?_); ( refine own_append_any (shM kL wd (fun k => w1.heap.size ≤ k)) H6.out 1 rfl rfl (.tmp 76) (.tmp 79) 71 (.slice none 0 0) 24 rfl Try.underlying71 (PRF.info74) rfl (show 0 < 1 by decide) (by decide) (msg) ([.slice m1 l1 k1]) (HP.out) (by rfl) (by rfl) (by simp; omega) ?_; intro v8 w8 H8; (obtain ⟨A8, c8, hv8, _, _⟩ := H8.reads 1 rfl; rw [HL1.out] at hv8; subst hv8); replace H8 := Aside0.mk H8))
      | ((with_reducible refine Gs 71 81 ?_); ( refine OT1 81 71 H8 2 g8 108 2 (.slice A8 (j + 1) c8) (#[.int .u64 n0, .int .u64 n1, .slice A8 (j + 1) c8]) rfl (by simp) ?_; intro w9 H9))
      )
     go_roundw
     case rel => exact ⟨j + 1, _, hlt, by go_num, ⟨HAS.out⟩, ⟨by rw [HMS.out]; exact H9.out.erase 0⟩⟩
     case measure => simp [intOf]; omega
    ·
     have hrv : r = (zeroBt, 8) := by
      rw [HR.out, if_neg]
      intro h
      have h1 := HAS.out
      rw [HA.out] at h1
      rw [← List.take_append_drop (j + 1) y2.f2, List.all_append, h1] at h
      simp at h
     subst hrv
     clear HR
     go_upto_if 73 with (first
      | fail
      | ((with_reducible refine gate_dst (N := 71) rfl ?_); ( refine ld_at rfl 159 (.tmp 70) rfl (⟨gL, j * 3, none⟩) ([.bool true, .slice m1 l1 k1, .slice m2 l2 k2]) _ rfl (HCJ.out _ HI.out.below) Try.underlying159 rfl (by kernel_rfl) ?_))
      | ((with_reducible refine Gd 13 ?_); ( refine OA HI 159 #[.bool false, .slice none 0 0, .slice none 0 0] 3 ?_; intro g13 w5 H5 B5))
      | ((with_reducible refine Gs 159 13 ?_); ( refine OS 13 71 H5 0 g13 159 #[.bool true, .slice m1 l1 k1, .slice m2 l2 k2] 3 HZ3 HX6 ?_; intro w6 H6))
      | ((with_reducible refine Gd 73 ?_); ( refine OD 72 4 H6 0 g13 0 (.bool true) Try.underlying4 ?_))
      )
     have H8 := Aside0.mk (H1.out.step (below_step HBD.out H6.out.below))
     go_wp2_with (first
      | fail
      | ((with_reducible refine Gs 108 2 ?_); ( refine OS 2 74 H8 0 g2 108 #[.int .u64 0, .int .u64 0, .slice none 0 0] 3 HZB HZB ?_; intro w9 H9))
      )
     refine bodyPost_ret (own_resultV_t rfl _ H9.out 0 g2 _ rfl rfl _ Try.underlying108 rfl (by kernel_rfl) _ rfl) rfl ?_
     exact ⟨_, rfl, (H9.out.erase 0).null kL _⟩
   ·have hdl : decide (j < n5) = false := decide_eq_false hlt
    obtain rfl : n5 = j := by omega
    have hall : (y2.f2.all fun y => !y.f0) = true := by
     have h := HA.out
     rwa [List.take_of_length_le (by rw [← HN5.out]; exact Nat.le_refl _)] at h
    have hrv : r = (⟨n0, n1, y2.f2.map fun y => y.f1⟩, 0) := by rw [HR.out, if_pos hall]
    subst hrv
    have HI2 : Aside0 (Own wd.heap.size wd wr [.row (shM kL wd (fun k => w1.heap.size ≤ k)) 74 vm (y2.f2.map fun y => y.f1), .blk g8 #[.int .u64 n0, .int .u64 n1, vm] 108]) := ⟨by
     have h := HI.out
     rwa [List.take_of_length_le (by rw [← HN5.out]; exact Nat.le_refl _)] at h⟩
    have HF := Aside0.mk (H1.out.call (HI2.out.shM_up HBD.out (fun k hk => hk)))
    obtain ⟨A5, c5, rfl, _, _⟩ := HI2.out.reads 0 rfl
    have HXB : Aside0 (Arr 3 #[.int .u64 n0, .int .u64 n1, .slice A5 (y2.f2.map fun y => y.f1).length c5]) := ⟨rfl, by simp [Value.oneCell']⟩
    clear HI HR HA hall HS2
    generalize (y2.f2.map fun y => y.f1).length = ln at *
    go_wp2_with (first
     | fail
     | ((with_reducible refine Gd 83 ?_); ( refine OV 8 HI2 1 g8 108 rfl Try.underlying108 (by kernel_rfl) ?_))
     | ((with_reducible refine Gs 108 2 ?_); ( refine OS 2 83 HF 2 g2 108 #[.int .u64 n0, .int .u64 n1, .slice A5 ln c5] 3 HZB HXB ?_; intro w9 H9))
     )
    refine bodyPost_ret (own_resultV_t rfl _ H9.out 2 g2 _ rfl rfl _ Try.underlying108 rfl (by kernel_rfl) _ rfl) rfl ?_
    exact ⟨_, rfl, (H9.out.erase 1).erase 1⟩
end Go.Proofs.Ytocphkfkdadhaaa.H

namespace Go.Proofs.Ytocphkfkdadhaaa.H
open Go.RowKit Go.Proofs.YtocphkfkdadhaaaW.PrintWords Go.Proofs.YtocphkfkdadhaaaW.PrintLast Go.Proofs.YtocphkfkdadhaaaW.PrintMore
set_option linter.unusedVariables false
set_option linter.unusedSimpArgs false
def enqI (x : Box) (block : Int) (m : List Int) : Box × Int := if sinceI x.q x.tk x.l block && decide (m.length ≤ 65536) && !depB m then queueI x block m else (zeroB, 2)
theorem sinceI_may {q : List SQ} {tk : Int} {l : List (List Int)} {block : Int} (h : sinceI q tk l block = true) : mayI q tk l = true ∧ 0 ≤ block := by
 unfold sinceI at h
 rw [Bool.and_eq_true, Bool.and_eq_true, decide_eq_true_eq] at h
 exact h.1
set_option maxHeartbeats 4000000 in
set_option maxRecDepth 100000 in
theorem enqueue_any (x : Box) (block : Int) (msg : List Int) (A1 A2 Am : Option Addr) (c1 c2 cm : Nat) (w : World) (hC1 : Kd.C kQ w A1 x.q.length x.q) (hc1 : x.q.length ≤ c1) (hC2 : Kd.C kL w A2 x.l.length x.l) (hc2 : x.l.length ≤ c2)
 (hC3 : Kd.C kB w Am msg.length msg) (hc3 : msg.length ≤ cm) (hb : ∀ y ∈ msg, 0 ≤ y ∧ y ≤ 255) :
 Calls Try.prog 34 #[.agg #[.slice A1 x.q.length c1, .int .i64 x.tk, .slice A2 x.l.length c2, .int .u64 x.nx], .int .i64 block, .slice Am msg.length cm] w (BoxPost w (enqI x block msg)) := by
 have HS := Aside0.mk (fun W (h : Below w.heap.size w W) => since_any x.q x.tk x.l x.nx block A1 A2 c1 c2 W (Kd.C_below hC1 h) hc1 (Kd.C_below hC2 h) hc2)
 have HSH := Aside0.mk (fun W (h : Below w.heap.size w W) => short_any msg Am cm W (Kd.C_below hC3 h) hc3)
 have HD := Aside0.mk (fun W (h : Below w.heap.size w W) => deposit_any msg Am cm W hb (Kd.C_below hC3 h) hc3)
 have HQ := Aside0.mk (fun (W : World) (h : Below w.heap.size w W) (h1 : mayI x.q x.tk x.l = true) (h2 : msg.length ≤ 65536) => queue_any x block msg A1 A2 Am c1 c2 cm W (Kd.C_below hC1 h) hc1 (Kd.C_below hC2 h) hc2 (Kd.C_below hC3 h) hc3 (by omega) (by have := (mayI_len h1).2.1; omega) (fun d hd => by have := ((mayI_all h1).1 d hd).2; omega) (fun m hm => by have := (mayI_all h1).2 m hm; omega))
 have HSM := Aside0.mk (fun h : sinceI x.q x.tk x.l block = true => (sinceI_may h).1)
 have H0 := Aside0.mk (Own.start w)
 obtain ⟨r, hr⟩ : ∃ r, r = enqI x block msg := ⟨_, rfl⟩
 rw [← hr]
 unfold enqI at hr
 have HR := Aside0.mk hr
 have HL : Aside0 (decide (msg.length ≤ 65536) = true → msg.length ≤ 65536) := ⟨of_decide_eq_true⟩
 clear hr hC1 hC2 hC3 hc1 hc2 hc3 hb
 generalize hs1 : sinceI x.q x.tk x.l block = s1 at *
 generalize hs2 : decide (msg.length ≤ 65536) = s2 at *
 generalize hs3 : depB msg = s3 at *
 clear hs1 hs2 hs3
 have HQ2 := Aside0.mk (fun (W : World) (h : Below w.heap.size w W) (h1 : s1 = true) (h2 : s2 = true) => HQ.out W h (HSM.out h1) (HL.out h2))
 clear HQ HSM HL
 generalize queueI x block msg = qr at *
 obtain ⟨q, tk, l, nx⟩ := x
 dsimp only at *
 generalize q.length = n at *
 generalize l.length = m at *
 generalize msg.length = k at *
 cases s1
 ·
  obtain rfl : r = (zeroB, 2) := by rw [HR.out]; rfl
  clear HR
  have HA0 : Aside0 (Arr 4 #[.slice none 0 0, .int .i64 0, .slice none 0 0, .int .u64 0]) := ⟨rfl, by simp [Value.oneCell']⟩
  go_enter Try.func34, Try.ntmps34
  go_wp2_with (first
   | fail
   | ((with_reducible refine Gd 3 ?_); ( refine OB H0 73 #[.slice A1 n c1, .int .i64 tk, .slice A2 m c2, .int .u64 nx] ?_; intro g3 w1 H1 B1))
   | ((with_reducible refine Gd 6 ?_); ( refine OA H1 73 #[.slice none 0 0, .int .i64 0, .slice none 0 0, .int .u64 0] 4 ?_; intro g6 w2 H2 B2))
   | ((with_reducible refine Gd 8 ?_); ( refine OV 3 H2 1 g3 73 rfl Try.underlying73 (by kernel_rfl) ?_))
   | (go_at_call 81; refine (HS.out _ H2.out.below).mono ?_; rintro e w3 ⟨rfl, hB3⟩; have H3 := Aside0.mk (H2.out.step hB3); clear hB3)
   | (go_at_call 82; refine (HSH.out _ H3.out.below).mono ?_; rintro e w4 ⟨rfl, hB4⟩; have H4 := Aside0.mk (H3.out.step hB4); clear hB4)
   | (go_at_call 83; refine (HD.out _ H4.out.below).mono ?_; rintro e w5 ⟨rfl, hB5⟩; have H5 := Aside0.mk (H4.out.step hB5); clear hB5)
   | ((with_reducible refine Gs 73 6 ?_); ( refine OS 6 21 H3 0 g6 73 #[.slice none 0 0, .int .i64 0, .slice none 0 0, .int .u64 0] 4 HA0 HA0 ?_; intro w7 HG))
   | ((with_reducible refine Gd 22 ?_); ( refine OV 3 H5 1 g3 73 rfl Try.underlying73 (by kernel_rfl) ?_))
   | (go_at_call 84; ( refine (HQ2.out _ H5.out.below (by first | rfl | trivial) (by first | rfl | trivial)).mono ?_; rintro e w8 ⟨v1, v2, rfl, hO8⟩; have H8 := Aside0.mk (H5.out.call hO8); have HA8 : Aside0 (Arr 4 #[v1, .int .i64 qr.1.tk, v2, .int .u64 qr.1.nx]) := ⟨rfl, by obtain ⟨A, c, rfl, _⟩ := hO8.reads 0 rfl; obtain ⟨A', c', rfl, _⟩ := hO8.reads 1 rfl; simp [Value.oneCell']⟩; clear hO8))
   | ((with_reducible refine Gs 73 6 ?_); ( refine OS 6 26 H8 2 g6 73 #[v1, .int .i64 qr.1.tk, v2, .int .u64 qr.1.nx] 4 HA0 HA8 ?_; intro w9 H9))
   )
  refine bodyPost_ret (own_resultV_t rfl _ HG.out 0 g6 _ rfl rfl _ Try.underlying73 rfl (by kernel_rfl) _ rfl) rfl ?_
  exact ⟨_, _, rfl, ((((HG.out.erase 0).erase 0).null kL _).null kQ _)⟩
 cases s2
 ·
  obtain rfl : r = (zeroB, 2) := by rw [HR.out]; rfl
  clear HR
  have HA0 : Aside0 (Arr 4 #[.slice none 0 0, .int .i64 0, .slice none 0 0, .int .u64 0]) := ⟨rfl, by simp [Value.oneCell']⟩
  go_enter Try.func34, Try.ntmps34
  go_wp2_with (first
   | fail
   | ((with_reducible refine Gd 3 ?_); ( refine OB H0 73 #[.slice A1 n c1, .int .i64 tk, .slice A2 m c2, .int .u64 nx] ?_; intro g3 w1 H1 B1))
   | ((with_reducible refine Gd 6 ?_); ( refine OA H1 73 #[.slice none 0 0, .int .i64 0, .slice none 0 0, .int .u64 0] 4 ?_; intro g6 w2 H2 B2))
   | ((with_reducible refine Gd 8 ?_); ( refine OV 3 H2 1 g3 73 rfl Try.underlying73 (by kernel_rfl) ?_))
   | (go_at_call 81; refine (HS.out _ H2.out.below).mono ?_; rintro e w3 ⟨rfl, hB3⟩; have H3 := Aside0.mk (H2.out.step hB3); clear hB3)
   | (go_at_call 82; refine (HSH.out _ H3.out.below).mono ?_; rintro e w4 ⟨rfl, hB4⟩; have H4 := Aside0.mk (H3.out.step hB4); clear hB4)
   | (go_at_call 83; refine (HD.out _ H4.out.below).mono ?_; rintro e w5 ⟨rfl, hB5⟩; have H5 := Aside0.mk (H4.out.step hB5); clear hB5)
   | ((with_reducible refine Gs 73 6 ?_); ( refine OS 6 21 H4 0 g6 73 #[.slice none 0 0, .int .i64 0, .slice none 0 0, .int .u64 0] 4 HA0 HA0 ?_; intro w7 HG))
   | ((with_reducible refine Gd 22 ?_); ( refine OV 3 H5 1 g3 73 rfl Try.underlying73 (by kernel_rfl) ?_))
   | (go_at_call 84; ( refine (HQ2.out _ H5.out.below (by first | rfl | trivial) (by first | rfl | trivial)).mono ?_; rintro e w8 ⟨v1, v2, rfl, hO8⟩; have H8 := Aside0.mk (H5.out.call hO8); have HA8 : Aside0 (Arr 4 #[v1, .int .i64 qr.1.tk, v2, .int .u64 qr.1.nx]) := ⟨rfl, by obtain ⟨A, c, rfl, _⟩ := hO8.reads 0 rfl; obtain ⟨A', c', rfl, _⟩ := hO8.reads 1 rfl; simp [Value.oneCell']⟩; clear hO8))
   | ((with_reducible refine Gs 73 6 ?_); ( refine OS 6 26 H8 2 g6 73 #[v1, .int .i64 qr.1.tk, v2, .int .u64 qr.1.nx] 4 HA0 HA8 ?_; intro w9 H9))
   )
  refine bodyPost_ret (own_resultV_t rfl _ HG.out 0 g6 _ rfl rfl _ Try.underlying73 rfl (by kernel_rfl) _ rfl) rfl ?_
  exact ⟨_, _, rfl, ((((HG.out.erase 0).erase 0).null kL _).null kQ _)⟩
 cases s3
 case true =>
  obtain rfl : r = (zeroB, 2) := by rw [HR.out]; rfl
  clear HR
  have HA0 : Aside0 (Arr 4 #[.slice none 0 0, .int .i64 0, .slice none 0 0, .int .u64 0]) := ⟨rfl, by simp [Value.oneCell']⟩
  go_enter Try.func34, Try.ntmps34
  go_wp2_with (first
   | fail
   | ((with_reducible refine Gd 3 ?_); ( refine OB H0 73 #[.slice A1 n c1, .int .i64 tk, .slice A2 m c2, .int .u64 nx] ?_; intro g3 w1 H1 B1))
   | ((with_reducible refine Gd 6 ?_); ( refine OA H1 73 #[.slice none 0 0, .int .i64 0, .slice none 0 0, .int .u64 0] 4 ?_; intro g6 w2 H2 B2))
   | ((with_reducible refine Gd 8 ?_); ( refine OV 3 H2 1 g3 73 rfl Try.underlying73 (by kernel_rfl) ?_))
   | (go_at_call 81; refine (HS.out _ H2.out.below).mono ?_; rintro e w3 ⟨rfl, hB3⟩; have H3 := Aside0.mk (H2.out.step hB3); clear hB3)
   | (go_at_call 82; refine (HSH.out _ H3.out.below).mono ?_; rintro e w4 ⟨rfl, hB4⟩; have H4 := Aside0.mk (H3.out.step hB4); clear hB4)
   | (go_at_call 83; refine (HD.out _ H4.out.below).mono ?_; rintro e w5 ⟨rfl, hB5⟩; have H5 := Aside0.mk (H4.out.step hB5); clear hB5)
   | ((with_reducible refine Gs 73 6 ?_); ( refine OS 6 21 H5 0 g6 73 #[.slice none 0 0, .int .i64 0, .slice none 0 0, .int .u64 0] 4 HA0 HA0 ?_; intro w7 HG))
   | ((with_reducible refine Gd 22 ?_); ( refine OV 3 H5 1 g3 73 rfl Try.underlying73 (by kernel_rfl) ?_))
   | (go_at_call 84; ( refine (HQ2.out _ H5.out.below (by first | rfl | trivial) (by first | rfl | trivial)).mono ?_; rintro e w8 ⟨v1, v2, rfl, hO8⟩; have H8 := Aside0.mk (H5.out.call hO8); have HA8 : Aside0 (Arr 4 #[v1, .int .i64 qr.1.tk, v2, .int .u64 qr.1.nx]) := ⟨rfl, by obtain ⟨A, c, rfl, _⟩ := hO8.reads 0 rfl; obtain ⟨A', c', rfl, _⟩ := hO8.reads 1 rfl; simp [Value.oneCell']⟩; clear hO8))
   | ((with_reducible refine Gs 73 6 ?_); ( refine OS 6 26 H8 2 g6 73 #[v1, .int .i64 qr.1.tk, v2, .int .u64 qr.1.nx] 4 HA0 HA8 ?_; intro w9 H9))
   )
  refine bodyPost_ret (own_resultV_t rfl _ HG.out 0 g6 _ rfl rfl _ Try.underlying73 rfl (by kernel_rfl) _ rfl) rfl ?_
  exact ⟨_, _, rfl, ((((HG.out.erase 0).erase 0).null kL _).null kQ _)⟩
 obtain rfl : r = qr := by rw [HR.out]; rfl
 clear HR
 have HA0 : Aside0 (Arr 4 #[.slice none 0 0, .int .i64 0, .slice none 0 0, .int .u64 0]) := ⟨rfl, by simp [Value.oneCell']⟩
 go_enter Try.func34, Try.ntmps34
 go_wp2_with (first
  | fail
  | ((with_reducible refine Gd 3 ?_); ( refine OB H0 73 #[.slice A1 n c1, .int .i64 tk, .slice A2 m c2, .int .u64 nx] ?_; intro g3 w1 H1 B1))
  | ((with_reducible refine Gd 6 ?_); ( refine OA H1 73 #[.slice none 0 0, .int .i64 0, .slice none 0 0, .int .u64 0] 4 ?_; intro g6 w2 H2 B2))
  | ((with_reducible refine Gd 8 ?_); ( refine OV 3 H2 1 g3 73 rfl Try.underlying73 (by kernel_rfl) ?_))
  | (go_at_call 81; refine (HS.out _ H2.out.below).mono ?_; rintro e w3 ⟨rfl, hB3⟩; have H3 := Aside0.mk (H2.out.step hB3); clear hB3)
  | (go_at_call 82; refine (HSH.out _ H3.out.below).mono ?_; rintro e w4 ⟨rfl, hB4⟩; have H4 := Aside0.mk (H3.out.step hB4); clear hB4)
  | (go_at_call 83; refine (HD.out _ H4.out.below).mono ?_; rintro e w5 ⟨rfl, hB5⟩; have H5 := Aside0.mk (H4.out.step hB5); clear hB5)
  | ((with_reducible refine Gs 73 6 ?_); ( refine OS 6 21 H5 0 g6 73 #[.slice none 0 0, .int .i64 0, .slice none 0 0, .int .u64 0] 4 HA0 HA0 ?_; intro w7 HG))
  | ((with_reducible refine Gd 22 ?_); ( refine OV 3 H5 1 g3 73 rfl Try.underlying73 (by kernel_rfl) ?_))
  | (go_at_call 84; ( refine (HQ2.out _ H5.out.below (by first | rfl | trivial) (by first | rfl | trivial)).mono ?_; rintro e w8 ⟨v1, v2, rfl, hO8⟩; have H8 := Aside0.mk (H5.out.call hO8); have HA8 : Aside0 (Arr 4 #[v1, .int .i64 r.1.tk, v2, .int .u64 r.1.nx]) := ⟨rfl, by obtain ⟨A, c, rfl, _⟩ := hO8.reads 0 rfl; obtain ⟨A', c', rfl, _⟩ := hO8.reads 1 rfl; simp [Value.oneCell']⟩; clear hO8))
  | ((with_reducible refine Gs 73 6 ?_); ( refine OS 6 26 H8 2 g6 73 #[v1, .int .i64 r.1.tk, v2, .int .u64 r.1.nx] 4 HA0 HA8 ?_; intro w9 H9))
  )
 refine bodyPost_ret (own_resultV_t rfl _ H9.out 2 g6 _ rfl rfl _ Try.underlying73 rfl (by kernel_rfl) _ rfl) rfl ?_
 exact ⟨_, _, rfl, (H9.out.erase 2).erase 2⟩
end Go.Proofs.Ytocphkfkdadhaaa.H

