import Derived.Test.YtocphkfkdadhaaaZPk12
import Derived.Test.YtocphkfkdadhaaaZPk8
import Derived.Test.YtocphkfkdadhaaaZPk10
import Derived.Laws.Cover3
import Derived.Test.YtocphkfkdadhaaaZPk11
import Derived.Lib.Strings
import Derived.Lib.Slices
import Derived.Lib.Walk
import Derived.Lib.Bytes
import Derived.Test.YtocphkfkdadhaaaZPk9
set_option maxHeartbeats 4000000
set_option linter.unusedVariables false
set_option linter.unusedSimpArgs false
set_option maxRecDepth 100000
namespace Go.Proofs.Ytocphkfkdadhaaa.H
open Go.RowKit Go.Proofs.YtocphkfkdadhaaaW.PrintWords Go.Proofs.YtocphkfkdadhaaaW.PrintLast Go.Proofs.YtocphkfkdadhaaaW.PrintMore
theorem spl_all {cs seg : Array Value} (h : cs.toList.length = seg.toList.length) : (splice cs.toList 0 seg.toList).toArray = seg := by
 unfold splice
 rw [List.take_zero, List.nil_append, List.drop_of_length_le (by omega), List.append_nil]
theorem readM_len {b : List Int} (h : b.length = 104) : wordsM b = (wordsAll 13 b, 0) := by
 unfold wordsM; rw [if_neg (by omega), if_neg (by omega)]
theorem fieldsOfM_ok {b : List Int} (hb : ∀ x ∈ b, 0 ≤ x ∧ x ≤ 255) (hl : b.length = 104) (h : ¬ 3 < (fieldsOfM b).kd) : (fieldsOfM b).ok := by
 have hw := wordsAll_lt 13 b hb
 have hg (j : Nat) : (0 : Int) ≤ ((wordsAll 13 b).getD j 0 : Nat) ∧ (((wordsAll 13 b).getD j 0 : Nat) : Int) ≤ 18446744073709551615 := by
  refine ⟨by omega, ?_⟩
  rw [List.getD_eq_getElem?_getD]
  cases he : (wordsAll 13 b)[j]? with
  | none => simp
  | some x =>
   have := hw x (List.mem_of_getElem? he)
   simp only [Option.getD_some]
   omega
 have h0 := hg 0
 refine ⟨⟨h0.1, by have h' : ¬ 3 < (((wordsAll 13 b).getD 0 0 : Nat) : Int) := h; show (((wordsAll 13 b).getD 0 0 : Nat) : Int) ≤ 255; omega⟩, hg 1, hg 2, hg 3, hg 4, ⟨?_, ?_⟩, ⟨?_, ?_⟩⟩
 ·simp [fieldsOfM, List.length_take]; omega
 ·exact fun x hx => hb x (List.mem_of_mem_drop (List.mem_of_mem_take hx))
 ·simp [fieldsOfM, List.length_take]; omega
 ·exact fun x hx => hb x (List.mem_of_mem_drop (List.mem_of_mem_take hx))
theorem mread_any (b : List Int) (A : Option Addr) (c : Nat) (w : World) (hb : ∀ x ∈ b, 0 ≤ x ∧ x ≤ 255) (hC : Kd.C kB w A b.length b) (hc : b.length ≤ c) :
 Calls Try.prog 129 #[.slice A b.length c] w fun e w' => e = .returned (.tuple #[.agg (msgA (readM b).1), .int .i64 (readM b).2]) ∧ Below w.heap.size w w' := by
 have H0 := Aside0.mk (Own.start w)
 have R13 : Aside0 (Arr 13 (cellsN z13)) := ⟨cellsN_arr rfl⟩
 have RZ : Aside0 (Arr 69 (msgA zeroM)) := ⟨msgA_arr rfl rfl⟩
 have HWD := Aside0.mk (fun W (h : Below w.heap.size w W) => mwords_any b A c W hb (Kd.C_below hC h) hc)
 obtain ⟨r, hr⟩ : ∃ r, r = readM b := ⟨_, rfl⟩
 rw [← hr]
 by_cases h1 : b.length = 104
 case neg =>
  have hz : ∃ e : Int, wordsM b = (z13, e) ∧ r = (zeroM, e) ∧ (e == 0) = false := by
   rw [hr]
   unfold wordsM readM
   by_cases h2 : b.length < 104
   ·exact ⟨7, by rw [if_pos h2], by rw [if_pos h2], rfl⟩
   ·exact ⟨8, by rw [if_neg h2, if_pos (by omega)], by rw [if_neg h2, if_pos (by omega)], rfl⟩
  obtain ⟨e, hw, rfl, he⟩ := hz
  rw [hw] at HWD
  clear hr hw h1 hC hc hb
  generalize b.length = n at *
  have hbn : (e != 0) = true := by simp [bne, he]
  go_enter Try.func129, Try.ntmps129
  go_upto_if 13 with (first
   | fail
   | ((with_reducible refine Gd 2 ?_); refine OA H0 92 (msgA zeroM) 69 ?_; intro g2 w1 H1 B1)
   | (go_at_call 157; refine (HWD.out _ H1.out.below).mono ?_; rintro e w3 ⟨rfl, hB3⟩; have H3 := Aside0.mk (H1.out.step hB3); clear hB3)
   | ((with_reducible refine Gd 4 ?_); refine OA H3 194 (cellsN z13) 13 ?_; intro g4 w4 H4 B4)
   | ((with_reducible refine Gs 194 4 ?_); refine OS 4 10 H4 0 g4 194 (cellsN z13) 13 R13 R13 ?_; intro w5 H5)
   )
  go_wp2_with (first
   | fail
   | ((with_reducible refine Gd 14 ?_); refine OU 92 [] (msgA zeroM) rfl (builtM0) ?_)
   | ((with_reducible refine Gs 92 2 ?_); refine OS 2 14 H5 1 g2 92 (msgA zeroM) 69 RZ RZ ?_; intro w6 H6)
   )
  refine bodyPost_ret (own_resultV_t rfl _ H6.out 1 g2 _ rfl rfl _ Try.underlying92 rfl (sizeM_of (msgA_size rfl rfl)) _ rfl) rfl ?_
  exact ⟨rfl, H6.out.below⟩
 have HLN := Aside0.mk h1
 have HOK := Aside0.mk (fieldsOfM_ok hb h1)
 have HKY := Aside0.mk (bytes_key hb h1)
 have HWL := Aside0.mk (wordsAll_lt 13 b hb)
 have HFM : Aside0 (fieldsOfM b = ⟨((wordsAll 13 b).getD 0 0 : Nat), ((wordsAll 13 b).getD 1 0 : Nat), ((wordsAll 13 b).getD 2 0 : Nat), ((wordsAll 13 b).getD 3 0 : Nat), ((wordsAll 13 b).getD 4 0 : Nat), (b.drop 40).take 32, (b.drop 72).take 32⟩) := ⟨rfl⟩
 unfold readM at hr
 rw [if_neg (by omega), if_neg (by omega)] at hr
 rw [readM_len h1, h1] at HWD
 rw [h1]
 have HR := Aside0.mk hr
 have hwl : (wordsAll 13 b).length = 13 := by simp [wordsAll]
 clear hr hC hc hb h1
 generalize fieldsOfM b = m at *
 generalize (b.drop 40).take 32 = ky at *
 generalize (b.drop 72).take 32 = nx at *
 generalize wordsAll 13 b = ws at *
 obtain ⟨a0, a1, a2, a3, a4, a5, a6, a7, a8, a9, a10, a11, a12, rfl⟩ := thirteen hwl
 clear hwl HLN
 replace HFM : Aside0 (m = ⟨(a0 : Int), (a1 : Int), (a2 : Int), (a3 : Int), (a4 : Int), ky, nx⟩) := HFM
 replace HKY : Aside0 (bytesOf [a5, a6, a7, a8] = ky ∧ bytesOf [a9, a10, a11, a12] = nx) := HKY
 obtain rfl := HFM.out
 clear HFM
 have RW : Aside0 (Arr 13 (cellsN [a0, a1, a2, a3, a4, a5, a6, a7, a8, a9, a10, a11, a12])) := ⟨cellsN_arr rfl⟩
 have hu (x : Nat) (h : x ∈ [a0, a1, a2, a3, a4, a5, a6, a7, a8, a9, a10, a11, a12]) := HWL.out x h
 have HF1 : Aside0 (∀ W, Calls Try.prog 158 #[.agg #[.int .u64 (a5 : Int), .int .u64 (a6 : Int), .int .u64 (a7 : Int), .int .u64 (a8 : Int)]] W fun e w' => e = .returned (.agg (cellsB ky)) ∧ Below W.heap.size W w') := ⟨fun W => by
  have h := sfrom_any [a5, a6, a7, a8] rfl (fun x hx => hu x (by simp only [List.mem_cons, List.not_mem_nil, or_false] at hx ⊢; omega)) W
  rw [HKY.out.1] at h
  exact h⟩
 have HF2 : Aside0 (∀ W, Calls Try.prog 158 #[.agg #[.int .u64 (a9 : Int), .int .u64 (a10 : Int), .int .u64 (a11 : Int), .int .u64 (a12 : Int)]] W fun e w' => e = .returned (.agg (cellsB nx)) ∧ Below W.heap.size W w') := ⟨fun W => by
  have h := sfrom_any [a9, a10, a11, a12] rfl (fun x hx => hu x (by simp only [List.mem_cons, List.not_mem_nil, or_false] at hx ⊢; omega)) W
  rw [HKY.out.2] at h
  exact h⟩
 have ha0 := hu a0 (by simp)
 clear HWL HKY hu
 by_cases h3 : 3 < a0
 ·have hd : decide (3 < (a0 : Int)) = true := decide_eq_true (by omega)
  obtain rfl : r = (zeroM, 8) := by rw [HR.out, if_pos (show (3 : Int) < (a0 : Int) by omega)]
  clear HR HOK HF1 HF2
  go_enter Try.func129, Try.ntmps129
  go_upto_if 13 with (first
   | fail
   | ((with_reducible refine Gd 2 ?_); refine OA H0 92 (msgA zeroM) 69 ?_; intro g2 w1 H1 B1)
   | (go_at_call 157; refine (HWD.out _ H1.out.below).mono ?_; rintro e w3 ⟨rfl, hB3⟩; have H3 := Aside0.mk (H1.out.step hB3); clear hB3)
   | ((with_reducible refine Gd 4 ?_); refine OA H3 194 (cellsN z13) 13 ?_; intro g4 w4 H4 B4)
   | ((with_reducible refine Gs 194 4 ?_); refine OS 4 10 H4 0 g4 194 (cellsN [a0, a1, a2, a3, a4, a5, a6, a7, a8, a9, a10, a11, a12]) 13 R13 RW ?_; intro w5 H5)
   )
  have k0 : w5.cell? ⟨g4, 0, none⟩ = some (.int .u64 (a0 : Int)) := H5.out.cell 0 rfl 0 rfl
  go_wp2_with (first
   | fail
   | ((with_reducible refine Gd 19 ?_); refine OU 92 [] (msgA zeroM) rfl (builtM0) ?_)
   | ((with_reducible refine Gs 92 2 ?_); refine OS 2 19 H5 1 g2 92 (msgA zeroM) 69 RZ RZ ?_; intro w6 H6)
   )
  refine bodyPost_ret (own_resultV_t rfl _ H6.out 1 g2 _ rfl rfl _ Try.underlying92 rfl (sizeM_of (msgA_size rfl rfl)) _ rfl) rfl ?_
  exact ⟨rfl, H6.out.below⟩
 have hd : decide (3 < (a0 : Int)) = false := decide_eq_false (by omega)
 rw [if_neg (show ¬ (3 : Int) < (a0 : Int) by omega)] at HR
 have hok := HOK.out (show ¬ (3 : Int) < (a0 : Int) by omega)
 have HOKM := Aside0.mk hok
 have RK : Aside0 (ky.length = 32) := ⟨hok.ky.1⟩
 have RN : Aside0 (nx.length = 32) := ⟨hok.nx.1⟩
 have RM : Aside0 (Arr 69 (msgA ⟨(a0 : Int), (a1 : Int), (a2 : Int), (a3 : Int), (a4 : Int), ky, nx⟩)) := ⟨msgA_arr hok.ky.1 hok.nx.1⟩
 have RM1 : Aside0 (∀ v ∈ (msgA ⟨(a0 : Int), (a1 : Int), (a2 : Int), (a3 : Int), (a4 : Int), ky, nx⟩).toList, v.oneCell' = true) := ⟨fun v hv => Array.all_eq_true_iff_forall_mem.1 RM.out.2 v (by simpa using hv)⟩
 clear hok HOK
 have hcv : IntKind.u8.wrap (a0 : Int) = (a0 : Int) := by rw [IntKind.wrap_u8]; omega
 go_enter Try.func129, Try.ntmps129
 go_upto_if 13 with (first
  | fail
  | ((with_reducible refine Gd 2 ?_); refine OA H0 92 (msgA zeroM) 69 ?_; intro g2 w1 H1 B1)
  | (go_at_call 157; refine (HWD.out _ H1.out.below).mono ?_; rintro e w3 ⟨rfl, hB3⟩; have H3 := Aside0.mk (H1.out.step hB3); clear hB3)
  | ((with_reducible refine Gd 4 ?_); refine OA H3 194 (cellsN z13) 13 ?_; intro g4 w4 H4 B4)
  | ((with_reducible refine Gs 194 4 ?_); refine OS 4 10 H4 0 g4 194 (cellsN [a0, a1, a2, a3, a4, a5, a6, a7, a8, a9, a10, a11, a12]) 13 R13 RW ?_; intro w5 H5)
  )
 have k0 : w5.cell? ⟨g4, 0, none⟩ = some (.int .u64 (a0 : Int)) := H5.out.cell 0 rfl 0 rfl
 go_upto_region 6 with fail
 clear H0 H1 H3 H4 HWD B1 B4
 go_cut [6] (fun v6 wc => ∃ g6 : Nat, v6 = .pointer (some ⟨g6, 0, none⟩) ∧ Aside0 (Own w.heap.size w wc [.blk g6 (msgA ⟨(a0 : Int), (a1 : Int), (a2 : Int), (a3 : Int), (a4 : Int), ky, nx⟩) 92, .blk g4 (cellsN [a0, a1, a2, a3, a4, a5, a6, a7, a8, a9, a10, a11, a12]) 194, .blk g2 (msgA zeroM) 92]))
 case first =>
  have hA5 : ∀ W : World, (Instr.arrayAt 198 (.slice (some ⟨g4, 5, none⟩) 4 8)).run Try.prog W = .ok (.pointer (some ⟨g4, 5, none⟩)) W := fun W => run_arrayAt (e := 23) (n := 4) (h := Try.underlying198) (hn := Nat.le_refl _) ..
  have hA9 : ∀ W : World, (Instr.arrayAt 198 (.slice (some ⟨g4, 9, none⟩) 4 4)).run Try.prog W = .ok (.pointer (some ⟨g4, 9, none⟩)) W := fun W => run_arrayAt (e := 23) (n := 4) (h := Try.underlying198) (hn := Nat.le_refl _) ..
  refine St (fun W => W.cell? ⟨g4, 0, none⟩ = some (.int .u64 (a0 : Int)) ∧ W.cell? ⟨g4, 1, none⟩ = some (.int .u64 (a1 : Int)) ∧ W.cell? ⟨g4, 2, none⟩ = some (.int .u64 (a2 : Int)) ∧ W.cell? ⟨g4, 3, none⟩ = some (.int .u64 (a3 : Int)) ∧ W.cell? ⟨g4, 4, none⟩ = some (.int .u64 (a4 : Int)) ∧ W.cell? ⟨g4, 5, none⟩ = some (.int .u64 (a5 : Int)) ∧ W.cell? ⟨g4, 6, none⟩ = some (.int .u64 (a6 : Int)) ∧ W.cell? ⟨g4, 7, none⟩ = some (.int .u64 (a7 : Int)) ∧ W.cell? ⟨g4, 8, none⟩ = some (.int .u64 (a8 : Int)) ∧ W.cell? ⟨g4, 9, none⟩ = some (.int .u64 (a9 : Int)) ∧ W.cell? ⟨g4, 10, none⟩ = some (.int .u64 (a10 : Int)) ∧ W.cell? ⟨g4, 11, none⟩ = some (.int .u64 (a11 : Int)) ∧ W.cell? ⟨g4, 12, none⟩ = some (.int .u64 (a12 : Int))) (fun hHeld => ?_) (by exact ⟨H5.out.drew.cell 0 rfl 0 rfl, H5.out.drew.cell 0 rfl 1 rfl, H5.out.drew.cell 0 rfl 2 rfl, H5.out.drew.cell 0 rfl 3 rfl, H5.out.drew.cell 0 rfl 4 rfl, H5.out.drew.cell 0 rfl 5 rfl, H5.out.drew.cell 0 rfl 6 rfl, H5.out.drew.cell 0 rfl 7 rfl, H5.out.drew.cell 0 rfl 8 rfl, H5.out.drew.cell 0 rfl 9 rfl, H5.out.drew.cell 0 rfl 10 rfl, H5.out.drew.cell 0 rfl 11 rfl, H5.out.drew.cell 0 rfl 12 rfl⟩)
  refine Tk 0 ?_
  refine Tk 1 ?_
  refine Tk 2 ?_
  refine Tk 3 ?_
  refine Tk 4 ?_
  refine Tk 5 ?_
  refine Tk 6 ?_
  refine Tk 7 ?_
  refine Tk 8 ?_
  refine Tk 9 ?_
  refine Tk 10 ?_
  refine Tk 11 ?_
  refine Tk 12 ?_
  refine Tk 13 ?_
  refine Tk 15 ?_
  refine Tk 16 ?_
  refine Tk 17 ?_
  have H6 := Aside0.mk H5.out.drew
  clear k0 hA5 hA9
  generalize w5.drew = wd at *
  refine Rd2 14 20 (fun K hK => ?_) fun K hK => ?_
  ·
   go_simp
   refine (HF1.out _).mono ?_
   rintro e w7 ⟨rfl, hBx⟩
   have H7 := Aside0.mk (H6.out.step hBx)
   clear hBx
   go_wp2_with fail
   refine Ag hK (fun hHeld => ?_) (by exact ⟨H7.out.cell 0 rfl 0 rfl, H7.out.cell 0 rfl 1 rfl, H7.out.cell 0 rfl 2 rfl, H7.out.cell 0 rfl 3 rfl, H7.out.cell 0 rfl 4 rfl, H7.out.cell 0 rfl 5 rfl, H7.out.cell 0 rfl 6 rfl, H7.out.cell 0 rfl 7 rfl, H7.out.cell 0 rfl 8 rfl, H7.out.cell 0 rfl 9 rfl, H7.out.cell 0 rfl 10 rfl, H7.out.cell 0 rfl 11 rfl, H7.out.cell 0 rfl 12 rfl⟩)
   clear hK K
   refine Rd2 18 20 (fun K hK => ?_) fun K hK => ?_
   ·
    go_simp
    refine (HF2.out _).mono ?_
    rintro e w8 ⟨rfl, hBx⟩
    have H8 := Aside0.mk (H7.out.step hBx)
    clear hBx
    go_wp2_with fail
    refine Ag hK (fun hHeld => ?_) (by exact ⟨H8.out.cell 0 rfl 0 rfl, H8.out.cell 0 rfl 1 rfl, H8.out.cell 0 rfl 2 rfl, H8.out.cell 0 rfl 3 rfl, H8.out.cell 0 rfl 4 rfl, H8.out.cell 0 rfl 5 rfl, H8.out.cell 0 rfl 6 rfl, H8.out.cell 0 rfl 7 rfl, H8.out.cell 0 rfl 8 rfl, H8.out.cell 0 rfl 9 rfl, H8.out.cell 0 rfl 10 rfl, H8.out.cell 0 rfl 11 rfl, H8.out.cell 0 rfl 12 rfl⟩)
    clear hK K
    refine Ty 19 (.agg (msgA ⟨(a0 : Int), (a1 : Int), (a2 : Int), (a3 : Int), (a4 : Int), ky, nx⟩)) ?_ ?_
    ·exact yields_build (by rfl) 92 [(0, .tmp 22), (1, .tmp 24), (2, .tmp 26), (3, .tmp 28), (4, .tmp 30), (5, .tmp 34), (6, .tmp 38)] (by rfl) _ (by rfl) _ (builtM (a0 : Int) (a1 : Int) (a2 : Int) (a3 : Int) (a4 : Int) ky nx RK.out RN.out)
    refine Rd 20 fun K hK => ?_
    refine own_alloc_step H8.out (by rfl) (N := 6) rfl (t := 92) rfl (msgA zeroM) 69 (by kernel_rfl) ?_; intro g6 w9 H9; replace H9 := Aside0.mk H9
    refine Ag hK (fun hHeld => ?_) (by exact ⟨H9.out.cell 1 rfl 0 rfl, H9.out.cell 1 rfl 1 rfl, H9.out.cell 1 rfl 2 rfl, H9.out.cell 1 rfl 3 rfl, H9.out.cell 1 rfl 4 rfl, H9.out.cell 1 rfl 5 rfl, H9.out.cell 1 rfl 6 rfl, H9.out.cell 1 rfl 7 rfl, H9.out.cell 1 rfl 8 rfl, H9.out.cell 1 rfl 9 rfl, H9.out.cell 1 rfl 10 rfl, H9.out.cell 1 rfl 11 rfl, H9.out.cell 1 rfl 12 rfl⟩)
    clear hK K
    refine Rd 21 fun K hK => ?_
    refine own_st_step H9.out 0 g6 _ (msgA ⟨(a0 : Int), (a1 : Int), (a2 : Int), (a3 : Int), (a4 : Int), ky, nx⟩) 92 (by rfl) (by rfl) 92 (.tmp 6) _ rfl 0 ((msgA ⟨(a0 : Int), (a1 : Int), (a2 : Int), (a3 : Int), (a4 : Int), ky, nx⟩).toList) (.agg (msgA ⟨(a0 : Int), (a1 : Int), (a2 : Int), (a3 : Int), (a4 : Int), ky, nx⟩)) (by rfl) (by rfl) (by rfl) (by rw [Array.length_toList, RM.out.1, RZ.out.1]; decide) (by rw [Array.length_toList, RM.out.1]; exact sizeM) (by exact RM1.out) (by exact spl_all (by rw [Array.length_toList, Array.length_toList, RM.out.1, RZ.out.1])) ?_; intro wz HZ; replace HZ := Aside0.mk HZ
    refine Ag hK (fun hHeld => ?_) (by exact ⟨HZ.out.cell 1 rfl 0 rfl, HZ.out.cell 1 rfl 1 rfl, HZ.out.cell 1 rfl 2 rfl, HZ.out.cell 1 rfl 3 rfl, HZ.out.cell 1 rfl 4 rfl, HZ.out.cell 1 rfl 5 rfl, HZ.out.cell 1 rfl 6 rfl, HZ.out.cell 1 rfl 7 rfl, HZ.out.cell 1 rfl 8 rfl, HZ.out.cell 1 rfl 9 rfl, HZ.out.cell 1 rfl 10 rfl, HZ.out.cell 1 rfl 11 rfl, HZ.out.cell 1 rfl 12 rfl⟩)
    clear hK K
    refine Dn ?_
    go_wp2_with fail
    go_meet
    exact ⟨g6, rfl, HZ⟩
   ·
    refine own_alloc_step H7.out (by rfl) (N := 6) rfl (t := 92) rfl (msgA zeroM) 69 (by kernel_rfl) ?_; intro g6 w8 H8; replace H8 := Aside0.mk H8
    refine Ag hK (fun hHeld => ?_) (by exact ⟨H8.out.cell 1 rfl 0 rfl, H8.out.cell 1 rfl 1 rfl, H8.out.cell 1 rfl 2 rfl, H8.out.cell 1 rfl 3 rfl, H8.out.cell 1 rfl 4 rfl, H8.out.cell 1 rfl 5 rfl, H8.out.cell 1 rfl 6 rfl, H8.out.cell 1 rfl 7 rfl, H8.out.cell 1 rfl 8 rfl, H8.out.cell 1 rfl 9 rfl, H8.out.cell 1 rfl 10 rfl, H8.out.cell 1 rfl 11 rfl, H8.out.cell 1 rfl 12 rfl⟩)
    clear hK K
    refine Rd 18 fun K hK => ?_
    go_simp
    refine (HF2.out _).mono ?_
    rintro e w9 ⟨rfl, hBx⟩
    have H9 := Aside0.mk (H8.out.step hBx)
    clear hBx
    go_wp2_with fail
    refine Ag hK (fun hHeld => ?_) (by exact ⟨H9.out.cell 1 rfl 0 rfl, H9.out.cell 1 rfl 1 rfl, H9.out.cell 1 rfl 2 rfl, H9.out.cell 1 rfl 3 rfl, H9.out.cell 1 rfl 4 rfl, H9.out.cell 1 rfl 5 rfl, H9.out.cell 1 rfl 6 rfl, H9.out.cell 1 rfl 7 rfl, H9.out.cell 1 rfl 8 rfl, H9.out.cell 1 rfl 9 rfl, H9.out.cell 1 rfl 10 rfl, H9.out.cell 1 rfl 11 rfl, H9.out.cell 1 rfl 12 rfl⟩)
    clear hK K
    refine Ty 19 (.agg (msgA ⟨(a0 : Int), (a1 : Int), (a2 : Int), (a3 : Int), (a4 : Int), ky, nx⟩)) ?_ ?_
    ·exact yields_build (by rfl) 92 [(0, .tmp 22), (1, .tmp 24), (2, .tmp 26), (3, .tmp 28), (4, .tmp 30), (5, .tmp 34), (6, .tmp 38)] (by rfl) _ (by rfl) _ (builtM (a0 : Int) (a1 : Int) (a2 : Int) (a3 : Int) (a4 : Int) ky nx RK.out RN.out)
    refine Rd 21 fun K hK => ?_
    refine own_st_step H9.out 0 g6 _ (msgA ⟨(a0 : Int), (a1 : Int), (a2 : Int), (a3 : Int), (a4 : Int), ky, nx⟩) 92 (by rfl) (by rfl) 92 (.tmp 6) _ rfl 0 ((msgA ⟨(a0 : Int), (a1 : Int), (a2 : Int), (a3 : Int), (a4 : Int), ky, nx⟩).toList) (.agg (msgA ⟨(a0 : Int), (a1 : Int), (a2 : Int), (a3 : Int), (a4 : Int), ky, nx⟩)) (by rfl) (by rfl) (by rfl) (by rw [Array.length_toList, RM.out.1, RZ.out.1]; decide) (by rw [Array.length_toList, RM.out.1]; exact sizeM) (by exact RM1.out) (by exact spl_all (by rw [Array.length_toList, Array.length_toList, RM.out.1, RZ.out.1])) ?_; intro wz HZ; replace HZ := Aside0.mk HZ
    refine Ag hK (fun hHeld => ?_) (by exact ⟨HZ.out.cell 1 rfl 0 rfl, HZ.out.cell 1 rfl 1 rfl, HZ.out.cell 1 rfl 2 rfl, HZ.out.cell 1 rfl 3 rfl, HZ.out.cell 1 rfl 4 rfl, HZ.out.cell 1 rfl 5 rfl, HZ.out.cell 1 rfl 6 rfl, HZ.out.cell 1 rfl 7 rfl, HZ.out.cell 1 rfl 8 rfl, HZ.out.cell 1 rfl 9 rfl, HZ.out.cell 1 rfl 10 rfl, HZ.out.cell 1 rfl 11 rfl, HZ.out.cell 1 rfl 12 rfl⟩)
    clear hK K
    refine Dn ?_
    go_wp2_with fail
    go_meet
    exact ⟨g6, rfl, HZ⟩
  ·
   refine own_alloc_step H6.out (by rfl) (N := 6) rfl (t := 92) rfl (msgA zeroM) 69 (by kernel_rfl) ?_; intro g6 w7 H7; replace H7 := Aside0.mk H7
   refine Ag hK (fun hHeld => ?_) (by exact ⟨H7.out.cell 1 rfl 0 rfl, H7.out.cell 1 rfl 1 rfl, H7.out.cell 1 rfl 2 rfl, H7.out.cell 1 rfl 3 rfl, H7.out.cell 1 rfl 4 rfl, H7.out.cell 1 rfl 5 rfl, H7.out.cell 1 rfl 6 rfl, H7.out.cell 1 rfl 7 rfl, H7.out.cell 1 rfl 8 rfl, H7.out.cell 1 rfl 9 rfl, H7.out.cell 1 rfl 10 rfl, H7.out.cell 1 rfl 11 rfl, H7.out.cell 1 rfl 12 rfl⟩)
   clear hK K
   refine Rd 14 fun K hK => ?_
   go_simp
   refine (HF1.out _).mono ?_
   rintro e w8 ⟨rfl, hBx⟩
   have H8 := Aside0.mk (H7.out.step hBx)
   clear hBx
   go_wp2_with fail
   refine Ag hK (fun hHeld => ?_) (by exact ⟨H8.out.cell 1 rfl 0 rfl, H8.out.cell 1 rfl 1 rfl, H8.out.cell 1 rfl 2 rfl, H8.out.cell 1 rfl 3 rfl, H8.out.cell 1 rfl 4 rfl, H8.out.cell 1 rfl 5 rfl, H8.out.cell 1 rfl 6 rfl, H8.out.cell 1 rfl 7 rfl, H8.out.cell 1 rfl 8 rfl, H8.out.cell 1 rfl 9 rfl, H8.out.cell 1 rfl 10 rfl, H8.out.cell 1 rfl 11 rfl, H8.out.cell 1 rfl 12 rfl⟩)
   clear hK K
   refine Rd 18 fun K hK => ?_
   go_simp
   refine (HF2.out _).mono ?_
   rintro e w9 ⟨rfl, hBx⟩
   have H9 := Aside0.mk (H8.out.step hBx)
   clear hBx
   go_wp2_with fail
   refine Ag hK (fun hHeld => ?_) (by exact ⟨H9.out.cell 1 rfl 0 rfl, H9.out.cell 1 rfl 1 rfl, H9.out.cell 1 rfl 2 rfl, H9.out.cell 1 rfl 3 rfl, H9.out.cell 1 rfl 4 rfl, H9.out.cell 1 rfl 5 rfl, H9.out.cell 1 rfl 6 rfl, H9.out.cell 1 rfl 7 rfl, H9.out.cell 1 rfl 8 rfl, H9.out.cell 1 rfl 9 rfl, H9.out.cell 1 rfl 10 rfl, H9.out.cell 1 rfl 11 rfl, H9.out.cell 1 rfl 12 rfl⟩)
   clear hK K
   refine Ty 19 (.agg (msgA ⟨(a0 : Int), (a1 : Int), (a2 : Int), (a3 : Int), (a4 : Int), ky, nx⟩)) ?_ ?_
   ·exact yields_build (by rfl) 92 [(0, .tmp 22), (1, .tmp 24), (2, .tmp 26), (3, .tmp 28), (4, .tmp 30), (5, .tmp 34), (6, .tmp 38)] (by rfl) _ (by rfl) _ (builtM (a0 : Int) (a1 : Int) (a2 : Int) (a3 : Int) (a4 : Int) ky nx RK.out RN.out)
   refine Rd 21 fun K hK => ?_
   refine own_st_step H9.out 0 g6 _ (msgA ⟨(a0 : Int), (a1 : Int), (a2 : Int), (a3 : Int), (a4 : Int), ky, nx⟩) 92 (by rfl) (by rfl) 92 (.tmp 6) _ rfl 0 ((msgA ⟨(a0 : Int), (a1 : Int), (a2 : Int), (a3 : Int), (a4 : Int), ky, nx⟩).toList) (.agg (msgA ⟨(a0 : Int), (a1 : Int), (a2 : Int), (a3 : Int), (a4 : Int), ky, nx⟩)) (by rfl) (by rfl) (by rfl) (by rw [Array.length_toList, RM.out.1, RZ.out.1]; decide) (by rw [Array.length_toList, RM.out.1]; exact sizeM) (by exact RM1.out) (by exact spl_all (by rw [Array.length_toList, Array.length_toList, RM.out.1, RZ.out.1])) ?_; intro wz HZ; replace HZ := Aside0.mk HZ
   refine Ag hK (fun hHeld => ?_) (by exact ⟨HZ.out.cell 1 rfl 0 rfl, HZ.out.cell 1 rfl 1 rfl, HZ.out.cell 1 rfl 2 rfl, HZ.out.cell 1 rfl 3 rfl, HZ.out.cell 1 rfl 4 rfl, HZ.out.cell 1 rfl 5 rfl, HZ.out.cell 1 rfl 6 rfl, HZ.out.cell 1 rfl 7 rfl, HZ.out.cell 1 rfl 8 rfl, HZ.out.cell 1 rfl 9 rfl, HZ.out.cell 1 rfl 10 rfl, HZ.out.cell 1 rfl 11 rfl, HZ.out.cell 1 rfl 12 rfl⟩)
   clear hK K
   refine Dn ?_
   go_wp2_with fail
   go_meet
   exact ⟨g6, rfl, HZ⟩
 case rest =>
  obtain ⟨g6, rfl, HC0⟩ := hcut
  have HMY := Aside0.mk (fun W => mmay_any ⟨(a0 : Int), (a1 : Int), (a2 : Int), (a3 : Int), (a4 : Int), ky, nx⟩ HOKM.out W)
  clear H5 HF1 HF2 HOKM RK RN RM1 hd hcv k0
  cases hmay : mayM ⟨(a0 : Int), (a1 : Int), (a2 : Int), (a3 : Int), (a4 : Int), ky, nx⟩
  ·obtain rfl : r = (zeroM, 8) := by rw [HR.out, hmay]; rfl
   clear HR
   rw [hmay] at HMY
   clear hmay
   go_wp2_with (first
    | fail
    | ((with_reducible refine Gd 40 ?_); refine OV 6 HC0 0 g6 92 rfl Try.underlying92 (sizeM_of RM.out.1) ?_)
    | (go_at_call 136; refine (HMY.out _).mono ?_; rintro e w8 ⟨rfl, hB8⟩; have H8 := Aside0.mk (HC0.out.step hB8); clear hB8)
    | ((with_reducible refine Gd 43 ?_); refine OU 92 [] (msgA zeroM) rfl (builtM0) ?_)
    | ((with_reducible refine Gs 92 2 ?_); refine OS 2 43 H8 2 g2 92 (msgA zeroM) 69 RZ RZ ?_; intro w9 H9)
    )
   refine bodyPost_ret (own_resultV_t rfl _ H9.out 2 g2 _ rfl rfl _ Try.underlying92 rfl (sizeM_of (msgA_size rfl rfl)) _ rfl) rfl ?_
   exact ⟨rfl, H9.out.below⟩
  ·obtain rfl : r = (⟨(a0 : Int), (a1 : Int), (a2 : Int), (a3 : Int), (a4 : Int), ky, nx⟩, 0) := by rw [HR.out, hmay]; rfl
   clear HR
   rw [hmay] at HMY
   clear hmay
   go_wp2_with (first
    | fail
    | ((with_reducible refine Gd 40 ?_); refine OV 6 HC0 0 g6 92 rfl Try.underlying92 (sizeM_of RM.out.1) ?_)
    | (go_at_call 136; refine (HMY.out _).mono ?_; rintro e w8 ⟨rfl, hB8⟩; have H8 := Aside0.mk (HC0.out.step hB8); clear hB8)
    | ((with_reducible refine Gd 44 ?_); refine OV 6 H8 0 g6 92 rfl Try.underlying92 (sizeM_of RM.out.1) ?_)
    | ((with_reducible refine Gs 92 2 ?_); refine OS 2 44 H8 2 g2 92 (msgA ⟨(a0 : Int), (a1 : Int), (a2 : Int), (a3 : Int), (a4 : Int), ky, nx⟩) 69 RZ RM ?_; intro w9 H9)
    )
   refine bodyPost_ret (own_resultV_t rfl _ H9.out 2 g2 _ rfl rfl _ Try.underlying92 rfl (sizeM_of RM.out.1) _ rfl) rfl ?_
   exact ⟨rfl, H9.out.below⟩
def depB (b : List Int) : Bool := decide ((readM b).2 = 0) && decide ((readM b).1.kd = 1)
theorem readM_size (b : List Int) (hb : ∀ x ∈ b, 0 ≤ x ∧ x ≤ 255) : (readM b).1.ky.length = 32 ∧ (readM b).1.nx.length = 32 := by
 unfold readM
 split
 ·exact ⟨rfl, rfl⟩
 split
 ·exact ⟨rfl, rfl⟩
 have h : (fieldsOfM b).ky.length = 32 ∧ (fieldsOfM b).nx.length = 32 := by constructor <;> (simp [fieldsOfM, List.length_take]; omega)
 split
 ·exact ⟨rfl, rfl⟩
 split
 ·exact h
 ·exact ⟨rfl, rfl⟩
theorem deposit_any (b : List Int) (A : Option Addr) (c : Nat) (w : World) (hb : ∀ x ∈ b, 0 ≤ x ∧ x ≤ 255) (hC : Kd.C kB w A b.length b) (hc : b.length ≤ c) :
 Calls Try.prog 83 #[.slice A b.length c] w fun e w' => e = .returned (.bool (depB b)) ∧ Below w.heap.size w w' := by
 have H0 := Aside0.mk (Own.start w)
 have RZ : Aside0 (Arr 69 (msgA zeroM)) := ⟨msgA_arr rfl rfl⟩
 have HRD := Aside0.mk (fun W (h : Below w.heap.size w W) => mread_any b A c W hb (Kd.C_below hC h) hc)
 have hsz := readM_size b hb
 have RM : Aside0 (Arr 69 (msgA (readM b).1)) := ⟨msgA_arr hsz.1 hsz.2⟩
 obtain ⟨r, hr⟩ : ∃ r, r = depB b := ⟨_, rfl⟩
 rw [← hr]
 unfold depB at hr
 clear hC hc hb hsz
 generalize b.length = n at *
 generalize (readM b).2 = er at *
 generalize (readM b).1 = m at *
 obtain ⟨kd, fr, tt, am, no, ky, nx⟩ := m
 dsimp only at hr
 by_cases h0 : er = 0
 ·subst h0
  rw [decide_eq_true rfl, Bool.true_and] at hr
  have hk : (kd == 1) = r := by rw [hr]; rfl
  clear hr
  go_enter Try.func83, Try.ntmps83
  go_wp2_with (first
   | fail
   | (go_at_call 129; refine (HRD.out _ H0.out.below).mono ?_; rintro e w1 ⟨rfl, hB1⟩; have H1 := Aside0.mk (H0.out.step hB1); clear hB1)
   | ((with_reducible refine Gd 3 ?_); refine OA H1 92 (msgA zeroM) 69 ?_; intro g3 w2 H2 B2)
   | ((with_reducible refine Gs 92 3 ?_); refine OS 3 8 H2 0 g3 92 (msgA ⟨kd, fr, tt, am, no, ky, nx⟩) 69 RZ RM ?_; intro w3 H3)
   | ((with_reducible refine Gd 14 ?_); refine GD 13 90 H3 0 g3 0 (.int .u8 kd) Try.underlying90 ?_)
   )
  go_ret
  exact ⟨rfl, H3.out.below⟩
 ·have he : (er == 0) = false := beq_eq_false_iff_ne.2 h0
  obtain rfl : r = false := by rw [hr, decide_eq_false h0]; rfl
  clear hr h0
  go_enter Try.func83, Try.ntmps83
  go_wp2_with (first
   | fail
   | (go_at_call 129; refine (HRD.out _ H0.out.below).mono ?_; rintro e w1 ⟨rfl, hB1⟩; have H1 := Aside0.mk (H0.out.step hB1); clear hB1)
   | ((with_reducible refine Gd 3 ?_); refine OA H1 92 (msgA zeroM) 69 ?_; intro g3 w2 H2 B2)
   | ((with_reducible refine Gs 92 3 ?_); refine OS 3 8 H2 0 g3 92 (msgA ⟨kd, fr, tt, am, no, ky, nx⟩) 69 RZ RM ?_; intro w3 H3)
   )
  go_ret
  exact ⟨rfl, H3.out.below⟩
def enqI (x : Box) (block : Int) (m : List Int) : Box × Int := if sinceI x.q x.tk x.l block && decide (m.length ≤ 65536) && !depB m then queueI x block m else (zeroB, 2)
theorem sinceI_may {q : List SQ} {tk : Int} {l : List (List Int)} {block : Int} (h : sinceI q tk l block = true) : mayI q tk l = true ∧ 0 ≤ block := by
 unfold sinceI at h
 rw [Bool.and_eq_true, Bool.and_eq_true, decide_eq_true_eq] at h
 exact h.1
theorem enqueue_any (x : Box) (block : Int) (msg : List Int) (A1 A2 Am : Option Addr) (c1 c2 cm : Nat) (w : World) (hC1 : Kd.C kQ w A1 x.q.length x.q) (hc1 : x.q.length ≤ c1) (hC2 : Kd.C kL w A2 x.l.length x.l) (hc2 : x.l.length ≤ c2)
 (hC3 : Kd.C kB w Am msg.length msg) (hc3 : msg.length ≤ cm) (hb : ∀ y ∈ msg, 0 ≤ y ∧ y ≤ 255) :
 Calls Try.prog 34 #[.agg #[.slice A1 x.q.length c1, .int .i64 x.tk, .slice A2 x.l.length c2, .int .u64 x.nx], .int .i64 block, .slice Am msg.length cm] w (BoxPost w (enqI x block msg)) := by
 have HS := Aside0.mk (fun W (h : Below w.heap.size w W) => since_any x.q x.tk x.l x.nx block A1 A2 c1 c2 W (Kd.C_below hC1 h) hc1 (Kd.C_below hC2 h) hc2)
 have HSH := Aside0.mk (fun W (h : Below w.heap.size w W) => short_any msg Am cm W (Kd.C_below hC3 h) hc3)
 have HD := Aside0.mk (fun W (h : Below w.heap.size w W) => deposit_any msg Am cm W hb (Kd.C_below hC3 h) hc3)
 have HQ := Aside0.mk (fun (W : World) (h : Below w.heap.size w W) (h1 : mayI x.q x.tk x.l = true) (h2 : msg.length ≤ 65536) => queue_any x block msg A1 A2 Am c1 c2 cm W (Kd.C_below hC1 h) hc1 (Kd.C_below hC2 h) hc2 (Kd.C_below hC3 h) hc3 (by omega) (by have := (mayI_len h1).2.1; omega) (fun d hd => by have := ((mayI_all h1).1 d hd).2; omega) (fun m hm => by have := (mayI_all h1).2 m hm; omega))
 have HSM := Aside0.mk (fun h : sinceI x.q x.tk x.l block = true => (sinceI_may h).1)
 have H0 := Aside0.mk (Own.start w)
 obtain ⟨r, hr⟩ : ∃ r, r = enqI x block msg := ⟨_, rfl⟩
 rw [← hr]
 unfold enqI at hr
 have HR := Aside0.mk hr
 have HL : Aside0 (decide (msg.length ≤ 65536) = true → msg.length ≤ 65536) := ⟨of_decide_eq_true⟩
 clear hr hC1 hC2 hC3 hc1 hc2 hc3 hb
 generalize hs1 : sinceI x.q x.tk x.l block = s1 at *
 generalize hs2 : decide (msg.length ≤ 65536) = s2 at *
 generalize hs3 : depB msg = s3 at *
 clear hs1 hs2 hs3
 have HQ2 := Aside0.mk (fun (W : World) (h : Below w.heap.size w W) (h1 : s1 = true) (h2 : s2 = true) => HQ.out W h (HSM.out h1) (HL.out h2))
 clear HQ HSM HL
 generalize queueI x block msg = qr at *
 obtain ⟨q, tk, l, nx⟩ := x
 dsimp only at *
 generalize q.length = n at *
 generalize l.length = m at *
 generalize msg.length = k at *
 cases s1
 ·
  obtain rfl : r = (zeroB, 2) := by rw [HR.out]; rfl
  clear HR
  have HA0 : Aside0 (Arr 4 #[.slice none 0 0, .int .i64 0, .slice none 0 0, .int .u64 0]) := ⟨rfl, by simp [Value.oneCell']⟩
  go_enter Try.func34, Try.ntmps34
  go_wp2_with (first
   | fail
   | ((with_reducible refine Gd 3 ?_); refine OB H0 73 #[.slice A1 n c1, .int .i64 tk, .slice A2 m c2, .int .u64 nx] ?_; intro g3 w1 H1 B1)
   | ((with_reducible refine Gd 6 ?_); refine OA H1 73 #[.slice none 0 0, .int .i64 0, .slice none 0 0, .int .u64 0] 4 ?_; intro g6 w2 H2 B2)
   | ((with_reducible refine Gd 8 ?_); refine OV 3 H2 1 g3 73 rfl Try.underlying73 (by kernel_rfl) ?_)
   | (go_at_call 81; refine (HS.out _ H2.out.below).mono ?_; rintro e w3 ⟨rfl, hB3⟩; have H3 := Aside0.mk (H2.out.step hB3); clear hB3)
   | (go_at_call 82; refine (HSH.out _ H3.out.below).mono ?_; rintro e w4 ⟨rfl, hB4⟩; have H4 := Aside0.mk (H3.out.step hB4); clear hB4)
   | (go_at_call 83; refine (HD.out _ H4.out.below).mono ?_; rintro e w5 ⟨rfl, hB5⟩; have H5 := Aside0.mk (H4.out.step hB5); clear hB5)
   | ((with_reducible refine Gs 73 6 ?_); refine OS 6 21 H3 0 g6 73 #[.slice none 0 0, .int .i64 0, .slice none 0 0, .int .u64 0] 4 HA0 HA0 ?_; intro w7 HG)
   | ((with_reducible refine Gd 22 ?_); refine OV 3 H5 1 g3 73 rfl Try.underlying73 (by kernel_rfl) ?_)
   | (go_at_call 84; refine (HQ2.out _ H5.out.below (by first | rfl | trivial) (by first | rfl | trivial)).mono ?_; rintro e w8 ⟨v1, v2, rfl, hO8⟩; have H8 := Aside0.mk (H5.out.call hO8); have HA8 : Aside0 (Arr 4 #[v1, .int .i64 qr.1.tk, v2, .int .u64 qr.1.nx]) := ⟨rfl, by obtain ⟨A, c, rfl, _⟩ := hO8.reads 0 rfl; obtain ⟨A', c', rfl, _⟩ := hO8.reads 1 rfl; simp [Value.oneCell']⟩; clear hO8)
   | ((with_reducible refine Gs 73 6 ?_); refine OS 6 26 H8 2 g6 73 #[v1, .int .i64 qr.1.tk, v2, .int .u64 qr.1.nx] 4 HA0 HA8 ?_; intro w9 H9)
   )
  refine bodyPost_ret (own_resultV_t rfl _ HG.out 0 g6 _ rfl rfl _ Try.underlying73 rfl (by kernel_rfl) _ rfl) rfl ?_
  exact ⟨_, _, rfl, ((((HG.out.erase 0).erase 0).null kL _).null kQ _)⟩
 cases s2
 ·
  obtain rfl : r = (zeroB, 2) := by rw [HR.out]; rfl
  clear HR
  have HA0 : Aside0 (Arr 4 #[.slice none 0 0, .int .i64 0, .slice none 0 0, .int .u64 0]) := ⟨rfl, by simp [Value.oneCell']⟩
  go_enter Try.func34, Try.ntmps34
  go_wp2_with (first
   | fail
   | ((with_reducible refine Gd 3 ?_); refine OB H0 73 #[.slice A1 n c1, .int .i64 tk, .slice A2 m c2, .int .u64 nx] ?_; intro g3 w1 H1 B1)
   | ((with_reducible refine Gd 6 ?_); refine OA H1 73 #[.slice none 0 0, .int .i64 0, .slice none 0 0, .int .u64 0] 4 ?_; intro g6 w2 H2 B2)
   | ((with_reducible refine Gd 8 ?_); refine OV 3 H2 1 g3 73 rfl Try.underlying73 (by kernel_rfl) ?_)
   | (go_at_call 81; refine (HS.out _ H2.out.below).mono ?_; rintro e w3 ⟨rfl, hB3⟩; have H3 := Aside0.mk (H2.out.step hB3); clear hB3)
   | (go_at_call 82; refine (HSH.out _ H3.out.below).mono ?_; rintro e w4 ⟨rfl, hB4⟩; have H4 := Aside0.mk (H3.out.step hB4); clear hB4)
   | (go_at_call 83; refine (HD.out _ H4.out.below).mono ?_; rintro e w5 ⟨rfl, hB5⟩; have H5 := Aside0.mk (H4.out.step hB5); clear hB5)
   | ((with_reducible refine Gs 73 6 ?_); refine OS 6 21 H4 0 g6 73 #[.slice none 0 0, .int .i64 0, .slice none 0 0, .int .u64 0] 4 HA0 HA0 ?_; intro w7 HG)
   | ((with_reducible refine Gd 22 ?_); refine OV 3 H5 1 g3 73 rfl Try.underlying73 (by kernel_rfl) ?_)
   | (go_at_call 84; refine (HQ2.out _ H5.out.below (by first | rfl | trivial) (by first | rfl | trivial)).mono ?_; rintro e w8 ⟨v1, v2, rfl, hO8⟩; have H8 := Aside0.mk (H5.out.call hO8); have HA8 : Aside0 (Arr 4 #[v1, .int .i64 qr.1.tk, v2, .int .u64 qr.1.nx]) := ⟨rfl, by obtain ⟨A, c, rfl, _⟩ := hO8.reads 0 rfl; obtain ⟨A', c', rfl, _⟩ := hO8.reads 1 rfl; simp [Value.oneCell']⟩; clear hO8)
   | ((with_reducible refine Gs 73 6 ?_); refine OS 6 26 H8 2 g6 73 #[v1, .int .i64 qr.1.tk, v2, .int .u64 qr.1.nx] 4 HA0 HA8 ?_; intro w9 H9)
   )
  refine bodyPost_ret (own_resultV_t rfl _ HG.out 0 g6 _ rfl rfl _ Try.underlying73 rfl (by kernel_rfl) _ rfl) rfl ?_
  exact ⟨_, _, rfl, ((((HG.out.erase 0).erase 0).null kL _).null kQ _)⟩
 cases s3
 case true =>
  obtain rfl : r = (zeroB, 2) := by rw [HR.out]; rfl
  clear HR
  have HA0 : Aside0 (Arr 4 #[.slice none 0 0, .int .i64 0, .slice none 0 0, .int .u64 0]) := ⟨rfl, by simp [Value.oneCell']⟩
  go_enter Try.func34, Try.ntmps34
  go_wp2_with (first
   | fail
   | ((with_reducible refine Gd 3 ?_); refine OB H0 73 #[.slice A1 n c1, .int .i64 tk, .slice A2 m c2, .int .u64 nx] ?_; intro g3 w1 H1 B1)
   | ((with_reducible refine Gd 6 ?_); refine OA H1 73 #[.slice none 0 0, .int .i64 0, .slice none 0 0, .int .u64 0] 4 ?_; intro g6 w2 H2 B2)
   | ((with_reducible refine Gd 8 ?_); refine OV 3 H2 1 g3 73 rfl Try.underlying73 (by kernel_rfl) ?_)
   | (go_at_call 81; refine (HS.out _ H2.out.below).mono ?_; rintro e w3 ⟨rfl, hB3⟩; have H3 := Aside0.mk (H2.out.step hB3); clear hB3)
   | (go_at_call 82; refine (HSH.out _ H3.out.below).mono ?_; rintro e w4 ⟨rfl, hB4⟩; have H4 := Aside0.mk (H3.out.step hB4); clear hB4)
   | (go_at_call 83; refine (HD.out _ H4.out.below).mono ?_; rintro e w5 ⟨rfl, hB5⟩; have H5 := Aside0.mk (H4.out.step hB5); clear hB5)
   | ((with_reducible refine Gs 73 6 ?_); refine OS 6 21 H5 0 g6 73 #[.slice none 0 0, .int .i64 0, .slice none 0 0, .int .u64 0] 4 HA0 HA0 ?_; intro w7 HG)
   | ((with_reducible refine Gd 22 ?_); refine OV 3 H5 1 g3 73 rfl Try.underlying73 (by kernel_rfl) ?_)
   | (go_at_call 84; refine (HQ2.out _ H5.out.below (by first | rfl | trivial) (by first | rfl | trivial)).mono ?_; rintro e w8 ⟨v1, v2, rfl, hO8⟩; have H8 := Aside0.mk (H5.out.call hO8); have HA8 : Aside0 (Arr 4 #[v1, .int .i64 qr.1.tk, v2, .int .u64 qr.1.nx]) := ⟨rfl, by obtain ⟨A, c, rfl, _⟩ := hO8.reads 0 rfl; obtain ⟨A', c', rfl, _⟩ := hO8.reads 1 rfl; simp [Value.oneCell']⟩; clear hO8)
   | ((with_reducible refine Gs 73 6 ?_); refine OS 6 26 H8 2 g6 73 #[v1, .int .i64 qr.1.tk, v2, .int .u64 qr.1.nx] 4 HA0 HA8 ?_; intro w9 H9)
   )
  refine bodyPost_ret (own_resultV_t rfl _ HG.out 0 g6 _ rfl rfl _ Try.underlying73 rfl (by kernel_rfl) _ rfl) rfl ?_
  exact ⟨_, _, rfl, ((((HG.out.erase 0).erase 0).null kL _).null kQ _)⟩
 obtain rfl : r = qr := by rw [HR.out]; rfl
 clear HR
 have HA0 : Aside0 (Arr 4 #[.slice none 0 0, .int .i64 0, .slice none 0 0, .int .u64 0]) := ⟨rfl, by simp [Value.oneCell']⟩
 go_enter Try.func34, Try.ntmps34
 go_wp2_with (first
  | fail
  | ((with_reducible refine Gd 3 ?_); refine OB H0 73 #[.slice A1 n c1, .int .i64 tk, .slice A2 m c2, .int .u64 nx] ?_; intro g3 w1 H1 B1)
  | ((with_reducible refine Gd 6 ?_); refine OA H1 73 #[.slice none 0 0, .int .i64 0, .slice none 0 0, .int .u64 0] 4 ?_; intro g6 w2 H2 B2)
  | ((with_reducible refine Gd 8 ?_); refine OV 3 H2 1 g3 73 rfl Try.underlying73 (by kernel_rfl) ?_)
  | (go_at_call 81; refine (HS.out _ H2.out.below).mono ?_; rintro e w3 ⟨rfl, hB3⟩; have H3 := Aside0.mk (H2.out.step hB3); clear hB3)
  | (go_at_call 82; refine (HSH.out _ H3.out.below).mono ?_; rintro e w4 ⟨rfl, hB4⟩; have H4 := Aside0.mk (H3.out.step hB4); clear hB4)
  | (go_at_call 83; refine (HD.out _ H4.out.below).mono ?_; rintro e w5 ⟨rfl, hB5⟩; have H5 := Aside0.mk (H4.out.step hB5); clear hB5)
  | ((with_reducible refine Gs 73 6 ?_); refine OS 6 21 H5 0 g6 73 #[.slice none 0 0, .int .i64 0, .slice none 0 0, .int .u64 0] 4 HA0 HA0 ?_; intro w7 HG)
  | ((with_reducible refine Gd 22 ?_); refine OV 3 H5 1 g3 73 rfl Try.underlying73 (by kernel_rfl) ?_)
  | (go_at_call 84; refine (HQ2.out _ H5.out.below (by first | rfl | trivial) (by first | rfl | trivial)).mono ?_; rintro e w8 ⟨v1, v2, rfl, hO8⟩; have H8 := Aside0.mk (H5.out.call hO8); have HA8 : Aside0 (Arr 4 #[v1, .int .i64 r.1.tk, v2, .int .u64 r.1.nx]) := ⟨rfl, by obtain ⟨A, c, rfl, _⟩ := hO8.reads 0 rfl; obtain ⟨A', c', rfl, _⟩ := hO8.reads 1 rfl; simp [Value.oneCell']⟩; clear hO8)
  | ((with_reducible refine Gs 73 6 ?_); refine OS 6 26 H8 2 g6 73 #[v1, .int .i64 r.1.tk, v2, .int .u64 r.1.nx] 4 HA0 HA8 ?_; intro w9 H9)
  )
 refine bodyPost_ret (own_resultV_t rfl _ H9.out 2 g6 _ rfl rfl _ Try.underlying73 rfl (by kernel_rfl) _ rfl) rfl ?_
 exact ⟨_, _, rfl, (H9.out.erase 2).erase 2⟩
theorem arr4_ {v : Value} {k : IntKind} {n : Int} {A : Option Addr} {c m : Nat} {x : Int} (h : v.oneCell' = true) : Arr 4 #[v, .int .i64 x, .slice A m c, .int k n] := ⟨rfl, by
 simp only [Array.all_eq_true_iff_forall_mem]
 intro y hy
 simp at hy
 rcases hy with rfl | rfl | rfl | rfl
 ·exact h
 ·rfl
 ·rfl
 ·rfl⟩
theorem reps_one {α : Type} {d : Kd α} {W : World} {S : Nat → Prop} {x : α} {cs : List Value} (h : d.M W 0 S x cs) : Reps (d.M W 0 S) d.sz [x] cs := by
 have hl := d.K_len (d.K_of_M h)
 refine ⟨by simp [hl], fun j p hj => ?_⟩
 cases j with
 | zero =>
  obtain rfl : x = p := by simpa using hj
  rw [Nat.zero_mul, List.drop_zero, List.take_of_length_le (by omega)]
  exact h
 | succ j => simp at hj
def anc1 : Box := ⟨[⟨3, [7]⟩], 0, [], 0⟩
theorem anc_enq : enqI zeroB 3 [7] = (anc1, 0) := by
 have h : depB [7] = false := rfl
 have h2 : sinceI zeroB.q zeroB.tk zeroB.l 3 = true := by decide
 unfold enqI
 rw [h, h2]
 rfl
theorem anc_t10 : tickI anc1 10 = (anc1, 0) := by
 have h : mayI anc1.q anc1.tk anc1.l = true := by decide
 unfold tickI
 rw [h]
 rfl
theorem anc_t11 : tickI anc1 11 = (⟨[⟨3, [7]⟩], 1, [[7]], 0⟩, 0) := by
 have h : mayI anc1.q anc1.tk anc1.l = true := by decide
 unfold tickI
 rw [h]
 rfl
theorem anchored20_any (w : World) : Calls Try.prog 33 #[] w fun e w' => e = .returned (.bool true) ∧ Below w.heap.size w w' := by
 have H0 := Aside0.mk (Own.start w)
 have HE : Aside0 (∀ (W : World) (A : Option Addr) (c : Nat), 1 ≤ c → Kd.C kB W A 1 [7] → Calls Try.prog 34 #[.agg #[.slice none 0 0, .int .i64 0, .slice none 0 0, .int .u64 0], .int .i64 3, .slice A 1 c] W fun e w' => ∃ A1 c1 A2 c2, e = .returned (.tuple #[.agg #[.slice A1 1 c1, .int .i64 0, .slice A2 0 c2, .int .u64 0], .int .i64 0]) ∧ 1 ≤ c1 ∧ Own W.heap.size W w' [.row kQ 78 (.slice A1 1 c1) anc1.q, .row kL 74 (.slice A2 0 c2) []]) := ⟨fun W A c hc hC => by
  have h := enqueue_any zeroB 3 [7] none none A 0 0 c W (Kd.C_nil _ _) (Nat.zero_le _) (Kd.C_nil _ _) (Nat.zero_le _) hC hc (by decide)
  rw [anc_enq] at h
  refine h.mono ?_
  rintro e w' ⟨v1, v2, rfl, hO⟩
  obtain ⟨A1, c1, rfl, h1, _⟩ := hO.reads 0 rfl
  obtain ⟨A2, c2, rfl, h2, _⟩ := hO.reads 1 rfl
  exact ⟨A1, c1, A2, c2, rfl, h1, hO⟩⟩
 have HT1 : Aside0 (∀ (W : World) (A1 A2 : Option Addr) (c1 c2 : Nat), 1 ≤ c1 → Kd.C kQ W A1 1 anc1.q → Kd.C kL W A2 0 ([] : List (List Int)) → Calls Try.prog 38 #[.agg #[.slice A1 1 c1, .int .i64 0, .slice A2 0 c2, .int .u64 0], .int .i64 10] W fun e w' => ∃ v1 A3 c3, e = .returned (.tuple #[.agg #[v1, .int .i64 0, .slice A3 0 c3, .int .u64 0], .int .i64 0]) ∧ v1.oneCell' = true ∧ Below W.heap.size W w') := ⟨fun W A1 A2 c1 c2 hc h1 h2 => by
  have h := tick_any anc1 10 A1 A2 c1 c2 W h1 hc h2 (Nat.zero_le _) (by decide) (by decide)
  rw [anc_t10] at h
  refine h.mono ?_
  rintro e w' ⟨v1, v2, rfl, hO⟩
  obtain ⟨A1, c1, rfl, h1, _⟩ := hO.reads 0 rfl
  obtain ⟨A2, c2, rfl, h2, _⟩ := hO.reads 1 rfl
  exact ⟨_, A2, c2, rfl, rfl, hO.below⟩⟩
 have HT2 : Aside0 (∀ (W : World) (A1 A2 : Option Addr) (c1 c2 : Nat), 1 ≤ c1 → Kd.C kQ W A1 1 anc1.q → Kd.C kL W A2 0 ([] : List (List Int)) → Calls Try.prog 38 #[.agg #[.slice A1 1 c1, .int .i64 0, .slice A2 0 c2, .int .u64 0], .int .i64 11] W fun e w' => ∃ v1 A3 c3, e = .returned (.tuple #[.agg #[v1, .int .i64 1, .slice A3 1 c3, .int .u64 0], .int .i64 0]) ∧ v1.oneCell' = true ∧ 1 ≤ c3 ∧ Own W.heap.size W w' [.row kL 74 (.slice A3 1 c3) [[7]]]) := ⟨fun W A1 A2 c1 c2 hc h1 h2 => by
  have h := tick_any anc1 11 A1 A2 c1 c2 W h1 hc h2 (Nat.zero_le _) (by decide) (by decide)
  rw [anc_t11] at h
  refine h.mono ?_
  rintro e w' ⟨v1, v2, rfl, hO⟩
  obtain ⟨A1, c1, rfl, h1, _⟩ := hO.reads 0 rfl
  obtain ⟨A2, c2, rfl, h2, _⟩ := hO.reads 1 rfl
  exact ⟨_, A2, c2, rfl, rfl, h2, hO.erase 0⟩⟩
 have HLS : Aside0 (∀ (W : World) (A1 A2 : Option Addr) (c1 c2 : Nat), 1 ≤ c1 → 1 ≤ c2 → Kd.C kL W A1 1 [[7]] → Kd.C kL W A2 1 [[7]] → Calls Try.prog 39 #[.slice A1 1 c1, .slice A2 1 c2] W fun e w' => e = .returned (.bool true) ∧ Below W.heap.size W w') := ⟨fun W A1 A2 c1 c2 h1 h2 h3 h4 => (PRF.proctorref20_Lists.calls 5 A1 c1 [[7]] A2 c2 [[7]] true W h3 h1 h4 h2 (by decide +kernel)).mono fun e w' ⟨he, hd⟩ => ⟨he, hd.below⟩⟩
 have HZI : Aside0 (Arr 4 #[.slice none 0 0, .int .i64 0, .slice none 0 0, .int .u64 0]) := ⟨rfl, by simp [Value.oneCell']⟩
 go_enter Try.func33, Try.ntmps33
 go_upto_region 3 with (first
  | fail
  | ((with_reducible refine gate_dst (N := 9) rfl ?_); refine own_lit kB Flat_B H0.out 5 rfl (N := 9) rfl (xs := [7]) (inner := ([7]).map (Value.int .u8)) ?hr9 (Kd.reps_scalar _) (by simp) ?_; (case hr9 => first | (go_simp; done) | (go_simp; rfl)); intro A9 c9 w1 H1 B1; replace H1 := Aside0.mk H1; replace B1 := Aside0.mk B1)
  | (go_at_call 34; obtain ⟨A9', c9', he9, hc9, hC9⟩ := H1.out.reads 0 rfl; injection he9 with he1 he2 he3; subst he1 he3; refine (HE.out _ _ _ hc9 hC9).mono ?_; rintro e w3 ⟨A1, c1, A2, c2, rfl, hc1, hO3⟩; have H3 := Aside0.mk (H1.out.call hO3); have HAy : Aside0 (Arr 4 #[.slice A1 1 c1, .int .i64 0, .slice A2 0 c2, .int .u64 0]) := ⟨rfl, by simp [Value.oneCell']⟩; clear hO3)
  | ((with_reducible refine Gd 1 ?_); refine OA H3 73 #[.slice none 0 0, .int .i64 0, .slice none 0 0, .int .u64 0] 4 ?_; intro g1 w4 H4 B4)
  | ((with_reducible refine Gs 73 1 ?_); refine OS 1 11 H4 0 g1 73 #[.slice A1 1 c1, .int .i64 0, .slice A2 0 c2, .int .u64 0] 4 HZI HAy ?_; intro w5 H5)
  | ((with_reducible refine Gd 14 ?_); refine OV 1 H5 0 g1 73 rfl Try.underlying73 (by kernel_rfl) ?_)
  | (go_at_call 38; (refine (HT1.out _ A1 A2 c1 c2 hc1 (H5.out.C_of 1 rfl) (H5.out.C_of 2 rfl)).mono ?_); rintro e w6 ⟨v6, A6, c6, rfl, hv6, hB6⟩; have H6 := Aside0.mk (H5.out.step hB6); have HAz : Aside0 (Arr 4 #[v6, .int .i64 0, .slice A6 0 c6, .int .u64 0]) := ⟨arr4_ hv6⟩; clear hB6)
  | ((with_reducible refine Gd 3 ?_); refine OA H6 73 #[.slice none 0 0, .int .i64 0, .slice none 0 0, .int .u64 0] 4 ?_; intro g3 w7 H7 B7)
  | ((with_reducible refine Gs 73 3 ?_); refine OS 3 16 H7 0 g3 73 #[v6, .int .i64 0, .slice A6 0 c6, .int .u64 0] 4 HZI HAz ?_; intro w8 H8)
  )
 clear H0 H1 H3 H4 H6 H7 HT1 HE B1 B4 B7
 go_wp2_with (first
  | fail
  | ((with_reducible refine Gd 19 ?_); refine OV 1 H8 1 g1 73 rfl Try.underlying73 (by kernel_rfl) ?_)
  | (go_at_call 38; (refine (HT2.out _ A1 A2 c1 c2 hc1 (H8.out.C_of 2 rfl) (H8.out.C_of 3 rfl)).mono ?_); rintro e w9 ⟨v9, A9, c9', rfl, hv9, hc9', hO9⟩; have H9 := Aside0.mk (H8.out.call hO9); have HAw : Aside0 (Arr 4 #[v9, .int .i64 1, .slice A9 1 c9', .int .u64 0]) := ⟨arr4_ hv9⟩; clear hO9)
  | ((with_reducible refine Gd 5 ?_); refine OA H9 73 #[.slice none 0 0, .int .i64 0, .slice none 0 0, .int .u64 0] 4 ?_; intro g5 w10 H10 B10)
  | ((with_reducible refine Gs 73 5 ?_); refine OS 5 21 H10 0 g5 73 #[v9, .int .i64 1, .slice A9 1 c9', .int .u64 0] 4 HZI HAw ?_; intro w11 H11)
  | ((with_reducible refine Gd 35 ?_); refine GD 34 71 H11 2 g3 2 (.slice A6 0 c6) Try.underlying71 ?_)
  | ((with_reducible refine Gd 41 ?_); refine GD 40 71 H11 0 g5 2 (.slice A9 1 c9') Try.underlying71 ?_)
  | ((with_reducible refine gate_dst (N := 42) rfl ?_); (refine gate_guard (by rfl) ?_); refine own_lit kB Flat_B H11.out 5 rfl (N := 42) rfl (xs := [7]) (inner := ([7]).map (Value.int .u8)) ?hr42 (Kd.reps_scalar _) (by simp) ?_; (case hr42 => first | (go_simp; done) | (go_simp; rfl)); intro A42 c42 w12 H12 B12; replace H12 := Aside0.mk H12)
  | ((with_reducible refine gate_dst (N := 43) rfl ?_); (refine gate_guard (by rfl) ?_); refine own_litM kL H12.out 74 rfl (N := 43) rfl (xs := [[7]]) (inner := [.slice A42 1 c42]) ?hr43 (fun S hS => reps_one (d := kL) ⟨_, rfl, hS⟩) (by simp) ?_; (case hr43 => first | (go_simp; done) | (go_simp; rfl)); intro A43 c43 w13 hc43 H13 B13; replace H13 := Aside0.mk H13)
  | (go_at_call 39; refine (HLS.out _ _ _ _ _ hc9' hc43 (H13.out.C_of 2 rfl) (H13.out.C_of 0 rfl)).mono ?_; rintro e w14 ⟨rfl, hB14⟩; have H14 := Aside0.mk (H13.out.step hB14); clear hB14)
  | ((with_reducible refine Gd 48 ?_); refine GD 47 3 H14 1 g5 1 (.int .i64 1) Try.underlying3 ?_)
  )
 go_ret
 exact ⟨rfl, H14.out.below⟩
theorem bytesOf_eq : ∀ (xs ys : List Int), (∀ x ∈ xs, 0 ≤ x ∧ x ≤ 255) → (∀ x ∈ ys, 0 ≤ x ∧ x ≤ 255) → (Lib.bytesOf xs == Lib.bytesOf ys) = (xs == ys)
 | [], [], _, _ => rfl
 | [], y :: ys, _, _ => rfl
 | x :: xs, [], _, _ => rfl
 | x :: xs, y :: ys, h1, h2 => by
  have ih := bytesOf_eq xs ys (fun z hz => h1 z (List.mem_cons_of_mem _ hz)) (fun z hz => h2 z (List.mem_cons_of_mem _ hz))
  have hx := h1 x (by simp)
  have hy := h2 y (by simp)
  show ((_ :: Lib.bytesOf xs) == (_ :: Lib.bytesOf ys)) = _
  rw [List.cons_beq_cons, List.cons_beq_cons, ih]
  congr 1
  rw [Bool.eq_iff_iff, beq_iff_eq, beq_iff_eq]
  constructor
  ·intro h
   have h3 := congrArg UInt8.toNat h
   rw [UInt8.toNat_ofNat', UInt8.toNat_ofNat'] at h3
   omega
  ·rintro rfl
   rfl
theorem bequal_any (xs ys : List Int) (A1 A2 : Option Addr) (c1 c2 : Nat) (w : World) (h1 : Kd.C kB w A1 xs.length xs) (h2 : Kd.C kB w A2 ys.length ys) (hx : ∀ x ∈ xs, 0 ≤ x ∧ x ≤ 255) (hy : ∀ x ∈ ys, 0 ≤ x ∧ x ≤ 255) :
 Calls Try.prog 97 #[.slice A1 xs.length c1, .slice A2 ys.length c2] w fun e w' => e = .returned (.bool (xs == ys)) ∧ w' = w := by
 have g1 := Kd.C_string (P := Try.prog) (src := 74) (dst := 9) (c := c1) Try.underlying74 Try.underlying5 Try.underlying9 h1
 have g2 := Kd.C_string (P := Try.prog) (src := 74) (dst := 9) (c := c2) Try.underlying74 Try.underlying5 Try.underlying9 h2
 rw [← bytesOf_eq xs ys hx hy, ← Lib.strOfNums_toList, ← Lib.strOfNums_toList]
 clear h1 h2 hx hy
 generalize xs.length = n1 at *
 generalize ys.length = n2 at *
 go_enter Try.func97, Try.ntmps97
 go_wp2
 go_ret
 exact ⟨rfl, rfl⟩
def eqL {α : Type} (f : α → α → Bool) : List α → List α → Bool
 | [], [] => true
 | a :: r, b :: s => f a b && eqL f r s
 | _, _ => false
theorem eqL_len {α : Type} (f : α → α → Bool) : ∀ (a b : List α), a.length ≠ b.length → eqL f a b = false
 | [], [], h => absurd rfl h
 | [], _ :: _, _ => rfl
 | _ :: _, [], _ => rfl
 | _ :: a, _ :: b, h => by rw [eqL, eqL_len f a b (fun e => h (by simp [e])), Bool.and_false]
theorem eqL_refl {α : Type} {f : α → α → Bool} (hf : ∀ x, f x x = true) : ∀ l : List α, eqL f l l = true
 | [] => rfl
 | x :: l => by rw [eqL, hf, eqL_refl hf l]; rfl
theorem eqL_drop {α : Type} (f : α → α → Bool) (a b : List α) (i : Nat) (ha : i < a.length) (hb : i < b.length) : eqL f (a.drop i) (b.drop i) = (f a[i] b[i] && eqL f (a.drop (i + 1)) (b.drop (i + 1))) := by
 rw [List.drop_eq_getElem_cons ha, List.drop_eq_getElem_cons hb]; rfl
def eqD (a b : SQ) : Bool := (a.f0 == b.f0) && (a.f1 == b.f1)
theorem dsame_any (a b : SQ) (A1 A2 : Option Addr) (c1 c2 : Nat) (w : World) (h1 : Kd.C kB w A1 a.f1.length a.f1) (h2 : Kd.C kB w A2 b.f1.length b.f1) (hx : ∀ x ∈ a.f1, 0 ≤ x ∧ x ≤ 255) (hy : ∀ x ∈ b.f1, 0 ≤ x ∧ x ≤ 255) :
 Calls Try.prog 96 #[.agg #[.int .i64 a.f0, .slice A1 a.f1.length c1], .agg #[.int .i64 b.f0, .slice A2 b.f1.length c2]] w fun e w' => e = .returned (.bool (eqD a b)) ∧ Below w.heap.size w w' := by
 have H0 := Aside0.mk (Own.start w)
 have HE := Aside0.mk (fun W (h : Below w.heap.size w W) => bequal_any a.f1 b.f1 A1 A2 c1 c2 W (Kd.C_below h1 h) (Kd.C_below h2 h) hx hy)
 have hr : eqD a b = ((a.f0 == b.f0) && (a.f1 == b.f1)) := rfl
 rw [hr]
 clear h1 h2 hx hy hr
 generalize (a.f1 == b.f1) = eb at *
 generalize a.f1.length = n1 at *
 generalize b.f1.length = n2 at *
 generalize a.f0 = x at *
 generalize b.f0 = y at *
 cases h : (x == y)
 ·
  go_enter Try.func96, Try.ntmps96
  go_wp2_with (first
   | fail
   | ((with_reducible refine Gd 2 ?_); refine OB H0 78 #[.int .i64 x, .slice A1 n1 c1] ?_; intro g2 w1 H1 B1)
   | ((with_reducible refine Gd 3 ?_); refine OB H1 78 #[.int .i64 y, .slice A2 n2 c2] ?_; intro g3 w2 H2 B2)
   | ((with_reducible refine Gd 6 ?_); refine OD 5 3 H2 1 g2 0 (.int .i64 x) Try.underlying3 ?_)
   | ((with_reducible refine Gd 8 ?_); refine OD 7 3 H2 0 g3 0 (.int .i64 y) Try.underlying3 ?_)
   | ((with_reducible refine Gd 12 ?_); refine GD 11 74 H2 1 g2 1 (.slice A1 n1 c1) Try.underlying74 ?_)
   | ((with_reducible refine Gd 14 ?_); refine GD 13 74 H2 0 g3 1 (.slice A2 n2 c2) Try.underlying74 ?_)
   | (go_at_call 97; refine (HE.out _ H2.out.below).mono ?_; rintro e w3 ⟨rfl, rfl⟩)
   )
  go_ret
  exact ⟨by simp [h], H2.out.below⟩
 ·
  go_enter Try.func96, Try.ntmps96
  go_wp2_with (first
   | fail
   | ((with_reducible refine Gd 2 ?_); refine OB H0 78 #[.int .i64 x, .slice A1 n1 c1] ?_; intro g2 w1 H1 B1)
   | ((with_reducible refine Gd 3 ?_); refine OB H1 78 #[.int .i64 y, .slice A2 n2 c2] ?_; intro g3 w2 H2 B2)
   | ((with_reducible refine Gd 6 ?_); refine OD 5 3 H2 1 g2 0 (.int .i64 x) Try.underlying3 ?_)
   | ((with_reducible refine Gd 8 ?_); refine OD 7 3 H2 0 g3 0 (.int .i64 y) Try.underlying3 ?_)
   | ((with_reducible refine Gd 12 ?_); refine GD 11 74 H2 1 g2 1 (.slice A1 n1 c1) Try.underlying74 ?_)
   | ((with_reducible refine Gd 14 ?_); refine GD 13 74 H2 0 g3 1 (.slice A2 n2 c2) Try.underlying74 ?_)
   | (go_at_call 97; refine (HE.out _ H2.out.below).mono ?_; rintro e w3 ⟨rfl, rfl⟩)
   )
  go_ret
  exact ⟨by simp [h], H2.out.below⟩
theorem eqfQ_any (l1 l2 : List SQ) (A1 A2 : Option Addr) (c1 c2 : Nat) (w : World) (h1 : Kd.C kQ w A1 l1.length l1) (h2 : Kd.C kQ w A2 l2.length l2) (hx : ∀ d ∈ l1, ∀ x ∈ d.f1, 0 ≤ x ∧ x ≤ 255) (hy : ∀ d ∈ l2, ∀ x ∈ d.f1, 0 ≤ x ∧ x ≤ 255) (hm : l1.length ≤ 9223372036854775807) :
 Calls Try.prog 98 #[.slice A1 l1.length c1, .slice A2 l2.length c2, .func (.func 96) #[] #[]] w fun e w' => e = .returned (.bool (eqL eqD l1 l2)) ∧ Below w.heap.size w w' := by
 have H0 := Aside0.mk (Own.start w)
 have HC1 := Aside0.mk h1
 have HC2 := Aside0.mk h2
 have HX := Aside0.mk hx
 have HY := Aside0.mk hy
 obtain ⟨r, hr⟩ : ∃ r, r = eqL eqD l1 l2 := ⟨_, rfl⟩
 rw [← hr]
 have HR := Aside0.mk hr
 clear h1 h2 hx hy hr
 obtain ⟨n, hn⟩ : ∃ n, n = l1.length := ⟨_, rfl⟩
 obtain ⟨m, hm2⟩ : ∃ m, m = l2.length := ⟨_, rfl⟩
 have HN := Aside0.mk hn
 have HM := Aside0.mk hm2
 rw [← hn] at HC1 hm ⊢
 rw [← hm2] at HC2 ⊢
 clear hn hm2
 by_cases hl : n = m
 case neg =>
  have hd : ((n : Int) != (m : Int)) = true := by simp; omega
  obtain rfl : r = false := by rw [HR.out]; exact eqL_len _ _ _ (by rw [← HN.out, ← HM.out]; exact hl)
  clear HR hl
  go_enter Try.func98, Try.ntmps98
  go_wp2_with fail
  go_ret
  exact ⟨rfl, Below.refl _ _⟩
 obtain rfl : m = n := hl.symm
 go_enter Try.func98, Try.ntmps98
 go_wp2_with fail
 have HZD : Aside0 (Arr 2 #[.int .i64 0, .slice none 0 0]) := ⟨rfl, by simp [Value.oneCell']⟩
 go_loopw [17] (fun v17 wr => ∃ i : Nat, i ≤ m ∧ v17 = .int .i64 (i : Int) ∧ Aside0 (r = eqL eqD (l1.drop i) (l2.drop i)) ∧ Aside0 (Own w.heap.size w wr [])) (fun v17 _ => m - (intOf v17).toNat)
 case atStart => exact ⟨0, Nat.zero_le _, rfl, ⟨HR.out⟩, H0⟩
 case round =>
  clear H0 HR
  obtain ⟨i, hi, rfl, HR, HI⟩ := hrel
  by_cases hlt : i < m
  ·have hdl : decide (i < m) = true := decide_eq_true hlt
   have hib : (0 : Int) ≤ (i : Int) ∧ (i : Int) < (m : Int) := by omega
   have hq1 : i < l1.length := by rw [← HN.out]; exact hlt
   have hq2 : i < l2.length := by rw [← HM.out]; exact hlt
   obtain ⟨a1, cs1, rfl, hK1, hp1⟩ := elemP (Kd.C_below HC1.out HI.out.below) i hlt hq1
   obtain ⟨a2, cs2, rfl, hK2, hp2⟩ := elemP (Kd.C_below HC2.out HI.out.below) i hlt hq2
   obtain ⟨Am, cm, rfl, hcm, hCm⟩ := PRF.k78_open hK1
   obtain ⟨An, cn, rfl, hcn, hCn⟩ := PRF.k78_open hK2
   have HP1 := Aside0.mk hp1
   have HP2 := Aside0.mk hp2
   have HRD : Aside0 (r = (eqD l1[i] l2[i] && eqL eqD (l1.drop (i + 1)) (l2.drop (i + 1)))) := ⟨HR.out.trans (eqL_drop _ _ _ _ hq1 hq2)⟩
   have HS := Aside0.mk (fun W (h : Below wr.heap.size wr W) => dsame_any l1[i] l2[i] Am An cm cn W (Kd.C_below hCm h) (Kd.C_below hCn h) (HX.out _ (List.getElem_mem hq1)) (HY.out _ (List.getElem_mem hq2)))
   have HB := Aside0.mk (fun W W1 (h : Below wr.heap.size wr W) (h1 : Below W.heap.size W W1) => below_step h h1)
   clear hK1 hK2 hp1 hp2 hCm hCn hcm hcn HR
   generalize eqD l1[i] l2[i] = eb at *
   generalize l1[i].f0 = x1 at *
   generalize l1[i].f1.length = n1 at *
   generalize l2[i].f0 = x2 at *
   generalize l2[i].f1.length = n2 at *
   have HA1 : Aside0 (Arr 2 #[.int .i64 x1, .slice Am n1 cm]) := ⟨rfl, by simp [Value.oneCell']⟩
   have HA2 : Aside0 (Arr 2 #[.int .i64 x2, .slice An n2 cn]) := ⟨rfl, by simp [Value.oneCell']⟩
   have HI0 := Aside0.mk (Own.start wr)
   cases eb
   ·obtain rfl : r = false := by rw [HRD.out]; rfl
    clear HRD
    go_wp2_with (first
     | fail
     | ((with_reducible refine gate_dst (N := 21) rfl ?_); refine ld_at rfl 78 (.tmp 20) rfl (a1.add (i * 2)) ([.int .i64 x1, .slice Am n1 cm]) _ rfl (HP1.out _ (Below.refl _ _)) Try.underlying78 rfl (by kernel_rfl) ?_)
     | ((with_reducible refine Gd 8 ?_); refine OA HI0 78 #[.int .i64 0, .slice none 0 0] 2 ?_; intro g8 w1 H1 B1)
     | ((with_reducible refine Gs 78 8 ?_); refine OS 8 21 H1 0 g8 78 #[.int .i64 x1, .slice Am n1 cm] 2 HZD HA1 ?_; intro w2 H2)
     | ((with_reducible refine gate_dst (N := 25) rfl ?_); refine ld_at rfl 78 (.tmp 24) rfl (a2.add (i * 2)) ([.int .i64 x2, .slice An n2 cn]) _ rfl (HP2.out _ H2.out.below) Try.underlying78 rfl (by kernel_rfl) ?_)
     | ((with_reducible refine Gd 9 ?_); refine OA H2 78 #[.int .i64 0, .slice none 0 0] 2 ?_; intro g9 w3 H3 B3)
     | ((with_reducible refine Gs 78 9 ?_); refine OS 9 25 H3 0 g9 78 #[.int .i64 x2, .slice An n2 cn] 2 HZD HA2 ?_; intro w4 H4)
     | ((with_reducible refine Gd 27 ?_); refine OV 8 H4 1 g8 78 rfl Try.underlying78 (by kernel_rfl) ?_)
     | ((with_reducible refine Gd 28 ?_); refine OV 9 H4 0 g9 78 rfl Try.underlying78 (by kernel_rfl) ?_)
     | (go_at_call 96; refine (HS.out _ H4.out.below).mono ?_; rintro e w5 ⟨rfl, hB5⟩; have H5 := Aside0.mk (HI.out.step (below_step H4.out.below hB5)); clear hB5)
     )
    go_ret
    exact ⟨rfl, H5.out.below⟩
   ·rw [Bool.true_and] at HRD
    go_wp2_with (first
     | fail
     | ((with_reducible refine gate_dst (N := 21) rfl ?_); refine ld_at rfl 78 (.tmp 20) rfl (a1.add (i * 2)) ([.int .i64 x1, .slice Am n1 cm]) _ rfl (HP1.out _ (Below.refl _ _)) Try.underlying78 rfl (by kernel_rfl) ?_)
     | ((with_reducible refine Gd 8 ?_); refine OA HI0 78 #[.int .i64 0, .slice none 0 0] 2 ?_; intro g8 w1 H1 B1)
     | ((with_reducible refine Gs 78 8 ?_); refine OS 8 21 H1 0 g8 78 #[.int .i64 x1, .slice Am n1 cm] 2 HZD HA1 ?_; intro w2 H2)
     | ((with_reducible refine gate_dst (N := 25) rfl ?_); refine ld_at rfl 78 (.tmp 24) rfl (a2.add (i * 2)) ([.int .i64 x2, .slice An n2 cn]) _ rfl (HP2.out _ H2.out.below) Try.underlying78 rfl (by kernel_rfl) ?_)
     | ((with_reducible refine Gd 9 ?_); refine OA H2 78 #[.int .i64 0, .slice none 0 0] 2 ?_; intro g9 w3 H3 B3)
     | ((with_reducible refine Gs 78 9 ?_); refine OS 9 25 H3 0 g9 78 #[.int .i64 x2, .slice An n2 cn] 2 HZD HA2 ?_; intro w4 H4)
     | ((with_reducible refine Gd 27 ?_); refine OV 8 H4 1 g8 78 rfl Try.underlying78 (by kernel_rfl) ?_)
     | ((with_reducible refine Gd 28 ?_); refine OV 9 H4 0 g9 78 rfl Try.underlying78 (by kernel_rfl) ?_)
     | (go_at_call 96; refine (HS.out _ H4.out.below).mono ?_; rintro e w5 ⟨rfl, hB5⟩; have H5 := Aside0.mk (HI.out.step (below_step H4.out.below hB5)); clear hB5)
     )
    go_roundw
    case rel => exact ⟨i + 1, hlt, by go_num, HRD, H5⟩
    case measure => simp [intOf]; omega
  ·have hdl : decide (i < m) = false := decide_eq_false hlt
   obtain rfl : m = i := by omega
   obtain rfl : r = true := by
    have h := HR.out
    rw [List.drop_of_length_le (by rw [← HN.out]; exact Nat.le_refl _), List.drop_of_length_le (by rw [← HM.out]; exact Nat.le_refl _)] at h
    exact h
   clear HR
   go_wp2_with fail
   go_ret
   exact ⟨rfl, HI.out.below⟩
def eqB (a b : List Int) : Bool := a == b
theorem kL_open {w : World} {x : List Int} {cs : List Value} (h : kL.K w x cs) : ∃ A c, cs = [.slice A x.length c] ∧ x.length ≤ c ∧ Kd.C kB w A x.length x := by
 obtain ⟨A, c, rfl, h1, h2⟩ := h
 exact ⟨A, c, rfl, h1, h2⟩
theorem eqfL_any (l1 l2 : List (List Int)) (A1 A2 : Option Addr) (c1 c2 : Nat) (w : World) (h1 : Kd.C kL w A1 l1.length l1) (h2 : Kd.C kL w A2 l2.length l2) (hx : ∀ d ∈ l1, ∀ x ∈ d, 0 ≤ x ∧ x ≤ 255) (hy : ∀ d ∈ l2, ∀ x ∈ d, 0 ≤ x ∧ x ≤ 255) (hm : l1.length ≤ 9223372036854775807) :
 Calls Try.prog 99 #[.slice A1 l1.length c1, .slice A2 l2.length c2, .func (.func 97) #[] #[]] w fun e w' => e = .returned (.bool (eqL eqB l1 l2)) ∧ Below w.heap.size w w' := by
 have H0 := Aside0.mk (Own.start w)
 have HC1 := Aside0.mk h1
 have HC2 := Aside0.mk h2
 have HX := Aside0.mk hx
 have HY := Aside0.mk hy
 obtain ⟨r, hr⟩ : ∃ r, r = eqL eqB l1 l2 := ⟨_, rfl⟩
 rw [← hr]
 have HR := Aside0.mk hr
 clear h1 h2 hx hy hr
 obtain ⟨n, hn⟩ : ∃ n, n = l1.length := ⟨_, rfl⟩
 obtain ⟨m, hm2⟩ : ∃ m, m = l2.length := ⟨_, rfl⟩
 have HN := Aside0.mk hn
 have HM := Aside0.mk hm2
 rw [← hn] at HC1 hm ⊢
 rw [← hm2] at HC2 ⊢
 clear hn hm2
 by_cases hl : n = m
 case neg =>
  have hd : ((n : Int) != (m : Int)) = true := by simp; omega
  obtain rfl : r = false := by rw [HR.out]; exact eqL_len _ _ _ (by rw [← HN.out, ← HM.out]; exact hl)
  clear HR hl
  go_enter Try.func99, Try.ntmps99
  go_wp2_with fail
  go_ret
  exact ⟨rfl, Below.refl _ _⟩
 obtain rfl : m = n := hl.symm
 go_enter Try.func99, Try.ntmps99
 go_wp2_with fail
 go_loopw [17] (fun v17 wr => ∃ i : Nat, i ≤ m ∧ v17 = .int .i64 (i : Int) ∧ Aside0 (r = eqL eqB (l1.drop i) (l2.drop i)) ∧ Aside0 (Own w.heap.size w wr [])) (fun v17 _ => m - (intOf v17).toNat)
 case atStart => exact ⟨0, Nat.zero_le _, rfl, ⟨HR.out⟩, H0⟩
 case round =>
  clear H0 HR
  obtain ⟨i, hi, rfl, HR, HI⟩ := hrel
  by_cases hlt : i < m
  ·have hdl : decide (i < m) = true := decide_eq_true hlt
   have hib : (0 : Int) ≤ (i : Int) ∧ (i : Int) < (m : Int) := by omega
   have hq1 : i < l1.length := by rw [← HN.out]; exact hlt
   have hq2 : i < l2.length := by rw [← HM.out]; exact hlt
   obtain ⟨a1, cs1, rfl, hK1, hp1⟩ := elemP (Kd.C_below HC1.out HI.out.below) i hlt hq1
   obtain ⟨a2, cs2, rfl, hK2, hp2⟩ := elemP (Kd.C_below HC2.out HI.out.below) i hlt hq2
   obtain ⟨Am, cm, rfl, hcm, hCm⟩ := kL_open hK1
   obtain ⟨An, cn, rfl, hcn, hCn⟩ := kL_open hK2
   have k1 : wr.cell? (a1.add i) = some (.slice Am l1[i].length cm) := by
    have h := hp1 wr (Below.refl _ _) 0 _ rfl
    rw [add_add_, show kL.sz = 1 from rfl, Nat.mul_one, Nat.add_zero] at h
    exact h
   have k2 : wr.cell? (a2.add i) = some (.slice An l2[i].length cn) := by
    have h := hp2 wr (Below.refl _ _) 0 _ rfl
    rw [add_add_, show kL.sz = 1 from rfl, Nat.mul_one, Nat.add_zero] at h
    exact h
   have HRD : Aside0 (r = ((eqB l1[i] l2[i]) && eqL eqB (l1.drop (i + 1)) (l2.drop (i + 1)))) := ⟨HR.out.trans (eqL_drop _ _ _ _ hq1 hq2)⟩
   have HSB := Aside0.mk (bequal_any l1[i] l2[i] Am An cm cn wr hCm hCn (HX.out _ (List.getElem_mem hq1)) (HY.out _ (List.getElem_mem hq2)))
   replace HSB : Aside0 (Calls Try.prog 97 #[.slice Am l1[i].length cm, .slice An l2[i].length cn] wr fun e w' => e = .returned (.bool (eqB l1[i] l2[i])) ∧ w' = wr) := HSB
   clear hK1 hK2 hp1 hp2 hCm hCn hcm hcn HR
   generalize eqB l1[i] l2[i] = eb at *
   generalize l1[i].length = n1 at *
   generalize l2[i].length = n2 at *
   cases eb
   ·obtain rfl : r = false := by rw [HRD.out]; rfl
    clear HRD
    go_wp2_with (go_at_call 97; refine HSB.out.mono ?_; rintro e w5 ⟨rfl, rfl⟩)
    go_ret
    exact ⟨rfl, HI.out.below⟩
   ·rw [Bool.true_and] at HRD
    go_wp2_with (go_at_call 97; refine HSB.out.mono ?_; rintro e w5 ⟨rfl, rfl⟩)
    go_roundw
    case rel => exact ⟨i + 1, hlt, by go_num, HRD, HI⟩
    case measure => simp [intOf]; omega
  ·have hdl : decide (i < m) = false := decide_eq_false hlt
   obtain rfl : m = i := by omega
   obtain rfl : r = true := by
    have h := HR.out
    rw [List.drop_of_length_le (by rw [← HN.out]; exact Nat.le_refl _), List.drop_of_length_le (by rw [← HM.out]; exact Nat.le_refl _)] at h
    exact h
   clear HR
   go_wp2_with fail
   go_ret
   exact ⟨rfl, HI.out.below⟩
def sameI (x y : Box) : Bool := (x.tk == y.tk) && ((x.nx == y.nx) && (eqL eqD x.q y.q && eqL eqB x.l y.l))
def BytB (x : Box) : Prop := (∀ d ∈ x.q, ∀ z ∈ d.f1, 0 ≤ z ∧ z ≤ 255) ∧ (∀ m ∈ x.l, ∀ z ∈ m, 0 ≤ z ∧ z ≤ 255)
theorem isame_any (x y : Box) (A1 A2 A3 A4 : Option Addr) (c1 c2 c3 c4 : Nat) (w : World) (h1 : Kd.C kQ w A1 x.q.length x.q) (h2 : Kd.C kL w A2 x.l.length x.l) (h3 : Kd.C kQ w A3 y.q.length y.q) (h4 : Kd.C kL w A4 y.l.length y.l) (hx : BytB x) (hy : BytB y) :
 Calls Try.prog 52 #[.agg #[.slice A1 x.q.length c1, .int .i64 x.tk, .slice A2 x.l.length c2, .int .u64 x.nx], .agg #[.slice A3 y.q.length c3, .int .i64 y.tk, .slice A4 y.l.length c4, .int .u64 y.nx]] w fun e w' => e = .returned (.bool (sameI x y)) ∧ Below w.heap.size w w' := by
 have H0 := Aside0.mk (Own.start w)
 have HQ := Aside0.mk (fun W (h : Below w.heap.size w W) => eqfQ_any x.q y.q A1 A3 c1 c3 W (Kd.C_below h1 h) (Kd.C_below h3 h) hx.1 hy.1 (Kd.C_max h1))
 have HL := Aside0.mk (fun W (h : Below w.heap.size w W) => eqfL_any x.l y.l A2 A4 c2 c4 W (Kd.C_below h2 h) (Kd.C_below h4 h) hx.2 hy.2 (Kd.C_max h2))
 clear h1 h2 h3 h4 hx hy
 unfold sameI
 obtain ⟨q1, t1, l1, x1⟩ := x
 obtain ⟨q2, t2, l2, x2⟩ := y
 dsimp only at *
 generalize eqL eqD q1 q2 = bq at *
 generalize eqL eqB l1 l2 = bl at *
 generalize q1.length = n1 at *
 generalize q2.length = n2 at *
 generalize l1.length = n3 at *
 generalize l2.length = n4 at *
 cases ha : (t1 == t2)
 ·
  go_enter Try.func52, Try.ntmps52
  go_wp2_with (first
   | fail
   | ((with_reducible refine Gd 2 ?_); refine OB H0 73 #[.slice A1 n1 c1, .int .i64 t1, .slice A2 n3 c2, .int .u64 x1] ?_; intro g2 w1 H1 B1)
   | ((with_reducible refine Gd 3 ?_); refine OB H1 73 #[.slice A3 n2 c3, .int .i64 t2, .slice A4 n4 c4, .int .u64 x2] ?_; intro g3 w2 H2 B2)
   | ((with_reducible refine Gd 7 ?_); refine OD 6 3 H2 1 g2 1 (.int .i64 t1) Try.underlying3 ?_)
   | ((with_reducible refine Gd 9 ?_); refine OD 8 3 H2 0 g3 1 (.int .i64 t2) Try.underlying3 ?_)
   | ((with_reducible refine Gd 13 ?_); refine GD 12 23 H2 1 g2 3 (.int .u64 x1) Try.underlying23 ?_)
   | ((with_reducible refine Gd 15 ?_); refine GD 14 23 H2 0 g3 3 (.int .u64 x2) Try.underlying23 ?_)
   | ((with_reducible refine Gd 20 ?_); refine GD 19 70 H2 1 g2 0 (.slice A1 n1 c1) Try.underlying70 ?_)
   | ((with_reducible refine Gd 22 ?_); refine GD 21 70 H2 0 g3 0 (.slice A3 n2 c3) Try.underlying70 ?_)
   | (go_at_call 98; refine (HQ.out _ H2.out.below).mono ?_; rintro e w3 ⟨rfl, hB3⟩; have H3 := Aside0.mk (H2.out.step hB3); clear hB3)
   | ((with_reducible refine Gd 28 ?_); refine GD 27 71 H3 1 g2 2 (.slice A2 n3 c2) Try.underlying71 ?_)
   | ((with_reducible refine Gd 30 ?_); refine GD 29 71 H3 0 g3 2 (.slice A4 n4 c4) Try.underlying71 ?_)
   | (go_at_call 99; refine (HL.out _ H3.out.below).mono ?_; rintro e w4 ⟨rfl, hB4⟩; have H4 := Aside0.mk (H3.out.step hB4); clear hB4)
   )
  go_ret
  exact ⟨by first | rfl | (simp [*]; done), H2.out.below⟩
 cases hb : (x1 == x2)
 ·
  go_enter Try.func52, Try.ntmps52
  go_wp2_with (first
   | fail
   | ((with_reducible refine Gd 2 ?_); refine OB H0 73 #[.slice A1 n1 c1, .int .i64 t1, .slice A2 n3 c2, .int .u64 x1] ?_; intro g2 w1 H1 B1)
   | ((with_reducible refine Gd 3 ?_); refine OB H1 73 #[.slice A3 n2 c3, .int .i64 t2, .slice A4 n4 c4, .int .u64 x2] ?_; intro g3 w2 H2 B2)
   | ((with_reducible refine Gd 7 ?_); refine OD 6 3 H2 1 g2 1 (.int .i64 t1) Try.underlying3 ?_)
   | ((with_reducible refine Gd 9 ?_); refine OD 8 3 H2 0 g3 1 (.int .i64 t2) Try.underlying3 ?_)
   | ((with_reducible refine Gd 13 ?_); refine GD 12 23 H2 1 g2 3 (.int .u64 x1) Try.underlying23 ?_)
   | ((with_reducible refine Gd 15 ?_); refine GD 14 23 H2 0 g3 3 (.int .u64 x2) Try.underlying23 ?_)
   | ((with_reducible refine Gd 20 ?_); refine GD 19 70 H2 1 g2 0 (.slice A1 n1 c1) Try.underlying70 ?_)
   | ((with_reducible refine Gd 22 ?_); refine GD 21 70 H2 0 g3 0 (.slice A3 n2 c3) Try.underlying70 ?_)
   | (go_at_call 98; refine (HQ.out _ H2.out.below).mono ?_; rintro e w3 ⟨rfl, hB3⟩; have H3 := Aside0.mk (H2.out.step hB3); clear hB3)
   | ((with_reducible refine Gd 28 ?_); refine GD 27 71 H3 1 g2 2 (.slice A2 n3 c2) Try.underlying71 ?_)
   | ((with_reducible refine Gd 30 ?_); refine GD 29 71 H3 0 g3 2 (.slice A4 n4 c4) Try.underlying71 ?_)
   | (go_at_call 99; refine (HL.out _ H3.out.below).mono ?_; rintro e w4 ⟨rfl, hB4⟩; have H4 := Aside0.mk (H3.out.step hB4); clear hB4)
   )
  go_ret
  exact ⟨by first | rfl | (simp [*]; done), H2.out.below⟩
 cases bq
 ·
  go_enter Try.func52, Try.ntmps52
  go_wp2_with (first
   | fail
   | ((with_reducible refine Gd 2 ?_); refine OB H0 73 #[.slice A1 n1 c1, .int .i64 t1, .slice A2 n3 c2, .int .u64 x1] ?_; intro g2 w1 H1 B1)
   | ((with_reducible refine Gd 3 ?_); refine OB H1 73 #[.slice A3 n2 c3, .int .i64 t2, .slice A4 n4 c4, .int .u64 x2] ?_; intro g3 w2 H2 B2)
   | ((with_reducible refine Gd 7 ?_); refine OD 6 3 H2 1 g2 1 (.int .i64 t1) Try.underlying3 ?_)
   | ((with_reducible refine Gd 9 ?_); refine OD 8 3 H2 0 g3 1 (.int .i64 t2) Try.underlying3 ?_)
   | ((with_reducible refine Gd 13 ?_); refine GD 12 23 H2 1 g2 3 (.int .u64 x1) Try.underlying23 ?_)
   | ((with_reducible refine Gd 15 ?_); refine GD 14 23 H2 0 g3 3 (.int .u64 x2) Try.underlying23 ?_)
   | ((with_reducible refine Gd 20 ?_); refine GD 19 70 H2 1 g2 0 (.slice A1 n1 c1) Try.underlying70 ?_)
   | ((with_reducible refine Gd 22 ?_); refine GD 21 70 H2 0 g3 0 (.slice A3 n2 c3) Try.underlying70 ?_)
   | (go_at_call 98; refine (HQ.out _ H2.out.below).mono ?_; rintro e w3 ⟨rfl, hB3⟩; have H3 := Aside0.mk (H2.out.step hB3); clear hB3)
   | ((with_reducible refine Gd 28 ?_); refine GD 27 71 H3 1 g2 2 (.slice A2 n3 c2) Try.underlying71 ?_)
   | ((with_reducible refine Gd 30 ?_); refine GD 29 71 H3 0 g3 2 (.slice A4 n4 c4) Try.underlying71 ?_)
   | (go_at_call 99; refine (HL.out _ H3.out.below).mono ?_; rintro e w4 ⟨rfl, hB4⟩; have H4 := Aside0.mk (H3.out.step hB4); clear hB4)
   )
  go_ret
  exact ⟨by first | rfl | (simp [*]; done), H3.out.below⟩
 ·
  go_enter Try.func52, Try.ntmps52
  go_wp2_with (first
   | fail
   | ((with_reducible refine Gd 2 ?_); refine OB H0 73 #[.slice A1 n1 c1, .int .i64 t1, .slice A2 n3 c2, .int .u64 x1] ?_; intro g2 w1 H1 B1)
   | ((with_reducible refine Gd 3 ?_); refine OB H1 73 #[.slice A3 n2 c3, .int .i64 t2, .slice A4 n4 c4, .int .u64 x2] ?_; intro g3 w2 H2 B2)
   | ((with_reducible refine Gd 7 ?_); refine OD 6 3 H2 1 g2 1 (.int .i64 t1) Try.underlying3 ?_)
   | ((with_reducible refine Gd 9 ?_); refine OD 8 3 H2 0 g3 1 (.int .i64 t2) Try.underlying3 ?_)
   | ((with_reducible refine Gd 13 ?_); refine GD 12 23 H2 1 g2 3 (.int .u64 x1) Try.underlying23 ?_)
   | ((with_reducible refine Gd 15 ?_); refine GD 14 23 H2 0 g3 3 (.int .u64 x2) Try.underlying23 ?_)
   | ((with_reducible refine Gd 20 ?_); refine GD 19 70 H2 1 g2 0 (.slice A1 n1 c1) Try.underlying70 ?_)
   | ((with_reducible refine Gd 22 ?_); refine GD 21 70 H2 0 g3 0 (.slice A3 n2 c3) Try.underlying70 ?_)
   | (go_at_call 98; refine (HQ.out _ H2.out.below).mono ?_; rintro e w3 ⟨rfl, hB3⟩; have H3 := Aside0.mk (H2.out.step hB3); clear hB3)
   | ((with_reducible refine Gd 28 ?_); refine GD 27 71 H3 1 g2 2 (.slice A2 n3 c2) Try.underlying71 ?_)
   | ((with_reducible refine Gd 30 ?_); refine GD 29 71 H3 0 g3 2 (.slice A4 n4 c4) Try.underlying71 ?_)
   | (go_at_call 99; refine (HL.out _ H3.out.below).mono ?_; rintro e w4 ⟨rfl, hB4⟩; have H4 := Aside0.mk (H3.out.step hB4); clear hB4)
   )
  go_ret
  exact ⟨by first | rfl | (simp [*]; done), H4.out.below⟩
theorem C_blk {α : Type} {d : Kd α} {W : World} {g : Nat} {t : TypeId} {cells : Array Value} {xs : List α} (h : W.heap[g]? = some (.cells cells t (0, 0))) (hr : Reps (d.K W) d.sz xs cells.toList) (hm : xs.length ≤ 9223372036854775807) : Kd.C d W (some ⟨g, 0, none⟩) xs.length xs := by
 refine ⟨rfl, hm, fun _ => ⟨_, rfl, fun j p hj => ⟨_, d.K_len (hr.2 j p hj), hr.2 j p hj, fun i u hu => ?_⟩⟩⟩
 rw [add_plain, blk_cell h]
 rw [List.getElem?_take] at hu
 split at hu
 ·rw [List.getElem?_drop, Array.getElem?_toList] at hu
  exact hu
 ·cases hu
theorem reps_cons {α : Type} {R : α → List Value → Prop} {size : Nat} {x : α} {cs : List Value} {xs : List α} {ds : List Value} (hx : R x cs) (hl : cs.length = size) (h : Reps R size xs ds) : Reps R size (x :: xs) (cs ++ ds) := by
 refine ⟨by rw [List.length_append, hl, h.1, List.length_cons, Nat.succ_mul]; omega, fun j p hj => ?_⟩
 cases j with
 | zero =>
  obtain rfl : x = p := by simpa using hj
  rw [Nat.zero_mul, List.drop_zero, List.take_left' hl]
  exact hx
 | succ j =>
  have := h.2 j p (by simpa using hj)
  rw [show (j + 1) * size = cs.length + j * size by rw [hl, Nat.succ_mul]; omega, ← List.drop_drop, List.drop_left' rfl]
  exact this
theorem reps_nil {α : Type} {R : α → List Value → Prop} {size : Nat} : Reps R size [] [] := ⟨by simp, fun j p hj => by simp at hj⟩
def msgI (m : List Int) : SI := ⟨false, m, []⟩
def batchItem (n t : Nat) (ms : List (List Int)) : SI := ⟨true, [], [K.numI n, K.numI t, ⟨true, [], ms.map msgI⟩]⟩
def wbP (n t : Nat) (ms : List (List Int)) : List Int × Int := if ms.length ≤ 4096 then K.encP (batchItem n t ms) else ([], 2)
theorem Own.memK {B : Nat} {w0 W : World} {L : List Item} (h : Own B w0 W L) {α : Type} {d : Kd α} {x : α} {cs : List Value} (k : Nat) (hk : L[k]? = some (.mem d x cs)) : d.K W x cs := by
 obtain ⟨S, _, hM⟩ := h.look k hk
 exact d.K_of_M hM
section
variable {P : Program} {ops : Array Oper} {rest : List Oper} {o : Oper} {a : Act} {Q : Exit → Act → World → Prop} {Kc : Act → World → Prop} {B : Nat} {w0 W : World} {L : List Item} {α : Type}
theorem own_append_it (d : Kd α) {it : Item} {e : Nat} {v : Value} {xs : List α} (H : Own B w0 W (.row d e v xs :: it :: L)) (hgd : o.guard = none) (s x : Operand) (t : TypeId) (z : Value) (bytes : Nat)
 (ho : o.op = .call { callee := .builtin .append, args := #[s, x], argTypes := #[t, t] })
 (ht : P.underlying t = some (.slice e)) (hinfo : (P.info? e).map (fun i => (i.zero, i.size, i.bytes)) = some (some z, d.sz, bytes)) (hz : z.cells.size = d.sz) (hs0 : 0 < d.sz) (hb0 : 0 < bytes)
 (p : α) (cs : List Value) (hs : a.eval s = v) (hx : a.eval x = .slice (some ⟨W.heap.size, 0, none⟩) 1 1) (hM : ∀ (ok : Nat → Prop), it.P W ok → d.M W 0 ok p cs) (hl : (xs.length + 1) * bytes ≤ 140737488355328)
 (h : ∀ v1 w1, Own B w0 w1 (.row d e v1 (xs ++ [p]) :: L) → wpList P ops Q rest (a.put o.dst v1) w1) :
 wpList P ops Q (o :: rest) a (W.alloc (.cells cs.toArray e)) := by
 obtain ⟨S, hS, ⟨S1, S2, c1, c2, c3, hR, hR2⟩, hch⟩ := H.join.focus 0 rfl
 have hR : Kd.R d e W 0 S1 v xs := hR
 refine Kd.R_append d 0 hgd s x t e z bytes ho ht hinfo hz hs0 hb0 v xs p cs (fun i => S i ∨ W.heap.size ≤ i) S2 hs hx (hM S2 hR2) (fun k hk => ⟨.inl (c2 k hk), fun he => c3 k (hR.1 k he.symm) hk⟩) (fun i hi => .inr hi) (Kd.R_mono hR fun i hi => .inl (c1 i hi)) (w0 := W) ⟨rfl, rfl, rfl, Nat.le_refl _, fun _ _ => rfl⟩ (Nat.zero_le _) hl ?_
 intro v1 w1 hR1 _ hg _
 refine h v1 w1 (hch w1 (.row d e v1 (xs ++ [p])) v.ownBlock hg (fun g hr => c1 g (hR.1 g hr)) ?_)
 exact Kd.R_mono (Kd.R_bound hR1) (fun i hi => by rcases hi with ⟨hi | hi, h2, h3, _⟩; exact .inl hi; exact .inr ⟨hi, h3⟩)
end
theorem short_l0 (l : List (List Int)) (hl : l.length ≤ 9223372036854775807) : ∀ (d i : Nat), i + d = l.length → PRF.proctorref20_short.l0 (d + 1) l (i : Int) = some (!longP (l.drop i))
 | 0, i, h => by
  simp only [PRF.proctorref20_short.l0]
  rw [if_neg (by omega), List.drop_of_length_le (by omega)]
  rfl
 | d + 1, i, h => by
  rw [PRF.proctorref20_short.l0]
  have hi : i < l.length := by omega
  have hrd : PRF.rd_L2 l (i : Int) = l[i] := by simp [PRF.rd_L2, List.getD_eq_getElem?_getD, hi]
  rw [if_pos (by omega), if_pos (by omega), hrd, List.drop_eq_getElem_cons hi]
  by_cases hb : ((l[i].length : Nat) : Int) > 65536
  ·rw [if_pos hb]
   have : decide (l[i].length ≤ 65536) = false := decide_eq_false (by omega)
   unfold longP
   rw [List.any_cons, this]
   rfl
  ·rw [if_neg hb, K.wrap64_in _ (by omega), show ((i : Int) + 1) = ((i + 1 : Nat) : Int) by omega, short_l0 l hl d (i + 1) (by omega)]
   have : decide (l[i].length ≤ 65536) = true := decide_eq_true (by omega)
   unfold longP
   rw [List.any_cons, this]
   rfl
theorem short_f (l : List (List Int)) (hl : l.length ≤ 9223372036854775807) : PRF.proctorref20_short.f (l.length + 1) l = some (!longP l) := short_l0 l hl l.length 0 (by omega)
theorem rshort_any (l : List (List Int)) (A : Option Addr) (c : Nat) (w : World) (hC : Kd.C kL w A l.length l) (hc : l.length ≤ c) :
 Calls Try.prog 85 #[.slice A l.length c] w fun e w' => e = .returned (.bool (!longP l)) ∧ Below w.heap.size w w' :=
 (PRF.proctorref20_short.calls _ A c l _ w hC hc (short_f l (Kd.C_max hC))).mono fun e w' ⟨h1, h2⟩ => ⟨h1, h2.below⟩
theorem raw_any (m : List Int) (A : Option Addr) (c : Nat) (w : World) (hC : Kd.C kB w A m.length m) (hc : m.length ≤ c) (hm : m.length ≤ 65536) :
 Calls Try.prog 102 #[.slice A m.length c] w fun e w' => ∃ A1 c1 A2 c2, e = .returned (.agg #[.bool false, .slice A1 m.length c1, .slice A2 0 c2]) ∧ Own w.heap.size w w' [.mem kI (msgI m) [.bool false, .slice A1 m.length c1, .slice A2 0 c2]] := by
 refine (PRF.proctorref02_Raw.calls A c m false m [] w hC hc ?_).mono ?_
 ·rw [PRF.proctorref02_Raw.f]
  have : PRF.proctorref01_Copy.f m = some m := by
   rw [PRF.proctorref01_Copy.f]
   simp only [Option.bind_some, List.nil_append]
   rw [if_pos (by simp; omega)]
  rw [this]; rfl
 rintro e w' ⟨v1, v2, rfl, h1, h2, hb⟩
 obtain ⟨A1, c1, rfl, hc1, _⟩ := Kd.R_reads h1
 obtain ⟨A2, c2, rfl, hc2, _⟩ := Kd.R_reads h2
 refine ⟨A1, c1, A2, c2, rfl, (Own.start w).fresh hb _ ?_⟩
 refine PRF.k159_mkM w' 0 _ (msgI m) (Kd.R_lower (Kd.R_mono (Kd.R_bound h1) fun k hk => ⟨hk.2.1, hk.2.2.1⟩) (Nat.zero_le _)) (Kd.R_lower (Kd.R_mono (Kd.R_bound h2) fun k hk => ⟨hk.2.1, hk.2.2.1⟩) (Nat.zero_le _))
theorem rnum_any (n : Nat) (hn : n ≤ 18446744073709551615) (W : World) : Calls Try.prog 105 #[.int .u64 (n : Int)] W fun e w' => ∃ A1 c1 A2 c2, e = .returned (.agg #[.bool false, .slice A1 (K.bigP n).length c1, .slice A2 0 c2]) ∧ (K.bigP n).length ≤ c1 ∧ Own W.heap.size W w' [.mem kI (K.numI n) [.bool false, .slice A1 (K.bigP n).length c1, .slice A2 0 c2]] := by
 refine (PRF.proctorref02_Num.calls 9 (n : Int) false (K.bigP n) [] W (K.rnum_f n hn)).mono ?_
 rintro e w' ⟨v1, v2, rfl, h1, h2, hb⟩
 obtain ⟨A1, c1, rfl, hc1, _⟩ := Kd.R_reads h1
 obtain ⟨A2, c2, rfl, hc2, _⟩ := Kd.R_reads h2
 refine ⟨A1, c1, A2, c2, rfl, hc1, (Own.start W).fresh hb _ ?_⟩
 refine PRF.k159_mkM w' 0 _ (K.numI n) (Kd.R_lower (Kd.R_mono (Kd.R_bound h1) fun k hk => ⟨hk.2.1, hk.2.2.1⟩) (Nat.zero_le _)) (Kd.R_lower (Kd.R_mono (Kd.R_bound h2) fun k hk => ⟨hk.2.1, hk.2.2.1⟩) (Nat.zero_le _))
theorem list_any (A : Option Addr) (n c : Nat) (w : World) : Calls Try.prog 104 #[.slice A n c] w fun e w' => e = .returned (.agg #[.bool true, .slice none 0 0, .slice A n c]) ∧ Below w.heap.size w w' := by
 have H0 := Aside0.mk (Own.start w)
 have HZ3 := z3_one
 have HX : Aside0 (Arr 3 #[.bool true, .slice none 0 0, .slice A n c]) := ⟨arr3_ rfl⟩
 go_enter Try.func104, Try.ntmps104
 go_wp2_with (first
  | fail
  | ((with_reducible refine Gd 2 ?_); refine OA H0 159 #[.bool false, .slice none 0 0, .slice none 0 0] 3 ?_; intro g2 w1 H1 B1)
  | ((with_reducible refine Gs 159 2 ?_); refine OS 2 4 H1 0 g2 159 #[.bool true, .slice none 0 0, .slice A n c] 3 HZ3 HX ?_; intro w2 H2)
  )
 refine bodyPost_ret (own_resultV rfl _ H2.out 0 g2 _ rfl rfl _ Try.underlying159 rfl (by kernel_rfl)) rfl ?_
 exact ⟨rfl, H2.out.below⟩
theorem rencode_any (x : SI) (A1 A2 : Option Addr) (c1 c2 : Nat) (w : World) (hC1 : Kd.C kB w A1 x.f1.length x.f1) (hc1 : x.f1.length ≤ c1) (hC2 : Kd.C kI w A2 x.f2.length x.f2) (hc2 : x.f2.length ≤ c2) :
 Calls Try.prog 103 #[.agg #[.bool x.f0, .slice A1 x.f1.length c1, .slice A2 x.f2.length c2]] w
  fun e w' => ∃ v, e = .returned (.tuple #[v, .int .i64 (K.encP x).2]) ∧ Kd.R kB 5 w' w.heap.size (fun _ => True) v (K.encP x).1 ∧ Below w.heap.size w w' := by
 obtain ⟨k, hk⟩ := K.renc_spec x
 exact PRF.proctorref02_Encode.calls k x.f0 A1 c1 x.f1 A2 c2 x.f2 _ _ w hC1 hc1 hC2 hc2 (hk k (Nat.le_refl _))
end Go.Proofs.Ytocphkfkdadhaaa.H
