import Derived.Test.YtocphkfkdadhaaaYPk8
import Derived.Test.YtocphkfkdadhaaaYPk2
import Derived.Test.YtocphkfkdadhaaaYPk3
import Derived.Test.YtocphkfkdadhaaaYPk1
namespace Go.Proofs.Ytocphkfkdadhaaa.H
open Go.RowKit Go.Proofs.YtocphkfkdadhaaaW.PrintWords Go.Proofs.YtocphkfkdadhaaaW.PrintLast Go.Proofs.YtocphkfkdadhaaaW.PrintMore
set_option linter.unusedVariables false
set_option linter.unusedSimpArgs false
set_option maxHeartbeats 4000000 in
set_option maxRecDepth 100000 in
theorem rread7_any (b : List Int) (A : Option Addr) (c : Nat) (w : World) (hb : ∀ x ∈ b, 0 ≤ x ∧ x ≤ 255) (hC : Kd.C kB w A b.length b) (hc : b.length ≤ c) :
 Calls Try.prog 86 #[.slice A b.length c] w fun e w' => e = .returned (.tuple #[.agg (msgA (readM b).1), .int .i64 (readM b).2]) ∧ Below w.heap.size w w' := by
 have H0 := Aside0.mk (Own.start w)
 have R13 : Aside0 (Arr 13 (cellsN z13)) := ⟨cellsN_arr rfl⟩
 have RZ : Aside0 (Arr 69 (msgA zeroM)) := ⟨msgA_arr rfl rfl⟩
 have HWD := Aside0.mk (fun W (h : Below w.heap.size w W) => rwords_any b A c W hb (Kd.C_below hC h) hc)
 obtain ⟨r, hr⟩ : ∃ r, r = readM b := ⟨_, rfl⟩
 rw [← hr]
 by_cases h1 : b.length = 104
 case neg =>
  have hz : ∃ e : Int, wordsM b = (z13, e) ∧ r = (zeroM, e) ∧ (e == 0) = false := by
   rw [hr]
   unfold wordsM readM
   by_cases h2 : b.length < 104
   ·exact ⟨7, by rw [if_pos h2], by rw [if_pos h2], rfl⟩
   ·exact ⟨8, by rw [if_neg h2, if_pos (by omega)], by rw [if_neg h2, if_pos (by omega)], rfl⟩
  obtain ⟨e, hw, rfl, he⟩ := hz
  rw [hw] at HWD
  clear hr hw h1 hC hc hb
  generalize b.length = n at *
  have hbn : (e != 0) = true := by simp [bne, he]
  go_enter Try.func86, Try.ntmps86
  go_upto_if 13 with (first
   | fail
   | ((with_reducible refine Gd 2 ?_); ( refine OA H0 92 (msgA zeroM) 69 ?_; intro g2 w1 H1 B1))
   | (go_at_call 131; refine (HWD.out _ H1.out.below).mono ?_; rintro e w3 ⟨rfl, hB3⟩; have H3 := Aside0.mk (H1.out.step hB3); clear hB3)
   | ((with_reducible refine Gd 4 ?_); ( refine OA H3 194 (cellsN z13) 13 ?_; intro g4 w4 H4 B4))
   | ((with_reducible refine Gs 194 4 ?_); ( refine OS 4 10 H4 0 g4 194 (cellsN z13) 13 R13 R13 ?_; intro w5 H5))
   )
  go_wp2_with (first
   | fail
   | ((with_reducible refine Gd 14 ?_); ( refine OU 92 [] (msgA zeroM) rfl (builtM0) ?_))
   | ((with_reducible refine Gs 92 2 ?_); ( refine OS 2 14 H5 1 g2 92 (msgA zeroM) 69 RZ RZ ?_; intro w6 H6))
   )
  refine bodyPost_ret (own_resultV_t rfl _ H6.out 1 g2 _ rfl rfl _ Try.underlying92 rfl (sizeM_of (msgA_size rfl rfl)) _ rfl) rfl ?_
  exact ⟨rfl, H6.out.below⟩
 have HLN := Aside0.mk h1
 have HOK := Aside0.mk (fieldsOfM_ok hb h1)
 have HKY := Aside0.mk (bytes_key hb h1)
 have HWL := Aside0.mk (wordsAll_lt 13 b hb)
 have HFM : Aside0 (fieldsOfM b = ⟨((wordsAll 13 b).getD 0 0 : Nat), ((wordsAll 13 b).getD 1 0 : Nat), ((wordsAll 13 b).getD 2 0 : Nat), ((wordsAll 13 b).getD 3 0 : Nat), ((wordsAll 13 b).getD 4 0 : Nat), (b.drop 40).take 32, (b.drop 72).take 32⟩) := ⟨rfl⟩
 unfold readM at hr
 rw [if_neg (by omega), if_neg (by omega)] at hr
 rw [readM_len h1, h1] at HWD
 rw [h1]
 have HR := Aside0.mk hr
 have hwl : (wordsAll 13 b).length = 13 := by simp [wordsAll]
 clear hr hC hc hb h1
 generalize fieldsOfM b = m at *
 generalize (b.drop 40).take 32 = ky at *
 generalize (b.drop 72).take 32 = nx at *
 generalize wordsAll 13 b = ws at *
 obtain ⟨a0, a1, a2, a3, a4, a5, a6, a7, a8, a9, a10, a11, a12, rfl⟩ := thirteen hwl
 clear hwl HLN
 replace HFM : Aside0 (m = ⟨(a0 : Int), (a1 : Int), (a2 : Int), (a3 : Int), (a4 : Int), ky, nx⟩) := HFM
 replace HKY : Aside0 (bytesOf [a5, a6, a7, a8] = ky ∧ bytesOf [a9, a10, a11, a12] = nx) := HKY
 obtain rfl := HFM.out
 clear HFM
 have RW : Aside0 (Arr 13 (cellsN [a0, a1, a2, a3, a4, a5, a6, a7, a8, a9, a10, a11, a12])) := ⟨cellsN_arr rfl⟩
 have hu (x : Nat) (h : x ∈ [a0, a1, a2, a3, a4, a5, a6, a7, a8, a9, a10, a11, a12]) := HWL.out x h
 have HF1 : Aside0 (∀ W, Calls Try.prog 132 #[.agg #[.int .u64 (a5 : Int), .int .u64 (a6 : Int), .int .u64 (a7 : Int), .int .u64 (a8 : Int)]] W fun e w' => e = .returned (.agg (cellsB ky)) ∧ Below W.heap.size W w') := ⟨fun W => by
  have h := rfrom_any [a5, a6, a7, a8] rfl (fun x hx => hu x (by simp only [List.mem_cons, List.not_mem_nil, or_false] at hx ⊢; omega)) W
  rw [HKY.out.1] at h
  exact h⟩
 have HF2 : Aside0 (∀ W, Calls Try.prog 132 #[.agg #[.int .u64 (a9 : Int), .int .u64 (a10 : Int), .int .u64 (a11 : Int), .int .u64 (a12 : Int)]] W fun e w' => e = .returned (.agg (cellsB nx)) ∧ Below W.heap.size W w') := ⟨fun W => by
  have h := rfrom_any [a9, a10, a11, a12] rfl (fun x hx => hu x (by simp only [List.mem_cons, List.not_mem_nil, or_false] at hx ⊢; omega)) W
  rw [HKY.out.2] at h
  exact h⟩
 have ha0 := hu a0 (by simp)
 have HKY0 := HKY
 clear HWL HKY hu
 have hkl : ky.length = 32 := by rw [← HKY0.out.1, bytesOf_len]; rfl
 have hnl : nx.length = 32 := by rw [← HKY0.out.2, bytesOf_len]; rfl
 have RK : Aside0 (ky.length = 32) := ⟨hkl⟩
 have RN : Aside0 (nx.length = 32) := ⟨hnl⟩
 obtain ⟨kq, hkq⟩ : ∃ kq, kq = IntKind.u8.wrap (a0 : Int) := ⟨_, rfl⟩
 have HKQ := Aside0.mk hkq
 have hcv : IntKind.u8.wrap (a0 : Int) = kq := hkq.symm
 clear hkq
 have RM : Aside0 (Arr 69 (msgA ⟨kq, (a1 : Int), (a2 : Int), (a3 : Int), (a4 : Int), ky, nx⟩)) := ⟨msgA_arr hkl hnl⟩
 have RM1 : Aside0 (∀ v ∈ (msgA ⟨kq, (a1 : Int), (a2 : Int), (a3 : Int), (a4 : Int), ky, nx⟩).toList, v.oneCell' = true) := ⟨fun v hv => Array.all_eq_true_iff_forall_mem.1 RM.out.2 v (by simpa using hv)⟩
 clear hkl hnl HKY0
 go_enter Try.func86, Try.ntmps86
 go_upto_if 13 with (first
  | fail
  | ((with_reducible refine Gd 2 ?_); ( refine OA H0 92 (msgA zeroM) 69 ?_; intro g2 w1 H1 B1))
  | (go_at_call 131; refine (HWD.out _ H1.out.below).mono ?_; rintro e w3 ⟨rfl, hB3⟩; have H3 := Aside0.mk (H1.out.step hB3); clear hB3)
  | ((with_reducible refine Gd 4 ?_); ( refine OA H3 194 (cellsN z13) 13 ?_; intro g4 w4 H4 B4))
  | ((with_reducible refine Gs 194 4 ?_); ( refine OS 4 10 H4 0 g4 194 (cellsN [a0, a1, a2, a3, a4, a5, a6, a7, a8, a9, a10, a11, a12]) 13 R13 RW ?_; intro w5 H5))
  )
 go_upto_region 4 with fail
 clear H0 H1 H3 H4 HWD B1 B4
 go_cut [6] (fun v6 wc => ∃ g6 : Nat, v6 = .pointer (some ⟨g6, 0, none⟩) ∧ Aside0 (Own w.heap.size w wc [.blk g6 (msgA ⟨kq, (a1 : Int), (a2 : Int), (a3 : Int), (a4 : Int), ky, nx⟩) 92, .blk g4 (cellsN [a0, a1, a2, a3, a4, a5, a6, a7, a8, a9, a10, a11, a12]) 194, .blk g2 (msgA zeroM) 92]))
 case first =>
  refine St (fun W => W.cell? ⟨g4, 0, none⟩ = some (.int .u64 (a0 : Int)) ∧ W.cell? ⟨g4, 1, none⟩ = some (.int .u64 (a1 : Int)) ∧ W.cell? ⟨g4, 2, none⟩ = some (.int .u64 (a2 : Int)) ∧ W.cell? ⟨g4, 3, none⟩ = some (.int .u64 (a3 : Int)) ∧ W.cell? ⟨g4, 4, none⟩ = some (.int .u64 (a4 : Int)) ∧ W.cell? ⟨g4, 5, none⟩ = some (.int .u64 (a5 : Int)) ∧ W.cell? ⟨g4, 6, none⟩ = some (.int .u64 (a6 : Int)) ∧ W.cell? ⟨g4, 7, none⟩ = some (.int .u64 (a7 : Int)) ∧ W.cell? ⟨g4, 8, none⟩ = some (.int .u64 (a8 : Int)) ∧ W.cell? ⟨g4, 9, none⟩ = some (.int .u64 (a9 : Int)) ∧ W.cell? ⟨g4, 10, none⟩ = some (.int .u64 (a10 : Int)) ∧ W.cell? ⟨g4, 11, none⟩ = some (.int .u64 (a11 : Int)) ∧ W.cell? ⟨g4, 12, none⟩ = some (.int .u64 (a12 : Int))) (fun hHeld => ?_) (by exact ⟨H5.out.drew.cell 0 rfl 0 rfl, H5.out.drew.cell 0 rfl 1 rfl, H5.out.drew.cell 0 rfl 2 rfl, H5.out.drew.cell 0 rfl 3 rfl, H5.out.drew.cell 0 rfl 4 rfl, H5.out.drew.cell 0 rfl 5 rfl, H5.out.drew.cell 0 rfl 6 rfl, H5.out.drew.cell 0 rfl 7 rfl, H5.out.drew.cell 0 rfl 8 rfl, H5.out.drew.cell 0 rfl 9 rfl, H5.out.drew.cell 0 rfl 10 rfl, H5.out.drew.cell 0 rfl 11 rfl, H5.out.drew.cell 0 rfl 12 rfl⟩)
  refine Tk 0 ?_
  refine Tk 1 ?_
  refine Tk 2 ?_
  refine Tk 3 ?_
  refine Tk 4 ?_
  refine Tk 5 ?_
  refine Tk 6 ?_
  refine Tk 7 ?_
  refine Tk 8 ?_
  refine Tk 9 ?_
  refine Tk 10 ?_
  refine Tk 11 ?_
  refine Tk 12 ?_
  refine Tk 13 ?_
  refine Tk 14 ?_
  refine Tk 15 ?_
  refine Tk 16 ?_
  refine Tk 17 ?_
  refine Tk 18 ?_
  refine Tk 19 ?_
  refine Tk 21 ?_
  refine Tk 22 ?_
  refine Tk 23 ?_
  refine Tk 24 ?_
  refine Tk 25 ?_
  refine Tk 26 ?_
  refine Tk 27 ?_
  refine Tk 28 ?_
  refine Tk 29 ?_
  have H6 := Aside0.mk H5.out.drew
  generalize w5.drew = wd at *
  refine Rd2 20 32 (fun K hK => ?_) fun K hK => ?_
  ·
   go_simp
   refine (HF1.out _).mono ?_
   rintro e w7 ⟨rfl, hBx⟩
   have H7 := Aside0.mk (H6.out.step hBx)
   clear hBx
   go_wp2_with fail
   refine Ag hK (fun hHeld => ?_) (by exact ⟨H7.out.cell 0 rfl 0 rfl, H7.out.cell 0 rfl 1 rfl, H7.out.cell 0 rfl 2 rfl, H7.out.cell 0 rfl 3 rfl, H7.out.cell 0 rfl 4 rfl, H7.out.cell 0 rfl 5 rfl, H7.out.cell 0 rfl 6 rfl, H7.out.cell 0 rfl 7 rfl, H7.out.cell 0 rfl 8 rfl, H7.out.cell 0 rfl 9 rfl, H7.out.cell 0 rfl 10 rfl, H7.out.cell 0 rfl 11 rfl, H7.out.cell 0 rfl 12 rfl⟩)
   clear hK K
   refine Rd2 30 32 (fun K hK => ?_) fun K hK => ?_
   ·
    go_simp
    refine (HF2.out _).mono ?_
    rintro e w8 ⟨rfl, hBx⟩
    have H8 := Aside0.mk (H7.out.step hBx)
    clear hBx
    go_wp2_with fail
    refine Ag hK (fun hHeld => ?_) (by exact ⟨H8.out.cell 0 rfl 0 rfl, H8.out.cell 0 rfl 1 rfl, H8.out.cell 0 rfl 2 rfl, H8.out.cell 0 rfl 3 rfl, H8.out.cell 0 rfl 4 rfl, H8.out.cell 0 rfl 5 rfl, H8.out.cell 0 rfl 6 rfl, H8.out.cell 0 rfl 7 rfl, H8.out.cell 0 rfl 8 rfl, H8.out.cell 0 rfl 9 rfl, H8.out.cell 0 rfl 10 rfl, H8.out.cell 0 rfl 11 rfl, H8.out.cell 0 rfl 12 rfl⟩)
    clear hK K
    refine Ty 31 (.agg (msgA ⟨kq, (a1 : Int), (a2 : Int), (a3 : Int), (a4 : Int), ky, nx⟩)) ?_ ?_
    ·exact yields_build (by rfl) 92 [(0, .tmp 18), (1, .tmp 20), (2, .tmp 22), (3, .tmp 24), (4, .tmp 26), (5, .tmp 36), (6, .tmp 46)] (by rfl) _ (by rfl) _ (builtM kq (a1 : Int) (a2 : Int) (a3 : Int) (a4 : Int) ky nx RK.out RN.out)
    refine Rd 32 fun K hK => ?_
    refine own_alloc_step H8.out (by rfl) (N := 6) rfl (t := 92) rfl (msgA zeroM) 69 (by kernel_rfl) ?_; intro g6 w9 H9; replace H9 := Aside0.mk H9
    refine Ag hK (fun hHeld => ?_) (by exact ⟨H9.out.cell 1 rfl 0 rfl, H9.out.cell 1 rfl 1 rfl, H9.out.cell 1 rfl 2 rfl, H9.out.cell 1 rfl 3 rfl, H9.out.cell 1 rfl 4 rfl, H9.out.cell 1 rfl 5 rfl, H9.out.cell 1 rfl 6 rfl, H9.out.cell 1 rfl 7 rfl, H9.out.cell 1 rfl 8 rfl, H9.out.cell 1 rfl 9 rfl, H9.out.cell 1 rfl 10 rfl, H9.out.cell 1 rfl 11 rfl, H9.out.cell 1 rfl 12 rfl⟩)
    clear hK K
    refine Rd 33 fun K hK => ?_
    refine own_st_step H9.out 0 g6 _ (msgA ⟨kq, (a1 : Int), (a2 : Int), (a3 : Int), (a4 : Int), ky, nx⟩) 92 (by rfl) (by rfl) 92 (.tmp 6) _ rfl 0 ((msgA ⟨kq, (a1 : Int), (a2 : Int), (a3 : Int), (a4 : Int), ky, nx⟩).toList) (.agg (msgA ⟨kq, (a1 : Int), (a2 : Int), (a3 : Int), (a4 : Int), ky, nx⟩)) (by rfl) (by rfl) (by rfl) (by rw [Array.length_toList, RM.out.1, RZ.out.1]; decide) (by rw [Array.length_toList, RM.out.1]; exact sizeM) (by exact RM1.out) (by exact spl_all (by rw [Array.length_toList, Array.length_toList, RM.out.1, RZ.out.1])) ?_; intro wz HZ; replace HZ := Aside0.mk HZ
    refine Ag hK (fun hHeld => ?_) (by exact ⟨HZ.out.cell 1 rfl 0 rfl, HZ.out.cell 1 rfl 1 rfl, HZ.out.cell 1 rfl 2 rfl, HZ.out.cell 1 rfl 3 rfl, HZ.out.cell 1 rfl 4 rfl, HZ.out.cell 1 rfl 5 rfl, HZ.out.cell 1 rfl 6 rfl, HZ.out.cell 1 rfl 7 rfl, HZ.out.cell 1 rfl 8 rfl, HZ.out.cell 1 rfl 9 rfl, HZ.out.cell 1 rfl 10 rfl, HZ.out.cell 1 rfl 11 rfl, HZ.out.cell 1 rfl 12 rfl⟩)
    clear hK K
    refine Dn ?_
    go_wp2_with fail
    go_meet
    exact ⟨g6, rfl, HZ⟩
   ·
    refine own_alloc_step H7.out (by rfl) (N := 6) rfl (t := 92) rfl (msgA zeroM) 69 (by kernel_rfl) ?_; intro g6 w8 H8; replace H8 := Aside0.mk H8
    refine Ag hK (fun hHeld => ?_) (by exact ⟨H8.out.cell 1 rfl 0 rfl, H8.out.cell 1 rfl 1 rfl, H8.out.cell 1 rfl 2 rfl, H8.out.cell 1 rfl 3 rfl, H8.out.cell 1 rfl 4 rfl, H8.out.cell 1 rfl 5 rfl, H8.out.cell 1 rfl 6 rfl, H8.out.cell 1 rfl 7 rfl, H8.out.cell 1 rfl 8 rfl, H8.out.cell 1 rfl 9 rfl, H8.out.cell 1 rfl 10 rfl, H8.out.cell 1 rfl 11 rfl, H8.out.cell 1 rfl 12 rfl⟩)
    clear hK K
    refine Rd 30 fun K hK => ?_
    go_simp
    refine (HF2.out _).mono ?_
    rintro e w9 ⟨rfl, hBx⟩
    have H9 := Aside0.mk (H8.out.step hBx)
    clear hBx
    go_wp2_with fail
    refine Ag hK (fun hHeld => ?_) (by exact ⟨H9.out.cell 1 rfl 0 rfl, H9.out.cell 1 rfl 1 rfl, H9.out.cell 1 rfl 2 rfl, H9.out.cell 1 rfl 3 rfl, H9.out.cell 1 rfl 4 rfl, H9.out.cell 1 rfl 5 rfl, H9.out.cell 1 rfl 6 rfl, H9.out.cell 1 rfl 7 rfl, H9.out.cell 1 rfl 8 rfl, H9.out.cell 1 rfl 9 rfl, H9.out.cell 1 rfl 10 rfl, H9.out.cell 1 rfl 11 rfl, H9.out.cell 1 rfl 12 rfl⟩)
    clear hK K
    refine Ty 31 (.agg (msgA ⟨kq, (a1 : Int), (a2 : Int), (a3 : Int), (a4 : Int), ky, nx⟩)) ?_ ?_
    ·exact yields_build (by rfl) 92 [(0, .tmp 18), (1, .tmp 20), (2, .tmp 22), (3, .tmp 24), (4, .tmp 26), (5, .tmp 36), (6, .tmp 46)] (by rfl) _ (by rfl) _ (builtM kq (a1 : Int) (a2 : Int) (a3 : Int) (a4 : Int) ky nx RK.out RN.out)
    refine Rd 33 fun K hK => ?_
    refine own_st_step H9.out 0 g6 _ (msgA ⟨kq, (a1 : Int), (a2 : Int), (a3 : Int), (a4 : Int), ky, nx⟩) 92 (by rfl) (by rfl) 92 (.tmp 6) _ rfl 0 ((msgA ⟨kq, (a1 : Int), (a2 : Int), (a3 : Int), (a4 : Int), ky, nx⟩).toList) (.agg (msgA ⟨kq, (a1 : Int), (a2 : Int), (a3 : Int), (a4 : Int), ky, nx⟩)) (by rfl) (by rfl) (by rfl) (by rw [Array.length_toList, RM.out.1, RZ.out.1]; decide) (by rw [Array.length_toList, RM.out.1]; exact sizeM) (by exact RM1.out) (by exact spl_all (by rw [Array.length_toList, Array.length_toList, RM.out.1, RZ.out.1])) ?_; intro wz HZ; replace HZ := Aside0.mk HZ
    refine Ag hK (fun hHeld => ?_) (by exact ⟨HZ.out.cell 1 rfl 0 rfl, HZ.out.cell 1 rfl 1 rfl, HZ.out.cell 1 rfl 2 rfl, HZ.out.cell 1 rfl 3 rfl, HZ.out.cell 1 rfl 4 rfl, HZ.out.cell 1 rfl 5 rfl, HZ.out.cell 1 rfl 6 rfl, HZ.out.cell 1 rfl 7 rfl, HZ.out.cell 1 rfl 8 rfl, HZ.out.cell 1 rfl 9 rfl, HZ.out.cell 1 rfl 10 rfl, HZ.out.cell 1 rfl 11 rfl, HZ.out.cell 1 rfl 12 rfl⟩)
    clear hK K
    refine Dn ?_
    go_wp2_with fail
    go_meet
    exact ⟨g6, rfl, HZ⟩
  ·
   refine own_alloc_step H6.out (by rfl) (N := 6) rfl (t := 92) rfl (msgA zeroM) 69 (by kernel_rfl) ?_; intro g6 w7 H7; replace H7 := Aside0.mk H7
   refine Ag hK (fun hHeld => ?_) (by exact ⟨H7.out.cell 1 rfl 0 rfl, H7.out.cell 1 rfl 1 rfl, H7.out.cell 1 rfl 2 rfl, H7.out.cell 1 rfl 3 rfl, H7.out.cell 1 rfl 4 rfl, H7.out.cell 1 rfl 5 rfl, H7.out.cell 1 rfl 6 rfl, H7.out.cell 1 rfl 7 rfl, H7.out.cell 1 rfl 8 rfl, H7.out.cell 1 rfl 9 rfl, H7.out.cell 1 rfl 10 rfl, H7.out.cell 1 rfl 11 rfl, H7.out.cell 1 rfl 12 rfl⟩)
   clear hK K
   refine Rd 20 fun K hK => ?_
   go_simp
   refine (HF1.out _).mono ?_
   rintro e w8 ⟨rfl, hBx⟩
   have H8 := Aside0.mk (H7.out.step hBx)
   clear hBx
   go_wp2_with fail
   refine Ag hK (fun hHeld => ?_) (by exact ⟨H8.out.cell 1 rfl 0 rfl, H8.out.cell 1 rfl 1 rfl, H8.out.cell 1 rfl 2 rfl, H8.out.cell 1 rfl 3 rfl, H8.out.cell 1 rfl 4 rfl, H8.out.cell 1 rfl 5 rfl, H8.out.cell 1 rfl 6 rfl, H8.out.cell 1 rfl 7 rfl, H8.out.cell 1 rfl 8 rfl, H8.out.cell 1 rfl 9 rfl, H8.out.cell 1 rfl 10 rfl, H8.out.cell 1 rfl 11 rfl, H8.out.cell 1 rfl 12 rfl⟩)
   clear hK K
   refine Rd 30 fun K hK => ?_
   go_simp
   refine (HF2.out _).mono ?_
   rintro e w9 ⟨rfl, hBx⟩
   have H9 := Aside0.mk (H8.out.step hBx)
   clear hBx
   go_wp2_with fail
   refine Ag hK (fun hHeld => ?_) (by exact ⟨H9.out.cell 1 rfl 0 rfl, H9.out.cell 1 rfl 1 rfl, H9.out.cell 1 rfl 2 rfl, H9.out.cell 1 rfl 3 rfl, H9.out.cell 1 rfl 4 rfl, H9.out.cell 1 rfl 5 rfl, H9.out.cell 1 rfl 6 rfl, H9.out.cell 1 rfl 7 rfl, H9.out.cell 1 rfl 8 rfl, H9.out.cell 1 rfl 9 rfl, H9.out.cell 1 rfl 10 rfl, H9.out.cell 1 rfl 11 rfl, H9.out.cell 1 rfl 12 rfl⟩)
   clear hK K
   refine Ty 31 (.agg (msgA ⟨kq, (a1 : Int), (a2 : Int), (a3 : Int), (a4 : Int), ky, nx⟩)) ?_ ?_
   ·exact yields_build (by rfl) 92 [(0, .tmp 18), (1, .tmp 20), (2, .tmp 22), (3, .tmp 24), (4, .tmp 26), (5, .tmp 36), (6, .tmp 46)] (by rfl) _ (by rfl) _ (builtM kq (a1 : Int) (a2 : Int) (a3 : Int) (a4 : Int) ky nx RK.out RN.out)
   refine Rd 33 fun K hK => ?_
   refine own_st_step H9.out 0 g6 _ (msgA ⟨kq, (a1 : Int), (a2 : Int), (a3 : Int), (a4 : Int), ky, nx⟩) 92 (by rfl) (by rfl) 92 (.tmp 6) _ rfl 0 ((msgA ⟨kq, (a1 : Int), (a2 : Int), (a3 : Int), (a4 : Int), ky, nx⟩).toList) (.agg (msgA ⟨kq, (a1 : Int), (a2 : Int), (a3 : Int), (a4 : Int), ky, nx⟩)) (by rfl) (by rfl) (by rfl) (by rw [Array.length_toList, RM.out.1, RZ.out.1]; decide) (by rw [Array.length_toList, RM.out.1]; exact sizeM) (by exact RM1.out) (by exact spl_all (by rw [Array.length_toList, Array.length_toList, RM.out.1, RZ.out.1])) ?_; intro wz HZ; replace HZ := Aside0.mk HZ
   refine Ag hK (fun hHeld => ?_) (by exact ⟨HZ.out.cell 1 rfl 0 rfl, HZ.out.cell 1 rfl 1 rfl, HZ.out.cell 1 rfl 2 rfl, HZ.out.cell 1 rfl 3 rfl, HZ.out.cell 1 rfl 4 rfl, HZ.out.cell 1 rfl 5 rfl, HZ.out.cell 1 rfl 6 rfl, HZ.out.cell 1 rfl 7 rfl, HZ.out.cell 1 rfl 8 rfl, HZ.out.cell 1 rfl 9 rfl, HZ.out.cell 1 rfl 10 rfl, HZ.out.cell 1 rfl 11 rfl, HZ.out.cell 1 rfl 12 rfl⟩)
   clear hK K
   refine Dn ?_
   go_wp2_with fail
   go_meet
   exact ⟨g6, rfl, HZ⟩
 case rest =>
  obtain ⟨g6, rfl, HC0⟩ := hcut
  have k0 : ∀ W, Own w.heap.size w W [.blk g6 (msgA ⟨kq, (a1 : Int), (a2 : Int), (a3 : Int), (a4 : Int), ky, nx⟩) 92, .blk g4 (cellsN [a0, a1, a2, a3, a4, a5, a6, a7, a8, a9, a10, a11, a12]) 194, .blk g2 (msgA zeroM) 92] → W.cell? ⟨g4, 0, none⟩ = some (.int .u64 (a0 : Int)) := fun W h => h.cell 1 rfl 0 rfl
  replace k0 := k0 _ HC0.out
  clear H5 HF1 HF2 RK RN RM1 hcv
  by_cases h3 : 3 < a0
  ·have hd : decide (3 < (a0 : Int)) = true := decide_eq_true (by omega)
   obtain rfl : r = (zeroM, 8) := by rw [HR.out, if_pos (show (3 : Int) < (a0 : Int) by omega)]
   clear HR HOK
   go_wp2_with (first
    | fail
    | ((with_reducible refine Gd 56 ?_); ( refine OU 92 [] (msgA zeroM) rfl (builtM0) ?_))
    | ((with_reducible refine Gs 92 2 ?_); ( refine OS 2 56 HC0 2 g2 92 (msgA zeroM) 69 RZ RZ ?_; intro w9 H9))
    )
   refine bodyPost_ret (own_resultV_t rfl _ H9.out 2 g2 _ rfl rfl _ Try.underlying92 rfl (sizeM_of (msgA_size rfl rfl)) _ rfl) rfl ?_
   exact ⟨rfl, H9.out.below⟩
  have hd : decide (3 < (a0 : Int)) = false := decide_eq_false (by omega)
  have hok := HOK.out (by omega)
  rw [if_neg (show ¬ (3 : Int) < (a0 : Int) by omega)] at HR
  obtain rfl : kq = (a0 : Int) := by rw [HKQ.out, IntKind.wrap_u8]; omega
  clear HOK HKQ
  have HMY := Aside0.mk (fun W => rmay_any ⟨(a0 : Int), (a1 : Int), (a2 : Int), (a3 : Int), (a4 : Int), ky, nx⟩ hok W)
  clear hok
  cases hmay : mayM ⟨(a0 : Int), (a1 : Int), (a2 : Int), (a3 : Int), (a4 : Int), ky, nx⟩
  ·obtain rfl : r = (zeroM, 8) := by rw [HR.out, hmay]; rfl
   clear HR
   rw [hmay] at HMY
   clear hmay
   go_wp2_with (first
    | fail
    | ((with_reducible refine Gd 52 ?_); ( refine GV 6 HC0 0 g6 92 rfl Try.underlying92 (sizeM_of RM.out.1) ?_))
    | (go_at_call 91; refine (HMY.out _).mono ?_; rintro e w8 ⟨rfl, hB8⟩; have H8 := Aside0.mk (HC0.out.step hB8); clear hB8)
    | ((with_reducible refine Gd 56 ?_); ( refine OU 92 [] (msgA zeroM) rfl (builtM0) ?_))
    | ((with_reducible refine Gs 92 2 ?_); ( refine OS 2 56 H8 2 g2 92 (msgA zeroM) 69 RZ RZ ?_; intro w9 H9))
    )
   refine bodyPost_ret (own_resultV_t rfl _ H9.out 2 g2 _ rfl rfl _ Try.underlying92 rfl (sizeM_of (msgA_size rfl rfl)) _ rfl) rfl ?_
   exact ⟨rfl, H9.out.below⟩
  ·obtain rfl : r = (⟨(a0 : Int), (a1 : Int), (a2 : Int), (a3 : Int), (a4 : Int), ky, nx⟩, 0) := by rw [HR.out, hmay]; rfl
   clear HR
   rw [hmay] at HMY
   clear hmay
   go_wp2_with (first
    | fail
    | ((with_reducible refine Gd 52 ?_); ( refine GV 6 HC0 0 g6 92 rfl Try.underlying92 (sizeM_of RM.out.1) ?_))
    | (go_at_call 91; refine (HMY.out _).mono ?_; rintro e w8 ⟨rfl, hB8⟩; have H8 := Aside0.mk (HC0.out.step hB8); clear hB8)
    | ((with_reducible refine Gd 57 ?_); ( refine OV 6 H8 0 g6 92 rfl Try.underlying92 (sizeM_of RM.out.1) ?_))
    | ((with_reducible refine Gs 92 2 ?_); ( refine OS 2 57 H8 2 g2 92 (msgA ⟨(a0 : Int), (a1 : Int), (a2 : Int), (a3 : Int), (a4 : Int), ky, nx⟩) 69 RZ RM ?_; intro w9 H9))
    )
   refine bodyPost_ret (own_resultV_t rfl _ H9.out 2 g2 _ rfl rfl _ Try.underlying92 rfl (sizeM_of RM.out.1) _ rfl) rfl ?_
   exact ⟨rfl, H9.out.below⟩
set_option maxHeartbeats 4000000 in
set_option maxRecDepth 100000 in
theorem brings_any (b : List Int) (A : Option Addr) (c : Nat) (w : World) (hb : ∀ x ∈ b, 0 ≤ x ∧ x ≤ 255) (hC : Kd.C kB w A b.length b) (hc : b.length ≤ c) :
 Calls Try.prog 36 #[.slice A b.length c] w fun e w' => e = .returned (.bool (depB b)) ∧ Below w.heap.size w w' := by
 have H0 := Aside0.mk (Own.start w)
 have RZ : Aside0 (Arr 69 (msgA zeroM)) := ⟨msgA_arr rfl rfl⟩
 have HRD := Aside0.mk (fun W (h : Below w.heap.size w W) => rread7_any b A c W hb (Kd.C_below hC h) hc)
 have hsz := readM_size b hb
 have RM : Aside0 (Arr 69 (msgA (readM b).1)) := ⟨msgA_arr hsz.1 hsz.2⟩
 obtain ⟨r, hr⟩ : ∃ r, r = depB b := ⟨_, rfl⟩
 rw [← hr]
 unfold depB at hr
 clear hC hc hb hsz
 generalize b.length = n at *
 generalize (readM b).2 = er at *
 generalize (readM b).1 = m at *
 obtain ⟨kd, fr, tt, am, no, ky, nx⟩ := m
 dsimp only at hr
 by_cases h0 : er = 0
 ·subst h0
  rw [decide_eq_true rfl, Bool.true_and] at hr
  have hk : (kd == 1) = r := by rw [hr]; rfl
  clear hr
  go_enter Try.func36, Try.ntmps36
  go_wp2_with (first
   | fail
   | (go_at_call 86; refine (HRD.out _ H0.out.below).mono ?_; rintro e w1 ⟨rfl, hB1⟩; have H1 := Aside0.mk (H0.out.step hB1); clear hB1)
   | ((with_reducible refine Gd 3 ?_); ( refine OA H1 92 (msgA zeroM) 69 ?_; intro g3 w2 H2 B2))
   | ((with_reducible refine Gs 92 3 ?_); ( refine OS 3 8 H2 0 g3 92 (msgA ⟨kd, fr, tt, am, no, ky, nx⟩) 69 RZ RM ?_; intro w3 H3))
   | ((with_reducible refine Gd 14 ?_); ( refine GD 13 90 H3 0 g3 0 (.int .u8 kd) Try.underlying90 ?_))
   )
  go_ret
  exact ⟨rfl, H3.out.below⟩
 ·have he : (er == 0) = false := beq_eq_false_iff_ne.2 h0
  obtain rfl : r = false := by rw [hr, decide_eq_false h0]; rfl
  clear hr h0
  go_enter Try.func36, Try.ntmps36
  go_wp2_with (first
   | fail
   | (go_at_call 86; refine (HRD.out _ H0.out.below).mono ?_; rintro e w1 ⟨rfl, hB1⟩; have H1 := Aside0.mk (H0.out.step hB1); clear hB1)
   | ((with_reducible refine Gd 3 ?_); ( refine OA H1 92 (msgA zeroM) 69 ?_; intro g3 w2 H2 B2))
   | ((with_reducible refine Gs 92 3 ?_); ( refine OS 3 8 H2 0 g3 92 (msgA ⟨kd, fr, tt, am, no, ky, nx⟩) 69 RZ RM ?_; intro w3 H3))
   )
  go_ret
  exact ⟨rfl, H3.out.below⟩
end Go.Proofs.Ytocphkfkdadhaaa.H

namespace Go.Proofs.Ytocphkfkdadhaaa.H
open Go.RowKit Go.Proofs.YtocphkfkdadhaaaW.PrintWords Go.Proofs.YtocphkfkdadhaaaW.PrintLast Go.Proofs.YtocphkfkdadhaaaW.PrintMore
set_option linter.unusedVariables false
set_option linter.unusedSimpArgs false
theorem C_mid {W : World} {g : Nat} {t : TypeId} {cs : Array Value} (h : W.heap[g]? = some (.cells cs t (0, 0))) (o : Nat) (xs : List Int) (hx : ∀ j (hj : j < xs.length), cs[o + j]? = some (.int .u8 xs[j])) (hm : xs.length ≤ 9223372036854775807) : Kd.C kB W (some ⟨g, o, none⟩) xs.length xs := by
 refine ⟨rfl, hm, fun _ => ⟨_, rfl, fun j p hj => ⟨[.int .u8 p], rfl, rfl, fun i u hu => ?_⟩⟩⟩
 obtain ⟨hj1, hj2⟩ := List.getElem?_eq_some_iff.1 hj
 match i, hu with
 | 0, hu =>
  obtain rfl : Value.int .u8 p = u := by simpa using hu
  have e : (⟨g, o, none⟩ : Addr).add (j * 1 + 0) = ⟨g, o + j, none⟩ := by
   unfold Addr.add
   split
   ·rename_i h0; rw [show j = 0 by omega]; rfl
   ·simp
  show W.cell? ((⟨g, o, none⟩ : Addr).add (j * 1 + 0)) = _
  rw [e, blk_cell h, hx j hj1, hj2]
 | i + 1, hu => simp at hu
def headN (m : MsgI) : List Nat := [m.kd.toNat, m.fr.toNat, m.tt.toNat, m.am.toNat, m.no.toNat]
def writeM (m : MsgI) : List Int := bytesOf (headN m) ++ (m.ky ++ m.nx)
def wrM (m : MsgI) : List Int × Int := if mayM m then (writeM m, 0) else ([], 2)
theorem bytesOf_take (ws : List Nat) (i : Nat) (h : i < ws.length) : bytesOf (ws.take (i + 1)) = bytesOf (ws.take i) ++ be8I ws[i] := by
 unfold bytesOf
 rw [List.take_succ_eq_append_getElem h, List.map_append, List.flatten_append]
 simp
theorem msgA_ky {m : MsgI} (h1 : m.ky.length = 32) (j : Nat) (hj : j < m.ky.length) : (msgA m)[5 + j]? = some (.int .u8 m.ky[j]) := by
 unfold msgA
 rw [List.getElem?_toArray, List.getElem?_append_right (by simp), List.getElem?_append_left (by simp [vB]; omega)]
 simp [vB, hj]
theorem msgA_nx {m : MsgI} (h1 : m.ky.length = 32) (j : Nat) (hj : j < m.nx.length) : (msgA m)[37 + j]? = some (.int .u8 m.nx[j]) := by
 unfold msgA
 rw [List.getElem?_toArray, List.getElem?_append_right (by simp; omega), List.getElem?_append_right (by simp [vB, h1]; omega)]
 have e : 37 + j - ([Value.int .u8 m.kd, Value.int .u64 m.fr, Value.int .u64 m.tt, Value.int .u64 m.am, Value.int .u64 m.no] : List Value).length - (vB m.ky).length = j := by simp [vB, h1]; omega
 rw [e]
 simp [vB, hj]
set_option maxHeartbeats 2000000 in
set_option maxRecDepth 100000 in
theorem rwrite7_any (m : MsgI) (hm : m.ok) (w : World) : Calls Try.prog 41 #[.agg (msgA m)] w fun e w' => ∃ v, e = .returned (.tuple #[v, .int .i64 (wrM m).2]) ∧ Own w.heap.size w w' [.row kB 5 v (wrM m).1] := by
 have H0 := Aside0.mk (Own.start w)
 have HMY := Aside0.mk (fun W => rmay_any m hm W)
 have HSZ := Aside0.mk (sizeM_of (msgA_size hm.ky.1 hm.nx.1))
 obtain ⟨r, hr⟩ : ∃ r, r = wrM m := ⟨_, rfl⟩
 rw [← hr]
 unfold wrM at hr
 have HR := Aside0.mk hr
 clear hr
 obtain ⟨my, hmy⟩ : ∃ my, my = mayM m := ⟨_, rfl⟩
 rw [← hmy] at HMY HR
 clear hmy
 have hcs : (msgA m)[0]? = some (.int .u8 m.kd) ∧ (msgA m)[1]? = some (.int .u64 m.fr) ∧ (msgA m)[2]? = some (.int .u64 m.tt) ∧ (msgA m)[3]? = some (.int .u64 m.am) ∧ (msgA m)[4]? = some (.int .u64 m.no) := ⟨rfl, rfl, rfl, rfl, rfl⟩
 have HKY := Aside0.mk (fun j hj => msgA_ky hm.ky.1 j hj)
 have HNX := Aside0.mk (fun j hj => msgA_nx hm.ky.1 j hj)
 have HKL := Aside0.mk hm.ky.1
 have HNL := Aside0.mk hm.nx.1
 obtain ⟨ws, hws⟩ : ∃ ws, ws = headN m := ⟨_, rfl⟩
 have hwl : ws.length = 5 := by rw [hws]; rfl
 have hwm : ws.map (fun n : Nat => (n : Int)) = [m.kd, m.fr, m.tt, m.am, m.no] := by
  rw [hws]
  have := hm.kd; have := hm.fr; have := hm.tt; have := hm.am; have := hm.no
  simp only [headN, List.map_cons, List.map_nil]
  rw [Int.toNat_of_nonneg (by omega), Int.toNat_of_nonneg (by omega), Int.toNat_of_nonneg (by omega), Int.toNat_of_nonneg (by omega), Int.toNat_of_nonneg (by omega)]
 have hwu : ∀ x ∈ ws, x ≤ 18446744073709551615 := by
  rw [hws]
  have := hm.kd; have := hm.fr; have := hm.tt; have := hm.am; have := hm.no
  intro x hx
  simp only [headN, List.mem_cons, List.not_mem_nil, or_false] at hx
  omega
 have hwr : writeM m = bytesOf ws ++ (m.ky ++ m.nx) := by rw [hws]; rfl
 rw [hwr] at HR
 have hwc : IntKind.u64.wrap m.kd = m.kd := by
  have := hm.kd
  rw [IntKind.wrap_u64]; omega
 clear hws hwr
 have HWU := Aside0.mk hwu
 have HWM := Aside0.mk hwm
 have HWL := Aside0.mk hwl
 obtain ⟨M, hM⟩ : ∃ M, M = msgA m := ⟨_, rfl⟩
 rw [← hM] at HMY HSZ hcs HKY HNX ⊢
 obtain ⟨kd, fr, tt, am, no, ky, nx⟩ := m
 dsimp only at *
 clear hM hwu hwm hwl hm
 go_enter Try.func41, Try.ntmps41
 cases my with
 | false =>
  obtain rfl : r = ([], 2) := by rw [HR.out]; rfl
  go_wp2_with (first
   | fail
   | ((with_reducible refine Gd 1 ?_); ( refine OB H0 92 (M) ?_; intro g1 w1 H1 B1))
   | ((with_reducible refine Gd 7 ?_); ( refine OV 1 H1 0 g1 92 rfl Try.underlying92 (HSZ.out) ?_))
   | (go_at_call 91; refine (HMY.out _).mono ?_; rintro e w2 ⟨rfl, hB2⟩; have H2 := Aside0.mk (H1.out.step hB2); clear hB2)
   )
  go_ret2
  exact ⟨_, rfl, (H2.out.null kB _).erase 1⟩
 | true =>
  obtain rfl : r = (bytesOf ws ++ (ky ++ nx), 0) := by rw [HR.out]; rfl
  clear HR
  go_upto_region 6 with (first
   | fail
   | ((with_reducible refine Gd 1 ?_); ( refine OB H0 92 (M) ?_; intro g1 w1 H1 B1))
   | ((with_reducible refine Gd 7 ?_); ( refine OV 1 H1 0 g1 92 rfl Try.underlying92 (HSZ.out) ?_))
   | (go_at_call 91; refine (HMY.out _).mono ?_; rintro e w2 ⟨rfl, hB2⟩; have H2 := Aside0.mk (H1.out.step hB2); clear hB2)
   | ((with_reducible refine gate_dst (N := 11) rfl ?_); refine own_ld1 H2.out 0 g1 _ _ rfl rfl 90 (.tmp 10) rfl 0 (.int .u8 kd) _ rfl hcs.1 Try.underlying90 rfl ?_)
   | ((with_reducible refine gate_dst (N := 14) rfl ?_); refine own_ld1 H2.out 0 g1 _ _ rfl rfl 23 (.tmp 13) rfl 1 (.int .u64 fr) _ rfl hcs.2.1 Try.underlying23 rfl ?_)
   | ((with_reducible refine gate_dst (N := 16) rfl ?_); refine own_ld1 H2.out 0 g1 _ _ rfl rfl 23 (.tmp 15) rfl 2 (.int .u64 tt) _ rfl hcs.2.2.1 Try.underlying23 rfl ?_)
   | ((with_reducible refine gate_dst (N := 18) rfl ?_); refine own_ld1 H2.out 0 g1 _ _ rfl rfl 23 (.tmp 17) rfl 3 (.int .u64 am) _ rfl hcs.2.2.2.1 Try.underlying23 rfl ?_)
   | ((with_reducible refine gate_dst (N := 20) rfl ?_); refine own_ld1 H2.out 0 g1 _ _ rfl rfl 23 (.tmp 19) rfl 4 (.int .u64 no) _ rfl hcs.2.2.2.2 Try.underlying23 rfl ?_)
   | ((with_reducible refine gate_dst (N := 21) rfl ?_); refine own_lit kU Flat_U H2.out 23 rfl (N := 21) rfl (xs := [kd, fr, tt, am, no]) (inner := ([kd, fr, tt, am, no]).map (Value.int .u64)) ?hr21 (Kd.reps_scalar _) (by simp) ?_; (case hr21 => first | (go_simp; done) | (go_simp; rfl)); intro A4 c4 w4 H4 B4; replace H4 := Aside0.mk H4; replace B4 := Aside0.mk B4)
   )
  have H5 := Aside0.mk (H4.out.null kB 5)
  rw [← HWM.out] at H5
  clear H0 H1 H2 H4 B1 B4 hcs
  have HBT := Aside0.mk (fun i (h : i < 5) => bytesOf_take ws i (by rw [HWL.out]; exact h))
  have HBL := Aside0.mk (fun i (h : i ≤ 5) => show (bytesOf (ws.take i)).length = 8 * i by rw [bytesOf_len, List.length_take, HWL.out, Nat.min_eq_left h])
  have HB5 : Aside0 (bytesOf (ws.take 5) = bytesOf ws) := ⟨by rw [List.take_of_length_le (by rw [HWL.out]; exact Nat.le_refl _)]⟩
  have H6 : Aside0 (Own w.heap.size w w4 [.row kB 5 (.slice none 0 0) (bytesOf (ws.take 0)), .row kU 23 (.slice A4 5 c4) (ws.map (fun n : Nat => (n : Int))), .blk g1 M 92]) := ⟨by have h := H5.out; rw [List.length_map, HWL.out] at h; exact h⟩
  clear H5
  go_wp2_with fail
  go_loopw [5, 6] (fun v5 v6 wr => ∃ (i : Nat) (A : Option Addr) (c : Nat), i ≤ 5 ∧ v6 = .int .i64 (i : Int) ∧ v5 = .slice A (8 * i) c ∧ Aside0 (Own w.heap.size w wr [.row kB 5 (.slice A (8 * i) c) (bytesOf (ws.take i)), .row kU 23 (.slice A4 5 c4) (ws.map (fun n : Nat => (n : Int))), .blk g1 M 92])) (fun v5 v6 _ => 5 - (intOf v6).toNat)
  case atStart => exact ⟨0, none, 0, by decide, rfl, rfl, H6⟩
  case round =>
   clear H6
   obtain ⟨i, A, c, hi, rfl, rfl, HI⟩ := hrel
   by_cases hlt : i < 5
   ·have hdl : decide ((i : Int) < 5) = true := decide_eq_true (by omega)
    obtain ⟨ad, rfl, hcell⟩ := Kd.at_int (HI.out.C_of 1 rfl) (i : Int) (Int.natCast_nonneg i) (by omega)
    have hib : (0 : Int) ≤ (i : Int) ∧ (i : Int) < ((5 : Nat) : Int) := by omega
    have hil : i < ws.length := by rw [HWL.out]; exact hlt
    have hrd : rd (ws.map (fun n : Nat => (n : Int))) (i : Int) = ((ws[i] : Nat) : Int) := by simp [rd, List.getD_eq_getElem?_getD, hil]
    rw [hrd, Int.toNat_natCast] at hcell
    have HX := Aside0.mk (fun W => eight_any ws[i] (HWU.out _ (List.getElem_mem hil)) W)
    have HT := Aside0.mk (HBT.out i hlt)
    have hL := Aside0.mk (HBL.out i hi)
    have h8 : Aside0 ((be8I ws[i]).length = 8) := ⟨by simp [be8I, toI, be8_len]⟩
    generalize be8I ws[i] = b8 at *
    generalize ws[i] = x at *
    clear hrd
    go_wp2_with (first
     | fail
     | (go_at_call 79; refine (HX.out _).mono ?_; rintro e w5 ⟨v, rfl, hO⟩; obtain ⟨A7, c7, rfl, hc7, _⟩ := hO.reads 0 rfl; have H7 := Aside0.mk (HI.out.call hO); clear hO)
     | ((with_reducible refine gate_dst (N := 32) rfl ?_); (with_reducible refine gate_builtin (b := .append) (xs := #[.tmp 26, .tmp 31]) rfl ?_); refine own_append_row kB Flat_B H7.out 1 rfl rfl (.tmp 26) (.tmp 31) 74 (.int .u8 0) 1 rfl Try.underlying74 infoB rfl (by decide) (by decide) (b8) _ _ _ rfl rfl (H7.out.C_of 0 rfl) ?_ ?_; (case _ => (have := hL.out; have := h8.out; omega)); intro v8 w8 H8; replace H8 := Aside0.mk H8)
     )
    obtain ⟨A8, c8, rfl, _, _⟩ := H8.out.reads 1 rfl
    rw [show (bytesOf (ws.take i) ++ b8).length = 8 * (i + 1) by rw [List.length_append, hL.out, h8.out]; omega, ← HT.out] at H8
    rw [show (bytesOf (ws.take i) ++ b8).length = 8 * (i + 1) by rw [List.length_append, hL.out, h8.out]; omega]
    go_wp2_with fail
    go_roundw
    case rel => exact ⟨i + 1, A8, c8, hlt, by go_num, rfl, ⟨H8.out.erase 0⟩⟩
    case measure => simp [intOf]; omega
   ·have hdl : decide ((i : Int) < 5) = false := decide_eq_false (by omega)
    obtain rfl : i = 5 := by omega
    rw [HB5.out] at HI
    have hL := Aside0.mk (HBL.out 5 (Nat.le_refl _))
    rw [HB5.out] at hL
    go_upto_region 9 with fail
    have HD := Aside0.mk HI.out.drew
    refine St (fun _ => True) (fun hHeld => ?_)
    refine Tk 0 ?_
    refine Tk 1 ?_
    refine Tk 2 ?_
    refine Tk 4 ?_
    refine Tk 5 ?_
    clear hHeld HI
    generalize wr.drew = wd at *
    refine Rd 3 fun K hK => ?_
    have hC1 : Kd.C kB wd (some ⟨g1, 5, none⟩) 32 ky := by have h := C_mid (HD.out.get 2 rfl) 5 ky HKY.out (by rw [HKL.out]; decide); rw [HKL.out] at h; exact h
    refine own_append_row_step kB Flat_B HD.out 0 rfl rfl (.tmp 33) (.tmp 35) 74 (.int .u8 0) 1 rfl Try.underlying74 infoB rfl (by decide) (by decide) ky _ _ _ (by rfl) (by rfl) hC1 (by rw [hL.out]; decide) ?_
    intro v1 w1 h1
    have H1 := Aside0.mk h1
    clear h1 hC1
    refine Ag hK (fun hHeld => ?_)
    clear hK K
    refine Rd 6 fun K hK => ?_
    have hC2 : Kd.C kB w1 (some ⟨g1, 37, none⟩) 32 nx := by have h := C_mid (H1.out.get 2 rfl) 37 nx HNX.out (by rw [HNL.out]; decide); rw [HNL.out] at h; exact h
    refine own_append_row_step kB Flat_B H1.out 0 rfl rfl (.tmp 36) (.tmp 38) 74 (.int .u8 0) 1 rfl Try.underlying74 infoB rfl (by decide) (by decide) nx _ _ _ (by rfl) (by rfl) hC2 (by rw [List.length_append, hL.out, HKL.out]; decide) ?_
    intro v2 w2 h2
    rw [List.append_assoc] at h2
    have H2 := Aside0.mk h2
    clear h2 hC2
    refine Ag hK (fun hHeld => ?_)
    clear hK K
    refine Tk 7 ?_
    refine Tk 8 ?_
    refine Dn ?_
    go_wp2_with fail
    go_ret2
    exact ⟨_, rfl, (H2.out.erase 1).erase 1⟩
end Go.Proofs.Ytocphkfkdadhaaa.H

namespace Go.Proofs.Ytocphkfkdadhaaa.H
open Go.RowKit Go.Proofs.YtocphkfkdadhaaaW.PrintWords Go.Proofs.YtocphkfkdadhaaaW.PrintLast Go.Proofs.YtocphkfkdadhaaaW.PrintMore
open Go.ChangeShapes Go.WideShapes Go.ChangeAt
set_option linter.unusedVariables false
set_option linter.unusedSimpArgs false
def Lt (ns : List Nat) : Prop := ∀ n ∈ ns, n ≤ 140737488351232
def OpensZ {α : Type} (T : TypeId) (d : Kd α) (ok : α → Prop) : Prop :=
 ∀ {H : Type} {enc : TypeId × Value → H} {W : World} {fuel : Nat} {cs : List Value} {x : DataW H × List MemPlace}, DataW.trod enc Try.prog W 0 (fun _ => true) true fuel T cs = some x → Lt (x.1.weights Try.prog T) → ∃ y, d.K W y cs ∧ ok y
theorem OpensZ.of {α : Type} {T : TypeId} {d : Kd α} {ok : α → Prop} (h : Opens T d ok) : OpensZ T d ok := fun hx _ => h hx
theorem weights_mem_all {H : Type} {P : Program} {e : TypeId} : ∀ {es : List (DataW H)} {i : Nat} {d : DataW H}, es[i]? = some d → ∀ n ∈ d.weights P e, n ∈ DataW.weightsAll P e es
 | [], i, d, h, _, _ => by simp at h
 | x :: es, 0, d, h, n, hn => by
  simp only [List.getElem?_cons_zero, Option.some.injEq] at h
  subst h
  simp only [DataW.weightsAll, List.mem_append]
  exact Or.inl hn
 | x :: es, i + 1, d, h, n, hn => by
  simp only [List.getElem?_cons_succ] at h
  simp only [DataW.weightsAll, List.mem_append]
  exact Or.inr (weights_mem_all h n hn)
theorem opensZ_slice {α : Type} {T e : TypeId} {d : Kd α} {ok : α → Prop} (hT : Try.prog.underlying T = some (.slice e)) (hs : Try.prog.cellsOf e = d.sz) (he : OpensZ e d ok) :
 OpensZ T (Kd.slice e d) (fun l => (∀ y ∈ l, ok y) ∧ l.length * Try.prog.bytesOf e ≤ 140737488351232) := by
 intro H enc W fuel cs x h hw
 rcases DataW.trod_slice hT h with ⟨hc2, hx⟩ | ⟨a, len, cap, elems, rest, m, hm, hc2, hx, _, hlc, hcm, hle, hel, _, _⟩
 ·exact ⟨[], ⟨none, 0, hc2, Nat.le_refl _, Kd.C_nil _ _⟩, by simp, by simp⟩
 ·rw [hs] at hel
  have hwx : x.1.weights Try.prog T = (((elems.map (·.1)).length + (rest.map (·.1)).length) * Try.prog.bytesOf e) :: (DataW.weightsAll Try.prog e (elems.map (·.1)) ++ DataW.weightsAll Try.prog e (rest.map (·.1))) := by
   rw [hx]
   simp only [DataW.weights, hT]
  rw [hwx] at hw
  have each : ∀ i, i < len → ∃ y : α, (∃ c, c.length = d.sz ∧ d.K W y c ∧ ∀ j u, c[j]? = some u → W.cell? (a.add (i * d.sz + j)) = some u) ∧ ok y := by
   intro i hi
   have h3 := hel i hi
   rw [List.getElem?_eq_getElem (by omega), Option.bind_eq_some_iff] at h3
   obtain ⟨c, hc, ht⟩ := h3
   obtain ⟨y, hK, hBy⟩ := he ht (fun n hn => hw n (List.mem_cons_of_mem _ (List.mem_append_left _ (weights_mem_all (i := i) (by rw [List.getElem?_map, List.getElem?_eq_getElem (by omega)]; rfl) n hn))))
   obtain ⟨_, hcl, hcc⟩ := World.cells?_some hc
   refine ⟨y, ⟨c, hcl, hK, fun j u hj => ?_⟩, hBy⟩
   have hj3 : j < d.sz := by have := (List.getElem?_eq_some_iff.1 hj).1; omega
   rw [← hj, ← hcc j hj3, Addr.add_add]
  obtain ⟨ys, hyl, hys⟩ := choose_list _ len each
  subst hyl
  refine ⟨ys, ⟨some a, cap, hc2, hlc, rfl, ?_, fun _ => ⟨a, rfl, fun j p hj => (hys j p hj).1⟩⟩, ?_, ?_⟩
  ·have : maxLen ≤ 9223372036854775807 := by decide
   show ys.length ≤ 9223372036854775807
   omega
  ·intro y hy
   obtain ⟨i, hi⟩ := List.getElem?_of_mem hy
   exact (hys i y hi).2
  ·have h1 := hw _ (List.mem_cons_self)
   rw [List.length_map, hle] at h1
   exact Nat.le_trans (Nat.mul_le_mul_right _ (Nat.le_add_right _ _)) h1
def ManyZ {α : Type} (ts : List TypeId) (d : Kd α) (ok : α → Prop) : Prop :=
 ∀ {H : Type} {enc : TypeId × Value → H} {W : World} {n : Nat} {cs : List Value}, cs.length = d.sz → (∀ i t, ts[i]? = some t → ∃ x : DataW H × List MemPlace, DataW.trod enc Try.prog W 0 (fun _ => true) true n t ((cs.drop (offs ts i)).take (Try.prog.cellsOf t)) = some x ∧ Lt (x.1.weights Try.prog t)) → ∃ y, d.K W y cs ∧ ok y
theorem manyZ_one {α : Type} {T : TypeId} {d : Kd α} {ok : α → Prop} (h : OpensZ T d ok) (hs : Try.prog.cellsOf T = d.sz) : ManyZ [T] d ok := by
 intro H enc W n cs hl hf
 obtain ⟨x, hx, hw⟩ := hf 0 T rfl
 rw [show offs [T] 0 = 0 from rfl, List.drop_zero, List.take_of_length_le (by omega)] at hx
 exact h hx hw
theorem manyZ_cons {α β : Type} {T : TypeId} {ts : List TypeId} {a : Kd α} {b : Kd β} {ok1 : α → Prop} {ok2 : β → Prop} (h : OpensZ T a ok1) (hs : Try.prog.cellsOf T = a.sz) (hm : ManyZ ts b ok2) : ManyZ (T :: ts) (Kd.pair a b) (fun y => ok1 y.1 ∧ ok2 y.2) := by
 intro H enc W n cs hl hf
 have hl' : cs.length = a.sz + b.sz := hl
 obtain ⟨x, hx, hw⟩ := hf 0 T rfl
 rw [show offs (T :: ts) 0 = 0 from rfl, List.drop_zero, hs] at hx
 obtain ⟨y1, hK1, ho1⟩ := h hx hw
 obtain ⟨y2, hK2, ho2⟩ := hm (cs := cs.drop a.sz) (by rw [List.length_drop]; omega) (fun i t ht => by
  obtain ⟨x, hx, hw⟩ := hf (i + 1) t (by simpa using ht)
  refine ⟨x, ?_, hw⟩
  rw [show offs (T :: ts) (i + 1) = Try.prog.cellsOf T + offs ts i from rfl, hs, ← List.drop_drop] at hx
  exact hx)
 exact ⟨(y1, y2), ⟨cs.take a.sz, cs.drop a.sz, (List.take_append_drop _ _).symm, hK1, hK2⟩, ho1, ho2⟩
theorem opensZ_struct {α : Type} {T : TypeId} {fs : Array Field} {ts : List TypeId} {d : Kd α} {ok : α → Prop} (hT : Try.prog.underlying T = some (.struct fs)) (hm : ManyZ ts d ok) (hsz : Try.prog.cellsOf T = d.sz)
 (hts : (List.range ts.length).map (fun i => (fs[i]?).map fun f => (f.type, f.offset)) = (List.range ts.length).map (fun i => (ts[i]?).map fun t => (t, offs ts i))) : OpensZ T d ok := by
 intro H enc W fuel cs x h hw
 obtain ⟨xs, n, hfu, hx, hl, hlen, hf⟩ := DataW.trod_struct hT h
 have hwx : x.1.weights Try.prog T = DataW.weightsEach Try.prog (fs.toList.map (·.type)) (xs.map (·.1)) := by
  rw [hx]
  simp only [DataW.weights, hT]
 rw [hwx] at hw
 refine hm (H := H) (enc := enc) (W := W) (n := n) (by rw [hl, hsz]) (fun i t ht => ?_)
 have hi := (List.getElem?_eq_some_iff.1 ht).1
 have h1 := congrArg (fun l => l[i]?) hts
 simp only [List.getElem?_map, List.getElem?_range hi, Option.map_some, ht] at h1
 have h2 := Option.some.inj h1
 obtain ⟨f, hfe, hfo⟩ := Option.map_eq_some_iff.1 h2
 simp only [Prod.mk.injEq] at hfo
 have h3 := hf i f hfe
 have hfi : i < fs.size := (Array.getElem?_eq_some_iff.1 hfe).1
 rw [List.getElem?_eq_getElem (by omega)] at h3
 rw [hfo.1, hfo.2] at h3
 refine ⟨_, h3, fun m hm' => hw m (DataW.weights_mem_each (j := i) (t := t) (d := (xs[i]'(by omega)).1) ?_ ?_ m hm')⟩
 ·rw [List.getElem?_map, Array.getElem?_toList, hfe, Option.map_some, hfo.1]
 ·rw [List.getElem?_map, List.getElem?_eq_getElem (by omega)]; rfl
set_option maxRecDepth 100000 in
theorem open_aggZ {α : Type} {T : TypeId} {fs : Array Field} {d : Kd α} {ok : α → Prop} (hT : Try.prog.underlying T = some (.struct fs)) (ho : OpensZ T d ok) {H : Type} {enc : TypeId × Value → H} {W : World} {r : Reach} {b0 : Nat} {v : Value} {x : DataW H} {p : List MemPlace}
 (hv : Value.okWide Try.prog W r b0 T v) (h : DataW.Trod enc Try.prog W 0 (fun _ => true) true T v x p) {ts : List TypeId} {ds : List (DataW H)} {j : Nat} (hsz : (DataW.weightsEach Try.prog ts ds).all (· ≤ reachBytes) = true) (ht : ts[j]? = some T) (hd : ds[j]? = some x) :
 ∃ (cs : Array Value) (y : α), v = .agg cs ∧ d.K W y cs.toList ∧ ok y := by
 obtain ⟨cs, rfl, hsz2⟩ := okWide_struct hT hv
 obtain ⟨fuel, hf⟩ := h
 obtain ⟨y, hK, hB⟩ := ho hf (fun n hn => by
  have := List.all_eq_true.1 hsz n (DataW.weights_mem_each ht hd n hn)
  have h6 : reachBytes = 140737488351232 := rfl
  rw [h6] at this
  simpa using this)
 exact ⟨cs, y, rfl, hK, hB⟩
end Go.Proofs.Ytocphkfkdadhaaa.H

namespace Go.Proofs.Ytocphkfkdadhaaa.H
open Go.RowKit Go.Proofs.YtocphkfkdadhaaaW.PrintWords Go.Proofs.YtocphkfkdadhaaaW.PrintLast Go.Proofs.YtocphkfkdadhaaaW.PrintMore
set_option linter.unusedVariables false
set_option linter.unusedSimpArgs false
theorem C_map {α β : Type} {d : Kd α} {d' : Kd β} {f : α → β} {w : World} {A : Option Addr} {n : Nat} {xs : List α} (hs : d.sz = d'.sz) (hK : ∀ x cs, d.K w x cs → d'.K w (f x) cs) (h : Kd.C d w A n xs) : Kd.C d' w A n (xs.map f) := by
 obtain ⟨h1, h2, h3⟩ := h
 refine ⟨by rw [List.length_map]; exact h1, h2, fun hp => ?_⟩
 obtain ⟨ad, e, hc⟩ := h3 hp
 refine ⟨ad, e, fun j p hj => ?_⟩
 rw [List.getElem?_map] at hj
 obtain ⟨x, hx, rfl⟩ := Option.map_eq_some_iff.1 hj
 obtain ⟨c, k1, k2, k3⟩ := hc j x hx
 exact ⟨c, by rw [← hs]; exact k1, hK _ _ k2, by rw [← hs]; exact k3⟩
theorem oz_u8 : OpensZ 5 kB (fun n => (Lit.int .u8 n).wf = true) := OpensZ.of (opens_int Try.underlying5)
theorem oz_u64 : OpensZ 23 (Kd.int .u64) (fun n => (Lit.int .u64 n).wf = true) := OpensZ.of (opens_int Try.underlying23)
theorem oz_int : OpensZ 3 (Kd.int .i64) (fun n => (Lit.int .i64 n).wf = true) := OpensZ.of (opens_int Try.underlying3)
def OkM (m : List Int) : Prop := (∀ y ∈ m, (Lit.int .u8 y).wf = true) ∧ m.length * 1 ≤ 140737488351232
theorem oz_bytes : OpensZ 74 (Kd.slice 5 kB) OkM := by
 intro H enc W fuel cs x hx hw
 obtain ⟨y, hK, h1, h2⟩ := opensZ_slice (T := 74) Try.underlying74 (by kernel_rfl) oz_u8 hx hw
 rw [show Try.prog.bytesOf _ = 1 from by kernel_rfl] at h2
 exact ⟨y, hK, h1, h2⟩
def OkL (l : List (List Int)) : Prop := (∀ m ∈ l, OkM m) ∧ l.length * 24 ≤ 140737488351232
theorem oz_list : OpensZ 71 (Kd.slice 74 (Kd.slice 5 kB)) OkL := by
 intro H enc W fuel cs x hx hw
 obtain ⟨y, hK, h1, h2⟩ := opensZ_slice (T := 71) Try.underlying71 (by kernel_rfl) oz_bytes hx hw
 rw [show Try.prog.bytesOf _ = 24 from by kernel_rfl] at h2
 exact ⟨y, hK, h1, h2⟩
abbrev kDl : Kd (Int × List Int) := Kd.pair (Kd.int .i64) (Kd.slice 5 kB)
theorem oz_delayed : OpensZ 78 kDl (fun y => (Lit.int .i64 y.1).wf = true ∧ OkM y.2) :=
 @fun H enc W fuel cs x hx hw => opensZ_struct Try.underlying78 (manyZ_cons oz_int (by kernel_rfl) (manyZ_one oz_bytes (by kernel_rfl))) (by kernel_rfl) (by kernel_rfl) hx hw
def OkQ (l : List (Int × List Int)) : Prop := (∀ y ∈ l, (Lit.int .i64 y.1).wf = true ∧ OkM y.2) ∧ l.length * 32 ≤ 140737488351232
theorem oz_queue : OpensZ 70 (Kd.slice 78 kDl) OkQ := by
 intro H enc W fuel cs x hx hw
 obtain ⟨y, hK, h1, h2⟩ := opensZ_slice (T := 70) Try.underlying70 (by kernel_rfl) oz_delayed hx hw
 rw [show Try.prog.bytesOf _ = 32 from by kernel_rfl] at h2
 exact ⟨y, hK, h1, h2⟩
abbrev kInb : Kd (List (Int × List Int) × Int × List (List Int) × Int) := Kd.pair (Kd.slice 78 kDl) (Kd.pair (Kd.int .i64) (Kd.pair (Kd.slice 74 (Kd.slice 5 kB)) (Kd.int .u64)))
def OkInb (y : List (Int × List Int) × Int × List (List Int) × Int) : Prop := OkQ y.1 ∧ (Lit.int .i64 y.2.1).wf = true ∧ OkL y.2.2.1 ∧ (Lit.int .u64 y.2.2.2).wf = true
theorem oz_inbox : OpensZ 73 kInb OkInb :=
 @fun H enc W fuel cs x hx hw => opensZ_struct Try.underlying73 (manyZ_cons oz_queue (by kernel_rfl) (manyZ_cons oz_int (by kernel_rfl) (manyZ_cons oz_list (by kernel_rfl) (manyZ_one oz_u64 (by kernel_rfl))))) (by kernel_rfl) (by kernel_rfl) hx hw
theorem OkM.byt {m : List Int} (h : OkM m) : ∀ z ∈ m, 0 ≤ z ∧ z ≤ 255 := fun z hz => by
 have := h.1 z hz
 simp [Lit.wf, IntKind.min, IntKind.max, IntKind.signed, IntKind.bits] at this
 omega
def boxOf (y : List (Int × List Int) × Int × List (List Int) × Int) : Box := ⟨y.1.map fun p => ⟨p.1, p.2⟩, y.2.1, y.2.2.1, y.2.2.2⟩
theorem kInb_open {w : World} {cs : Array Value} {y : List (Int × List Int) × Int × List (List Int) × Int} (h : kInb.K w y cs.toList) :
 ∃ A1 c1 A2 c2, cs = #[.slice A1 (boxOf y).q.length c1, .int .i64 (boxOf y).tk, .slice A2 (boxOf y).l.length c2, .int .u64 (boxOf y).nx] ∧ (boxOf y).q.length ≤ c1 ∧ (boxOf y).l.length ≤ c2 ∧ Kd.C kQ w A1 (boxOf y).q.length (boxOf y).q ∧ Kd.C kL w A2 (boxOf y).l.length (boxOf y).l := by
 obtain ⟨a1, r1, e1, ⟨A1, c1, rfl, g1, k1⟩, a2, r2, rfl, h2, a3, a4, rfl, ⟨A2, c2, rfl, g2, k2⟩, h4⟩ := h
 have h2 : a2 = [.int .i64 y.2.1] := h2
 have h4 : a4 = [.int .u64 y.2.2.2] := h4
 subst h2 h4
 refine ⟨A1, c1, A2, c2, ?_, by simpa [boxOf] using g1, g2, ?_, k2⟩
 ·apply Array.toList_inj.1
  rw [e1]
  simp [boxOf]
 ·have hm := C_map (d := kDl) (d' := kQ) (f := fun p : Int × List Int => (⟨p.1, p.2⟩ : SQ)) rfl (fun x cs hx => by
   obtain ⟨u1, u2, rfl, hu1, A, c, rfl, hc, hC⟩ := hx
   have hu1 : u1 = [.int .i64 x.1] := hu1
   subst hu1
   exact PRF.k78_mk w ⟨x.1, x.2⟩ hc hC) k1
  rw [show (boxOf y).q.length = y.1.length by simp [boxOf]]
  exact hm
theorem OkInb.byt {y : List (Int × List Int) × Int × List (List Int) × Int} (h : OkInb y) : BytB (boxOf y) := by
 refine ⟨fun d hd => ?_, fun m hm => (h.2.2.1.1 m hm).byt⟩
 obtain ⟨p, hp, rfl⟩ := List.mem_map.1 hd
 exact (h.1.1 p hp).2.byt
end Go.Proofs.Ytocphkfkdadhaaa.H

