import Derived.Test.YtocphkfkdadhaaaYPk8
import Derived.Test.YtocphkfkdadhaaaYPk2
import Derived.Test.YtocphkfkdadhaaaYPk3
import Derived.Test.YtocphkfkdadhaaaYPk9
namespace Go.Proofs.Ytocphkfkdadhaaa.H
open Go.RowKit Go.Proofs.YtocphkfkdadhaaaW.PrintWords Go.Proofs.YtocphkfkdadhaaaW.PrintLast Go.Proofs.YtocphkfkdadhaaaW.PrintMore
set_option linter.unusedVariables false
set_option linter.unusedSimpArgs false
def Rows2 (B : Nat) (w0 : World) (LL : List Item) (A5 : Option Addr) (n5 : Nat) (q : List SQ) (A6 : Option Addr) (n6 : Nat) (l : List (List Int)) : Prop :=
 ∀ W L', Own B w0 W (L' ++ LL) → Kd.C kQ W A5 n5 q ∧ Kd.C kL W A6 n6 l
theorem Rows2_own {B : Nat} {w0 : World} {LL : List Item} {A5 A6 : Option Addr} {n5 n6 c5 c6 : Nat} {q : List SQ} {l : List (List Int)} : Rows2 B w0 (.row kQ 78 (.slice A5 n5 c5) q :: .row kL 74 (.slice A6 n6 c6) l :: LL) A5 n5 q A6 n6 l := fun W L' h =>
 ⟨h.C_of L'.length (by rw [List.getElem?_append_right (Nat.le_refl _), Nat.sub_self]; rfl), h.C_of (L'.length + 1) (by rw [List.getElem?_append_right (by omega), show L'.length + 1 - L'.length = 1 by omega]; rfl)⟩
theorem Rows2_came {w : World} {LL : List Item} {A5 A6 : Option Addr} {n5 n6 : Nat} {q : List SQ} {l : List (List Int)} (h1 : Kd.C kQ w A5 n5 q) (h2 : Kd.C kL w A6 n6 l) : Rows2 w.heap.size w LL A5 n5 q A6 n6 l := fun W L' h =>
 ⟨Kd.C_below h1 h.below, Kd.C_below h2 h.below⟩
theorem oneDep_ok : oneDep.ok := ⟨by decide, by decide, by decide, by decide, by decide, ⟨rfl, by decide⟩, ⟨rfl, by decide⟩⟩
theorem oneDep_wr : wrM oneDep = (writeM oneDep, 0) := by
 have : mayM oneDep = true := by decide
 unfold wrM
 rw [this]; rfl
theorem oneDep_byt : ∀ z ∈ writeM oneDep, 0 ≤ z ∧ z ≤ 255 := by decide +kernel
theorem oneDep_dep : depB (writeM oneDep) = true := by decide +kernel
theorem enq_dep (x : Box) (block : Int) (m : List Int) (h : depB m = true) : enqI x block m = (zeroB, 2) := by
 unfold enqI
 rw [h]
 simp
theorem builtOne : Try.prog.built 92 [(0, .int .u8 1), (3, .int .u64 1)] = some (msgA oneDep) := by kernel_rfl
set_option maxHeartbeats 16000000 in
set_option maxRecDepth 100000 in
theorem ideposits_law (x : Box) (ab ato aam : Int) (m : List Int) (ls : List (List Int)) (A1 A2 Am Al : Option Addr) (c1 c2 cm cl : Nat) (w : World)
 (hC1 : Kd.C kQ w A1 x.q.length x.q) (hc1 : x.q.length ≤ c1) (hC2 : Kd.C kL w A2 x.l.length x.l) (hc2 : x.l.length ≤ c2) (hCl : Kd.C kL w Al ls.length ls) (hcl : ls.length ≤ cl)
 (hx : GoodB x) (hls : ∀ b ∈ ls, ∀ z ∈ b, 0 ≤ z ∧ z ≤ 255) (hql : x.q.length ≤ 4398046511100) (hll : x.l.length ≤ 5864062014800) :
 Calls Try.prog 10 #[.agg #[.slice A1 x.q.length c1, .int .i64 x.tk, .slice A2 x.l.length c2, .int .u64 x.nx], .agg #[.int .i64 ab, .slice Am m.length cm, .int .u64 ato, .int .u64 aam], .slice Al ls.length cl] w fun e w' => e = .returned (.bool true) ∧ Below w.heap.size w w' := by
 have H0 := Aside0.mk (Own.start w)
 have HAN := Aside0.mk anchored20_any
 have HWR : Aside0 (∀ W, Calls Try.prog 41 #[.agg (msgA oneDep)] W fun e w' => ∃ A c, e = .returned (.tuple #[.slice A (writeM oneDep).length c, .int .i64 0]) ∧ (writeM oneDep).length ≤ c ∧ Own W.heap.size W w' [.row kB 5 (.slice A (writeM oneDep).length c) (writeM oneDep)]) := ⟨fun W => (rwrite7_any oneDep oneDep_ok W).mono fun e w' hh => by
  rw [oneDep_wr] at hh
  obtain ⟨v, rfl, hO⟩ := hh
  obtain ⟨A, c, rfl, hc, _⟩ := hO.reads 0 rfl
  exact ⟨A, c, rfl, hc, hO⟩⟩
 have HE0 : Aside0 (∀ W A c, Kd.C kB W A (writeM oneDep).length (writeM oneDep) → (writeM oneDep).length ≤ c → Calls Try.prog 34 #[.agg #[.slice none 0 0, .int .i64 0, .slice none 0 0, .int .u64 0], .int .i64 0, .slice A (writeM oneDep).length c] W fun e w' => ∃ A1 n1 c1 A2 n2 c2, e = .returned (.tuple #[.agg #[.slice A1 n1 c1, .int .i64 0, .slice A2 n2 c2, .int .u64 0], .int .i64 2]) ∧ Below W.heap.size W w') := ⟨fun W A c hC hc => by
  have h := enqueue_any zeroB 0 (writeM oneDep) none none A 0 0 c W (Kd.C_nil _ _) (Nat.zero_le _) (Kd.C_nil _ _) (Nat.zero_le _) hC hc oneDep_byt
  rw [enq_dep _ _ _ oneDep_dep] at h
  refine h.mono ?_
  rintro e w' ⟨v1, v2, rfl, hO⟩
  obtain ⟨A1, c1, rfl, h1, _⟩ := hO.reads 0 rfl
  obtain ⟨A2, c2, rfl, h2, _⟩ := hO.reads 1 rfl
  exact ⟨_, _, _, _, _, _, rfl, hO.below⟩⟩
 generalize writeM oneDep = bd at *
 have HEQ := Aside0.mk (fun (y : Box) (blk : Int) (b : List Int) A5 A6 c5 c6 Ab cb W h1 hc5 h2 hc6 h3 hcb hb => enqueue_any y blk b A5 A6 Ab c5 c6 cb W h1 hc5 h2 hc6 h3 hcb hb)
 have HPO := Aside0.mk (fun (y : Box) (b : List Int) A5 A6 c5 c6 Ab cb W h1 hc5 h2 hc6 h3 hcb hb => post_any y b A5 A6 Ab c5 c6 cb W h1 hc5 h2 hc6 h3 hcb hb)
 have HTK := Aside0.mk (fun (y : Box) (blk : Int) A5 A6 c5 c6 W h1 hc5 h2 hc6 hb hq => tick_any y blk A5 A6 c5 c6 W h1 hc5 h2 hc6 hb hq)
 have HBR := Aside0.mk (fun (b : List Int) A c W hb h hc => brings_any b A c W hb h hc)
 have HRUN0 : Aside0 (RunI x x) := ⟨⟨.inl rfl, hx⟩⟩
 have HRD0 := Aside0.mk (fun LL => Rows2_came (LL := LL) hC1 hC2)
 have HLE : Aside0 (∀ y, RunI x y → depN y.l ≤ beforeN x) := ⟨fun y h => h.dep.le⟩
 have HBF : Aside0 (beforeN x = depN x.l + (if 0 ≤ x.tk then waitN x.q x.tk.toNat else 0)) := ⟨rfl⟩
 have HLSB := Aside0.mk hls
 have HXG := Aside0.mk hx
 clear hx hls
 obtain ⟨X, hX⟩ : ∃ X, X = x := ⟨_, rfl⟩
 rw [← hX] at HLE HBF HRUN0
 have HXE := Aside0.mk hX
 clear hX
 generalize beforeN X = bef at *
 obtain ⟨q, tk, l, nx⟩ := x
 rw [HXE.out] at HBF
 dsimp only at *
 have HC1 := Aside0.mk hC1
 have HC2 := Aside0.mk hC2
 have HCL := Aside0.mk hCl
 clear hC1 hC2 hCl
 generalize hnq : q.length = nq at *
 have HN := Aside0.mk hnq
 clear hnq
 generalize hnl : l.length = nl at *
 have HNL := Aside0.mk hnl
 clear hnl
 generalize hns : ls.length = ns at *
 have HNS := Aside0.mk hns
 clear hns
 generalize m.length = nm at *
 have hnm : (ns : Int) ≤ 9223372036854775807 := by have := Kd.C_max HCL.out; omega
 have hnlm : (nl : Int) ≤ 9223372036854775807 := by have := Kd.C_max HC2.out; omega
 have hnqm : (nq : Int) ≤ 9223372036854775807 := by have := Kd.C_max HC1.out; omega
 have HZ : Aside0 (Arr 4 #[.slice none 0 0, .int .i64 0, .slice none 0 0, .int .u64 0]) := ⟨rfl, by simp [Value.oneCell']⟩
 have HX : Aside0 (Arr 4 #[.slice A1 nq c1, .int .i64 tk, .slice A2 nl c2, .int .u64 nx]) := ⟨rfl, by simp [Value.oneCell']⟩
 go_enter Try.func10, Try.ntmps10
 go_upto_region 2 with (first
  | fail
  | ((with_reducible refine Gd 3 ?_); ( refine OB H0 73 #[.slice A1 nq c1, .int .i64 tk, .slice A2 nl c2, .int .u64 nx] ?_; intro g3 w1 H1 B1))
  | ((with_reducible refine Gd 4 ?_); ( refine OB H1 76 #[.int .i64 ab, .slice Am nm cm, .int .u64 ato, .int .u64 aam] ?_; intro g4 w2 H2 B2))
  | ((with_reducible refine Gd 24 ?_); ( refine OV 3 H2 1 g3 73 rfl Try.underlying73 (by kernel_rfl) ?_))
  | ((with_reducible refine Gd 7 ?_); ( refine OA H2 73 #[.slice none 0 0, .int .i64 0, .slice none 0 0, .int .u64 0] 4 ?_; intro g7 w3 H3 B3))
  | ((with_reducible refine Gs 73 7 ?_); ( refine OS 7 24 H3 0 g7 73 #[.slice A1 nq c1, .int .i64 tk, .slice A2 nl c2, .int .u64 nx] 4 HZ HX ?_; intro w4 H4))
  )
 have H5 : Aside0 (Own w.heap.size w w4 (.blk g7 #[.slice A1 nq c1, .int .i64 tk, .slice A2 nl c2, .int .u64 nx] 73 :: .blk g4 #[.int .i64 ab, .slice Am nm cm, .int .u64 ato, .int .u64 aam] 76 :: .blk g3 #[.slice A1 nq c1, .int .i64 tk, .slice A2 nl c2, .int .u64 nx] 73 :: [])) := ⟨H4.out⟩
 clear H0 H1 H2 H3 H4 B1 B2 B3 HX
 go_wp2_with fail
 go_loopw [8] (fun v8 wr => ∃ (i : Nat) (y : Box) (A5 : Option Addr) (c5 : Nat) (A6 : Option Addr) (c6 : Nat) (LL : List Item), i ≤ ns ∧ v8 = .int .i64 (i : Int) ∧ y.q.length ≤ c5 ∧ y.l.length ≤ c6 ∧ Aside0 (RunI X y) ∧ Aside0 (Rows2 w.heap.size w LL A5 y.q.length y.q A6 y.l.length y.l) ∧ Aside0 (Own w.heap.size w wr (.blk g7 #[.slice A5 y.q.length c5, .int .i64 y.tk, .slice A6 y.l.length c6, .int .u64 y.nx] 73 :: .blk g4 #[.int .i64 ab, .slice Am nm cm, .int .u64 ato, .int .u64 aam] 76 :: .blk g3 #[.slice A1 nq c1, .int .i64 tk, .slice A2 nl c2, .int .u64 nx] 73 :: LL))) (fun v8 _ => ns - (intOf v8).toNat)
 case atStart => exact ⟨0, ⟨q, tk, l, nx⟩, A1, c1, A2, c2, [], Nat.zero_le _, rfl, by rw [← HN.out] at hc1; exact hc1, by rw [← HNL.out] at hc2; exact hc2, ⟨by rw [← HXE.out]; exact HRUN0.out⟩, ⟨by have h := HRD0.out []; rw [← HN.out, ← HNL.out] at h; exact h⟩, ⟨by have h := H5.out; rw [← HN.out, ← HNL.out] at h ⊢; exact h⟩⟩
 case round =>
  clear H5 HRD0 HRUN0
  obtain ⟨i, y, A5, c5, A6, c6, LL, hi, rfl, hc5, hc6, HRI, HRD, HI⟩ := hrel
  by_cases hlt : i < ns
  ·have hdl : decide ((i : Int) < (ns : Int)) = true := decide_eq_true (by omega)
   have hiq : i < ls.length := by rw [HNS.out]; exact hlt
   have hib : (0 : Int) ≤ (i : Int) ∧ (i : Int) < (ns : Int) := by omega
   have hwi : IntKind.i64.wrap ((i : Int) + 1) = ((i + 1 : Nat) : Int) := by rw [IntWalk.i64_in _ (by omega)]; omega
   obtain ⟨ad, Ab, cb, rfl, hcell, hcb, hCb⟩ := PRF.at_L2 HCL.out (i : Int) hib.1 hib.2
   rw [rdL ls i hiq] at hcell hcb hCb
   rw [Int.toNat_natCast] at hcell
   obtain ⟨b, hbe⟩ : ∃ b, b = ls[i] := ⟨_, rfl⟩
   rw [← hbe] at hcell hcb hCb
   have HBY : Aside0 (∀ z ∈ b, 0 ≤ z ∧ z ≤ 255) := ⟨by rw [hbe]; exact HLSB.out _ (List.getElem_mem hiq)⟩
   have HCB := Aside0.mk hCb
   obtain ⟨nb, hnb⟩ : ∃ nb, nb = b.length := ⟨_, rfl⟩
   rw [← hnb] at hcell
   have HCE := Aside0.mk hcell
   have HNB := Aside0.mk hnb
   clear hbe hcell hCb hnb
   obtain ⟨blk, hblk⟩ : ∃ blk, blk = IntKind.i64.wrap (ab + (i : Int)) := ⟨_, rfl⟩
   have hbu : blk ≤ 9223372036854775807 := by rw [hblk, IntKind.wrap_i64]; omega
   have hwb : IntKind.i64.wrap (ab + (i : Int)) = blk := hblk.symm
   clear hblk
   have HCA := Aside0.mk (fun W (h : Below w.heap.size w W) (h12 : Kd.C kQ W A5 y.q.length y.q ∧ Kd.C kL W A6 y.l.length y.l) => HEQ.out y blk b A5 A6 c5 c6 Ab cb W h12.1 hc5 h12.2 hc6 (Kd.C_below HCB.out h) hcb HBY.out)
   rw [← HNB.out] at HCA
   have HRE := Aside0.mk (fun h => HRI.out.enq blk b HBY.out hbu h)
   generalize enqI y blk b = pz at *
   obtain ⟨⟨pq, ptk, pl, pnx⟩, pe⟩ := pz
   obtain ⟨yq', ytk', yl', ynx'⟩ := y
   dsimp only at HI HCA HRE HRD hc5 hc6 HRI
   generalize hn5 : yq'.length = n5 at *
   replace hn5 := Aside0.mk hn5
   generalize hn6 : yl'.length = n6 at *
   replace hn6 := Aside0.mk hn6
   go_upto_region 5 with fail
   go_cut [9, 10] (fun v9 v10 wc => ∃ (g9 : Nat) (A7 : Option Addr) (c7 : Nat) (A8 : Option Addr) (c8 : Nat), v9 = .pointer (some ⟨g9, 0, none⟩) ∧ v10 = .int .i64 pe ∧ pq.length ≤ c7 ∧ pl.length ≤ c8 ∧ Aside0 (Own w.heap.size w wc (.blk g9 #[.slice A7 pq.length c7, .int .i64 ptk, .slice A8 pl.length c8, .int .u64 pnx] 73 :: .row kQ 78 (.slice A7 pq.length c7) pq :: .row kL 74 (.slice A8 pl.length c8) pl :: (.blk g7 #[.slice A5 n5 c5, .int .i64 ytk', .slice A6 n6 c6, .int .u64 ynx'] 73 :: .blk g4 #[.int .i64 ab, .slice Am nm cm, .int .u64 ato, .int .u64 aam] 76 :: .blk g3 #[.slice A1 nq c1, .int .i64 tk, .slice A2 nl c2, .int .u64 nx] 73 :: LL))))
   case first =>
    have HD := Aside0.mk HI.out.drew
    have hkS : wr.drew.heap[g7]? = some (.cells #[.slice A5 n5 c5, .int .i64 ytk', .slice A6 n6 c6, .int .u64 ynx'] 73 (0, 0)) ∧ (wr.drew.cell? ⟨g4, 0, none⟩ = some (.int .i64 ab) ∧ wr.drew.cell? (ad.add i) = some (.slice Ab nb cb)) := ⟨HD.out.get 0 rfl, (by first | exact pw_cell_below HD.out.below HCE.out | exact ⟨HD.out.cell 1 rfl 0 rfl, pw_cell_below HD.out.below HCE.out⟩)⟩
    clear HI
    refine St (fun W => W.heap[g7]? = some (.cells #[.slice A5 n5 c5, .int .i64 ytk', .slice A6 n6 c6, .int .u64 ynx'] 73 (0, 0)) ∧ (W.cell? ⟨g4, 0, none⟩ = some (.int .i64 ab) ∧ W.cell? (ad.add i) = some (.slice Ab nb cb))) (fun hHeld => ?_) (by exact hkS)
    refine Ty 0 (.agg #[.slice A5 n5 c5, .int .i64 ytk', .slice A6 n6 c6, .int .u64 ynx']) ?_ ?_
    ·exact yif_loadV (by rfl) 73 (.tmp 7) rfl g7 _ rfl (fun W h => h.1) _ Try.underlying73 rfl (by kernel_rfl)
    refine Tk 1 ?_
    refine Tk 2 ?_
    refine Tk 3 ?_
    refine Tk 4 ?_
    refine Tk 5 ?_
    refine Tk 6 ?_
    refine Tk 7 ?_
    refine Tk 8 ?_
    clear hkS hHeld
    generalize wr.drew = wd at *
    refine Rd2 9 13 (fun K hK => ?_) fun K hK => ?_
    ·
     go_simp
     refine (HCA.out _ HD.out.below (HRD.out _ [_, _, _] HD.out)).mono ?_
     rintro e w7 ⟨v1, v2, rfl, hO7⟩
     obtain ⟨A7, c7, rfl, hc7, _⟩ := hO7.reads 0 rfl
     obtain ⟨A8, c8, rfl, hc8, _⟩ := hO7.reads 1 rfl
     have H7 := Aside0.mk (HD.out.call hO7)
     clear hO7
     go_wp2_with fail
     refine Ag hK (fun hHeld => ?_) (by exact ⟨H7.out.get 2 rfl, H7.out.cell 3 rfl 0 rfl, pw_cell_below H7.out.below HCE.out⟩)
     clear hK K
     refine Tk 10 ?_
     refine Tk 11 ?_
     refine Tk 12 ?_
     refine Rd 13 fun K hK => ?_
     refine own_alloc_step H7.out (by rfl) (N := 9) rfl (t := 73) rfl #[.slice none 0 0, .int .i64 0, .slice none 0 0, .int .u64 0] 4 (by kernel_rfl) ?_; intro g9 w8 H8; replace H8 := Aside0.mk H8
     refine Ag hK (fun hHeld => ?_) (by exact ⟨H8.out.get 3 rfl, H8.out.cell 4 rfl 0 rfl, pw_cell_below H8.out.below HCE.out⟩)
     clear hK K
     refine Rd 14 fun K hK => ?_
     refine own_st_step H8.out 0 g9 _ #[.slice A7 pq.length c7, .int .i64 ptk, .slice A8 pl.length c8, .int .u64 pnx] 73 (by rfl) (by rfl) 73 (.tmp 9) _ rfl 0 ([.slice A7 pq.length c7, .int .i64 ptk, .slice A8 pl.length c8, .int .u64 pnx]) (.agg #[.slice A7 pq.length c7, .int .i64 ptk, .slice A8 pl.length c8, .int .u64 pnx]) (by rfl) (by rfl) (by rfl) (by simp) (by kernel_rfl) (by simp [Value.oneCell']) (by rfl) ?_; intro w9 H9; replace H9 := Aside0.mk H9
     refine Ag hK (fun hHeld => ?_) (by exact ⟨H9.out.get 3 rfl, H9.out.cell 4 rfl 0 rfl, pw_cell_below H9.out.below HCE.out⟩)
     clear hK K
     refine Tk 15 ?_
     refine Dn ?_
     go_wp2_with fail
     go_meet
     exact ⟨g9, A7, c7, A8, c8, rfl, rfl, hc7, hc8, ⟨H9.out⟩⟩
    ·
     refine own_alloc_step HD.out (by rfl) (N := 9) rfl (t := 73) rfl #[.slice none 0 0, .int .i64 0, .slice none 0 0, .int .u64 0] 4 (by kernel_rfl) ?_; intro g9 w7 H7; replace H7 := Aside0.mk H7
     refine Ag hK (fun hHeld => ?_) (by exact ⟨H7.out.get 1 rfl, H7.out.cell 2 rfl 0 rfl, pw_cell_below H7.out.below HCE.out⟩)
     clear hK K
     refine Rd 9 fun K hK => ?_
     go_simp
     refine (HCA.out _ H7.out.below (HRD.out _ [_, _, _, _] H7.out)).mono ?_
     rintro e w8 ⟨v1, v2, rfl, hO7⟩
     obtain ⟨A7, c7, rfl, hc7, _⟩ := hO7.reads 0 rfl
     obtain ⟨A8, c8, rfl, hc8, _⟩ := hO7.reads 1 rfl
     have H8 := Aside0.mk (H7.out.call hO7)
     clear hO7
     go_wp2_with fail
     refine Ag hK (fun hHeld => ?_) (by exact ⟨H8.out.get 3 rfl, H8.out.cell 4 rfl 0 rfl, pw_cell_below H8.out.below HCE.out⟩)
     clear hK K
     refine Tk 10 ?_
     refine Tk 11 ?_
     refine Tk 12 ?_
     refine Rd 14 fun K hK => ?_
     refine own_st_step H8.out 2 g9 _ #[.slice A7 pq.length c7, .int .i64 ptk, .slice A8 pl.length c8, .int .u64 pnx] 73 (by rfl) (by rfl) 73 (.tmp 9) _ rfl 0 ([.slice A7 pq.length c7, .int .i64 ptk, .slice A8 pl.length c8, .int .u64 pnx]) (.agg #[.slice A7 pq.length c7, .int .i64 ptk, .slice A8 pl.length c8, .int .u64 pnx]) (by rfl) (by rfl) (by rfl) (by simp) (by kernel_rfl) (by simp [Value.oneCell']) (by rfl) ?_; intro w9 H9; replace H9 := Aside0.mk H9
     refine Ag hK (fun hHeld => ?_) (by exact ⟨H9.out.get 3 rfl, H9.out.cell 4 rfl 0 rfl, pw_cell_below H9.out.below HCE.out⟩)
     clear hK K
     refine Tk 15 ?_
     refine Dn ?_
     go_wp2_with fail
     go_meet
     exact ⟨g9, A7, c7, A8, c8, rfl, rfl, hc7, hc8, ⟨H9.out.bring 2 rfl⟩⟩
   case rest =>
   obtain ⟨g9, A7, c7, A8, c8, rfl, rfl, hc7, hc8, HJ⟩ := hcut
   clear HI
   clear HCA
   go_upto_if 45 with fail
   go_cut [] (fun wc => ∃ (y' : Box) (A5' : Option Addr) (c5' : Nat) (A6' : Option Addr) (c6' : Nat) (LL' : List Item), y'.q.length ≤ c5' ∧ y'.l.length ≤ c6' ∧ Aside0 (RunI X y') ∧ Aside0 (Rows2 w.heap.size w LL' A5' y'.q.length y'.q A6' y'.l.length y'.l) ∧ Aside0 (Own w.heap.size w wc (.blk g7 #[.slice A5' y'.q.length c5', .int .i64 y'.tk, .slice A6' y'.l.length c6', .int .u64 y'.nx] 73 :: .blk g4 #[.int .i64 ab, .slice Am nm cm, .int .u64 ato, .int .u64 aam] 76 :: .blk g3 #[.slice A1 nq c1, .int .i64 tk, .slice A2 nl c2, .int .u64 nx] 73 :: LL')))
   case first =>
    by_cases hpe : pe = 0
    ·subst hpe
     have HEN : Aside0 (Arr 4 #[.slice A5 n5 c5, .int .i64 ytk', .slice A6 n6 c6, .int .u64 ynx']) := ⟨rfl, by simp [Value.oneCell']⟩
     have HEP : Aside0 (Arr 4 #[.slice A7 pq.length c7, .int .i64 ptk, .slice A8 pl.length c8, .int .u64 pnx]) := ⟨rfl, by simp [Value.oneCell']⟩
     go_wp2_with (first
      | fail
      | ((with_reducible refine Gd 46 ?_); ( refine OV 9 HJ 0 g9 73 rfl Try.underlying73 (by kernel_rfl) ?_))
      | ((with_reducible refine Gs 73 7 ?_); ( refine OS 7 46 HJ 3 g7 73 #[.slice A7 pq.length c7, .int .i64 ptk, .slice A8 pl.length c8, .int .u64 pnx] 4 HEN HEP ?_; intro w9 HK))
      )
     go_meet
     exact ⟨⟨pq, ptk, pl, pnx⟩, A7, c7, A8, c8, _, hc7, hc8, ⟨HRE.out (by first | rfl | trivial)⟩, ⟨Rows2_own⟩, ⟨(((HK.out.erase 0).bring 4 rfl).bring 4 rfl).bring 4 rfl⟩⟩
    ·have hpf : (pe == 0) = false := beq_eq_false_iff_ne.2 hpe
     clear hpe
     go_wp2_with fail
     go_meet
     have e5 := hn5.out
     have e6 := hn6.out
     subst e5 e6
     exact ⟨⟨yq', ytk', yl', ynx'⟩, A5, c5, A6, c6, LL, hc5, hc6, HRI, HRD, ⟨((HJ.out.erase 0).erase 0).erase 0⟩⟩
   case rest =>
   clear HJ HRI HRD HRE hn5 hn6 hc7 hc8 hc5 hc6
   try clear A5 A6 A7 A8 c5 c6 c7 c8
   obtain ⟨y, A5, c5, A6, c6, LL, hc5, hc6, HRI, HRD, HI⟩ := hcut
   have HCA := Aside0.mk (fun W (h : Below w.heap.size w W) (h12 : Kd.C kQ W A5 y.q.length y.q ∧ Kd.C kL W A6 y.l.length y.l) => HPO.out y b A5 A6 c5 c6 Ab cb W h12.1 hc5 h12.2 hc6 (Kd.C_below HCB.out h) hcb HBY.out)
   rw [← HNB.out] at HCA
   have HRE := Aside0.mk (fun h => HRI.out.post b HBY.out h)
   generalize postI y b = pz at *
   generalize wc = wr at *
   obtain ⟨⟨pq, ptk, pl, pnx⟩, pe⟩ := pz
   obtain ⟨yq', ytk', yl', ynx'⟩ := y
   dsimp only at HI HCA HRE HRD hc5 hc6 HRI
   generalize hn5 : yq'.length = n5 at *
   replace hn5 := Aside0.mk hn5
   generalize hn6 : yl'.length = n6 at *
   replace hn6 := Aside0.mk hn6
   go_upto_region 8 with fail
   go_cut [11, 12] (fun v9 v10 wc => ∃ (g9 : Nat) (A7 : Option Addr) (c7 : Nat) (A8 : Option Addr) (c8 : Nat), v9 = .pointer (some ⟨g9, 0, none⟩) ∧ v10 = .int .i64 pe ∧ pq.length ≤ c7 ∧ pl.length ≤ c8 ∧ Aside0 (Own w.heap.size w wc (.blk g9 #[.slice A7 pq.length c7, .int .i64 ptk, .slice A8 pl.length c8, .int .u64 pnx] 73 :: .row kQ 78 (.slice A7 pq.length c7) pq :: .row kL 74 (.slice A8 pl.length c8) pl :: (.blk g7 #[.slice A5 n5 c5, .int .i64 ytk', .slice A6 n6 c6, .int .u64 ynx'] 73 :: .blk g4 #[.int .i64 ab, .slice Am nm cm, .int .u64 ato, .int .u64 aam] 76 :: .blk g3 #[.slice A1 nq c1, .int .i64 tk, .slice A2 nl c2, .int .u64 nx] 73 :: LL))))
   case first =>
    have HD := Aside0.mk HI.out.drew
    have hkS : wr.drew.heap[g7]? = some (.cells #[.slice A5 n5 c5, .int .i64 ytk', .slice A6 n6 c6, .int .u64 ynx'] 73 (0, 0)) ∧ (wr.drew.cell? (ad.add i) = some (.slice Ab nb cb)) := ⟨HD.out.get 0 rfl, (by first | exact pw_cell_below HD.out.below HCE.out | exact ⟨HD.out.cell 1 rfl 0 rfl, pw_cell_below HD.out.below HCE.out⟩)⟩
    clear HI
    refine St (fun W => W.heap[g7]? = some (.cells #[.slice A5 n5 c5, .int .i64 ytk', .slice A6 n6 c6, .int .u64 ynx'] 73 (0, 0)) ∧ (W.cell? (ad.add i) = some (.slice Ab nb cb))) (fun hHeld => ?_) (by exact hkS)
    refine Ty 0 (.agg #[.slice A5 n5 c5, .int .i64 ytk', .slice A6 n6 c6, .int .u64 ynx']) ?_ ?_
    ·exact yif_loadV (by rfl) 73 (.tmp 7) rfl g7 _ rfl (fun W h => h.1) _ Try.underlying73 rfl (by kernel_rfl)
    refine Tk 1 ?_
    refine Tk 2 ?_
    refine Tk 3 ?_
    refine Tk 4 ?_
    clear hkS hHeld
    generalize wr.drew = wd at *
    refine Rd2 5 9 (fun K hK => ?_) fun K hK => ?_
    ·
     go_simp
     refine (HCA.out _ HD.out.below (HRD.out _ [_, _, _] HD.out)).mono ?_
     rintro e w7 ⟨v1, v2, rfl, hO7⟩
     obtain ⟨A7, c7, rfl, hc7, _⟩ := hO7.reads 0 rfl
     obtain ⟨A8, c8, rfl, hc8, _⟩ := hO7.reads 1 rfl
     have H7 := Aside0.mk (HD.out.call hO7)
     clear hO7
     go_wp2_with fail
     refine Ag hK (fun hHeld => ?_) (by exact ⟨H7.out.get 2 rfl, pw_cell_below H7.out.below HCE.out⟩)
     clear hK K
     refine Tk 6 ?_
     refine Tk 7 ?_
     refine Tk 8 ?_
     refine Rd 9 fun K hK => ?_
     refine own_alloc_step H7.out (by rfl) (N := 11) rfl (t := 73) rfl #[.slice none 0 0, .int .i64 0, .slice none 0 0, .int .u64 0] 4 (by kernel_rfl) ?_; intro g9 w8 H8; replace H8 := Aside0.mk H8
     refine Ag hK (fun hHeld => ?_) (by exact ⟨H8.out.get 3 rfl, pw_cell_below H8.out.below HCE.out⟩)
     clear hK K
     refine Rd 10 fun K hK => ?_
     refine own_st_step H8.out 0 g9 _ #[.slice A7 pq.length c7, .int .i64 ptk, .slice A8 pl.length c8, .int .u64 pnx] 73 (by rfl) (by rfl) 73 (.tmp 11) _ rfl 0 ([.slice A7 pq.length c7, .int .i64 ptk, .slice A8 pl.length c8, .int .u64 pnx]) (.agg #[.slice A7 pq.length c7, .int .i64 ptk, .slice A8 pl.length c8, .int .u64 pnx]) (by rfl) (by rfl) (by rfl) (by simp) (by kernel_rfl) (by simp [Value.oneCell']) (by rfl) ?_; intro w9 H9; replace H9 := Aside0.mk H9
     refine Ag hK (fun hHeld => ?_) (by exact ⟨H9.out.get 3 rfl, pw_cell_below H9.out.below HCE.out⟩)
     clear hK K
     refine Tk 11 ?_
     refine Dn ?_
     go_wp2_with fail
     go_meet
     exact ⟨g9, A7, c7, A8, c8, rfl, rfl, hc7, hc8, ⟨H9.out⟩⟩
    ·
     refine own_alloc_step HD.out (by rfl) (N := 11) rfl (t := 73) rfl #[.slice none 0 0, .int .i64 0, .slice none 0 0, .int .u64 0] 4 (by kernel_rfl) ?_; intro g9 w7 H7; replace H7 := Aside0.mk H7
     refine Ag hK (fun hHeld => ?_) (by exact ⟨H7.out.get 1 rfl, pw_cell_below H7.out.below HCE.out⟩)
     clear hK K
     refine Rd 5 fun K hK => ?_
     go_simp
     refine (HCA.out _ H7.out.below (HRD.out _ [_, _, _, _] H7.out)).mono ?_
     rintro e w8 ⟨v1, v2, rfl, hO7⟩
     obtain ⟨A7, c7, rfl, hc7, _⟩ := hO7.reads 0 rfl
     obtain ⟨A8, c8, rfl, hc8, _⟩ := hO7.reads 1 rfl
     have H8 := Aside0.mk (H7.out.call hO7)
     clear hO7
     go_wp2_with fail
     refine Ag hK (fun hHeld => ?_) (by exact ⟨H8.out.get 3 rfl, pw_cell_below H8.out.below HCE.out⟩)
     clear hK K
     refine Tk 6 ?_
     refine Tk 7 ?_
     refine Tk 8 ?_
     refine Rd 10 fun K hK => ?_
     refine own_st_step H8.out 2 g9 _ #[.slice A7 pq.length c7, .int .i64 ptk, .slice A8 pl.length c8, .int .u64 pnx] 73 (by rfl) (by rfl) 73 (.tmp 11) _ rfl 0 ([.slice A7 pq.length c7, .int .i64 ptk, .slice A8 pl.length c8, .int .u64 pnx]) (.agg #[.slice A7 pq.length c7, .int .i64 ptk, .slice A8 pl.length c8, .int .u64 pnx]) (by rfl) (by rfl) (by rfl) (by simp) (by kernel_rfl) (by simp [Value.oneCell']) (by rfl) ?_; intro w9 H9; replace H9 := Aside0.mk H9
     refine Ag hK (fun hHeld => ?_) (by exact ⟨H9.out.get 3 rfl, pw_cell_below H9.out.below HCE.out⟩)
     clear hK K
     refine Tk 11 ?_
     refine Dn ?_
     go_wp2_with fail
     go_meet
     exact ⟨g9, A7, c7, A8, c8, rfl, rfl, hc7, hc8, ⟨H9.out.bring 2 rfl⟩⟩
   case rest =>
   obtain ⟨g9, A7, c7, A8, c8, rfl, rfl, hc7, hc8, HJ⟩ := hcut
   clear HI
   clear HCA
   by_cases hpe : pe = 0
   ·subst hpe
    have HEN : Aside0 (Arr 4 #[.slice A5 n5 c5, .int .i64 ytk', .slice A6 n6 c6, .int .u64 ynx']) := ⟨rfl, by simp [Value.oneCell']⟩
    have HEP : Aside0 (Arr 4 #[.slice A7 pq.length c7, .int .i64 ptk, .slice A8 pl.length c8, .int .u64 pnx]) := ⟨rfl, by simp [Value.oneCell']⟩
    go_wp2_with (first
     | fail
     | ((with_reducible refine Gd 58 ?_); ( refine OV 11 HJ 0 g9 73 rfl Try.underlying73 (by kernel_rfl) ?_))
     | ((with_reducible refine Gs 73 7 ?_); ( refine OS 7 58 HJ 3 g7 73 #[.slice A7 pq.length c7, .int .i64 ptk, .slice A8 pl.length c8, .int .u64 pnx] 4 HEN HEP ?_; intro w9 HK))
     )
    go_roundw
    case rel => exact ⟨i + 1, ⟨pq, ptk, pl, pnx⟩, A7, c7, A8, c8, _, hlt, rfl, hc7, hc8, ⟨HRE.out (by first | rfl | trivial)⟩, ⟨Rows2_own⟩, ⟨(((HK.out.erase 0).bring 4 rfl).bring 4 rfl).bring 4 rfl⟩⟩
    case measure => simp [intOf]; omega
   ·have hpf : (pe == 0) = false := beq_eq_false_iff_ne.2 hpe
    clear hpe
    go_wp2_with fail
    have e5 := hn5.out
    have e6 := hn6.out
    subst e5 e6
    go_roundw
    case rel => exact ⟨i + 1, ⟨yq', ytk', yl', ynx'⟩, A5, c5, A6, c6, LL, hlt, rfl, hc5, hc6, HRI, HRD, ⟨((HJ.out.erase 0).erase 0).erase 0⟩⟩
    case measure => simp [intOf]; omega
  ·have hdl : decide ((i : Int) < (ns : Int)) = false := decide_eq_false (by omega)
   obtain ⟨blk, hblk⟩ : ∃ blk, blk = wrap64 (wrap64 (ab + (ns : Int)) + 8) := ⟨_, rfl⟩
   have hbu : blk ≤ 9223372036854775807 := by rw [hblk]; unfold wrap64; omega
   have hwb : wrap64 (wrap64 (ab + (ns : Int)) + 8) = blk := hblk.symm
   clear hblk
   have HCA := Aside0.mk (fun W (h12 : Kd.C kQ W A5 y.q.length y.q ∧ Kd.C kL W A6 y.l.length y.l) => HTK.out y blk A5 A6 c5 c6 W h12.1 hc5 h12.2 hc6 hbu HRI.out.good.q64)
   have HRE := Aside0.mk (fun h => HRI.out.tick blk h)
   generalize tickI y blk = pz at *
   obtain ⟨⟨pq, ptk, pl, pnx⟩, pe⟩ := pz
   obtain ⟨yq', ytk', yl', ynx'⟩ := y
   dsimp only at HI HCA HRE HRD hc5 hc6 HRI
   generalize hn5 : yq'.length = n5 at *
   replace hn5 := Aside0.mk hn5
   generalize hn6 : yl'.length = n6 at *
   replace hn6 := Aside0.mk hn6
   have k4 : wr.cell? ⟨g4, 0, none⟩ = some (.int .i64 ab) := HI.out.cell 1 rfl 0 rfl
   go_upto_region 12 with (first
    | fail
    | ((with_reducible refine Gd 60 ?_); ( refine OV 7 HI 0 g7 73 rfl Try.underlying73 (by kernel_rfl) ?_))
    | (go_at_call 38; ( refine (HCA.out _ (HRD.out _ [_, _, _] HI.out)).mono ?_; rintro e w7 ⟨v1, v2, rfl, hO7⟩; have H8 := Aside0.mk (HI.out.call hO7); obtain ⟨A7, c7, rfl, hc7, _⟩ := hO7.reads 0 rfl; obtain ⟨A8, c8, rfl, hc8, _⟩ := hO7.reads 1 rfl; have HP : Aside0 (Arr 4 #[.slice A7 pq.length c7, .int .i64 ptk, .slice A8 pl.length c8, .int .u64 pnx]) := ⟨rfl, by simp [Value.oneCell']⟩; clear hO7))
    | ((with_reducible refine Gd 13 ?_); ( refine OA H8 73 #[.slice none 0 0, .int .i64 0, .slice none 0 0, .int .u64 0] 4 ?_; intro g9 w8 H9 B9))
    | ((with_reducible refine Gs 73 13 ?_); ( refine OS 13 68 H9 0 g9 73 #[.slice A7 pq.length c7, .int .i64 ptk, .slice A8 pl.length c8, .int .u64 pnx] 4 HZ HP ?_; intro w9 HJ))
    )
   replace HJ : Aside0 (Own w.heap.size w w9 (.blk g9 #[.slice A7 pq.length c7, .int .i64 ptk, .slice A8 pl.length c8, .int .u64 pnx] 73 :: .row kQ 78 (.slice A7 pq.length c7) pq :: .row kL 74 (.slice A8 pl.length c8) pl :: (.blk g7 #[.slice A5 n5 c5, .int .i64 ytk', .slice A6 n6 c6, .int .u64 ynx'] 73 :: .blk g4 #[.int .i64 ab, .slice Am nm cm, .int .u64 ato, .int .u64 aam] 76 :: .blk g3 #[.slice A1 nq c1, .int .i64 tk, .slice A2 nl c2, .int .u64 nx] 73 :: LL))) := ⟨HJ.out⟩
   clear H8 H9 HI B9 k4 HP
   clear HCA
   go_upto_if 71 with fail
   go_cut [] (fun wc => ∃ (y' : Box) (A5' : Option Addr) (c5' : Nat) (A6' : Option Addr) (c6' : Nat) (LL' : List Item), y'.q.length ≤ c5' ∧ y'.l.length ≤ c6' ∧ Aside0 (RunI X y') ∧ Aside0 (Rows2 w.heap.size w LL' A5' y'.q.length y'.q A6' y'.l.length y'.l) ∧ Aside0 (Own w.heap.size w wc (.blk g7 #[.slice A5' y'.q.length c5', .int .i64 y'.tk, .slice A6' y'.l.length c6', .int .u64 y'.nx] 73 :: .blk g4 #[.int .i64 ab, .slice Am nm cm, .int .u64 ato, .int .u64 aam] 76 :: .blk g3 #[.slice A1 nq c1, .int .i64 tk, .slice A2 nl c2, .int .u64 nx] 73 :: LL')))
   case first =>
    by_cases hpe : pe = 0
    ·subst hpe
     have HEN : Aside0 (Arr 4 #[.slice A5 n5 c5, .int .i64 ytk', .slice A6 n6 c6, .int .u64 ynx']) := ⟨rfl, by simp [Value.oneCell']⟩
     have HEP : Aside0 (Arr 4 #[.slice A7 pq.length c7, .int .i64 ptk, .slice A8 pl.length c8, .int .u64 pnx]) := ⟨rfl, by simp [Value.oneCell']⟩
     go_wp2_with (first
      | fail
      | ((with_reducible refine Gd 72 ?_); ( refine OV 13 HJ 0 g9 73 rfl Try.underlying73 (by kernel_rfl) ?_))
      | ((with_reducible refine Gs 73 7 ?_); ( refine OS 7 72 HJ 3 g7 73 #[.slice A7 pq.length c7, .int .i64 ptk, .slice A8 pl.length c8, .int .u64 pnx] 4 HEN HEP ?_; intro w9 HK))
      )
     go_meet
     exact ⟨⟨pq, ptk, pl, pnx⟩, A7, c7, A8, c8, _, hc7, hc8, ⟨HRE.out (by first | rfl | trivial)⟩, ⟨Rows2_own⟩, ⟨(((HK.out.erase 0).bring 4 rfl).bring 4 rfl).bring 4 rfl⟩⟩
    ·have hpf : (pe == 0) = false := beq_eq_false_iff_ne.2 hpe
     clear hpe
     go_wp2_with fail
     go_meet
     have e5 := hn5.out
     have e6 := hn6.out
     subst e5 e6
     exact ⟨⟨yq', ytk', yl', ynx'⟩, A5, c5, A6, c6, LL, hc5, hc6, HRI, HRD, ⟨((HJ.out.erase 0).erase 0).erase 0⟩⟩
   case rest =>
   clear HJ HRI HRD HRE hn5 hn6 hc7 hc8 hc5 hc6
   try clear A5 A6 A7 A8 c5 c6 c7 c8
   obtain ⟨y, A5, c5, A6, c6, LL, hc5, hc6, HRI, HRD, HI⟩ := hcut
   clear HCL HLSB HEQ HPO HTK hwb hbu blk
   have HLEy := Aside0.mk (HLE.out _ HRI.out)
   have HYG := Aside0.mk HRI.out.good
   clear HRI HLE
   obtain ⟨yq, ytk, yl, ynx⟩ := y
   dsimp only at HLEy HRD HI hc5 hc6
   generalize yq.length = n5 at *
   generalize hn6 : yl.length = n6 at *
   replace hn6 := Aside0.mk hn6
   have hn6m : (n6 : Int) ≤ 9223372036854775807 := by have := Kd.C_max (HRD.out _ [_, _, _] HI.out).2; omega
   go_wp2_with fail
   go_loopw [15, 17] (fun vc vi wr => ∃ i : Nat, i ≤ nl ∧ vc = .int .i64 ((depN (l.take i) : Nat) : Int) ∧ vi = .int .i64 (i : Int) ∧ Aside0 (Own w.heap.size w wr (.blk g7 #[.slice A5 n5 c5, .int .i64 ytk, .slice A6 n6 c6, .int .u64 ynx] 73 :: .blk g4 #[.int .i64 ab, .slice Am nm cm, .int .u64 ato, .int .u64 aam] 76 :: .blk g3 #[.slice A1 nq c1, .int .i64 tk, .slice A2 nl c2, .int .u64 nx] 73 :: LL))) (fun vc vi _ => nl - (intOf vi).toNat)
   case atStart => exact ⟨0, Nat.zero_le _, rfl, rfl, HI⟩
   case round =>
    clear HI
    obtain ⟨i, hi, rfl, rfl, HI⟩ := hrel
    obtain ⟨c, hc⟩ : ∃ c, c = depN (l.take i) := ⟨_, rfl⟩
    rw [← hc]
    have hcl : c ≤ i := by rw [hc]; exact Nat.le_trans (depN_le _) (by rw [List.length_take]; omega)
    by_cases hlt : i < nl
    ·have hdl : decide ((i : Int) < (nl : Int)) = true := decide_eq_true (by omega)
     have hiq : i < l.length := by rw [HNL.out]; exact hlt
     have hib : (0 : Int) ≤ (i : Int) ∧ (i : Int) < (nl : Int) := by omega
     have hwi : IntKind.i64.wrap ((i : Int) + 1) = ((i + 1 : Nat) : Int) := by rw [IntWalk.i64_in _ (by omega)]; omega
     have hwc : IntKind.i64.wrap ((c : Int) + 1) = ((c + 1 : Nat) : Int) := by rw [IntWalk.i64_in _ (by omega)]; omega
     have HT := depN_take l i hiq
     rw [← hc] at HT
     have hBY := HXG.out.lb _ (List.getElem_mem hiq)
     obtain ⟨ad, Ab, cb, rfl, hcell, hcb, hCb⟩ := PRF.at_L2 (Kd.C_below HC2.out HI.out.below) (i : Int) hib.1 hib.2
     rw [rdL l i hiq] at hcell hcb hCb
     rw [Int.toNat_natCast] at hcell
     have k2 := (HI.out.cell 2 rfl 2 rfl : wr.cell? ⟨g3, 2, none⟩ = some (.slice (some ad) nl c2))
     generalize l[i] = b at *
     have HB1 := Aside0.mk (fun W (h : Below wr.heap.size wr W) => HBR.out b Ab cb W hBY (Kd.C_below hCb h) hcb)
     clear hCb hBY hc
     cases hd : depB b with
     | true =>
      rw [hd, if_pos rfl] at HT
      rw [hd] at HB1
      clear hd
      replace HT := Aside0.mk HT
      go_wp2_with (go_at_call 36; refine (HB1.out _ (Below.refl _ _)).mono ?_; rintro e w5 ⟨rfl, hB5⟩; have H5 := Aside0.mk (HI.out.step hB5); clear hB5)
      go_roundw
      case rel => exact ⟨i + 1, hlt, by rw [HT.out]; rfl, rfl, H5⟩
      case measure => simp [intOf]; omega
     | false =>
      rw [hd, if_neg (by decide)] at HT
      rw [hd] at HB1
      clear hd
      replace HT := Aside0.mk HT
      go_wp2_with (go_at_call 36; refine (HB1.out _ (Below.refl _ _)).mono ?_; rintro e w5 ⟨rfl, hB5⟩; have H5 := Aside0.mk (HI.out.step hB5); clear hB5)
      go_roundw
      case rel => exact ⟨i + 1, hlt, by rw [HT.out]; rfl, rfl, H5⟩
      case measure => simp [intOf]; omega
    ·have hdl : decide ((i : Int) < (nl : Int)) = false := decide_eq_false (by omega)
     rw [List.take_of_length_le (by rw [HNL.out]; omega)] at hc
     subst hc
     have hk2 : wr.cell? ⟨g3, 2, none⟩ = some (.slice A2 nl c2) := HI.out.cell 2 rfl 2 rfl
     have hk1 : wr.cell? ⟨g3, 1, none⟩ = some (.int .i64 tk) := HI.out.cell 2 rfl 1 rfl
     have hdm := depN_le l
     rw [HNL.out] at hdm
     have hbm : bef ≤ nl + nq := by
      rw [HBF.out]
      have := wait_le q tk.toNat
      rw [HN.out] at this
      split <;> omega
     obtain ⟨dl, hdl2⟩ : ∃ dl, dl = depN l := ⟨_, rfl⟩
     rw [← hdl2] at HBF hdm ⊢
     clear hdl2
     go_wp2_with fail
     go_loopw [15, 18] (fun vc vi wr => ∃ (c : Nat) (j : Int), vc = .int .i64 (c : Int) ∧ vi = .int .i64 j ∧ (tk < 0 → j = tk) ∧ tk ≤ j ∧ Aside0 (c + (if 0 ≤ tk then waitN q j.toNat else 0) = bef) ∧ Aside0 (Own w.heap.size w wr (.blk g7 #[.slice A5 n5 c5, .int .i64 ytk, .slice A6 n6 c6, .int .u64 ynx] 73 :: .blk g4 #[.int .i64 ab, .slice Am nm cm, .int .u64 ato, .int .u64 aam] 76 :: .blk g3 #[.slice A1 nq c1, .int .i64 tk, .slice A2 nl c2, .int .u64 nx] 73 :: LL))) (fun vc vi _ => nq - (intOf vi).toNat)
     case atStart => exact ⟨dl, tk, rfl, rfl, fun _ => rfl, Int.le_refl _, ⟨HBF.out.symm⟩, HI⟩
     case round =>
      clear HI hk1 hk2
      obtain ⟨c, j, rfl, rfl, htj, hj, HW, HI⟩ := hrel
      have hk0 : wr.cell? ⟨g3, 0, none⟩ = some (.slice A1 nq c1) := HI.out.cell 2 rfl 0 rfl
      by_cases hin : 0 ≤ j ∧ j < (nq : Int)
      ·have htk : 0 ≤ tk := by
        refine Int.not_lt.1 fun h => ?_
        have := htj h
        omega
       clear htj
       obtain ⟨j, rfl⟩ := Int.eq_ofNat_of_zero_le hin.1
       have hdl : decide ((j : Int) < (nq : Int)) = true := decide_eq_true hin.2
       have hdg : decide ((0 : Int) ≤ (j : Int)) = true := decide_eq_true hin.1
       have hiq : j < q.length := by rw [HN.out]; omega
       have hwi : IntKind.i64.wrap ((j : Int) + 1) = ((j + 1 : Nat) : Int) := by rw [IntWalk.i64_in _ (by omega)]; omega
       have hBY := HXG.out.qb _ (List.getElem_mem hiq)
       have HS := wait_step q j hiq
       obtain ⟨ad, Ab, cb, rfl, -, hcell, hcb, hCb⟩ := PRF.at_T78 (Kd.C_below HC1.out HI.out.below) (j : Int) hin.1 hin.2
       rw [rdQ q j hiq] at hcell hcb hCb
       rw [Int.toNat_natCast] at hcell
       have HW2 := HW.out
       rw [if_pos htk, Int.toNat_natCast, HS] at HW2
       have hcb2 : c ≤ bef := by omega
       have hwc : IntKind.i64.wrap ((c : Int) + 1) = ((c + 1 : Nat) : Int) := by rw [IntWalk.i64_in _ (by omega)]; omega
       clear HW HS
       have HTK0 := Aside0.mk htk
       clear htk
       generalize q[j].f1 = b at *
       have HB1 := Aside0.mk (fun W (h : Below wr.heap.size wr W) => HBR.out b Ab cb W hBY (Kd.C_below hCb h) hcb)
       clear hCb hBY
       cases hd : depB b with
       | true =>
        rw [hd, if_pos rfl] at HW2
        rw [hd] at HB1
        clear hd
        replace HW2 := Aside0.mk HW2
        go_wp2_with (go_at_call 36; refine (HB1.out _ (Below.refl _ _)).mono ?_; rintro e w5 ⟨rfl, hB5⟩; have H5 := Aside0.mk (HI.out.step hB5); clear hB5)
        go_roundw
        case rel => exact ⟨c + 1, (j + 1 : Nat), rfl, rfl, fun h => absurd h (by have := HTK0.out; omega), by omega, ⟨by rw [if_pos HTK0.out, Int.toNat_natCast]; have := HW2.out; omega⟩, H5⟩
        case measure => simp [intOf]; omega
       | false =>
        rw [hd, if_neg (by decide)] at HW2
        rw [hd] at HB1
        clear hd
        replace HW2 := Aside0.mk HW2
        go_wp2_with (go_at_call 36; refine (HB1.out _ (Below.refl _ _)).mono ?_; rintro e w5 ⟨rfl, hB5⟩; have H5 := Aside0.mk (HI.out.step hB5); clear hB5)
        go_roundw
        case rel => exact ⟨c, (j + 1 : Nat), rfl, rfl, fun h => absurd h (by have := HTK0.out; omega), by omega, ⟨by rw [if_pos HTK0.out, Int.toNat_natCast]; have := HW2.out; omega⟩, H5⟩
        case measure => simp [intOf]; omega
      ·have hcb2 : c = bef := by
        have := HW.out
        split at this
        ·rename_i h0
         rw [wait_end q j.toNat (by rw [HN.out]; omega)] at this
         omega
        ·omega
       subst hcb2
       go_upto_region 21 with fail
       go_cut [98] (fun v98 wc => v98 = .bool false ∧ wr = wc)
       case first =>
        by_cases hj0 : 0 ≤ j
        ·have hdg : decide ((0 : Int) ≤ j) = true := decide_eq_true hj0
         have hdl : decide (j < (nq : Int)) = false := decide_eq_false (by omega)
         clear hin
         go_wp2_with fail
         go_meet
         exact ⟨rfl, rfl⟩
        ·have hdg : decide ((0 : Int) ≤ j) = false := decide_eq_false hj0
         clear hin
         go_wp2_with fail
         go_meet
         exact ⟨rfl, rfl⟩
       case rest =>
       obtain ⟨rfl, rfl⟩ := hcut
       have hk7 : wr.cell? ⟨g7, 2, none⟩ = some (.slice A6 n6 c6) := HI.out.cell 0 rfl 2 rfl
       clear hin htj hj HW
       go_wp2_with fail
       go_loopw [16, 19] (fun vc vi wr => ∃ i : Nat, i ≤ n6 ∧ vc = .int .i64 ((depN (yl.take i) : Nat) : Int) ∧ vi = .int .i64 (i : Int) ∧ Aside0 (Own w.heap.size w wr (.blk g7 #[.slice A5 n5 c5, .int .i64 ytk, .slice A6 n6 c6, .int .u64 ynx] 73 :: .blk g4 #[.int .i64 ab, .slice Am nm cm, .int .u64 ato, .int .u64 aam] 76 :: .blk g3 #[.slice A1 nq c1, .int .i64 tk, .slice A2 nl c2, .int .u64 nx] 73 :: LL))) (fun vc vi _ => n6 - (intOf vi).toNat)
       case atStart => exact ⟨0, Nat.zero_le _, rfl, rfl, HI⟩
       case round =>
        clear HI
        obtain ⟨i, hi, rfl, rfl, HI⟩ := hrel
        obtain ⟨c, hc⟩ : ∃ c, c = depN (yl.take i) := ⟨_, rfl⟩
        rw [← hc]
        have hcl : c ≤ i := by rw [hc]; exact Nat.le_trans (depN_le _) (by rw [List.length_take]; omega)
        by_cases hlt : i < n6
        ·have hdl : decide ((i : Int) < (n6 : Int)) = true := decide_eq_true (by omega)
         have hiq : i < yl.length := by rw [hn6.out]; exact hlt
         have hib : (0 : Int) ≤ (i : Int) ∧ (i : Int) < (n6 : Int) := by omega
         have hwi : IntKind.i64.wrap ((i : Int) + 1) = ((i + 1 : Nat) : Int) := by rw [IntWalk.i64_in _ (by omega)]; omega
         have hwc : IntKind.i64.wrap ((c : Int) + 1) = ((c + 1 : Nat) : Int) := by rw [IntWalk.i64_in _ (by omega)]; omega
         have HT := depN_take yl i hiq
         rw [← hc] at HT
         have hBY := HYG.out.lb _ (List.getElem_mem hiq)
         obtain ⟨ad, Ab, cb, rfl, hcell, hcb, hCb⟩ := PRF.at_L2 ((HRD.out _ [_, _, _] HI.out).2) (i : Int) hib.1 hib.2
         rw [rdL yl i hiq] at hcell hcb hCb
         rw [Int.toNat_natCast] at hcell
         have k2 := (HI.out.cell 0 rfl 2 rfl : wr.cell? ⟨g7, 2, none⟩ = some (.slice (some ad) n6 c6))
         generalize yl[i] = b at *
         have HB1 := Aside0.mk (fun W (h : Below wr.heap.size wr W) => HBR.out b Ab cb W hBY (Kd.C_below hCb h) hcb)
         clear hCb hBY hc
         cases hd : depB b with
         | true =>
          rw [hd, if_pos rfl] at HT
          rw [hd] at HB1
          clear hd
          replace HT := Aside0.mk HT
          go_wp2_with (go_at_call 36; refine (HB1.out _ (Below.refl _ _)).mono ?_; rintro e w5 ⟨rfl, hB5⟩; have H5 := Aside0.mk (HI.out.step hB5); clear hB5)
          go_roundw
          case rel => exact ⟨i + 1, hlt, by rw [HT.out]; rfl, rfl, H5⟩
          case measure => simp [intOf]; omega
         | false =>
          rw [hd, if_neg (by decide)] at HT
          rw [hd] at HB1
          clear hd
          replace HT := Aside0.mk HT
          go_wp2_with (go_at_call 36; refine (HB1.out _ (Below.refl _ _)).mono ?_; rintro e w5 ⟨rfl, hB5⟩; have H5 := Aside0.mk (HI.out.step hB5); clear hB5)
          go_roundw
          case rel => exact ⟨i + 1, hlt, by rw [HT.out]; rfl, rfl, H5⟩
          case measure => simp [intOf]; omega
        ·have hdl : decide ((i : Int) < (n6 : Int)) = false := decide_eq_false (by omega)
         rw [List.take_of_length_le (by rw [hn6.out]; omega)] at hc
         subst hc
         have hk7 : wr.cell? ⟨g7, 2, none⟩ = some (.slice A6 n6 c6) := HI.out.cell 0 rfl 2 rfl
         have hle := HLEy.out
         obtain ⟨ay, hay⟩ : ∃ ay, ay = depN yl := ⟨_, rfl⟩
         rw [← hay] at hle ⊢
         clear hay HLEy
         have hdle : decide ((ay : Int) ≤ (c : Int)) = true := decide_eq_true (by omega)
         go_wp2_with (first
          | fail
          | ((with_reducible refine Gd 126 ?_); ( refine OU 92 [(0, .const (.int .u8 1)), (3, .const (.int .u64 1))] (msgA oneDep) rfl (builtOne) ?_))
          | (go_at_call 41; ( refine (HWR.out _).mono ?_; rintro e w6 ⟨Ab, cb, rfl, hcb, hO6⟩; have H6 := Aside0.mk (HI.out.call hO6); clear hO6))
          | (go_at_call 34; ( refine (HE0.out _ _ _ (H6.out.C_of 0 rfl) hcb).mono ?_; rintro e w7 ⟨Au, nu, cu, Av, nv, cv, rfl, hB7⟩; have H7 := Aside0.mk (H6.out.step hB7); have HQ : Aside0 (Arr 4 #[.slice Au nu cu, .int .i64 0, .slice Av nv cv, .int .u64 0]) := ⟨rfl, by simp [Value.oneCell']⟩; clear hB7))
          | ((with_reducible refine Gd 22 ?_); ( refine OA H7 73 #[.slice none 0 0, .int .i64 0, .slice none 0 0, .int .u64 0] 4 ?_; intro g22 w8 H8 B8))
          | ((with_reducible refine Gs 73 22 ?_); ( refine OS 22 134 H8 0 g22 73 #[.slice Au nu cu, .int .i64 0, .slice Av nv cv, .int .u64 0] 4 HZ HQ ?_; intro w9 H9))
          | (go_at_call 33; refine (HAN.out _).mono ?_; rintro e w10 ⟨rfl, hB10⟩; have H10 := Aside0.mk (H9.out.step hB10); clear hB10)
          )
         go_ret
         exact ⟨rfl, H10.out.below⟩
end Go.Proofs.Ytocphkfkdadhaaa.H

namespace Go.Proofs.Ytocphkfkdadhaaa.H
open Go.RowKit
set_option linter.unusedVariables false
set_option linter.unusedSimpArgs false
theorem o_byte : Opens 5 kB (fun n => (Lit.int .u8 n).wf = true) := opens_int Try.underlying5
theorem wf8 {z : Int} (h : (Lit.int .u8 z).wf = true) : 0 ≤ z ∧ z ≤ 255 := by
 simp [Lit.wf, IntKind.min, IntKind.max, IntKind.signed, IntKind.bits] at h
 omega
theorem OkInb.ql {y : List (Int × List Int) × Int × List (List Int) × Int} (h : OkInb y) : (boxOf y).q.length ≤ 4398046511100 := by
 have := h.1.2
 have e : (boxOf y).q.length = y.1.length := by simp [boxOf]
 omega
theorem OkInb.ll {y : List (Int × List Int) × Int × List (List Int) × Int} (h : OkInb y) : (boxOf y).l.length ≤ 5864062014800 := by
 have := h.2.2.1.2
 have e : (boxOf y).l.length = y.2.2.1.length := rfl
 omega
theorem OkInb.lm {y : List (Int × List Int) × Int × List (List Int) × Int} (h : OkInb y) : ∀ m ∈ (boxOf y).l, m.length ≤ 140737488351232 := fun m hm => by
 have := (h.2.2.1.1 m hm).2
 omega
end Go.Proofs.Ytocphkfkdadhaaa.H

namespace Go.Proofs.Ytocphkfkdadhaaa.H
open Go.RowKit Go.Proofs.YtocphkfkdadhaaaW.PrintWords Go.Proofs.YtocphkfkdadhaaaW.PrintLast Go.Proofs.YtocphkfkdadhaaaW.PrintMore
set_option linter.unusedVariables false
set_option linter.unusedSimpArgs false
abbrev kAq : Kd (Int × List Int × Int × Int) := Kd.pair (Kd.int .i64) (Kd.pair (Kd.slice 5 kB) (Kd.pair (Kd.int .u64) (Kd.int .u64)))
def OkAq (y : Int × List Int × Int × Int) : Prop := (Lit.int .i64 y.1).wf = true ∧ OkM y.2.1 ∧ (Lit.int .u64 y.2.2.1).wf = true ∧ (Lit.int .u64 y.2.2.2).wf = true
theorem oz_aq : OpensZ 76 kAq OkAq :=
 @fun H enc W fuel cs x hx hw => opensZ_struct Try.underlying76 (manyZ_cons oz_int (by kernel_rfl) (manyZ_cons oz_bytes (by kernel_rfl) (manyZ_cons oz_u64 (by kernel_rfl) (manyZ_one oz_u64 (by kernel_rfl))))) (by kernel_rfl) (by kernel_rfl) hx hw
theorem kAq_open {w : World} {cs : Array Value} {y : Int × List Int × Int × Int} (h : kAq.K w y cs.toList) :
 ∃ A c, cs = #[.int .i64 y.1, .slice A y.2.1.length c, .int .u64 y.2.2.1, .int .u64 y.2.2.2] ∧ y.2.1.length ≤ c ∧ Kd.C kB w A y.2.1.length y.2.1 := by
 obtain ⟨a1, r1, e1, h1, a2, r2, rfl, ⟨A, c, rfl, g, k⟩, a3, a4, rfl, h3, h4⟩ := h
 have h1 : a1 = [.int .i64 y.1] := h1
 have h3 : a3 = [.int .u64 y.2.2.1] := h3
 have h4 : a4 = [.int .u64 y.2.2.2] := h4
 subst h1 h3 h4
 refine ⟨A, c, ?_, g, k⟩
 apply Array.toList_inj.1
 rw [e1]
 rfl
theorem o_bytes : Opens 74 (Kd.slice 5 kB) (fun m => ∀ y ∈ m, (Lit.int .u8 y).wf = true) := opens_slice Try.underlying74 (by kernel_rfl) o_byte
theorem OkInb.q64 {y : List (Int × List Int) × Int × List (List Int) × Int} (h : OkInb y) : ∀ d ∈ (boxOf y).q, -9223372036854775808 ≤ d.f0 ∧ d.f0 ≤ 9223372036854775807 := fun d hd => by
 obtain ⟨p, hp, rfl⟩ := List.mem_map.1 hd
 have := (h.1.1 p hp).1
 simp [Lit.wf, IntKind.min, IntKind.max, IntKind.signed, IntKind.bits] at this
 exact ⟨by dsimp only; omega, by dsimp only; omega⟩
end Go.Proofs.Ytocphkfkdadhaaa.H

