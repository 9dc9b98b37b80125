import Derived.Test.YtocphkfkdadhaaaZPk17
import Derived.Test.YtocphkfkdadhaaaZPk8
import Derived.Test.YtocphkfkdadhaaaZPk10
import Derived.Test.YtocphkfkdadhaaaZPk14
import Derived.Test.YtocphkfkdadhaaaZPk16
import Derived.Test.YtocphkfkdadhaaaZPk2
import Derived.Test.YtocphkfkdadhaaaZPk15
set_option maxHeartbeats 16000000
set_option linter.unusedVariables false
set_option linter.unusedSimpArgs false
set_option maxRecDepth 100000
namespace Go.Proofs.Ytocphkfkdadhaaa.H
open Go.RowKit Go.Proofs.YtocphkfkdadhaaaW.PrintWords Go.Proofs.YtocphkfkdadhaaaW.PrintLast Go.Proofs.YtocphkfkdadhaaaW.PrintMore
theorem filter_take_succ (p : List Int → Bool) (ms : List (List Int)) (i : Nat) (h : i < ms.length) : (ms.take (i + 1)).filter p = (ms.take i).filter p ++ (if p ms[i] = true then [ms[i]] else []) := by
 rw [List.take_succ_eq_append_getElem h, List.filter_append]
 congr 1
 by_cases hp : p ms[i] = true
 ·rw [if_pos hp]; simp [hp]
 ·rw [if_neg hp]; simp [hp]
theorem rpost_any (x : Box) (b : List Int) (A1 A2 A3 : Option Addr) (c1 c2 c3 : Nat) (w : World) (hC1 : Kd.C kQ w A1 x.q.length x.q) (hc1 : x.q.length ≤ c1) (hC2 : Kd.C kL w A2 x.l.length x.l) (hc2 : x.l.length ≤ c2) (hC3 : Kd.C kB w A3 b.length b) (hc3 : b.length ≤ c3)
 (hb : ∀ y ∈ b, 0 ≤ y ∧ y ≤ 255) :
 Calls Try.prog 51 #[.agg #[.slice A1 x.q.length c1, .int .i64 x.tk, .slice A2 x.l.length c2, .int .u64 x.nx], .slice A3 b.length c3] w (BoxPost w (postI x b)) := by
 obtain ⟨q, tk, l, nx⟩ := x
 have H0 := Aside0.mk (Own.start w)
 have HMY := Aside0.mk (fun W hb => rmay20_any q tk l nx A1 A2 c1 c2 W (Kd.C_below hC1 hb) hc1 (Kd.C_below hC2 hb) hc2)
 have HCP := Aside0.mk (fun W (hb : Below w.heap.size w W) h1 h2 h3 h4 => rcopy_any q tk l nx A1 A2 c1 c2 W (Kd.C_below hC1 hb) hc1 (Kd.C_below hC2 hb) hc2 h1 h2 h3 h4)
 have HRB := Aside0.mk (fun W (h : Below w.heap.size w W) => rreadbatch_any b A3 c3 W hb (Kd.C_below hC3 h) hc3)
 rw [rbatchP_eq b hb] at HRB
 have HLN := Aside0.mk (fun h : mayI q tk l = true => mayI_len h)
 have HAL := Aside0.mk (fun h : mayI q tk l = true => mayI_all h)
 have HBO := Aside0.mk (batchP_ok b hb)
 have HBS := Aside0.mk (batchP_short b hb)
 obtain ⟨r, hr⟩ : ∃ r, r = postI ⟨q, tk, l, nx⟩ b := ⟨_, rfl⟩
 rw [← hr]
 unfold postI at hr
 dsimp only at hr
 dsimp only
 clear hC1 hC2 hC3 hc1 hc2 hc3 hb
 generalize batchP b = bt at *
 obtain ⟨⟨bn, t, ms⟩, er⟩ := bt
 dsimp only at hr HBO HBS
 have HR := Aside0.mk hr
 clear hr
 generalize hnn : q.length = n at *
 have HN := Aside0.mk hnn
 clear hnn
 generalize hmm : l.length = m at *
 have HM := Aside0.mk hmm
 clear hmm
 generalize b.length = nb at *
 obtain ⟨my, hmy⟩ : ∃ my, my = mayI q tk l := ⟨_, rfl⟩
 rw [← hmy] at HMY HLN HAL HR
 clear hmy
 have HZ : Aside0 (Arr 4 #[.slice none 0 0, .int .i64 0, .slice none 0 0, .int .u64 0]) := ⟨rfl, by simp [Value.oneCell']⟩
 have HZB := zB_one
 go_enter Try.func51, Try.ntmps51
 cases my
 case false =>
  obtain rfl : r = (zeroB, 2) := by rw [HR.out, if_neg (by decide)]
  clear HR
  go_wp2_with (first
   | fail
   | ((with_reducible refine Gd 2 ?_); go_loud ( refine OB H0 73 #[.slice A1 n c1, .int .i64 tk, .slice A2 m c2, .int .u64 nx] ?_; intro g2 w1 H1 B1))
   | ((with_reducible refine Gd 4 ?_); go_loud ( refine OA H1 73 #[.slice none 0 0, .int .i64 0, .slice none 0 0, .int .u64 0] 4 ?_; intro g4 w2 H2 B2))
   | ((with_reducible refine Gd 11 ?_); go_loud ( refine OV 2 H2 1 g2 73 rfl Try.underlying73 (by kernel_rfl) ?_))
   | (go_at_call 35; refine (HMY.out _ H2.out.below).mono ?_; rintro e w3 ⟨rfl, hB3⟩; have H3 := Aside0.mk (H2.out.step hB3); clear hB3)
   | ((with_reducible refine Gs 73 4 ?_); go_loud ( refine OS 4 14 H3 0 g4 73 #[.slice none 0 0, .int .i64 0, .slice none 0 0, .int .u64 0] 4 HZ HZ ?_; intro w4 H4))
   )
  refine bodyPost_ret (RVt H4 0 g4 Try.underlying73) rfl ?_
  exact ⟨_, _, rfl, ((((H4.out.erase 0).erase 0).null kL _).null kQ _)⟩
 case true =>
 replace HR := Aside0.mk (HR.out.trans (if_pos rfl))
 by_cases her : er = 0
 case neg =>
  have hne : (er != 0) = true := by simpa using her
  obtain rfl : r = (zeroB, er) := by rw [HR.out, if_neg her]
  clear HR her
  go_wp2_with (first
   | fail
   | ((with_reducible refine Gd 2 ?_); go_loud ( refine OB H0 73 #[.slice A1 n c1, .int .i64 tk, .slice A2 m c2, .int .u64 nx] ?_; intro g2 w1 H1 B1))
   | ((with_reducible refine Gd 4 ?_); go_loud ( refine OA H1 73 #[.slice none 0 0, .int .i64 0, .slice none 0 0, .int .u64 0] 4 ?_; intro g4 w2 H2 B2))
   | ((with_reducible refine Gd 11 ?_); go_loud ( refine OV 2 H2 1 g2 73 rfl Try.underlying73 (by kernel_rfl) ?_))
   | (go_at_call 35; refine (HMY.out _ H2.out.below).mono ?_; rintro e w3 ⟨rfl, hB3⟩; have H3 := Aside0.mk (H2.out.step hB3); clear hB3)
   | (go_at_call 56; refine (HRB.out _ H3.out.below).mono ?_; rintro e w4 ⟨vb, rfl, hO4⟩; obtain ⟨Ab, cb, rfl, hcb, _⟩ := hO4.reads 0 rfl; have H4 := Aside0.mk (H3.out.call hO4); clear hO4)
   | ((with_reducible refine Gd 6 ?_); go_loud ( refine OA H4 108 #[.int .u64 0, .int .u64 0, .slice none 0 0] 3 ?_; intro g6 w5 H5 B5))
   | ((with_reducible refine Gs 108 6 ?_); have HXB : Aside0 (Arr 3 #[.int .u64 bn, .int .u64 t, .slice Ab ms.length cb]) := ⟨rfl, by simp [Value.oneCell']⟩; refine OS 6 18 H5 0 g6 108 #[.int .u64 bn, .int .u64 t, .slice Ab ms.length cb] 3 HZB HXB ?_; intro w6 H6)
   | ((with_reducible refine Gs 73 4 ?_); go_loud ( refine OS 4 22 H6 2 g4 73 #[.slice none 0 0, .int .i64 0, .slice none 0 0, .int .u64 0] 4 HZ HZ ?_; intro w7 H7))
   )
  refine bodyPost_ret (RVt H7 2 g4 Try.underlying73) rfl ?_
  exact ⟨_, _, rfl, (((((H7.out.erase 3).erase 2).erase 0).erase 0).null kL _).null kQ _⟩
 case pos =>
 subst her
 replace HR := Aside0.mk (HR.out.trans (if_pos rfl))
 obtain ⟨hn1, hm1, ht0, htn⟩ := HLN.out rfl
 obtain ⟨hq0, hl0⟩ := HAL.out rfl
 obtain ⟨ti, rfl⟩ := Int.eq_ofNat_of_zero_le ht0
 obtain ⟨tn, rfl⟩ := Int.eq_ofNat_of_zero_le HBO.out.1
 replace htn : ti ≤ n := by omega
 have hw1 : IntKind.i64.wrap ((n : Int) - (ti : Int)) = ((n - ti : Nat) : Int) := by rw [IntWalk.i64_in _ (by omega)]; omega
 have hw2 : IntKind.u64.wrap ((n - ti : Nat) : Int) = ((n - ti : Nat) : Int) := IntWalk.u64_in _ (by omega)
 by_cases hbn : bn = nx
 case neg =>
  have hx : (bn != nx) = true := by simpa using hbn
  obtain rfl : r = (zeroB, 200) := by rw [HR.out, if_neg (by omega)]
  clear HR
  go_wp2_with (first
   | fail
   | ((with_reducible refine Gd 2 ?_); go_loud ( refine OB H0 73 (#[.slice A1 n c1, .int .i64 (ti : Int), .slice A2 m c2, .int .u64 nx]) ?_; intro g2 w1 H1 B1))
   | ((with_reducible refine Gd 4 ?_); go_loud ( refine OA H1 73 #[.slice none 0 0, .int .i64 0, .slice none 0 0, .int .u64 0] 4 ?_; intro g4 w2 H2 B2))
   | ((with_reducible refine Gd 11 ?_); go_loud ( refine OV 2 H2 1 g2 73 rfl Try.underlying73 (by kernel_rfl) ?_))
   | (go_at_call 35; refine (HMY.out _ H2.out.below).mono ?_; rintro e w3 ⟨rfl, hB3⟩; have H3 := Aside0.mk (H2.out.step hB3); clear hB3)
   | (go_at_call 56; refine (HRB.out _ H3.out.below).mono ?_; rintro e w4 ⟨vb, rfl, hO4⟩; obtain ⟨Ab, cb, rfl, hcb, _⟩ := hO4.reads 0 rfl; have H4 := Aside0.mk (H3.out.call hO4); clear hO4)
   | ((with_reducible refine Gd 6 ?_); go_loud ( refine OA H4 108 #[.int .u64 0, .int .u64 0, .slice none 0 0] 3 ?_; intro g6 w5 H5 B5))
   | ((with_reducible refine Gs 108 6 ?_); have HXB : Aside0 (Arr 3 #[.int .u64 bn, .int .u64 (tn : Int), .slice Ab ms.length cb]) := ⟨rfl, by simp [Value.oneCell']⟩; refine OS 6 18 H5 0 g6 108 #[.int .u64 bn, .int .u64 (tn : Int), .slice Ab ms.length cb] 3 HZB HXB ?_; intro w6 H6)
   | ((with_reducible refine Gd 25 ?_); go_loud ( refine OD 24 23 H6 0 g6 0 (.int .u64 bn) Try.underlying23 ?_))
   | ((with_reducible refine Gd 27 ?_); go_loud ( refine OD 26 23 H6 3 g2 3 (.int .u64 nx) Try.underlying23 ?_))
   | ((with_reducible refine Gd 31 ?_); go_loud ( refine GD 30 23 H6 0 g6 1 (.int .u64 (tn : Int)) Try.underlying23 ?_))
   | ((with_reducible refine Gd 33 ?_); go_loud ( refine GD 32 70 H6 3 g2 0 (.slice A1 n c1) Try.underlying70 ?_))
   | ((with_reducible refine Gd 36 ?_); go_loud ( refine GD 35 3 H6 3 g2 1 (.int .i64 (ti : Int)) Try.underlying3 ?_))
   | ((with_reducible refine Gs 73 4 ?_); go_loud ( refine OS 4 41 H6 2 g4 73 #[.slice none 0 0, .int .i64 0, .slice none 0 0, .int .u64 0] 4 HZ HZ ?_; intro w7 H7))
   )
  refine bodyPost_ret (RVt H7 2 g4 Try.underlying73) rfl ?_
  exact ⟨_, _, rfl, (((((H7.out.erase 3).erase 2).erase 0).erase 0).null kL _).null kQ _⟩
 case pos =>
 subst hbn
 have hx : (bn != bn) = false := by simp
 by_cases htt : tn ≤ n - ti
 case neg =>
  have hy : decide (((n - ti : Nat) : Int) < (tn : Int)) = true := decide_eq_true (by omega)
  obtain rfl : r = (zeroB, 200) := by rw [HR.out, if_neg (by omega)]
  clear HR
  go_wp2_with (first
   | fail
   | ((with_reducible refine Gd 2 ?_); go_loud ( refine OB H0 73 (#[.slice A1 n c1, .int .i64 (ti : Int), .slice A2 m c2, .int .u64 bn]) ?_; intro g2 w1 H1 B1))
   | ((with_reducible refine Gd 4 ?_); go_loud ( refine OA H1 73 #[.slice none 0 0, .int .i64 0, .slice none 0 0, .int .u64 0] 4 ?_; intro g4 w2 H2 B2))
   | ((with_reducible refine Gd 11 ?_); go_loud ( refine OV 2 H2 1 g2 73 rfl Try.underlying73 (by kernel_rfl) ?_))
   | (go_at_call 35; refine (HMY.out _ H2.out.below).mono ?_; rintro e w3 ⟨rfl, hB3⟩; have H3 := Aside0.mk (H2.out.step hB3); clear hB3)
   | (go_at_call 56; refine (HRB.out _ H3.out.below).mono ?_; rintro e w4 ⟨vb, rfl, hO4⟩; obtain ⟨Ab, cb, rfl, hcb, _⟩ := hO4.reads 0 rfl; have H4 := Aside0.mk (H3.out.call hO4); clear hO4)
   | ((with_reducible refine Gd 6 ?_); go_loud ( refine OA H4 108 #[.int .u64 0, .int .u64 0, .slice none 0 0] 3 ?_; intro g6 w5 H5 B5))
   | ((with_reducible refine Gs 108 6 ?_); have HXB : Aside0 (Arr 3 #[.int .u64 bn, .int .u64 (tn : Int), .slice Ab ms.length cb]) := ⟨rfl, by simp [Value.oneCell']⟩; refine OS 6 18 H5 0 g6 108 #[.int .u64 bn, .int .u64 (tn : Int), .slice Ab ms.length cb] 3 HZB HXB ?_; intro w6 H6)
   | ((with_reducible refine Gd 25 ?_); go_loud ( refine OD 24 23 H6 0 g6 0 (.int .u64 bn) Try.underlying23 ?_))
   | ((with_reducible refine Gd 27 ?_); go_loud ( refine OD 26 23 H6 3 g2 3 (.int .u64 bn) Try.underlying23 ?_))
   | ((with_reducible refine Gd 31 ?_); go_loud ( refine GD 30 23 H6 0 g6 1 (.int .u64 (tn : Int)) Try.underlying23 ?_))
   | ((with_reducible refine Gd 33 ?_); go_loud ( refine GD 32 70 H6 3 g2 0 (.slice A1 n c1) Try.underlying70 ?_))
   | ((with_reducible refine Gd 36 ?_); go_loud ( refine GD 35 3 H6 3 g2 1 (.int .i64 (ti : Int)) Try.underlying3 ?_))
   | ((with_reducible refine Gs 73 4 ?_); go_loud ( refine OS 4 41 H6 2 g4 73 #[.slice none 0 0, .int .i64 0, .slice none 0 0, .int .u64 0] 4 HZ HZ ?_; intro w7 H7))
   )
  refine bodyPost_ret (RVt H7 2 g4 Try.underlying73) rfl ?_
  exact ⟨_, _, rfl, (((((H7.out.erase 3).erase 2).erase 0).erase 0).null kL _).null kQ _⟩
 case pos =>
 have hy : decide (((n - ti : Nat) : Int) < (tn : Int)) = false := decide_eq_false (by omega)
 replace HR := Aside0.mk (HR.out.trans (if_pos ⟨rfl, by omega⟩))
 have HQM := Aside0.mk (fun (d : SQ) (hd : d ∈ q) => (show d.f1.length ≤ 1099511627776 by have := (hq0 d hd).2; omega))
 have HCP2 := Aside0.mk (fun W hb => HCP.out W hb (by omega) (by omega) (fun d hd => by have := (hq0 d hd).2; omega) (fun m hm => by have := hl0 m hm; omega))
 have HNB : Aside0 (q.length ≤ 1000000 ∧ l.length ≤ 1000000 ∧ m ≤ 4096 ∧ n ≤ 4096) := ⟨by have := HN.out; omega, by have := HM.out; omega, hm1, hn1⟩
 clear HAL HLN HCP hq0 hl0 ht0
 go_upto_region 9 with (first
  | fail
  | ((with_reducible refine Gd 2 ?_); go_loud ( refine OB H0 73 (#[.slice A1 n c1, .int .i64 (ti : Int), .slice A2 m c2, .int .u64 bn]) ?_; intro g2 w1 H1 B1))
  | ((with_reducible refine Gd 4 ?_); go_loud ( refine OA H1 73 #[.slice none 0 0, .int .i64 0, .slice none 0 0, .int .u64 0] 4 ?_; intro g4 w2 H2 B2))
  | ((with_reducible refine Gd 11 ?_); go_loud ( refine OV 2 H2 1 g2 73 rfl Try.underlying73 (by kernel_rfl) ?_))
  | (go_at_call 35; refine (HMY.out _ H2.out.below).mono ?_; rintro e w3 ⟨rfl, hB3⟩; have H3 := Aside0.mk (H2.out.step hB3); clear hB3)
  | (go_at_call 56; refine (HRB.out _ H3.out.below).mono ?_; rintro e w4 ⟨vb, rfl, hO4⟩; obtain ⟨Ab, cb, rfl, hcb, _⟩ := hO4.reads 0 rfl; have H4 := Aside0.mk (H3.out.call hO4); clear hO4)
  | ((with_reducible refine Gd 6 ?_); go_loud ( refine OA H4 108 #[.int .u64 0, .int .u64 0, .slice none 0 0] 3 ?_; intro g6 w5 H5 B5))
  | ((with_reducible refine Gs 108 6 ?_); have HXB : Aside0 (Arr 3 #[.int .u64 bn, .int .u64 (tn : Int), .slice Ab ms.length cb]) := ⟨rfl, by simp [Value.oneCell']⟩; refine OS 6 18 H5 0 g6 108 #[.int .u64 bn, .int .u64 (tn : Int), .slice Ab ms.length cb] 3 HZB HXB ?_; intro w6 H6)
  | ((with_reducible refine Gd 25 ?_); go_loud ( refine OD 24 23 H6 0 g6 0 (.int .u64 bn) Try.underlying23 ?_))
  | ((with_reducible refine Gd 27 ?_); go_loud ( refine OD 26 23 H6 3 g2 3 (.int .u64 bn) Try.underlying23 ?_))
  | ((with_reducible refine Gd 31 ?_); go_loud ( refine GD 30 23 H6 0 g6 1 (.int .u64 (tn : Int)) Try.underlying23 ?_))
  | ((with_reducible refine Gd 33 ?_); go_loud ( refine GD 32 70 H6 3 g2 0 (.slice A1 n c1) Try.underlying70 ?_))
  | ((with_reducible refine Gd 36 ?_); go_loud ( refine GD 35 3 H6 3 g2 1 (.int .i64 (ti : Int)) Try.underlying3 ?_))
  | ((with_reducible refine Gd 42 ?_); go_loud ( refine OV 2 H6 3 g2 73 rfl Try.underlying73 (by kernel_rfl) ?_))
  | (go_at_call 42; refine (HCP2.out _ H6.out.below).mono ?_; rintro e w7 ⟨A4, c4, A5, c5, rfl, hcl4, hcl5, hO7⟩; have H7 := Aside0.mk (H6.out.call hO7); have HA4 : Aside0 (Arr 4 #[.slice A4 n c4, .int .i64 (ti : Int), .slice A5 m c5, .int .u64 bn]) := ⟨rfl, by simp [Value.oneCell']⟩; clear hO7)
  | ((with_reducible refine Gd 8 ?_); go_loud ( refine OA H7 73 #[.slice none 0 0, .int .i64 0, .slice none 0 0, .int .u64 0] 4 ?_; intro g8 w8 H8 B8))
  | ((with_reducible refine Gs 73 8 ?_); go_loud ( refine OS 8 43 H8 0 g8 73 (#[.slice A4 n c4, .int .i64 (ti : Int), .slice A5 m c5, .int .u64 bn]) 4 HZ HA4 ?_; intro w9 H9))
  )
 have H10 : Aside0 (Own w.heap.size w w9 [.blk g8 #[.slice A4 n c4, .int .i64 ((ti + 0 : Nat) : Int), .slice A5 m c5, .int .u64 bn] 73, .row kQ 78 (.slice A4 n c4) q, .row kL 74 (.slice A5 m c5) (l ++ takenL q ti 0), .blk g6 #[.int .u64 bn, .int .u64 (tn : Int), .slice Ab ms.length cb] 108, .row kL 74 (.slice Ab ms.length cb) ms, .blk g4 #[.slice none 0 0, .int .i64 0, .slice none 0 0, .int .u64 0] 73, .blk g2 #[.slice A1 n c1, .int .i64 (ti : Int), .slice A2 m c2, .int .u64 bn] 73]) := ⟨by rw [show l ++ takenL q ti 0 = l by simp [takenL]]; exact H9.out⟩
 clear H0 H1 B1 H2 B2 H3 H4 H5 B5 H6 H7 H8 B8 H9 HA4 HCP2 HXB HMY HRB hcl5
 go_wp2_with fail
 go_loopw [9] (fun v9 wr => ∃ (i : Nat) (vl : Value), i ≤ tn ∧ v9 = .int .u64 (i : Int) ∧ Aside0 (Own w.heap.size w wr [.blk g8 #[.slice A4 n c4, .int .i64 ((ti + i : Nat) : Int), vl, .int .u64 bn] 73, .row kQ 78 (.slice A4 n c4) q, .row kL 74 vl (l ++ takenL q ti i), .blk g6 #[.int .u64 bn, .int .u64 (tn : Int), .slice Ab ms.length cb] 108, .row kL 74 (.slice Ab ms.length cb) ms, .blk g4 #[.slice none 0 0, .int .i64 0, .slice none 0 0, .int .u64 0] 73, .blk g2 #[.slice A1 n c1, .int .i64 (ti : Int), .slice A2 m c2, .int .u64 bn] 73])) (fun v9 _ => tn - (intOf v9).toNat)
 case atStart => exact ⟨0, _, Nat.zero_le _, rfl, H10⟩
 case round =>
  clear H10
  obtain ⟨i, vl, hi, rfl, HI⟩ := hrel
  have k1 : wr.cell? ⟨g6, 1, none⟩ = some (.int .u64 (tn : Int)) := HI.out.cell 3 rfl 1 rfl
  by_cases hlt : i < tn
  ·have hdl : decide (i < tn) = true := decide_eq_true hlt
   have hdl2 : decide ((i : Int) < (tn : Int)) = true := decide_eq_true (by omega)
   have hwi : IntKind.u64.wrap ((i : Int) + 1) = ((i + 1 : Nat) : Int) := by rw [IntWalk.u64_in _ (by omega)]; omega
   have hiq : ti + i < q.length := by rw [HN.out]; omega
   obtain ⟨gq, cap, he, _⟩ := HI.out.form 1 rfl (by omega)
   rw [HN.out] at he
   injection he with he he2 he3
   subst he he3
   have HTK : Aside0 (Calls Try.prog 93 #[.pointer (some ⟨g8, 0, none⟩)] wr fun e w' => e = .returned (.tuple #[]) ∧ ∃ vl', Own w.heap.size w w' [.blk g8 #[.slice (some ⟨gq, 0, none⟩) n c4, .int .i64 ((ti + (i + 1) : Nat) : Int), vl', .int .u64 bn] 73, .row kQ 78 (.slice (some ⟨gq, 0, none⟩) n c4) q, .row kL 74 vl' (l ++ takenL q ti (i + 1)), .blk g6 #[.int .u64 bn, .int .u64 (tn : Int), .slice Ab ms.length cb] 108, .row kL 74 (.slice Ab ms.length cb) ms, .blk g4 #[.slice none 0 0, .int .i64 0, .slice none 0 0, .int .u64 0] 73, .blk g2 #[.slice A1 n c1, .int .i64 (ti : Int), .slice A2 m c2, .int .u64 bn] 73]) := ⟨by
    have h := HI.out
    rw [takenL_snoc q ti i hiq, ← List.append_assoc]
    rw [← HN.out] at h hcl4 ⊢
    refine rtake_any q (ti + i) (l ++ takenL q ti i) bn g8 gq c4 _ h hcl4 hiq HNB.out.1 ?_ HQM.out
    have h2 : (takenL q ti i).length ≤ i := by unfold takenL; rw [List.length_map, List.length_take]; omega
    have := HM.out
    rw [List.length_append]
    omega⟩
   go_wp2_with (go_at_call 93; refine HTK.out.mono ?_; rintro e w5 ⟨rfl, vl', H5⟩; replace H5 := Aside0.mk H5)
   go_roundw
   case rel => exact ⟨i + 1, _, hlt, rfl, H5⟩
   case measure => simp [intOf]; omega
  ·have hdl : decide (i < tn) = false := decide_eq_false hlt
   have hdl2 : decide ((i : Int) < (tn : Int)) = false := decide_eq_false (by omega)
   obtain rfl : i = tn := by omega
   have HL0 : Aside0 ((l ++ takenL q ti i).length ≤ 8192) := ⟨by
    have := HNB.out.2.2.1
    have := HM.out
    have h2 : (takenL q ti i).length ≤ i := by unfold takenL; rw [List.length_map, List.length_take]; omega
    rw [List.length_append]; omega⟩
   replace HR : Aside0 (r = if (l ++ takenL q ti i ++ ms.filter (fun m => !depB m)).length ≤ 4096 then (⟨q, ((ti + i : Nat) : Int), l ++ takenL q ti i ++ ms.filter (fun m => !depB m), IntKind.u64.wrap (bn + 1)⟩, 0) else (zeroB, 4)) := ⟨HR.out⟩
   go_wp2_with fail
   generalize l ++ takenL q ti i = L0 at *
   have H11 : Aside0 (Own w.heap.size w wr [.blk g8 #[.slice A4 n c4, .int .i64 ((ti + i : Nat) : Int), vl, .int .u64 bn] 73, .row kQ 78 (.slice A4 n c4) q, .row kL 74 vl (L0 ++ (ms.take 0).filter (fun m => !depB m)), .blk g6 #[.int .u64 bn, .int .u64 (i : Int), .slice Ab ms.length cb] 108, .row kL 74 (.slice Ab ms.length cb) ms, .blk g4 #[.slice none 0 0, .int .i64 0, .slice none 0 0, .int .u64 0] 73, .blk g2 #[.slice A1 n c1, .int .i64 (ti : Int), .slice A2 m c2, .int .u64 bn] 73]) := ⟨by have h := HI.out; rw [List.take_zero, List.filter_nil, List.append_nil]; exact h⟩
   have HMB := Aside0.mk (fun (j : Nat) (h : j < ms.length) => (⟨HBO.out.2.1 _ (List.getElem_mem h), HBS.out _ (List.getElem_mem h)⟩ : K.Byt ms[j] ∧ ms[j].length ≤ 65536))
   have HFT := Aside0.mk (fun (j : Nat) (h : j < ms.length) => filter_take_succ (fun m => !depB m) ms j h)
   have HFE : Aside0 ((ms.take ms.length).filter (fun m => !depB m) = ms.filter (fun m => !depB m)) := ⟨by rw [List.take_length]⟩
   have HFL : Aside0 (∀ j, ((ms.take j).filter (fun m => !depB m)).length ≤ 4096) := ⟨fun j => by
    have h1 := List.length_filter_le (fun m => !depB m) (ms.take j)
    have h2 := List.length_take_le j ms
    have h3 := List.length_take_le' j ms
    have := HBO.out.2.2
    omega⟩
   have hms4 := HBO.out.2.2
   clear HI k1 HBO HBS
   obtain ⟨nm, hnm⟩ : ∃ nm, nm = ms.length := ⟨_, rfl⟩
   rw [← hnm] at H11 HFE hcb hms4 ⊢
   have HMN := Aside0.mk hnm
   clear hnm
   go_loopw [10] (fun v10 wr => ∃ (j : Nat) (vl : Value), j ≤ nm ∧ v10 = .int .i64 (j : Int) ∧ Aside0 (Own w.heap.size w wr [.blk g8 #[.slice A4 n c4, .int .i64 ((ti + i : Nat) : Int), vl, .int .u64 bn] 73, .row kQ 78 (.slice A4 n c4) q, .row kL 74 vl (L0 ++ (ms.take j).filter (fun m => !depB m)), .blk g6 #[.int .u64 bn, .int .u64 (i : Int), .slice Ab nm cb] 108, .row kL 74 (.slice Ab nm cb) ms, .blk g4 #[.slice none 0 0, .int .i64 0, .slice none 0 0, .int .u64 0] 73, .blk g2 #[.slice A1 n c1, .int .i64 (ti : Int), .slice A2 m c2, .int .u64 bn] 73])) (fun v10 _ => nm - (intOf v10).toNat)
   case atStart => exact ⟨0, _, Nat.zero_le _, rfl, H11⟩
   case round =>
    clear H11
    obtain ⟨j, vl, hj, rfl, HI⟩ := hrel
    have k2 : wr.cell? ⟨g6, 2, none⟩ = some (.slice Ab nm cb) := HI.out.cell 3 rfl 2 rfl
    by_cases hlt : j < nm
    ·have hdl : decide ((j : Int) < (nm : Int)) = true := decide_eq_true (by omega)
     have hwi : IntKind.i64.wrap ((j : Int) + 1) = ((j + 1 : Nat) : Int) := by rw [IntWalk.i64_in _ (by omega)]; omega
     have hib : (0 : Int) ≤ (j : Int) ∧ (j : Int) < (nm : Int) := by omega
     have hjq : j < ms.length := by rw [← HMN.out]; exact hlt
     obtain ⟨gb, cap, he, _⟩ := HI.out.form 4 rfl (by omega)
     rw [← HMN.out] at he
     injection he with he he2 he3
     subst he he3
     obtain ⟨cs, ⟨Ax, cx, rfl, hcx, hCx⟩, hcell⟩ := HI.out.cells_at 4 rfl j (List.getElem?_eq_getElem hjq)
     have kM0 : wr.cell? ⟨gb, j, none⟩ = some (.slice Ax ms[j].length cx) := by have h : wr.cell? ⟨gb, j * 1, none⟩ = _ := hcell 0 _ rfl; rwa [Nat.mul_one] at h
     obtain ⟨hmb, hms⟩ := HMB.out j hjq
     have HT := HFT.out j hjq
     have HBR := Aside0.mk (fun W (h : Below wr.heap.size wr W) => brings_any ms[j] Ax cx W hmb (Kd.C_below hCx h) hcx)
     have HCB := Aside0.mk (fun W (h : Below wr.heap.size wr W) => rcopyB_any ms[j] Ax cx W (Kd.C_below hCx h) hcx (by omega))
     clear hcell hCx hmb hms hcx
     have HFj := HFL.out j
     generalize ms[j] = msg at *
     generalize hnx : msg.length = nx at *
     clear hnx
     have HKM := Aside0.mk (fun W (hb : Below wr.heap.size wr W) => pw_cell_below hb kM0)
     cases hd : depB msg with
     | true =>
      rw [hd] at HBR
      rw [hd, if_neg (by decide), List.append_nil] at HT
      clear hd HCB HKM
      replace HT := Aside0.mk HT
      go_wp2_with (go_at_call 36; refine (HBR.out _ (Below.refl _ _)).mono ?_; rintro e w5 ⟨rfl, hB5⟩; have H5 := Aside0.mk (HI.out.step hB5); clear hB5)
      go_roundw
      case rel => exact ⟨j + 1, _, hlt, rfl, ⟨by rw [HT.out]; exact H5.out⟩⟩
      case measure => simp [intOf]; omega
     | false =>
      rw [hd] at HBR
      rw [hd, if_pos (by decide : (!false) = true)] at HT
      clear hd
      replace HT := Aside0.mk HT
      have HL1 : Aside0 ((L0 ++ (ms.take j).filter (fun m => !depB m)).length ≤ 20000) := ⟨by have := HL0.out; rw [List.length_append]; omega⟩
      clear HFj
      go_upto_region 17 with (go_at_call 36; refine (HBR.out _ (Below.refl _ _)).mono ?_; rintro e w5 ⟨rfl, hB5⟩; have H5 := Aside0.mk (HI.out.step hB5))
      have HD := Aside0.mk H5.out.drew
      have hBd : Below wr.heap.size wr w5.drew := below_drew hB5
      refine StS ((fun W => W.cell? ⟨g6, 2, none⟩ = some (.slice (some ⟨gb, 0, none⟩) nm cb))) ((fun W => W.cell? ⟨g8, 2, none⟩ = some vl ∧ W.cell? ⟨gb, j, none⟩ = some (.slice Ax nx cx))) [9] (by exact HD.out.cell 3 rfl 2 rfl) (by exact ⟨HD.out.cell 0 rfl 2 rfl, HKM.out _ hBd⟩) fun hHeld => ?_
      refine TkS 0 ?_
      refine TtS 1 [9, 10, 11] ?_
      refine TkS 2 ?_
      refine TkS 3 ?_
      refine TkS 4 ?_
      refine TkS 5 ?_
      refine TtS 6 [7, 8, 9, 10, 11] ?_
      clear kM0 k2 HI H5 hB5
      generalize w5.drew = wd at *
      refine RdS 7 fun K hK => ?_
      go_simp
      refine (HCB.out _ hBd).mono ?_
      rintro e w6 ⟨A6, c6, rfl, hc6, hO6⟩
      have hB6 := below_step hBd hO6.below
      have H6 := Aside0.mk (HD.out.call hO6)
      clear hO6 HD
      go_wp2_with fail
      refine AgS hK (HoldS.now (H6.out.cell 4 rfl 2 rfl) (⟨H6.out.cell 1 rfl 2 rfl, HKM.out _ hB6⟩)) fun hHeld => ?_
      clear hK K
      refine RdS 8 fun K hK => ?_
      have kA := HKM.out _ (below_alloc hB6 (.cells #[.slice A6 nx c6] 74))
      have kC : (w6.alloc (.cells #[.slice A6 nx c6] 74)).cell? ⟨g6, 2, none⟩ = some (.slice (some ⟨gb, 0, none⟩) nm cb) ∧ (w6.alloc (.cells #[.slice A6 nx c6] 74)).cell? ⟨g8, 2, none⟩ = some vl := ⟨(H6.out.alloc _).cell 4 rfl 2 rfl, (H6.out.alloc _).cell 1 rfl 2 rfl⟩
      refine step_of_run (W1 := w6.alloc (.cells #[.slice A6 nx c6] 74)) (v := .slice (some ⟨w6.heap.size, 0, none⟩) 1 1) (by rfl) (by first | (go_simp; done) | (go_simp; rfl)) ?_
      refine AgS hK (HoldS.now (kC.1) (⟨kC.2, kA⟩)) fun hHeld => ?_
      clear hK K
      clear kA kC
      refine RdS 9 fun K hK => ?_
      refine own_appendM_step kL kB (H6.out.bring 3 rfl) (by rfl) (.tmp 66) (.tmp 73) 71 (.slice none 0 0) 24 rfl Try.underlying71 PRF.info74 rfl (show 0 < 1 by decide) (by decide) msg [.slice A6 nx c6] rfl rfl (fun W ok h => ⟨_, rfl, h⟩) (by have := HL1.out; omega) ?_
      intro v8 w8 H8
      rw [List.append_assoc, ← HT.out] at H8
      obtain ⟨A8, c8, hv8, _, _⟩ := H8.reads 0 rfl
      obtain ⟨n8, hn8⟩ : ∃ n8, n8 = (L0 ++ (ms.take (j + 1)).filter (fun m => !depB m)).length := ⟨_, rfl⟩
      rw [← hn8] at hv8
      clear hn8
      subst hv8
      replace H8 := Aside0.mk H8
      have k8 : w8.cell? ⟨g8, 2, none⟩ = some vl ∧ w8.frozen? ⟨g8, 2, none⟩ = false := ⟨H8.out.cell 1 rfl 2 rfl, H8.out.fz 1 rfl 2⟩
      refine AgS hK (Pst (H8.out.cell 3 rfl 2 rfl)) fun hHeld => ?_
      clear hK K
      refine TkS 10 ?_
      have HP := Aside0.mk (H8.out.put 1 rfl 2 (.slice A8 n8 c8) rfl)
      refine RdS 11 fun K hK => ?_
      go_simp
      refine AgS hK (Pst (HP.out.cell 3 rfl 2 rfl)) fun hHeld => ?_
      clear hK K
      refine DnS ?_
      generalize w8.setCell ⟨g8, 2, none⟩ (.slice A8 n8 c8) = w9 at *
      go_wp2_with fail
      go_roundw
      case rel => exact ⟨j + 1, _, hlt, rfl, ⟨(HP.out.bring 2 rfl).bring 2 rfl⟩⟩
      case measure => simp [intOf]; omega
    ·have hdl : decide ((j : Int) < (nm : Int)) = false := decide_eq_false (by omega)
     obtain rfl : j = nm := by omega
     rw [HFE.out] at HI
     obtain ⟨L1, hL1⟩ : ∃ L1, L1 = L0 ++ ms.filter (fun m => !depB m) := ⟨_, rfl⟩
     rw [← hL1] at HI HR
     clear hL1
     obtain ⟨A6, c6, hv6, hcl6, _⟩ := HI.out.reads 2 rfl
     obtain ⟨n6, hn6⟩ : ∃ n6, n6 = L1.length := ⟨_, rfl⟩
     rw [← hn6] at hv6 HR
     subst hv6
     clear hn6
     have k8 : wr.cell? ⟨g8, 2, none⟩ = some (.slice A6 n6 c6) := HI.out.cell 0 rfl 2 rfl
     by_cases hlen : n6 ≤ 4096
     ·have hd : decide ((4096 : Int) < (n6 : Int)) = false := decide_eq_false (by omega)
      have hd2 : decide (4096 < n6) = false := decide_eq_false (by omega)
      obtain rfl : r = (⟨q, ((ti + i : Nat) : Int), L1, IntKind.u64.wrap (bn + 1)⟩, 0) := by rw [HR.out, if_pos hlen]
      clear HR
      have HAE : Aside0 (Arr 4 #[.slice A4 n c4, .int .i64 ((ti + i : Nat) : Int), .slice A6 n6 c6, .int .u64 (IntKind.u64.wrap (bn + 1))]) := ⟨rfl, by simp [Value.oneCell']⟩
      go_wp2_with (first
       | fail
       | ((with_reducible refine Gd 82 ?_); go_loud ( refine OD 81 23 HI 0 g8 3 (.int .u64 bn) Try.underlying23 ?_))
       | ((with_reducible refine Gs 23 84 ?_); go_loud ( refine OT1 84 23 HI 0 g8 73 3 (.int .u64 (IntKind.u64.wrap (bn + 1))) (#[.slice A4 n c4, .int .i64 ((ti + i : Nat) : Int), .slice A6 n6 c6, .int .u64 (IntKind.u64.wrap (bn + 1))]) rfl (by simp) ?_; intro w12 H12))
       | ((with_reducible refine Gd 85 ?_); go_loud ( refine OV 8 H12 0 g8 73 rfl Try.underlying73 (by kernel_rfl) ?_))
       | ((with_reducible refine Gs 73 4 ?_); go_loud ( refine OS 4 85 H12 5 g4 73 (#[.slice A4 n c4, .int .i64 ((ti + i : Nat) : Int), .slice A6 n6 c6, .int .u64 (IntKind.u64.wrap (bn + 1))]) 4 HZ HAE ?_; intro w13 H13))
       )
      refine bodyPost_ret (RVt H13 5 g4 Try.underlying73) rfl ?_
      exact ⟨_, _, rfl, (((((H13.out.erase 6).erase 5).erase 4).erase 3).erase 0)⟩
     ·have hd : decide ((4096 : Int) < (n6 : Int)) = true := decide_eq_true (by omega)
      have hd2 : decide (4096 < n6) = true := decide_eq_true (by omega)
      obtain rfl : r = (zeroB, 4) := by rw [HR.out, if_neg hlen]
      clear HR
      go_wp2_with (first
       | fail
       | ((with_reducible refine Gs 73 4 ?_); go_loud ( refine OS 4 80 HI 5 g4 73 #[.slice none 0 0, .int .i64 0, .slice none 0 0, .int .u64 0] 4 HZ HZ ?_; intro w12 H12))
       )
      refine bodyPost_ret (RVt H12 5 g4 Try.underlying73) rfl ?_
      exact ⟨_, _, rfl, (((((((((H12.out.erase 6).erase 5).erase 4).erase 3).erase 2).erase 1).erase 0).null kL _).null kQ _)⟩
end Go.Proofs.Ytocphkfkdadhaaa.H
namespace Go.Proofs.Ytocphkfkdadhaaa.H
def depN (l : List (List Int)) : Nat := (l.filter fun m => depB m).length
theorem depN_append (a b : List (List Int)) : depN (a ++ b) = depN a + depN b := by unfold depN; rw [List.filter_append, List.length_append]
def waitN (q : List SQ) (tk : Nat) : Nat := depN ((q.drop tk).map fun d => d.f1)
def totN (x : Box) : Nat := depN x.l + waitN x.q x.tk.toNat
theorem wait_split (q : List SQ) (tk n : Nat) : waitN q tk = depN (takenL q tk n) + waitN q (tk + n) := by
 unfold waitN takenL
 rw [← depN_append, ← List.map_append, ← List.drop_drop, List.take_append_drop]
theorem depN_kept (ms : List (List Int)) : depN (ms.filter fun m => !depB m) = 0 := by
 unfold depN
 rw [List.length_eq_zero_iff, List.filter_eq_nil_iff]
 intro m hm
 have := (List.mem_filter.1 hm).2
 simpa using this
theorem post_tot (y : Box) (b : List Int) (hb : K.Byt b) (h0 : (postI y b).2 = 0) : totN (postI y b).1 = totN y ∧ mayI y.q y.tk y.l = true := by
 obtain ⟨q, tk, l, nx⟩ := y
 have hok := batchP_ok b hb
 unfold postI at h0 ⊢
 dsimp only at h0 ⊢
 by_cases hm : mayI q tk l = true
 case neg => rw [if_neg hm] at h0; cases h0
 rw [if_pos hm] at h0 ⊢
 generalize batchP b = bt at *
 obtain ⟨⟨n, t, ms⟩, e⟩ := bt
 dsimp only at h0 hok ⊢
 by_cases he : e = 0
 case neg => rw [if_neg he] at h0; exact absurd h0 he
 rw [if_pos he] at h0 ⊢
 by_cases hn : n = nx ∧ t ≤ (q.length : Int) - tk
 case neg => rw [if_neg hn] at h0; cases h0
 rw [if_pos hn] at h0 ⊢
 by_cases hl : (l ++ takenL q tk.toNat t.toNat ++ ms.filter fun m => !depB m).length ≤ 4096
 case neg => rw [if_neg hl] at h0; cases h0
 rw [if_pos hl]
 obtain ⟨m1, m2, m3, m4, m5, m6⟩ := mayI_iff.1 hm
 refine ⟨?_, hm⟩
 unfold totN
 dsimp only
 rw [depN_append, depN_append, depN_kept, wait_split q tk.toNat t.toNat, show (tk + t).toNat = tk.toNat + t.toNat by omega]
 omega
def DepI (x y : Box) : Prop := y = x ∨ (mayI x.q x.tk x.l = true ∧ totN y = totN x)
structure GoodB (x : Box) : Prop where
 qb : ∀ d ∈ x.q, K.Byt d.f1
 lb : ∀ z ∈ x.l, K.Byt z
 q64 : ∀ d ∈ x.q, d.f0 ≤ 9223372036854775807
theorem post_good (y : Box) (b : List Int) (hy : GoodB y) (hb : K.Byt b) (h0 : (postI y b).2 = 0) : GoodB (postI y b).1 := by
 obtain ⟨q, tk, l, nx⟩ := y
 have hok := batchP_ok b hb
 unfold postI at h0 ⊢
 dsimp only at h0 ⊢
 by_cases hm : mayI q tk l = true
 case neg => rw [if_neg hm] at h0; cases h0
 rw [if_pos hm] at h0 ⊢
 generalize batchP b = bt at *
 obtain ⟨⟨n, t, ms⟩, e⟩ := bt
 dsimp only at h0 hok ⊢
 by_cases he : e = 0
 case neg => rw [if_neg he] at h0; exact absurd h0 he
 rw [if_pos he] at h0 ⊢
 by_cases hn : n = nx ∧ t ≤ (q.length : Int) - tk
 case neg => rw [if_neg hn] at h0; cases h0
 rw [if_pos hn] at h0 ⊢
 by_cases hl : (l ++ takenL q tk.toNat t.toNat ++ ms.filter fun m => !depB m).length ≤ 4096
 case neg => rw [if_neg hl] at h0; cases h0
 rw [if_pos hl]
 refine ⟨hy.qb, fun z hz => ?_, hy.q64⟩
 rcases List.mem_append.1 hz with hz | hz
 ·rcases List.mem_append.1 hz with hz | hz
  ·exact hy.lb z hz
  ·exact takenL_byt hy.qb z hz
 ·exact hok.2.1 z (List.mem_filter.1 hz).1
theorem tickG_byt (q : List SQ) (B : Int) (hq : ∀ d ∈ q, K.Byt d.f1) : ∀ (f tk : Nat) (l : List (List Int)), (∀ z ∈ l, K.Byt z) → ∀ z ∈ (tickG q B f tk l).2, K.Byt z
 | 0, tk, l, hl => hl
 | f + 1, tk, l, hl => by
  by_cases hlt : tk < q.length
  ·by_cases hc : l.length < 4096 ∧ q[tk].f0 + 8 ≤ B
   ·rw [tickG_go hlt hc.1 hc.2]
    refine tickG_byt q B hq f (tk + 1) _ fun z hz => ?_
    rcases List.mem_append.1 hz with hz | hz
    ·exact hl z hz
    ·rw [List.mem_singleton.1 hz]; exact hq _ (List.getElem_mem hlt)
   ·rw [tickG_stop hlt hc]; exact hl
  ·rw [tickG, dif_neg hlt]; exact hl
structure RunI (x y : Box) : Prop where
 dep : DepI x y
 good : GoodB y
structure NiceB (r : Box) : Prop where
 b : BytB r
 q : r.q.length ≤ 4611686018427387904
 l : r.l.length ≤ 4611686018427387904
theorem nice_zero : NiceB zeroB := ⟨⟨fun _ h => (by cases h), fun _ h => (by cases h)⟩, by decide, by decide⟩
theorem GoodB.byt {x : Box} (h : GoodB x) : BytB x := ⟨h.qb, h.lb⟩
theorem queue_nice (x : Box) (blk : Int) (m : List Int) (hx : BytB x) (hm : K.Byt m) (hl : x.l.length ≤ 4096) : NiceB (queueI x blk m).1 := by
 unfold queueI
 split
 ·rename_i h
  refine ⟨⟨fun d hd => ?_, hx.2⟩, by simp only [List.length_append, List.length_cons, List.length_nil]; omega, by show x.l.length ≤ _; omega⟩
  rcases List.mem_append.1 hd with hd | hd
  ·exact hx.1 d hd
  ·rw [List.mem_singleton.1 hd]; exact hm
 ·exact nice_zero
theorem wait_nice (x : Box) (blk : Int) (m : List Int) (hx : BytB x) (hm : K.Byt m) : NiceB (waitI x blk m).1 := by
 unfold waitI
 split
 ·rename_i h
  rw [Bool.and_eq_true] at h
  exact queue_nice x blk m hx hm (mayI_len (sinceI_may h.1).1).2.1
 ·exact nice_zero
theorem enq_nice (x : Box) (blk : Int) (m : List Int) (hx : BytB x) (hm : K.Byt m) : NiceB (enqI x blk m).1 := by
 rw [enqI_wait]
 split
 ·exact nice_zero
 ·exact wait_nice x blk m hx hm
theorem bytesOf_byt (ws : List Nat) : K.Byt (bytesOf ws) := fun z hz => by
 obtain ⟨i, hi, rfl⟩ := List.mem_iff_getElem.1 hz
 have hl := bytesOf_len ws
 have h := bytesOf_at ws i (by omega)
 rw [List.getElem?_eq_getElem hi] at h
 injection h with h
 rw [h]
 have := Nat.mod_lt (ws[i / 8]'(by omega) / 2 ^ (56 - 8 * (i % 8))) (show 0 < 256 by decide)
 omega
theorem writeM_byt (m : MsgI) (hm : m.ok) : K.Byt (writeM m) := fun z hz => by
 unfold writeM at hz
 rcases List.mem_append.1 hz with hz | hz
 ·exact bytesOf_byt _ z hz
 ·rcases List.mem_append.1 hz with hz | hz
  ·exact hm.ky.2 z hz
  ·exact hm.nx.2 z hz
theorem dep_nice (x : Box) (blk dto am : Int) (hx : BytB x) (h1 : 0 ≤ dto ∧ dto ≤ 18446744073709551615) (h2 : 0 ≤ am ∧ am ≤ 18446744073709551615) : NiceB (depI x blk dto am).1 := by
 unfold depI
 split
 ·exact wait_nice x blk _ hx (writeM_byt _ (depMsg_ok h1 h2))
 ·exact nice_zero
theorem post_nice (y : Box) (b : List Int) (hy : BytB y) (hb : K.Byt b) : NiceB (postI y b).1 := by
 obtain ⟨q, tk, l, nx⟩ := y
 have hok := batchP_ok b hb
 unfold postI
 dsimp only
 generalize batchP b = bt at *
 obtain ⟨⟨n, t, ms⟩, e⟩ := bt
 dsimp only at hok ⊢
 split
 ·rename_i hm
  split
  ·split
   ·split
    ·rename_i hl
     refine ⟨⟨hy.1, fun z hz => ?_⟩, by have := (mayI_len hm).1; show q.length ≤ _; omega, Nat.le_trans hl (by decide)⟩
     rcases List.mem_append.1 hz with hz | hz
     ·rcases List.mem_append.1 hz with hz | hz
      ·exact hy.2 z hz
      ·exact takenL_byt hy.1 z hz
     ·exact hok.2.1 z (List.mem_filter.1 hz).1
    ·exact nice_zero
   ·exact nice_zero
  ·exact nice_zero
 ·exact nice_zero
theorem tickG_len (q : List SQ) (B : Int) : ∀ (f tk : Nat) (l : List (List Int)), l.length ≤ 4096 → (tickG q B f tk l).2.length ≤ 4096
 | 0, tk, l, hl => hl
 | f + 1, tk, l, hl => by
  by_cases hlt : tk < q.length
  ·by_cases hc : l.length < 4096 ∧ q[tk].f0 + 8 ≤ B
   ·rw [tickG_go hlt hc.1 hc.2]
    exact tickG_len q B f (tk + 1) _ (by rw [List.length_append]; simp; omega)
   ·rw [tickG_stop hlt hc]; exact hl
  ·rw [tickG, dif_neg hlt]; exact hl
theorem tick_nice (y : Box) (B : Int) (hy : BytB y) : NiceB (tickI y B).1 := by
 unfold tickI
 split
 ·rename_i h
  rw [Bool.and_eq_true] at h
  obtain ⟨h1, h2, _⟩ := mayI_len h.1
  exact ⟨⟨hy.1, tickG_byt _ _ hy.1 _ _ _ hy.2⟩, by show y.q.length ≤ _; omega, Nat.le_trans (tickG_len _ _ _ _ _ h2) (by decide)⟩
 ·exact nice_zero
end Go.Proofs.Ytocphkfkdadhaaa.H
namespace Go.Proofs.Ytocphkfkdadhaaa.H
open Go.RowKit Go.Proofs.YtocphkfkdadhaaaW.PrintWords Go.Proofs.YtocphkfkdadhaaaW.PrintLast Go.Proofs.YtocphkfkdadhaaaW.PrintMore
open Go.ChangeShapes Go.WideShapes Go.ChangeAt
def Lt (ns : List Nat) : Prop := ∀ n ∈ ns, n ≤ 140737488351232
def OpensZ {α : Type} (T : TypeId) (d : Kd α) (ok : α → Prop) : Prop :=
 ∀ {H : Type} {enc : TypeId × Value → H} {W : World} {fuel : Nat} {cs : List Value} {x : DataW H × List MemPlace}, DataW.trod enc Try.prog W 0 (fun _ => true) true fuel T cs = some x → Lt (x.1.weights Try.prog T) → ∃ y, d.K W y cs ∧ ok y
theorem OpensZ.of {α : Type} {T : TypeId} {d : Kd α} {ok : α → Prop} (h : Opens T d ok) : OpensZ T d ok := fun hx _ => h hx
theorem weights_mem_all {H : Type} {P : Program} {e : TypeId} : ∀ {es : List (DataW H)} {i : Nat} {d : DataW H}, es[i]? = some d → ∀ n ∈ d.weights P e, n ∈ DataW.weightsAll P e es
 | [], i, d, h, _, _ => by simp at h
 | x :: es, 0, d, h, n, hn => by
  simp only [List.getElem?_cons_zero, Option.some.injEq] at h
  subst h
  simp only [DataW.weightsAll, List.mem_append]
  exact Or.inl hn
 | x :: es, i + 1, d, h, n, hn => by
  simp only [List.getElem?_cons_succ] at h
  simp only [DataW.weightsAll, List.mem_append]
  exact Or.inr (weights_mem_all h n hn)
theorem opensZ_slice {α : Type} {T e : TypeId} {d : Kd α} {ok : α → Prop} (hT : Try.prog.underlying T = some (.slice e)) (hs : Try.prog.cellsOf e = d.sz) (he : OpensZ e d ok) :
 OpensZ T (Kd.slice e d) (fun l => (∀ y ∈ l, ok y) ∧ l.length * Try.prog.bytesOf e ≤ 140737488351232) := by
 intro H enc W fuel cs x h hw
 rcases DataW.trod_slice hT h with ⟨hc2, hx⟩ | ⟨a, len, cap, elems, rest, m, hm, hc2, hx, _, hlc, hcm, hle, hel, _, _⟩
 ·exact ⟨[], ⟨none, 0, hc2, Nat.le_refl _, Kd.C_nil _ _⟩, by simp, by simp⟩
 ·rw [hs] at hel
  have hwx : x.1.weights Try.prog T = (((elems.map (·.1)).length + (rest.map (·.1)).length) * Try.prog.bytesOf e) :: (DataW.weightsAll Try.prog e (elems.map (·.1)) ++ DataW.weightsAll Try.prog e (rest.map (·.1))) := by
   rw [hx]
   simp only [DataW.weights, hT]
  rw [hwx] at hw
  have each : ∀ i, i < len → ∃ y : α, (∃ c, c.length = d.sz ∧ d.K W y c ∧ ∀ j u, c[j]? = some u → W.cell? (a.add (i * d.sz + j)) = some u) ∧ ok y := by
   intro i hi
   have h3 := hel i hi
   rw [List.getElem?_eq_getElem (by omega), Option.bind_eq_some_iff] at h3
   obtain ⟨c, hc, ht⟩ := h3
   obtain ⟨y, hK, hBy⟩ := he ht (fun n hn => hw n (List.mem_cons_of_mem _ (List.mem_append_left _ (weights_mem_all (i := i) (by rw [List.getElem?_map, List.getElem?_eq_getElem (by omega)]; rfl) n hn))))
   obtain ⟨_, hcl, hcc⟩ := World.cells?_some hc
   refine ⟨y, ⟨c, hcl, hK, fun j u hj => ?_⟩, hBy⟩
   have hj3 : j < d.sz := by have := (List.getElem?_eq_some_iff.1 hj).1; omega
   rw [← hj, ← hcc j hj3, Addr.add_add]
  obtain ⟨ys, hyl, hys⟩ := choose_list _ len each
  subst hyl
  refine ⟨ys, ⟨some a, cap, hc2, hlc, rfl, ?_, fun _ => ⟨a, rfl, fun j p hj => (hys j p hj).1⟩⟩, ?_, ?_⟩
  ·have : maxLen ≤ 9223372036854775807 := by decide
   show ys.length ≤ 9223372036854775807
   omega
  ·intro y hy
   obtain ⟨i, hi⟩ := List.getElem?_of_mem hy
   exact (hys i y hi).2
  ·have h1 := hw _ (List.mem_cons_self)
   rw [List.length_map, hle] at h1
   exact Nat.le_trans (Nat.mul_le_mul_right _ (Nat.le_add_right _ _)) h1
def ManyZ {α : Type} (ts : List TypeId) (d : Kd α) (ok : α → Prop) : Prop :=
 ∀ {H : Type} {enc : TypeId × Value → H} {W : World} {n : Nat} {cs : List Value}, cs.length = d.sz → (∀ i t, ts[i]? = some t → ∃ x : DataW H × List MemPlace, DataW.trod enc Try.prog W 0 (fun _ => true) true n t ((cs.drop (offs ts i)).take (Try.prog.cellsOf t)) = some x ∧ Lt (x.1.weights Try.prog t)) → ∃ y, d.K W y cs ∧ ok y
theorem manyZ_one {α : Type} {T : TypeId} {d : Kd α} {ok : α → Prop} (h : OpensZ T d ok) (hs : Try.prog.cellsOf T = d.sz) : ManyZ [T] d ok := by
 intro H enc W n cs hl hf
 obtain ⟨x, hx, hw⟩ := hf 0 T rfl
 rw [show offs [T] 0 = 0 from rfl, List.drop_zero, List.take_of_length_le (by omega)] at hx
 exact h hx hw
theorem manyZ_cons {α β : Type} {T : TypeId} {ts : List TypeId} {a : Kd α} {b : Kd β} {ok1 : α → Prop} {ok2 : β → Prop} (h : OpensZ T a ok1) (hs : Try.prog.cellsOf T = a.sz) (hm : ManyZ ts b ok2) : ManyZ (T :: ts) (Kd.pair a b) (fun y => ok1 y.1 ∧ ok2 y.2) := by
 intro H enc W n cs hl hf
 have hl' : cs.length = a.sz + b.sz := hl
 obtain ⟨x, hx, hw⟩ := hf 0 T rfl
 rw [show offs (T :: ts) 0 = 0 from rfl, List.drop_zero, hs] at hx
 obtain ⟨y1, hK1, ho1⟩ := h hx hw
 obtain ⟨y2, hK2, ho2⟩ := hm (cs := cs.drop a.sz) (by rw [List.length_drop]; omega) (fun i t ht => by
  obtain ⟨x, hx, hw⟩ := hf (i + 1) t (by simpa using ht)
  refine ⟨x, ?_, hw⟩
  rw [show offs (T :: ts) (i + 1) = Try.prog.cellsOf T + offs ts i from rfl, hs, ← List.drop_drop] at hx
  exact hx)
 exact ⟨(y1, y2), ⟨cs.take a.sz, cs.drop a.sz, (List.take_append_drop _ _).symm, hK1, hK2⟩, ho1, ho2⟩
theorem opensZ_struct {α : Type} {T : TypeId} {fs : Array Field} {ts : List TypeId} {d : Kd α} {ok : α → Prop} (hT : Try.prog.underlying T = some (.struct fs)) (hm : ManyZ ts d ok) (hsz : Try.prog.cellsOf T = d.sz)
 (hts : (List.range ts.length).map (fun i => (fs[i]?).map fun f => (f.type, f.offset)) = (List.range ts.length).map (fun i => (ts[i]?).map fun t => (t, offs ts i))) : OpensZ T d ok := by
 intro H enc W fuel cs x h hw
 obtain ⟨xs, n, hfu, hx, hl, hlen, hf⟩ := DataW.trod_struct hT h
 have hwx : x.1.weights Try.prog T = DataW.weightsEach Try.prog (fs.toList.map (·.type)) (xs.map (·.1)) := by
  rw [hx]
  simp only [DataW.weights, hT]
 rw [hwx] at hw
 refine hm (H := H) (enc := enc) (W := W) (n := n) (by rw [hl, hsz]) (fun i t ht => ?_)
 have hi := (List.getElem?_eq_some_iff.1 ht).1
 have h1 := congrArg (fun l => l[i]?) hts
 simp only [List.getElem?_map, List.getElem?_range hi, Option.map_some, ht] at h1
 have h2 := Option.some.inj h1
 obtain ⟨f, hfe, hfo⟩ := Option.map_eq_some_iff.1 h2
 simp only [Prod.mk.injEq] at hfo
 have h3 := hf i f hfe
 have hfi : i < fs.size := (Array.getElem?_eq_some_iff.1 hfe).1
 rw [List.getElem?_eq_getElem (by omega)] at h3
 rw [hfo.1, hfo.2] at h3
 refine ⟨_, h3, fun m hm' => hw m (DataW.weights_mem_each (j := i) (t := t) (d := (xs[i]'(by omega)).1) ?_ ?_ m hm')⟩
 ·rw [List.getElem?_map, Array.getElem?_toList, hfe, Option.map_some, hfo.1]
 ·rw [List.getElem?_map, List.getElem?_eq_getElem (by omega)]; rfl
theorem open_aggZ {α : Type} {T : TypeId} {fs : Array Field} {d : Kd α} {ok : α → Prop} (hT : Try.prog.underlying T = some (.struct fs)) (ho : OpensZ T d ok) {H : Type} {enc : TypeId × Value → H} {W : World} {r : Reach} {b0 : Nat} {v : Value} {x : DataW H} {p : List MemPlace}
 (hv : Value.okWide Try.prog W r b0 T v) (h : DataW.Trod enc Try.prog W 0 (fun _ => true) true T v x p) {ts : List TypeId} {ds : List (DataW H)} {j : Nat} (hsz : (DataW.weightsEach Try.prog ts ds).all (· ≤ reachBytes) = true) (ht : ts[j]? = some T) (hd : ds[j]? = some x) :
 ∃ (cs : Array Value) (y : α), v = .agg cs ∧ d.K W y cs.toList ∧ ok y := by
 obtain ⟨cs, rfl, hsz2⟩ := okWide_struct hT hv
 obtain ⟨fuel, hf⟩ := h
 obtain ⟨y, hK, hB⟩ := ho hf (fun n hn => by
  have := List.all_eq_true.1 hsz n (DataW.weights_mem_each ht hd n hn)
  have h6 : reachBytes = 140737488351232 := rfl
  rw [h6] at this
  simpa using this)
 exact ⟨cs, y, rfl, hK, hB⟩
end Go.Proofs.Ytocphkfkdadhaaa.H
namespace Go.Proofs.Ytocphkfkdadhaaa.H
open Go.RowKit Go.Proofs.YtocphkfkdadhaaaW.PrintWords Go.Proofs.YtocphkfkdadhaaaW.PrintLast Go.Proofs.YtocphkfkdadhaaaW.PrintMore
theorem C_map {α β : Type} {d : Kd α} {d' : Kd β} {f : α → β} {w : World} {A : Option Addr} {n : Nat} {xs : List α} (hs : d.sz = d'.sz) (hK : ∀ x cs, d.K w x cs → d'.K w (f x) cs) (h : Kd.C d w A n xs) : Kd.C d' w A n (xs.map f) := by
 obtain ⟨h1, h2, h3⟩ := h
 refine ⟨by rw [List.length_map]; exact h1, h2, fun hp => ?_⟩
 obtain ⟨ad, e, hc⟩ := h3 hp
 refine ⟨ad, e, fun j p hj => ?_⟩
 rw [List.getElem?_map] at hj
 obtain ⟨x, hx, rfl⟩ := Option.map_eq_some_iff.1 hj
 obtain ⟨c, k1, k2, k3⟩ := hc j x hx
 exact ⟨c, by rw [← hs]; exact k1, hK _ _ k2, by rw [← hs]; exact k3⟩
theorem oz_u8 : OpensZ 5 kB (fun n => (Lit.int .u8 n).wf = true) := OpensZ.of (opens_int Try.underlying5)
theorem oz_u64 : OpensZ 23 (Kd.int .u64) (fun n => (Lit.int .u64 n).wf = true) := OpensZ.of (opens_int Try.underlying23)
theorem oz_int : OpensZ 3 (Kd.int .i64) (fun n => (Lit.int .i64 n).wf = true) := OpensZ.of (opens_int Try.underlying3)
def OkM (m : List Int) : Prop := (∀ y ∈ m, (Lit.int .u8 y).wf = true) ∧ m.length * 1 ≤ 140737488351232
theorem oz_bytes : OpensZ 74 (Kd.slice 5 kB) OkM := by
 intro H enc W fuel cs x hx hw
 obtain ⟨y, hK, h1, h2⟩ := opensZ_slice (T := 74) Try.underlying74 (by kernel_rfl) oz_u8 hx hw
 rw [show Try.prog.bytesOf _ = 1 from by kernel_rfl] at h2
 exact ⟨y, hK, h1, h2⟩
def OkL (l : List (List Int)) : Prop := (∀ m ∈ l, OkM m) ∧ l.length * 24 ≤ 140737488351232
theorem oz_list : OpensZ 71 (Kd.slice 74 (Kd.slice 5 kB)) OkL := by
 intro H enc W fuel cs x hx hw
 obtain ⟨y, hK, h1, h2⟩ := opensZ_slice (T := 71) Try.underlying71 (by kernel_rfl) oz_bytes hx hw
 rw [show Try.prog.bytesOf _ = 24 from by kernel_rfl] at h2
 exact ⟨y, hK, h1, h2⟩
abbrev kDl : Kd (Int × List Int) := Kd.pair (Kd.int .i64) (Kd.slice 5 kB)
theorem oz_delayed : OpensZ 78 kDl (fun y => (Lit.int .i64 y.1).wf = true ∧ OkM y.2) :=
 @fun H enc W fuel cs x hx hw => opensZ_struct Try.underlying78 (manyZ_cons oz_int (by kernel_rfl) (manyZ_one oz_bytes (by kernel_rfl))) (by kernel_rfl) (by kernel_rfl) hx hw
def OkQ (l : List (Int × List Int)) : Prop := (∀ y ∈ l, (Lit.int .i64 y.1).wf = true ∧ OkM y.2) ∧ l.length * 32 ≤ 140737488351232
theorem oz_queue : OpensZ 70 (Kd.slice 78 kDl) OkQ := by
 intro H enc W fuel cs x hx hw
 obtain ⟨y, hK, h1, h2⟩ := opensZ_slice (T := 70) Try.underlying70 (by kernel_rfl) oz_delayed hx hw
 rw [show Try.prog.bytesOf _ = 32 from by kernel_rfl] at h2
 exact ⟨y, hK, h1, h2⟩
abbrev kInb : Kd (List (Int × List Int) × Int × List (List Int) × Int) := Kd.pair (Kd.slice 78 kDl) (Kd.pair (Kd.int .i64) (Kd.pair (Kd.slice 74 (Kd.slice 5 kB)) (Kd.int .u64)))
def OkInb (y : List (Int × List Int) × Int × List (List Int) × Int) : Prop := OkQ y.1 ∧ (Lit.int .i64 y.2.1).wf = true ∧ OkL y.2.2.1 ∧ (Lit.int .u64 y.2.2.2).wf = true
theorem oz_inbox : OpensZ 73 kInb OkInb :=
 @fun H enc W fuel cs x hx hw => opensZ_struct Try.underlying73 (manyZ_cons oz_queue (by kernel_rfl) (manyZ_cons oz_int (by kernel_rfl) (manyZ_cons oz_list (by kernel_rfl) (manyZ_one oz_u64 (by kernel_rfl))))) (by kernel_rfl) (by kernel_rfl) hx hw
theorem OkM.byt {m : List Int} (h : OkM m) : ∀ z ∈ m, 0 ≤ z ∧ z ≤ 255 := fun z hz => by
 have := h.1 z hz
 simp [Lit.wf, IntKind.min, IntKind.max, IntKind.signed, IntKind.bits] at this
 omega
def boxOf (y : List (Int × List Int) × Int × List (List Int) × Int) : Box := ⟨y.1.map fun p => ⟨p.1, p.2⟩, y.2.1, y.2.2.1, y.2.2.2⟩
theorem kInb_open {w : World} {cs : Array Value} {y : List (Int × List Int) × Int × List (List Int) × Int} (h : kInb.K w y cs.toList) :
 ∃ A1 c1 A2 c2, cs = #[.slice A1 (boxOf y).q.length c1, .int .i64 (boxOf y).tk, .slice A2 (boxOf y).l.length c2, .int .u64 (boxOf y).nx] ∧ (boxOf y).q.length ≤ c1 ∧ (boxOf y).l.length ≤ c2 ∧ Kd.C kQ w A1 (boxOf y).q.length (boxOf y).q ∧ Kd.C kL w A2 (boxOf y).l.length (boxOf y).l := by
 obtain ⟨a1, r1, e1, ⟨A1, c1, rfl, g1, k1⟩, a2, r2, rfl, h2, a3, a4, rfl, ⟨A2, c2, rfl, g2, k2⟩, h4⟩ := h
 have h2 : a2 = [.int .i64 y.2.1] := h2
 have h4 : a4 = [.int .u64 y.2.2.2] := h4
 subst h2 h4
 refine ⟨A1, c1, A2, c2, ?_, by simpa [boxOf] using g1, g2, ?_, k2⟩
 ·apply Array.toList_inj.1
  rw [e1]
  simp [boxOf]
 ·have hm := C_map (d := kDl) (d' := kQ) (f := fun p : Int × List Int => (⟨p.1, p.2⟩ : SQ)) rfl (fun x cs hx => by
   obtain ⟨u1, u2, rfl, hu1, A, c, rfl, hc, hC⟩ := hx
   have hu1 : u1 = [.int .i64 x.1] := hu1
   subst hu1
   exact PRF.k78_mk w ⟨x.1, x.2⟩ hc hC) k1
  rw [show (boxOf y).q.length = y.1.length by simp [boxOf]]
  exact hm
theorem OkInb.byt {y : List (Int × List Int) × Int × List (List Int) × Int} (h : OkInb y) : BytB (boxOf y) := by
 refine ⟨fun d hd => ?_, fun m hm => (h.2.2.1.1 m hm).byt⟩
 obtain ⟨p, hp, rfl⟩ := List.mem_map.1 hd
 exact (h.1.1 p hp).2.byt
theorem same_self (r : Box) (h : NiceB r) (W : World) (A1 A2 A3 A4 : Option Addr) (c1 c2 c3 c4 : Nat) (h1 : Kd.C kQ W A1 r.q.length r.q ∧ Kd.C kL W A2 r.l.length r.l) (h2 : Kd.C kQ W A3 r.q.length r.q ∧ Kd.C kL W A4 r.l.length r.l) (k1 : r.q.length ≤ c1) (k2 : r.l.length ≤ c2) (k3 : r.q.length ≤ c3) (k4 : r.l.length ≤ c4) :
 Calls Try.prog 46 #[.agg #[.slice A1 r.q.length c1, .int .i64 r.tk, .slice A2 r.l.length c2, .int .u64 r.nx], .agg #[.slice A3 r.q.length c3, .int .i64 r.tk, .slice A4 r.l.length c4, .int .u64 r.nx]] W fun e w' => e = .returned (.bool true) ∧ Below W.heap.size W w' := by
 have hh := rsame_any r r A1 A2 A3 A4 c1 c2 c3 c4 W h1.1 h1.2 h2.1 h2.2 k1 k2 k3 k4 h.b h.b h.q h.l
 rw [sameI_refl] at hh
 exact hh
theorem iturns_law (x y : Box) (ab dto dam : Int) (m : List Int) (A1 A2 A3 A4 Am : Option Addr) (c1 c2 c3 c4 cm : Nat) (w : World)
 (hC1 : Kd.C kQ w A1 x.q.length x.q) (hc1 : x.q.length ≤ c1) (hC2 : Kd.C kL w A2 x.l.length x.l) (hc2 : x.l.length ≤ c2) (hC3 : Kd.C kQ w A3 y.q.length y.q) (hc3 : y.q.length ≤ c3) (hC4 : Kd.C kL w A4 y.l.length y.l) (hc4 : y.l.length ≤ c4) (hCm : Kd.C kB w Am m.length m) (hcm : m.length ≤ cm)
 (hx : GoodB x) (hy : BytB y) (hm : ∀ z ∈ m, 0 ≤ z ∧ z ≤ 255) (hab : ab ≤ 9223372036854775807) (hto : 0 ≤ dto ∧ dto ≤ 18446744073709551615) (ham : 0 ≤ dam ∧ dam ≤ 18446744073709551615) (hql : x.q.length ≤ 4398046511100) (hll : x.l.length ≤ 5864062014800) :
 Calls Try.prog 12 #[.agg #[.slice A1 x.q.length c1, .int .i64 x.tk, .slice A2 x.l.length c2, .int .u64 x.nx], .agg #[.int .i64 ab, .slice Am m.length cm, .int .u64 dto, .int .u64 dam], .agg #[.slice A3 y.q.length c3, .int .i64 y.tk, .slice A4 y.l.length c4, .int .u64 y.nx]] w fun e w' => e = .returned (.bool true) ∧ Below w.heap.size w w' := by
 have H0 := Aside0.mk (Own.start w)
 have HAN := Aside0.mk anchored20_any
 have HE1 := Aside0.mk (fun W (h : Below w.heap.size w W) => (enqueue_any x ab m A1 A2 Am c1 c2 cm W (Kd.C_below hC1 h) hc1 (Kd.C_below hC2 h) hc2 (Kd.C_below hCm h) hcm hm).mono fun e w' hh => BoxPost.rd hh)
 have HF1 := Aside0.mk (fun W (h : Below w.heap.size w W) => renqueue_any x ab m A1 A2 Am c1 c2 cm W (Kd.C_below hC1 h) hc1 (Kd.C_below hC2 h) hc2 (Kd.C_below hCm h) hcm hm)
 have HE2 := Aside0.mk (fun W (h : Below w.heap.size w W) => (deposit7_any x ab dto dam A1 A2 c1 c2 W (Kd.C_below hC1 h) hc1 (Kd.C_below hC2 h) hc2 hto ham).mono fun e w' hh => BoxPost.rd hh)
 have HF2 := Aside0.mk (fun W (h : Below w.heap.size w W) => rdeposit_any x ab dto dam A1 A2 c1 c2 W (Kd.C_below hC1 h) hc1 (Kd.C_below hC2 h) hc2 hto ham)
 have HE3 := Aside0.mk (fun W (h : Below w.heap.size w W) => (post_any x m A1 A2 Am c1 c2 cm W (Kd.C_below hC1 h) hc1 (Kd.C_below hC2 h) hc2 (Kd.C_below hCm h) hcm hm).mono fun e w' hh => BoxPost.rd hh)
 have HF3 := Aside0.mk (fun W (h : Below w.heap.size w W) => (rpost_any x m A1 A2 Am c1 c2 cm W (Kd.C_below hC1 h) hc1 (Kd.C_below hC2 h) hc2 (Kd.C_below hCm h) hcm hm).mono fun e w' hh => BoxPost.rd hh)
 have HE4 := Aside0.mk (fun W (h : Below w.heap.size w W) => (tick_any x ab A1 A2 c1 c2 W (Kd.C_below hC1 h) hc1 (Kd.C_below hC2 h) hc2 hab hx.q64).mono fun e w' hh => BoxPost.rd hh)
 have HF4 := Aside0.mk (fun W (h : Below w.heap.size w W) => (rtick_any x ab A1 A2 c1 c2 W (Kd.C_below hC1 h) hc1 (Kd.C_below hC2 h) hc2 hab hx.q64).mono fun e w' hh => BoxPost.rd hh)
 have HSX := Aside0.mk (fun W (h : Below w.heap.size w W) => isame_any x y A1 A2 A3 A4 c1 c2 c3 c4 W (Kd.C_below hC1 h) (Kd.C_below hC2 h) (Kd.C_below hC3 h) (Kd.C_below hC4 h) hx.byt hy)
 have HSY := Aside0.mk (fun W (h : Below w.heap.size w W) => rsame_any x y A1 A2 A3 A4 c1 c2 c3 c4 W (Kd.C_below hC1 h) (Kd.C_below hC2 h) (Kd.C_below hC3 h) (Kd.C_below hC4 h) hc1 hc2 hc3 hc4 hx.byt hy (by omega) (by omega))
 generalize sameI x y = sxy at *
 have HSM1 := Aside0.mk (same_self _ (enq_nice x ab m hx.byt hm))
 have HSM2 := Aside0.mk (same_self _ (dep_nice x ab dto dam hx.byt hto ham))
 have HSM3 := Aside0.mk (same_self _ (post_nice x m hx.byt hm))
 have HSM4 := Aside0.mk (same_self _ (tick_nice x ab hx.byt))
 generalize enqI x ab m = r1 at *
 generalize depI x ab dto dam = r2 at *
 generalize postI x m = r3 at *
 generalize tickI x ab = r4 at *
 obtain ⟨⟨eq, etk, el, enx⟩, ee⟩ := r1
 obtain ⟨⟨dq, dtk, dl, dnx⟩, de⟩ := r2
 obtain ⟨⟨pq, ptk, pl, pnx⟩, pe⟩ := r3
 obtain ⟨⟨tq, ttk, tl, tnx⟩, te⟩ := r4
 clear hC1 hC2 hC3 hC4 hCm hx hy hm hc1 hc2 hc3 hc4 hcm hab hto ham hql hll
 obtain ⟨q, tk, l, nx⟩ := x
 obtain ⟨yq, ytk, yl, ynx⟩ := y
 dsimp only at *
 generalize q.length = nq at *
 generalize l.length = nl at *
 generalize yq.length = mq at *
 generalize yl.length = ml at *
 generalize m.length = nm at *
 have HZ : Aside0 (Arr 4 #[.slice none 0 0, .int .i64 0, .slice none 0 0, .int .u64 0]) := ⟨rfl, by simp [Value.oneCell']⟩
 have hne1 : (ee != ee) = false := by simp
 have hne2 : (de != de) = false := by simp
 have hne3 : (pe != pe) = false := by simp
 have hne4 : (te == te) = true := by simp
 have hss : (sxy == sxy) = true := by simp
 go_enter Try.func12, Try.ntmps12
 go_upto_region 5 with (first
  | fail
  | ((with_reducible refine Gd 3 ?_); refine OB H0 73 #[.slice A1 nq c1, .int .i64 tk, .slice A2 nl c2, .int .u64 nx] ?_; intro g3 w1 H1 B1)
  | ((with_reducible refine Gd 4 ?_); refine OB H1 76 #[.int .i64 ab, .slice Am nm cm, .int .u64 dto, .int .u64 dam] ?_; intro g4 w2 H2 B2)
  | ((with_reducible refine Gd 5 ?_); refine OB H2 73 #[.slice A3 mq c3, .int .i64 ytk, .slice A4 ml c4, .int .u64 ynx] ?_; intro g5 w3 H3 B3)
  | ((with_reducible refine Gd 12 ?_); refine OV 3 H3 2 g3 73 rfl Try.underlying73 (by kernel_rfl) ?_)
  | ((with_reducible refine Gd 14 ?_); refine OD 13 3 H3 1 g4 0 (.int .i64 ab) Try.underlying3 ?_)
  | ((with_reducible refine Gd 16 ?_); refine OD 15 74 H3 1 g4 1 (.slice Am nm cm) Try.underlying74 ?_)
  | (go_at_call 34; refine (HE1.out _ H3.out.below).mono ?_; rintro e w4 ⟨P1, p1, Q1, q1, rfl, hP1, hQ1, hO⟩; have H4 := Aside0.mk (H3.out.call hO); have HX1 : Aside0 (Arr 4 #[.slice P1 eq.length p1, .int .i64 etk, .slice Q1 el.length q1, .int .u64 enx]) := ⟨rfl, by simp [Value.oneCell']⟩; clear hO)
  | ((with_reducible refine Gd 7 ?_); refine OA H4 73 #[.slice none 0 0, .int .i64 0, .slice none 0 0, .int .u64 0] 4 ?_; intro g7 w5 H5 B5)
  | ((with_reducible refine Gs 73 7 ?_); refine OS 7 18 H5 0 g7 73 #[.slice P1 eq.length p1, .int .i64 etk, .slice Q1 el.length q1, .int .u64 enx] 4 HZ HX1 ?_; intro w6 H6)
  | ((with_reducible refine Gd 21 ?_); refine OV 3 H6 4 g3 73 rfl Try.underlying73 (by kernel_rfl) ?_)
  | ((with_reducible refine Gd 23 ?_); refine OD 22 3 H6 3 g4 0 (.int .i64 ab) Try.underlying3 ?_)
  | ((with_reducible refine Gd 25 ?_); refine OD 24 74 H6 3 g4 1 (.slice Am nm cm) Try.underlying74 ?_)
  | (go_at_call 48; refine (HF1.out _ H6.out.below).mono ?_; rintro e w7 ⟨R1, r1, S1, s1, rfl, hR1, hS1, hO⟩; have H7 := Aside0.mk (H6.out.call hO); have HY1 : Aside0 (Arr 4 #[.slice R1 eq.length r1, .int .i64 etk, .slice S1 el.length s1, .int .u64 enx]) := ⟨rfl, by simp [Value.oneCell']⟩; clear hO)
  | ((with_reducible refine Gd 9 ?_); refine OA H7 73 #[.slice none 0 0, .int .i64 0, .slice none 0 0, .int .u64 0] 4 ?_; intro g9 w8 H8 B8)
  | ((with_reducible refine Gs 73 9 ?_); refine OS 9 27 H8 0 g9 73 #[.slice R1 eq.length r1, .int .i64 etk, .slice S1 el.length s1, .int .u64 enx] 4 HZ HY1 ?_; intro w9 H9)
  | ((with_reducible refine Gd 29 ?_); refine OV 7 H9 2 g7 73 rfl Try.underlying73 (by kernel_rfl) ?_)
  | ((with_reducible refine Gd 30 ?_); refine OV 9 H9 0 g9 73 rfl Try.underlying73 (by kernel_rfl) ?_)
  | (go_at_call 46; refine (HSM1.out _ _ _ _ _ _ _ _ _ (H9.out.rows2_C 3 rfl) (H9.out.rows2_C 1 rfl) hP1 hQ1 hR1 hS1).mono ?_; rintro e w10 ⟨rfl, hB⟩; have H10 := Aside0.mk (H9.out.step hB); clear hB)
  )
 have G1 : Aside0 (Own w.heap.size w w10 [.blk g9 #[.slice R1 eq.length r1, .int .i64 etk, .slice S1 el.length s1, .int .u64 enx] 73, .blk g7 #[.slice P1 eq.length p1, .int .i64 etk, .slice Q1 el.length q1, .int .u64 enx] 73, .blk g5 #[.slice A3 mq c3, .int .i64 ytk, .slice A4 ml c4, .int .u64 ynx] 73, .blk g4 #[.int .i64 ab, .slice Am nm cm, .int .u64 dto, .int .u64 dam] 76, .blk g3 #[.slice A1 nq c1, .int .i64 tk, .slice A2 nl c2, .int .u64 nx] 73]) := ⟨(H10.out.erase 3).erase 1⟩
 clear H0 H1 H2 H3 H4 H5 H6 H7 H8 H9 H10 B1 B2 B3 B5 B8 HE1 HF1 HSM1 hne1
 go_upto_region 9 with (first
  | fail
  | ((with_reducible refine Gd 39 ?_); refine OV 3 G1 4 g3 73 rfl Try.underlying73 (by kernel_rfl) ?_)
  | ((with_reducible refine Gd 41 ?_); refine OD 40 3 G1 3 g4 0 (.int .i64 ab) Try.underlying3 ?_)
  | ((with_reducible refine Gd 43 ?_); refine OD 42 23 G1 3 g4 2 (.int .u64 dto) Try.underlying23 ?_)
  | ((with_reducible refine Gd 45 ?_); refine OD 44 23 G1 3 g4 3 (.int .u64 dam) Try.underlying23 ?_)
  | (go_at_call 49; refine (HE2.out _ G1.out.below).mono ?_; rintro e w21 ⟨P2, p2, Q2, q2, rfl, hP2, hQ2, hO⟩; have H21 := Aside0.mk (G1.out.call hO); have HX2 : Aside0 (Arr 4 #[.slice P2 dq.length p2, .int .i64 dtk, .slice Q2 dl.length q2, .int .u64 dnx]) := ⟨rfl, by simp [Value.oneCell']⟩; clear hO)
  | ((with_reducible refine Gs 73 7 ?_); refine OS 7 47 H21 2 g7 73 #[.slice P2 dq.length p2, .int .i64 dtk, .slice Q2 dl.length q2, .int .u64 dnx] 4 HX1 HX2 ?_; intro w22 H22)
  | ((with_reducible refine Gd 50 ?_); refine OV 3 H22 5 g3 73 rfl Try.underlying73 (by kernel_rfl) ?_)
  | ((with_reducible refine Gd 52 ?_); refine OD 51 3 H22 4 g4 0 (.int .i64 ab) Try.underlying3 ?_)
  | ((with_reducible refine Gd 54 ?_); refine OD 53 23 H22 4 g4 2 (.int .u64 dto) Try.underlying23 ?_)
  | ((with_reducible refine Gd 56 ?_); refine OD 55 23 H22 4 g4 3 (.int .u64 dam) Try.underlying23 ?_)
  | (go_at_call 50; refine (HF2.out _ H22.out.below).mono ?_; rintro e w23 ⟨R2, r2, S2, s2, rfl, hR2, hS2, hO⟩; have H23 := Aside0.mk (H22.out.call hO); have HY2 : Aside0 (Arr 4 #[.slice R2 dq.length r2, .int .i64 dtk, .slice S2 dl.length s2, .int .u64 dnx]) := ⟨rfl, by simp [Value.oneCell']⟩; clear hO)
  | ((with_reducible refine Gs 73 9 ?_); refine OS 9 58 H23 2 g9 73 #[.slice R2 dq.length r2, .int .i64 dtk, .slice S2 dl.length s2, .int .u64 dnx] 4 HY1 HY2 ?_; intro w24 H24)
  | ((with_reducible refine Gd 60 ?_); refine OV 7 H24 3 g7 73 rfl Try.underlying73 (by kernel_rfl) ?_)
  | ((with_reducible refine Gd 61 ?_); refine OV 9 H24 2 g9 73 rfl Try.underlying73 (by kernel_rfl) ?_)
  | (go_at_call 46; refine (HSM2.out _ _ _ _ _ _ _ _ _ (H24.out.rows2_C 1 rfl) (H24.out.rows2_C 0 rfl) hP2 hQ2 hR2 hS2).mono ?_; rintro e w25 ⟨rfl, hB⟩; have H25 := Aside0.mk (H24.out.step hB); clear hB)
  )
 have G2 : Aside0 (Own w.heap.size w w25 [.blk g9 #[.slice R2 dq.length r2, .int .i64 dtk, .slice S2 dl.length s2, .int .u64 dnx] 73, .blk g7 #[.slice P2 dq.length p2, .int .i64 dtk, .slice Q2 dl.length q2, .int .u64 dnx] 73, .blk g5 #[.slice A3 mq c3, .int .i64 ytk, .slice A4 ml c4, .int .u64 ynx] 73, .blk g4 #[.int .i64 ab, .slice Am nm cm, .int .u64 dto, .int .u64 dam] 76, .blk g3 #[.slice A1 nq c1, .int .i64 tk, .slice A2 nl c2, .int .u64 nx] 73]) := ⟨(H25.out.erase 1).erase 0⟩
 clear G1 H21 H22 H23 H24 H25 HE2 HF2 HSM2 hne2 HX1 HY1
 go_upto_region 13 with (first
  | fail
  | ((with_reducible refine Gd 70 ?_); refine OV 3 G2 4 g3 73 rfl Try.underlying73 (by kernel_rfl) ?_)
  | ((with_reducible refine Gd 72 ?_); refine OD 71 74 G2 3 g4 1 (.slice Am nm cm) Try.underlying74 ?_)
  | (go_at_call 37; refine (HE3.out _ G2.out.below).mono ?_; rintro e w31 ⟨P3, p3, Q3, q3, rfl, hP3, hQ3, hO⟩; have H31 := Aside0.mk (G2.out.call hO); have HX3 : Aside0 (Arr 4 #[.slice P3 pq.length p3, .int .i64 ptk, .slice Q3 pl.length q3, .int .u64 pnx]) := ⟨rfl, by simp [Value.oneCell']⟩; clear hO)
  | ((with_reducible refine Gs 73 7 ?_); refine OS 7 74 H31 2 g7 73 #[.slice P3 pq.length p3, .int .i64 ptk, .slice Q3 pl.length q3, .int .u64 pnx] 4 HX2 HX3 ?_; intro w32 H32)
  | ((with_reducible refine Gd 77 ?_); refine OV 3 H32 5 g3 73 rfl Try.underlying73 (by kernel_rfl) ?_)
  | ((with_reducible refine Gd 79 ?_); refine OD 78 74 H32 4 g4 1 (.slice Am nm cm) Try.underlying74 ?_)
  | (go_at_call 51; refine (HF3.out _ H32.out.below).mono ?_; rintro e w33 ⟨R3, r3, S3, s3, rfl, hR3, hS3, hO⟩; have H33 := Aside0.mk (H32.out.call hO); have HY3 : Aside0 (Arr 4 #[.slice R3 pq.length r3, .int .i64 ptk, .slice S3 pl.length s3, .int .u64 pnx]) := ⟨rfl, by simp [Value.oneCell']⟩; clear hO)
  | ((with_reducible refine Gs 73 9 ?_); refine OS 9 81 H33 2 g9 73 #[.slice R3 pq.length r3, .int .i64 ptk, .slice S3 pl.length s3, .int .u64 pnx] 4 HY2 HY3 ?_; intro w34 H34)
  | ((with_reducible refine Gd 83 ?_); refine OV 7 H34 3 g7 73 rfl Try.underlying73 (by kernel_rfl) ?_)
  | ((with_reducible refine Gd 84 ?_); refine OV 9 H34 2 g9 73 rfl Try.underlying73 (by kernel_rfl) ?_)
  | (go_at_call 46; refine (HSM3.out _ _ _ _ _ _ _ _ _ (H34.out.rows2_C 1 rfl) (H34.out.rows2_C 0 rfl) hP3 hQ3 hR3 hS3).mono ?_; rintro e w35 ⟨rfl, hB⟩; have H35 := Aside0.mk (H34.out.step hB); clear hB)
  )
 have G3 : Aside0 (Own w.heap.size w w35 [.blk g9 #[.slice R3 pq.length r3, .int .i64 ptk, .slice S3 pl.length s3, .int .u64 pnx] 73, .blk g7 #[.slice P3 pq.length p3, .int .i64 ptk, .slice Q3 pl.length q3, .int .u64 pnx] 73, .blk g5 #[.slice A3 mq c3, .int .i64 ytk, .slice A4 ml c4, .int .u64 ynx] 73, .blk g4 #[.int .i64 ab, .slice Am nm cm, .int .u64 dto, .int .u64 dam] 76, .blk g3 #[.slice A1 nq c1, .int .i64 tk, .slice A2 nl c2, .int .u64 nx] 73]) := ⟨(H35.out.erase 1).erase 0⟩
 clear G2 H31 H32 H33 H34 H35 HE3 HF3 HSM3 hne3 HX2 HY2
 go_upto_region 15 with (first
  | fail
  | ((with_reducible refine Gd 93 ?_); refine OV 3 G3 4 g3 73 rfl Try.underlying73 (by kernel_rfl) ?_)
  | ((with_reducible refine Gd 95 ?_); refine OD 94 3 G3 3 g4 0 (.int .i64 ab) Try.underlying3 ?_)
  | (go_at_call 38; refine (HE4.out _ G3.out.below).mono ?_; rintro e w41 ⟨P4, p4, Q4, q4, rfl, hP4, hQ4, hO⟩; have H41 := Aside0.mk (G3.out.call hO); have HX4 : Aside0 (Arr 4 #[.slice P4 tq.length p4, .int .i64 ttk, .slice Q4 tl.length q4, .int .u64 tnx]) := ⟨rfl, by simp [Value.oneCell']⟩; clear hO)
  | ((with_reducible refine Gs 73 7 ?_); refine OS 7 97 H41 2 g7 73 #[.slice P4 tq.length p4, .int .i64 ttk, .slice Q4 tl.length q4, .int .u64 tnx] 4 HX3 HX4 ?_; intro w42 H42)
  | ((with_reducible refine Gd 100 ?_); refine OV 3 H42 5 g3 73 rfl Try.underlying73 (by kernel_rfl) ?_)
  | ((with_reducible refine Gd 102 ?_); refine OD 101 3 H42 4 g4 0 (.int .i64 ab) Try.underlying3 ?_)
  | (go_at_call 45; refine (HF4.out _ H42.out.below).mono ?_; rintro e w43 ⟨R4, r4, S4, s4, rfl, hR4, hS4, hO⟩; have H43 := Aside0.mk (H42.out.call hO); have HY4 : Aside0 (Arr 4 #[.slice R4 tq.length r4, .int .i64 ttk, .slice S4 tl.length s4, .int .u64 tnx]) := ⟨rfl, by simp [Value.oneCell']⟩; clear hO)
  | ((with_reducible refine Gs 73 9 ?_); refine OS 9 104 H43 2 g9 73 #[.slice R4 tq.length r4, .int .i64 ttk, .slice S4 tl.length s4, .int .u64 tnx] 4 HY3 HY4 ?_; intro w44 H44)
  )
 have G4 : Aside0 (Own w.heap.size w w44 [.rows2 (.slice R4 tq.length r4) tq (.slice S4 tl.length s4) tl, .rows2 (.slice P4 tq.length p4) tq (.slice Q4 tl.length q4) tl, .blk g9 #[.slice R4 tq.length r4, .int .i64 ttk, .slice S4 tl.length s4, .int .u64 tnx] 73, .blk g7 #[.slice P4 tq.length p4, .int .i64 ttk, .slice Q4 tl.length q4, .int .u64 tnx] 73, .blk g5 #[.slice A3 mq c3, .int .i64 ytk, .slice A4 ml c4, .int .u64 ynx] 73, .blk g4 #[.int .i64 ab, .slice Am nm cm, .int .u64 dto, .int .u64 dam] 76, .blk g3 #[.slice A1 nq c1, .int .i64 tk, .slice A2 nl c2, .int .u64 nx] 73]) := ⟨H44.out⟩
 clear G3 H41 H42 H43 H44 HE4 HF4 HX3 HY3
 have HD := Aside0.mk G4.out.drew
 clear G4
 refine St (fun W => W.heap[g7]? = some (.cells #[.slice P4 tq.length p4, .int .i64 ttk, .slice Q4 tl.length q4, .int .u64 tnx] 73 (0, 0)) ∧ W.heap[g9]? = some (.cells #[.slice R4 tq.length r4, .int .i64 ttk, .slice S4 tl.length s4, .int .u64 tnx] 73 (0, 0)) ∧ W.heap[g3]? = some (.cells #[.slice A1 nq c1, .int .i64 tk, .slice A2 nl c2, .int .u64 nx] 73 (0, 0)) ∧ W.heap[g5]? = some (.cells #[.slice A3 mq c3, .int .i64 ytk, .slice A4 ml c4, .int .u64 ynx] 73 (0, 0))) (fun hHeld => ?_) (by exact ⟨HD.out.get 3 rfl, HD.out.get 2 rfl, HD.out.get 6 rfl, HD.out.get 4 rfl⟩)
 generalize w44.drew = wd at *
 refine Ty 0 (.agg #[.slice P4 tq.length p4, .int .i64 ttk, .slice Q4 tl.length q4, .int .u64 tnx]) ?_ ?_
 ·exact yif_loadV (by rfl) 73 (.tmp 7) rfl g7 _ rfl (fun W h => h.1) _ Try.underlying73 rfl (by kernel_rfl)
 refine Ty 1 (.agg #[.slice R4 tq.length r4, .int .i64 ttk, .slice S4 tl.length s4, .int .u64 tnx]) ?_ ?_
 ·exact yif_loadV (by rfl) 73 (.tmp 9) rfl g9 _ rfl (fun W h => h.2.1) _ Try.underlying73 rfl (by kernel_rfl)
 refine Rd 2 fun K hK => ?_
 go_simp
 refine (HSM4.out _ _ _ _ _ _ _ _ _ (HD.out.rows2_C 1 rfl) (HD.out.rows2_C 0 rfl) hP4 hQ4 hR4 hS4).mono ?_
 rintro e w21 ⟨rfl, hB⟩
 have H21 := Aside0.mk (HD.out.step hB)
 clear hB
 go_wp2_with fail
 refine Ag hK (fun hHeld => ?_) (by exact ⟨H21.out.get 3 rfl, H21.out.get 2 rfl, H21.out.get 6 rfl, H21.out.get 4 rfl⟩)
 clear hK K
 refine Tk 3 ?_
 refine Tk 4 ?_
 refine Tk 5 ?_
 refine Tk 6 ?_
 refine Tk 7 ?_
 refine Tk 8 ?_
 refine Ty 9 (.agg #[.slice A1 nq c1, .int .i64 tk, .slice A2 nl c2, .int .u64 nx]) ?_ ?_
 ·exact yif_loadV (by rfl) 73 (.tmp 3) rfl g3 _ rfl (fun W h => h.2.2.1) _ Try.underlying73 rfl (by kernel_rfl)
 refine Ty 10 (.agg #[.slice A3 mq c3, .int .i64 ytk, .slice A4 ml c4, .int .u64 ynx]) ?_ ?_
 ·exact yif_loadV (by rfl) 73 (.tmp 5) rfl g5 _ rfl (fun W h => h.2.2.2) _ Try.underlying73 rfl (by kernel_rfl)
 refine Ty 12 (.agg #[.slice A1 nq c1, .int .i64 tk, .slice A2 nl c2, .int .u64 nx]) ?_ ?_
 ·exact yif_loadV (by rfl) 73 (.tmp 3) rfl g3 _ rfl (fun W h => h.2.2.1) _ Try.underlying73 rfl (by kernel_rfl)
 refine Ty 13 (.agg #[.slice A3 mq c3, .int .i64 ytk, .slice A4 ml c4, .int .u64 ynx]) ?_ ?_
 ·exact yif_loadV (by rfl) 73 (.tmp 5) rfl g5 _ rfl (fun W h => h.2.2.2) _ Try.underlying73 rfl (by kernel_rfl)
 refine Rd 11 fun K hK => ?_
 go_simp
 refine (HSX.out _ H21.out.below).mono ?_
 rintro e w22 ⟨rfl, hB⟩
 have H22 := Aside0.mk (H21.out.step hB)
 clear hB
 go_wp2_with fail
 refine Ag hK (fun hHeld => ?_) (by exact ⟨H22.out.get 3 rfl, H22.out.get 2 rfl, H22.out.get 6 rfl, H22.out.get 4 rfl⟩)
 clear hK K
 refine Rd 14 fun K hK => ?_
 go_simp
 refine (HSY.out _ H22.out.below).mono ?_
 rintro e w23 ⟨rfl, hB⟩
 have H23 := Aside0.mk (H22.out.step hB)
 clear hB
 go_wp2_with fail
 refine Ag hK (fun hHeld => ?_) (by exact ⟨H23.out.get 3 rfl, H23.out.get 2 rfl, H23.out.get 6 rfl, H23.out.get 4 rfl⟩)
 clear hK K
 refine Tk 15 ?_
 refine Tk 16 ?_
 refine Tk 17 ?_
 refine Rd 18 fun K hK => ?_
 go_simp
 refine (HAN.out _).mono ?_
 rintro e w24 ⟨rfl, hB⟩
 have H24 := Aside0.mk (H23.out.step hB)
 clear hB
 go_wp2_with fail
 refine Ag hK (fun hHeld => ?_) (by exact ⟨H24.out.get 3 rfl, H24.out.get 2 rfl, H24.out.get 6 rfl, H24.out.get 4 rfl⟩)
 clear hK K
 refine Tk 19 ?_
 refine Tk 20 ?_
 refine Dn ?_
 go_wp2_with fail
 go_ret
 exact ⟨rfl, H24.out.below⟩
end Go.Proofs.Ytocphkfkdadhaaa.H
namespace Go.Proofs.Ytocphkfkdadhaaa.H
open Go.RowKit
theorem wf64 {z : Int} (h : (Lit.int .u64 z).wf = true) : ∃ n : Nat, z = n ∧ n ≤ 18446744073709551615 := by
 simp [Lit.wf, IntKind.min, IntKind.max, IntKind.signed, IntKind.bits] at h
 exact ⟨z.toNat, by omega, by omega⟩
theorem OkInb.ql {y : List (Int × List Int) × Int × List (List Int) × Int} (h : OkInb y) : (boxOf y).q.length ≤ 4398046511100 := by
 have := h.1.2
 have e : (boxOf y).q.length = y.1.length := by simp [boxOf]
 omega
theorem OkInb.ll {y : List (Int × List Int) × Int × List (List Int) × Int} (h : OkInb y) : (boxOf y).l.length ≤ 5864062014800 := by
 have := h.2.2.1.2
 have e : (boxOf y).l.length = y.2.2.1.length := rfl
 omega
theorem OkInb.lm {y : List (Int × List Int) × Int × List (List Int) × Int} (h : OkInb y) : ∀ m ∈ (boxOf y).l, m.length ≤ 140737488351232 := fun m hm => by
 have := (h.2.2.1.1 m hm).2
 omega
end Go.Proofs.Ytocphkfkdadhaaa.H
namespace Go.Proofs.Ytocphkfkdadhaaa.H
open Go.RowKit Go.Proofs.YtocphkfkdadhaaaW.PrintWords Go.Proofs.YtocphkfkdadhaaaW.PrintLast Go.Proofs.YtocphkfkdadhaaaW.PrintMore
abbrev kAq : Kd (Int × List Int × Int × Int) := Kd.pair (Kd.int .i64) (Kd.pair (Kd.slice 5 kB) (Kd.pair (Kd.int .u64) (Kd.int .u64)))
def OkAq (y : Int × List Int × Int × Int) : Prop := (Lit.int .i64 y.1).wf = true ∧ OkM y.2.1 ∧ (Lit.int .u64 y.2.2.1).wf = true ∧ (Lit.int .u64 y.2.2.2).wf = true
theorem oz_aq : OpensZ 76 kAq OkAq :=
 @fun H enc W fuel cs x hx hw => opensZ_struct Try.underlying76 (manyZ_cons oz_int (by kernel_rfl) (manyZ_cons oz_bytes (by kernel_rfl) (manyZ_cons oz_u64 (by kernel_rfl) (manyZ_one oz_u64 (by kernel_rfl))))) (by kernel_rfl) (by kernel_rfl) hx hw
theorem kAq_open {w : World} {cs : Array Value} {y : Int × List Int × Int × Int} (h : kAq.K w y cs.toList) :
 ∃ A c, cs = #[.int .i64 y.1, .slice A y.2.1.length c, .int .u64 y.2.2.1, .int .u64 y.2.2.2] ∧ y.2.1.length ≤ c ∧ Kd.C kB w A y.2.1.length y.2.1 := by
 obtain ⟨a1, r1, e1, h1, a2, r2, rfl, ⟨A, c, rfl, g, k⟩, a3, a4, rfl, h3, h4⟩ := h
 have h1 : a1 = [.int .i64 y.1] := h1
 have h3 : a3 = [.int .u64 y.2.2.1] := h3
 have h4 : a4 = [.int .u64 y.2.2.2] := h4
 subst h1 h3 h4
 refine ⟨A, c, ?_, g, k⟩
 apply Array.toList_inj.1
 rw [e1]
 rfl
theorem OkInb.q64 {y : List (Int × List Int) × Int × List (List Int) × Int} (h : OkInb y) : ∀ d ∈ (boxOf y).q, -9223372036854775808 ≤ d.f0 ∧ d.f0 ≤ 9223372036854775807 := fun d hd => by
 obtain ⟨p, hp, rfl⟩ := List.mem_map.1 hd
 have := (h.1.1 p hp).1
 simp [Lit.wf, IntKind.min, IntKind.max, IntKind.signed, IntKind.bits] at this
 exact ⟨by dsimp only; omega, by dsimp only; omega⟩
end Go.Proofs.Ytocphkfkdadhaaa.H
namespace Go.Proofs.Ytocphkfkdadhaaa.H
theorem wfI64 {n : Int} (h : (Lit.int .i64 n).wf = true) : n ≤ 9223372036854775807 := by
 simp [Lit.wf, IntKind.min, IntKind.max, IntKind.signed, IntKind.bits] at h
 omega
theorem wfU64 {n : Int} (h : (Lit.int .u64 n).wf = true) : 0 ≤ n ∧ n ≤ 18446744073709551615 := by
 obtain ⟨k, hk, hk2⟩ := wf64 h
 omega
end Go.Proofs.Ytocphkfkdadhaaa.H
