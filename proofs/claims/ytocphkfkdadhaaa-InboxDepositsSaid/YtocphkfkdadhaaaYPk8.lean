import Derived.Test.YtocphkfkdadhaaaYPk6
import Derived.Test.YtocphkfkdadhaaaYPk2
import Derived.Test.YtocphkfkdadhaaaYPk3
import Derived.Test.YtocphkfkdadhaaaYPk7
namespace Go.Proofs.Ytocphkfkdadhaaa.H
open Go.RowKit Go.Shelf Go.Proofs.YtocphkfkdadhaaaW.PrintWords Go.Proofs.YtocphkfkdadhaaaW.PrintLast Go.Proofs.YtocphkfkdadhaaaW.PrintMore
attribute [local go_sem] Oper.semAt_some
set_option linter.unusedVariables false
set_option linter.unusedSimpArgs false
theorem batchP_ok (b : List Int) (hb : K.Byt b) : 0 ≤ (batchP b).1.t ∧ (∀ m ∈ (batchP b).1.ms, K.Byt m) ∧ (batchP b).1.ms.length ≤ 4096 := by
 unfold batchP
 cases hd : K.decodeP b with
 | error e => simp [zeroBt]
 | ok x =>
  have hx := decodeP_byt hb hd
  dsimp only
  unfold shapeB
  split
  ·rename_i y0 y1 y2 h1 h2
   unfold itemsB
   split
   ·rename_i hi
    have h0 := BytI_f2 hx
    rw [h2] at h0
    refine ⟨?_, fun m hm => ?_, by simpa using hi.2.2.2.1⟩
    ·have := (rnumP_nat y1 (BytI_f1 (h0 y1 (by simp)))).1
     show 0 ≤ (K.rnumP y1).1
     omega
    ·obtain ⟨y, hy, rfl⟩ := List.mem_map.1 hm
     exact BytI_f1 (BytI_f2 (h0 y2 (by simp)) y hy)
   ·simp [zeroBt]
  ·simp [zeroBt]
set_option maxHeartbeats 1000000 in
theorem take0_any (A : Option Addr) (c : Nat) (vl : Value) (nx : Int) (g : Nat) {B : Nat} {w0 w : World} {L : List Item} (H : Own B w0 w (.blk g #[.slice A 0 c, .int .i64 0, vl, .int .u64 nx] 73 :: L)) :
 Calls Try.prog 88 #[.pointer (some ⟨g, 0, none⟩), .int .i64 0] w fun e w' => e = .returned (.tuple #[]) ∧ Own B w0 w' (.blk g #[.slice A 0 c, .int .i64 0, vl, .int .u64 nx] 73 :: L) := by
 have H0 := Aside0.mk H
 have k0 : w.cell? ⟨g, 0, none⟩ = some (.slice A 0 c) := H.cell 0 rfl 0 rfl
 have k1 : w.cell? ⟨g, 1, none⟩ = some (.int .i64 0) := H.cell 0 rfl 1 rfl
 clear H
 have hsb : (0 : Int) ≤ (c : Int) := by omega
 rcases A with _ | ad
 ·
  go_enter Try.func88, Try.ntmps88
  go_wp2_with fail
  refine St (fun W => W.cell? ⟨g, 0, none⟩ = some (.slice none 0 c) ∧ W.cell? ⟨g, 1, none⟩ = some (.int .i64 0)) (fun hHeld => ?_) (by exact ⟨k0, k1⟩)
  refine Tk 0 ?_
  refine Tk 1 ?_
  refine Tk 2 ?_
  refine Tk 3 ?_
  refine Tk 4 ?_
  refine Tk 5 ?_
  refine Tk 6 ?_
  refine Tk 7 ?_
  refine Tk 8 ?_
  refine Tk 9 ?_
  refine Tk 10 ?_
  refine Tk 11 ?_
  refine Tk 12 ?_
  refine Dn ?_
  have H1 := Aside0.mk H0.out.drew
  clear H0 k0 k1 hHeld
  generalize w.drew = w1 at *
  go_wp2_with fail
  go_loopw [25] (fun v25 wr => v25 = .int .i64 0 ∧ Aside0 (Own B w0 wr (.blk g #[.slice none 0 c, .int .i64 0, vl, .int .u64 nx] 73 :: L))) (fun v25 wr => 0)
  case atStart => exact ⟨rfl, H1⟩
  case round =>
   obtain ⟨rfl, HI⟩ := hrel
   have j1 : wr.cell? ⟨g, 1, none⟩ = some (.int .i64 0) ∧ wr.frozen? ⟨g, 1, none⟩ = false := ⟨HI.out.cell 0 rfl 1 rfl, HI.out.fz 0 rfl 1⟩
   clear H1
   go_wp2_with fail
   refine bodyPost_end (results_none rfl _ _ _) rfl ?_
   exact ⟨rfl, HI.out.put 0 rfl 1 _ rfl⟩
 ·
  go_enter Try.func88, Try.ntmps88
  go_wp2_with fail
  refine St (fun W => W.cell? ⟨g, 0, none⟩ = some (.slice (some ad) 0 c) ∧ W.cell? ⟨g, 1, none⟩ = some (.int .i64 0)) (fun hHeld => ?_) (by exact ⟨k0, k1⟩)
  refine Tk 0 ?_
  refine Tk 1 ?_
  refine Tk 2 ?_
  refine Tk 3 ?_
  refine Tk 4 ?_
  refine Tk 5 ?_
  refine Tk 6 ?_
  refine Tk 7 ?_
  refine Tk 8 ?_
  refine Tk 9 ?_
  refine Tk 10 ?_
  refine Tk 11 ?_
  refine Tk 12 ?_
  refine Dn ?_
  have H1 := Aside0.mk H0.out.drew
  clear H0 k0 k1 hHeld
  generalize w.drew = w1 at *
  go_wp2_with fail
  go_loopw [25] (fun v25 wr => v25 = .int .i64 0 ∧ Aside0 (Own B w0 wr (.blk g #[.slice (some ad) 0 c, .int .i64 0, vl, .int .u64 nx] 73 :: L))) (fun v25 wr => 0)
  case atStart => exact ⟨rfl, H1⟩
  case round =>
   obtain ⟨rfl, HI⟩ := hrel
   have j1 : wr.cell? ⟨g, 1, none⟩ = some (.int .i64 0) ∧ wr.frozen? ⟨g, 1, none⟩ = false := ⟨HI.out.cell 0 rfl 1 rfl, HI.out.fz 0 rfl 1⟩
   clear H1
   go_wp2_with fail
   refine bodyPost_end (results_none rfl _ _ _) rfl ?_
   exact ⟨rfl, HI.out.put 0 rfl 1 _ rfl⟩
theorem take_all (q : List SQ) (tk n : Nat) (l : List (List Int)) (nx : Int) (g cq : Nat) (A : Option Addr) (vl : Value) {B : Nat} {w0 w : World} {L : List Item}
 (H : Own B w0 w (.blk g #[.slice A q.length cq, .int .i64 (tk : Int), vl, .int .u64 nx] 73 :: .row kQ 78 (.slice A q.length cq) q :: .row kL 74 vl l :: L))
 (hcq : q.length ≤ cq) (hn : tk + n ≤ q.length) (hq : q.length ≤ 1000000) (hl : l.length ≤ 1000000) (hqm : ∀ d ∈ q, d.f1.length ≤ 1099511627776) :
 Calls Try.prog 88 #[.pointer (some ⟨g, 0, none⟩), .int .i64 (n : Int)] w fun e w' => e = .returned (.tuple #[]) ∧ ∃ vl', Own B w0 w' (.blk g #[.slice A q.length cq, .int .i64 ((tk + n : Nat) : Int), vl', .int .u64 nx] 73 :: .row kQ 78 (.slice A q.length cq) q :: .row kL 74 vl' (l ++ takenL q tk n) :: L) := by
 by_cases hp : 0 < q.length
 ·obtain ⟨gq, cap, he, _⟩ := H.form 1 rfl hp
  injection he with he1 he2 he3
  subst he1
  exact take_any q tk n l nx g gq cq vl H hcq hn hq hl hqm
 ·obtain rfl : q = [] := List.length_eq_zero_iff.1 (by omega)
  have hn' : tk + n ≤ 0 := hn
  obtain rfl : tk = 0 := by omega
  obtain rfl : n = 0 := by omega
  refine (take0_any A cq vl nx g H).mono ?_
  rintro e w' ⟨rfl, h⟩
  exact ⟨rfl, vl, by rw [show l ++ takenL [] 0 0 = l by simp [takenL]]; exact h⟩
def postI (x : Box) (b : List Int) : Box × Int :=
 if mayI x.q x.tk x.l = true then
  if (batchP b).2 = 0 then
   if (batchP b).1.n = x.nx ∧ (batchP b).1.t ≤ (x.q.length : Int) - x.tk then
    if (x.l ++ takenL x.q x.tk.toNat (batchP b).1.t.toNat ++ (batchP b).1.ms.filter (fun m => !depB m)).length ≤ 4096 then
     (⟨x.q, x.tk + (batchP b).1.t, x.l ++ takenL x.q x.tk.toNat (batchP b).1.t.toNat ++ (batchP b).1.ms.filter (fun m => !depB m), IntKind.u64.wrap (x.nx + 1)⟩, 0)
    else (zeroB, 4)
   else (zeroB, 200)
  else (zeroB, (batchP b).2)
 else (zeroB, 2)
set_option maxHeartbeats 4000000 in
set_option maxRecDepth 100000 in
theorem post_any (x : Box) (b : List Int) (A1 A2 A3 : Option Addr) (c1 c2 c3 : Nat) (w : World) (hC1 : Kd.C kQ w A1 x.q.length x.q) (hc1 : x.q.length ≤ c1) (hC2 : Kd.C kL w A2 x.l.length x.l) (hc2 : x.l.length ≤ c2) (hC3 : Kd.C kB w A3 b.length b) (hc3 : b.length ≤ c3)
 (hb : ∀ y ∈ b, 0 ≤ y ∧ y ≤ 255) :
 Calls Try.prog 37 #[.agg #[.slice A1 x.q.length c1, .int .i64 x.tk, .slice A2 x.l.length c2, .int .u64 x.nx], .slice A3 b.length c3] w (BoxPost w (postI x b)) := by
 obtain ⟨q, tk, l, nx⟩ := x
 have H0 := Aside0.mk (Own.start w)
 have HMY := Aside0.mk (fun W hb => imay_any q tk l nx A1 A2 c1 c2 W (Kd.C_below hC1 hb) hc1 (Kd.C_below hC2 hb) hc2)
 have HCP := Aside0.mk (fun W (hb : Below w.heap.size w W) h1 h2 => copied_any q tk l nx A1 A2 c1 c2 W (Kd.C_below hC1 hb) hc1 (Kd.C_below hC2 hb) hc2 h1 h2)
 have HRB := Aside0.mk (fun W (h : Below w.heap.size w W) => readbatch_any b A3 c3 W hb (Kd.C_below hC3 h) hc3)
 have HLN := Aside0.mk (fun h : mayI q tk l = true => mayI_len h)
 have HAL := Aside0.mk (fun h : mayI q tk l = true => mayI_all h)
 have HBO := Aside0.mk (batchP_ok b hb)
 obtain ⟨r, hr⟩ : ∃ r, r = postI ⟨q, tk, l, nx⟩ b := ⟨_, rfl⟩
 rw [← hr]
 unfold postI at hr
 dsimp only at hr
 dsimp only
 clear hC1 hC2 hC3 hc1 hc2 hc3 hb
 generalize batchP b = bt at *
 obtain ⟨⟨bn, t, ms⟩, er⟩ := bt
 dsimp only at hr HBO
 have HR := Aside0.mk hr
 clear hr
 generalize hnn : q.length = n at *
 have HN := Aside0.mk hnn
 clear hnn
 generalize hmm : l.length = m at *
 have HM := Aside0.mk hmm
 clear hmm
 generalize b.length = nb at *
 obtain ⟨my, hmy⟩ : ∃ my, my = mayI q tk l := ⟨_, rfl⟩
 rw [← hmy] at HMY HLN HAL HR
 clear hmy
 have HZ : Aside0 (Arr 4 #[.slice none 0 0, .int .i64 0, .slice none 0 0, .int .u64 0]) := ⟨rfl, by simp [Value.oneCell']⟩
 have HZB := zB_one
 cases my
 case false =>
  obtain rfl : r = (zeroB, 2) := by rw [HR.out, if_neg (by decide)]
  clear HR
  go_enter Try.func37, Try.ntmps37
  go_wp2_with (first
   | fail
   | ((with_reducible refine Gd 2 ?_); ( refine OB H0 73 #[.slice A1 n c1, .int .i64 tk, .slice A2 m c2, .int .u64 nx] ?_; intro g2 w1 H1 B1))
   | ((with_reducible refine Gd 4 ?_); ( refine OA H1 73 #[.slice none 0 0, .int .i64 0, .slice none 0 0, .int .u64 0] 4 ?_; intro g4 w2 H2 B2))
   | ((with_reducible refine Gd 9 ?_); ( refine OV 2 H2 1 g2 73 rfl Try.underlying73 (by kernel_rfl) ?_))
   | (go_at_call 57; refine (HMY.out _ H2.out.below).mono ?_; rintro e w3 ⟨rfl, hB3⟩; have H3 := Aside0.mk (H2.out.step hB3); clear hB3)
   | ((with_reducible refine Gs 73 4 ?_); ( refine OS 4 12 H3 0 g4 73 #[.slice none 0 0, .int .i64 0, .slice none 0 0, .int .u64 0] 4 HZ HZ ?_; intro w4 H4))
   )
  refine bodyPost_ret (RVt H4 0 g4 Try.underlying73) rfl ?_
  exact ⟨_, _, rfl, ((((H4.out.erase 0).erase 0).null kL _).null kQ _)⟩
 case true =>
 replace HR := Aside0.mk (HR.out.trans (if_pos rfl))
 by_cases her : er = 0
 case neg =>
  have hne : (er != 0) = true := by simpa using her
  obtain rfl : r = (zeroB, er) := by rw [HR.out, if_neg her]
  clear HR her
  go_enter Try.func37, Try.ntmps37
  go_wp2_with (first
   | fail
   | ((with_reducible refine Gd 2 ?_); ( refine OB H0 73 #[.slice A1 n c1, .int .i64 tk, .slice A2 m c2, .int .u64 nx] ?_; intro g2 w1 H1 B1))
   | ((with_reducible refine Gd 4 ?_); ( refine OA H1 73 #[.slice none 0 0, .int .i64 0, .slice none 0 0, .int .u64 0] 4 ?_; intro g4 w2 H2 B2))
   | ((with_reducible refine Gd 9 ?_); ( refine OV 2 H2 1 g2 73 rfl Try.underlying73 (by kernel_rfl) ?_))
   | (go_at_call 57; refine (HMY.out _ H2.out.below).mono ?_; rintro e w3 ⟨rfl, hB3⟩; have H3 := Aside0.mk (H2.out.step hB3); clear hB3)
   | (go_at_call 55; refine (HRB.out _ H3.out.below).mono ?_; rintro e w4 ⟨vb, rfl, hO4⟩; obtain ⟨Ab, cb, rfl, hcb, _⟩ := hO4.reads 0 rfl; have H4 := Aside0.mk (H3.out.call hO4); clear hO4)
   | ((with_reducible refine Gd 6 ?_); ( refine OA H4 108 #[.int .u64 0, .int .u64 0, .slice none 0 0] 3 ?_; intro g6 w5 H5 B5))
   | ((with_reducible refine Gs 108 6 ?_); have HXB : Aside0 (Arr 3 #[.int .u64 bn, .int .u64 t, .slice Ab ms.length cb]) := ⟨rfl, by simp [Value.oneCell']⟩; refine OS 6 16 H5 0 g6 108 #[.int .u64 bn, .int .u64 t, .slice Ab ms.length cb] 3 HZB HXB ?_; intro w6 H6)
   | ((with_reducible refine Gs 73 4 ?_); ( refine OS 4 21 H6 2 g4 73 #[.slice none 0 0, .int .i64 0, .slice none 0 0, .int .u64 0] 4 HZ HZ ?_; intro w7 H7))
   )
  refine bodyPost_ret (RVt H7 2 g4 Try.underlying73) rfl ?_
  exact ⟨_, _, rfl, (((((H7.out.erase 3).erase 2).erase 0).erase 0).null kL _).null kQ _⟩
 case pos =>
 subst her
 replace HR := Aside0.mk (HR.out.trans (if_pos rfl))
 obtain ⟨hn1, hm1, ht0, htn⟩ := HLN.out rfl
 obtain ⟨hq0, hl0⟩ := HAL.out rfl
 obtain ⟨ti, rfl⟩ := Int.eq_ofNat_of_zero_le ht0
 obtain ⟨tn, rfl⟩ := Int.eq_ofNat_of_zero_le HBO.out.1
 replace htn : ti ≤ n := by omega
 have hw1 : IntKind.i64.wrap ((n : Int) - (ti : Int)) = ((n - ti : Nat) : Int) := by rw [IntWalk.i64_in _ (by omega)]; omega
 have hw2 : IntKind.u64.wrap ((n - ti : Nat) : Int) = ((n - ti : Nat) : Int) := IntWalk.u64_in _ (by omega)
 by_cases hbn : bn = nx
 case neg =>
  have hx : (bn != nx) = true := by simpa using hbn
  obtain rfl : r = (zeroB, 200) := by rw [HR.out, if_neg (by omega)]
  clear HR
  go_enter Try.func37, Try.ntmps37
  go_wp2_with (first
   | fail
   | ((with_reducible refine Gd 2 ?_); ( refine OB H0 73 (#[.slice A1 n c1, .int .i64 (ti : Int), .slice A2 m c2, .int .u64 nx]) ?_; intro g2 w1 H1 B1))
   | ((with_reducible refine Gd 4 ?_); ( refine OA H1 73 #[.slice none 0 0, .int .i64 0, .slice none 0 0, .int .u64 0] 4 ?_; intro g4 w2 H2 B2))
   | ((with_reducible refine Gd 9 ?_); ( refine OV 2 H2 1 g2 73 rfl Try.underlying73 (by kernel_rfl) ?_))
   | (go_at_call 57; refine (HMY.out _ H2.out.below).mono ?_; rintro e w3 ⟨rfl, hB3⟩; have H3 := Aside0.mk (H2.out.step hB3); clear hB3)
   | (go_at_call 55; refine (HRB.out _ H3.out.below).mono ?_; rintro e w4 ⟨vb, rfl, hO4⟩; obtain ⟨Ab, cb, rfl, hcb, _⟩ := hO4.reads 0 rfl; have H4 := Aside0.mk (H3.out.call hO4); clear hO4)
   | ((with_reducible refine Gd 6 ?_); ( refine OA H4 108 #[.int .u64 0, .int .u64 0, .slice none 0 0] 3 ?_; intro g6 w5 H5 B5))
   | ((with_reducible refine Gs 108 6 ?_); have HXB : Aside0 (Arr 3 #[.int .u64 bn, .int .u64 (tn : Int), .slice Ab ms.length cb]) := ⟨rfl, by simp [Value.oneCell']⟩; refine OS 6 16 H5 0 g6 108 #[.int .u64 bn, .int .u64 (tn : Int), .slice Ab ms.length cb] 3 HZB HXB ?_; intro w6 H6)
   | ((with_reducible refine Gd 25 ?_); ( refine OD 24 23 H6 0 g6 0 (.int .u64 bn) Try.underlying23 ?_))
   | ((with_reducible refine Gd 27 ?_); ( refine OD 26 23 H6 3 g2 3 (.int .u64 nx) Try.underlying23 ?_))
   | ((with_reducible refine Gd 31 ?_); ( refine GD 30 23 H6 0 g6 1 (.int .u64 (tn : Int)) Try.underlying23 ?_))
   | ((with_reducible refine Gd 33 ?_); ( refine GD 32 70 H6 3 g2 0 (.slice A1 n c1) Try.underlying70 ?_))
   | ((with_reducible refine Gd 36 ?_); ( refine GD 35 3 H6 3 g2 1 (.int .i64 (ti : Int)) Try.underlying3 ?_))
   | ((with_reducible refine Gs 73 4 ?_); ( refine OS 4 41 H6 2 g4 73 #[.slice none 0 0, .int .i64 0, .slice none 0 0, .int .u64 0] 4 HZ HZ ?_; intro w7 H7))
   )
  refine bodyPost_ret (RVt H7 2 g4 Try.underlying73) rfl ?_
  exact ⟨_, _, rfl, (((((H7.out.erase 3).erase 2).erase 0).erase 0).null kL _).null kQ _⟩
 case pos =>
 subst hbn
 have hx : (bn != bn) = false := by simp
 by_cases htt : tn ≤ n - ti
 case neg =>
  have hy : decide (((n - ti : Nat) : Int) < (tn : Int)) = true := decide_eq_true (by omega)
  obtain rfl : r = (zeroB, 200) := by rw [HR.out, if_neg (by omega)]
  clear HR
  go_enter Try.func37, Try.ntmps37
  go_wp2_with (first
   | fail
   | ((with_reducible refine Gd 2 ?_); ( refine OB H0 73 (#[.slice A1 n c1, .int .i64 (ti : Int), .slice A2 m c2, .int .u64 bn]) ?_; intro g2 w1 H1 B1))
   | ((with_reducible refine Gd 4 ?_); ( refine OA H1 73 #[.slice none 0 0, .int .i64 0, .slice none 0 0, .int .u64 0] 4 ?_; intro g4 w2 H2 B2))
   | ((with_reducible refine Gd 9 ?_); ( refine OV 2 H2 1 g2 73 rfl Try.underlying73 (by kernel_rfl) ?_))
   | (go_at_call 57; refine (HMY.out _ H2.out.below).mono ?_; rintro e w3 ⟨rfl, hB3⟩; have H3 := Aside0.mk (H2.out.step hB3); clear hB3)
   | (go_at_call 55; refine (HRB.out _ H3.out.below).mono ?_; rintro e w4 ⟨vb, rfl, hO4⟩; obtain ⟨Ab, cb, rfl, hcb, _⟩ := hO4.reads 0 rfl; have H4 := Aside0.mk (H3.out.call hO4); clear hO4)
   | ((with_reducible refine Gd 6 ?_); ( refine OA H4 108 #[.int .u64 0, .int .u64 0, .slice none 0 0] 3 ?_; intro g6 w5 H5 B5))
   | ((with_reducible refine Gs 108 6 ?_); have HXB : Aside0 (Arr 3 #[.int .u64 bn, .int .u64 (tn : Int), .slice Ab ms.length cb]) := ⟨rfl, by simp [Value.oneCell']⟩; refine OS 6 16 H5 0 g6 108 #[.int .u64 bn, .int .u64 (tn : Int), .slice Ab ms.length cb] 3 HZB HXB ?_; intro w6 H6)
   | ((with_reducible refine Gd 25 ?_); ( refine OD 24 23 H6 0 g6 0 (.int .u64 bn) Try.underlying23 ?_))
   | ((with_reducible refine Gd 27 ?_); ( refine OD 26 23 H6 3 g2 3 (.int .u64 bn) Try.underlying23 ?_))
   | ((with_reducible refine Gd 31 ?_); ( refine GD 30 23 H6 0 g6 1 (.int .u64 (tn : Int)) Try.underlying23 ?_))
   | ((with_reducible refine Gd 33 ?_); ( refine GD 32 70 H6 3 g2 0 (.slice A1 n c1) Try.underlying70 ?_))
   | ((with_reducible refine Gd 36 ?_); ( refine GD 35 3 H6 3 g2 1 (.int .i64 (ti : Int)) Try.underlying3 ?_))
   | ((with_reducible refine Gs 73 4 ?_); ( refine OS 4 41 H6 2 g4 73 #[.slice none 0 0, .int .i64 0, .slice none 0 0, .int .u64 0] 4 HZ HZ ?_; intro w7 H7))
   )
  refine bodyPost_ret (RVt H7 2 g4 Try.underlying73) rfl ?_
  exact ⟨_, _, rfl, (((((H7.out.erase 3).erase 2).erase 0).erase 0).null kL _).null kQ _⟩
 case pos =>
 have hy : decide (((n - ti : Nat) : Int) < (tn : Int)) = false := decide_eq_false (by omega)
 replace HR := Aside0.mk (HR.out.trans (if_pos ⟨rfl, by omega⟩))
 have HQM := Aside0.mk (fun (d : SQ) (hd : d ∈ q) => (show d.f1.length ≤ 1099511627776 by have := (hq0 d hd).2; omega))
 have HCP2 := Aside0.mk (fun W hb => HCP.out W hb (by have := HN.out; omega) (by have := HM.out; omega) HQM.out (fun m hm => by have := hl0 m hm; omega))
 have HNB : Aside0 (q.length ≤ 1000000 ∧ l.length ≤ 1000000 ∧ m ≤ 4096 ∧ n ≤ 4096) := ⟨by have := HN.out; omega, by have := HM.out; omega, hm1, hn1⟩
 have hw3 : IntKind.i64.wrap (tn : Int) = (tn : Int) := IntWalk.i64_in _ (by omega)
 clear HAL HLN HCP hq0 hl0 ht0
 refine (callsIn_wide (n := 4)).1 ?_
 refine callsIn_of_wp_marks Try.func37 rfl trivial ?_ rfl
 refine wpIn_wide.2 ?_
 simp only [Try.ntmps37, List.size_toArray, List.length_cons, List.length_nil, Nat.reduceAdd, Nat.reduceSub, Array.replicate_succ, Array.replicate_zero, List.push_toArray, List.append_toArray, List.nil_append, List.cons_append]
 go_wp2_with (first
  | fail
  | ((with_reducible refine Gd 2 ?_); ( refine OB H0 73 (#[.slice A1 n c1, .int .i64 (ti : Int), .slice A2 m c2, .int .u64 bn]) ?_; intro g2 w1 H1 B1))
  | ((with_reducible refine Gd 4 ?_); ( refine OA H1 73 #[.slice none 0 0, .int .i64 0, .slice none 0 0, .int .u64 0] 4 ?_; intro g4 w2 H2 B2))
  | ((with_reducible refine Gd 9 ?_); ( refine OV 2 H2 1 g2 73 rfl Try.underlying73 (by kernel_rfl) ?_))
  | (go_at_call 57; refine (HMY.out _ H2.out.below).mono ?_; rintro e w3 ⟨rfl, hB3⟩; have H3 := Aside0.mk (H2.out.step hB3); clear hB3)
  | (go_at_call 55; refine (HRB.out _ H3.out.below).mono ?_; rintro e w4 ⟨vb, rfl, hO4⟩; obtain ⟨Ab, cb, rfl, hcb, _⟩ := hO4.reads 0 rfl; have H4 := Aside0.mk (H3.out.call hO4); clear hO4)
  | ((with_reducible refine Gd 6 ?_); ( refine OA H4 108 #[.int .u64 0, .int .u64 0, .slice none 0 0] 3 ?_; intro g6 w5 H5 B5))
  | ((with_reducible refine Gs 108 6 ?_); have HXB : Aside0 (Arr 3 #[.int .u64 bn, .int .u64 (tn : Int), .slice Ab ms.length cb]) := ⟨rfl, by simp [Value.oneCell']⟩; refine OS 6 16 H5 0 g6 108 #[.int .u64 bn, .int .u64 (tn : Int), .slice Ab ms.length cb] 3 HZB HXB ?_; intro w6 H6)
  | ((with_reducible refine Gd 25 ?_); ( refine OD 24 23 H6 0 g6 0 (.int .u64 bn) Try.underlying23 ?_))
  | ((with_reducible refine Gd 27 ?_); ( refine OD 26 23 H6 3 g2 3 (.int .u64 bn) Try.underlying23 ?_))
  | ((with_reducible refine Gd 31 ?_); ( refine GD 30 23 H6 0 g6 1 (.int .u64 (tn : Int)) Try.underlying23 ?_))
  | ((with_reducible refine Gd 33 ?_); ( refine GD 32 70 H6 3 g2 0 (.slice A1 n c1) Try.underlying70 ?_))
  | ((with_reducible refine Gd 36 ?_); ( refine GD 35 3 H6 3 g2 1 (.int .i64 (ti : Int)) Try.underlying3 ?_))
  | ((with_reducible refine Gd 42 ?_); ( refine OV 2 H6 3 g2 73 rfl Try.underlying73 (by kernel_rfl) ?_))
  | (go_at_call 87; refine (HCP2.out _ H6.out.below).mono ?_; rintro e w7 ⟨v1, v2, rfl, hO7⟩; obtain ⟨A4, c4, rfl, hcl4, _⟩ := hO7.reads 0 rfl; obtain ⟨A5, c5, rfl, hcl5, _⟩ := hO7.reads 1 rfl; have H7 := Aside0.mk (H6.out.call hO7); have HA4 : Aside0 (Arr 4 #[.slice A4 q.length c4, .int .i64 (ti : Int), .slice A5 l.length c5, .int .u64 bn]) := ⟨rfl, by simp [Value.oneCell']⟩; clear hO7)
  | ((with_reducible refine Gs 73 2 ?_); have HA1 : Aside0 (Arr 4 #[.slice A1 n c1, .int .i64 (ti : Int), .slice A2 m c2, .int .u64 bn]) := ⟨rfl, by simp [Value.oneCell']⟩; refine OS 2 43 H7 5 g2 73 #[.slice A4 q.length c4, .int .i64 (ti : Int), .slice A5 l.length c5, .int .u64 bn] 4 HA1 HA4 ?_; intro w8 H8)
  | ((with_reducible refine Gd 45 ?_); ( refine OD 44 23 H8 2 g6 1 (.int .u64 (tn : Int)) Try.underlying23 ?_))
  | (go_at_call 88; refine (take_all q ti tn l bn g2 c4 A4 _ (H8.out.bring 5 rfl) hcl4 (by have := HN.out; omega) HNB.out.1 HNB.out.2.1 HQM.out).mono ?_; rintro e w9 ⟨rfl, v9, H9⟩; replace H9 := Aside0.mk H9)
  | ((with_reducible refine Gd 49 ?_); ( refine OD 48 71 H9 3 g6 2 (.slice Ab ms.length cb) Try.underlying71 ?_))
  | (go_at_call 89; refine (keptM_call _ _ _ ⟨_, _, _, rfl⟩ ⟨_, _, _, rfl⟩).mono ?_; rintro e w10 ⟨rfl, rfl⟩)
  )
 have HL9 : Aside0 (Own w.heap.size w w9 [.blk g2 #[.slice A4 q.length c4, .int .i64 ((ti + tn : Nat) : Int), v9, .int .u64 bn] 73, .row kQ 78 (.slice A4 q.length c4) q, .row kL 74 v9 (l ++ takenL q ti tn), .blk g6 #[.int .u64 bn, .int .u64 (tn : Int), .slice Ab ms.length cb] 108, .row kL 74 (.slice Ab ms.length cb) ms, .blk g4 #[.slice none 0 0, .int .i64 0, .slice none 0 0, .int .u64 0] 73]) := ⟨H9.out⟩
 have HL0 : Aside0 ((l ++ takenL q ti tn).length ≤ 8192) := ⟨by
  have := HNB.out.2.2.1
  have := HM.out
  have h2 : (takenL q ti tn).length ≤ tn := by unfold takenL; rw [List.length_map, List.length_take]; omega
  rw [List.length_append]; omega⟩
 replace HR : Aside0 (r = if (l ++ takenL q ti tn ++ ms.filter (fun m => !depB m)).length ≤ 4096 then (⟨q, ((ti + tn : Nat) : Int), l ++ takenL q ti tn ++ ms.filter (fun m => !depB m), IntKind.u64.wrap (bn + 1)⟩, 0) else (zeroB, 4)) := ⟨HR.out⟩
 clear H0 H1 B1 H2 B2 H3 H4 H5 B5 H6 H7 H8 H9 HA1 HA4 HCP2 HXB HMY HRB hcl5
 generalize l ++ takenL q ti tn = L0 at *
 have H10 := Aside0.mk ((HL9.out.new #[.slice Ab ms.length cb] 71).new #[.func (.func 90) #[] #[]] 82)
 clear HL9
 obtain ⟨W0, hW0⟩ : ∃ W0, (w9.alloc (.cells #[.slice Ab ms.length cb] 71)).alloc (.cells #[.func (.func 90) #[] #[]] 82) = W0 := ⟨_, rfl⟩
 have hsz : W0.heap.size = w9.heap.size + 2 := by rw [← hW0]; simp
 simp only [World.size_alloc] at H10
 rw [hW0] at H10 ⊢
 clear hW0
 generalize w9.heap.size = s at *
 have HB : Aside0 (Own w.heap.size w W0 (.row kL 74 v9 L0 :: .row kL 74 (.slice Ab ms.length cb) ms :: [.blk (s + 1) #[.func (.func 90) #[] #[]] 82, .blk s #[.slice Ab ms.length cb] 71, .blk g2 #[.slice A4 q.length c4, .int .i64 ((ti + tn : Nat) : Int), v9, .int .u64 bn] 73, .row kQ 78 (.slice A4 q.length c4) q, .blk g6 #[.int .u64 bn, .int .u64 (tn : Int), .slice Ab ms.length cb] 108, .blk g4 #[.slice none 0 0, .int .i64 0, .slice none 0 0, .int .u64 0] 73])) := ⟨(H10.out.bring 6 rfl).bring 5 rfl⟩
 obtain ⟨g, hAb, hLn⟩ := Own.lend (d := kL) rfl HB.out
 have HLn := Aside0.mk hLn
 have hV9 := HB.out.row_typed 0 rfl
 have hgt : 0 < ms.length → ∃ cells, W0.heap[g]? = some (.cells cells 74 (0, 0)) := fun hp => HB.out.row_typed 1 rfl g (by rw [hAb hp]; rfl)
 have hG2 := HB.out.get 4 rfl
 have hGS := HB.out.get 3 rfl
 have hGK := HB.out.get 2 rfl
 have hbase := HB.out.base
 have hfar : ∀ (k : Nat) (cells : Array Value) (t : TypeId), W0.heap[k]? = some (.cells cells t (0, 0)) → t ≠ 73 → t ≠ 74 → ∀ W', KP W0.heap.size g2 v9.ownBlock W0 W' → W'.heap[k]? = W0.heap[k]? := fun k cells t hk h1 h2 W' hW => hW.same k (blk_lt hk) (blk_lt hk) (fun e => by
  subst e
  rw [hG2] at hk
  injection hk with hk
  injection hk with _ hk
  exact h1 hk.symm) (fun e => by
  obtain ⟨c2, h3⟩ := hV9 k e.symm
  rw [h3] at hk
  injection hk with hk
  injection hk with _ hk
  exact h2 hk.symm)
 have hfg : 0 < ms.length → ∀ W', KP W0.heap.size g2 v9.ownBlock W0 W' → W'.heap[g]? = W0.heap[g]? := fun hp W' hW => by
  obtain ⟨cells, hc⟩ := hgt hp
  refine hW.same g (blk_lt hc) (blk_lt hc) (fun e => ?_) (HLn.out.lend_ne hp)
  subst e
  rw [hG2] at hc
  injection hc with hc
  injection hc with _ hc
  cases hc
 clear HB H10 hLn
 obtain ⟨V, hVl, hV⟩ := choose_list2 (fun i (p : GE W0 g ms) => p.1.i = i ∧ ∀ W', KP W0.heap.size g2 v9.ownBlock W0 W' → Kd.C kB W' p.1.A p.1.b.length p.1.b) ms.length (fun i hi => by
  obtain ⟨u, h1, h2⟩ := HLn.out.lend_far i hi
  obtain ⟨Ax, cx, hu, hle, _⟩ := h2 W0 (fun _ _ _ _ _ => rfl)
  injection hu with hu _
  subst hu
  refine ⟨⟨⟨ms[i], Ax, cx, i⟩, ⟨hi, rfl⟩, h1, hle, HBO.out.2.1 _ (List.getElem_mem hi)⟩, rfl, fun W' hW => ?_⟩
  obtain ⟨A', c', hu', _, hC'⟩ := h2 W' (fun k cells h3 _ h5 => hfar k cells _ h5 (by decide) (by decide) W' hW)
  injection hu' with hu' _
  injection hu' with e1 e2 e3
  subst e1
  exact hC')
 have hVm : V.map (fun p => p.1.b) = ms := by
  refine List.ext_getElem (by simpa using hVl) fun i h1 h2 => ?_
  rw [List.getElem_map]
  obtain ⟨h3, _⟩ := hV i (by omega)
  obtain ⟨⟨h4, h5⟩, _⟩ := V[i].2
  rw [h5]
  simp only [h3]
 have hVf : (V.filter (fun p => !depB p.1.b)).map (fun p => p.1.b) = ms.filter (fun m => !depB m) := by
  have h := congrArg (List.filter fun m => !depB m) hVm
  rw [List.filter_map] at h
  exact h
 have hCl : ∀ vl : Value, ∀ xs, ∀ it ∈ (Item.lend kL 74 vl xs g ms :: [Item.blk (s + 1) #[.func (.func 90) #[] #[]] 82, .blk s #[.slice Ab ms.length cb] 71, .blk g2 #[.slice A4 q.length c4, .int .i64 ((ti + tn : Nat) : Int), vl, .int .u64 bn] 73, .row kQ 78 (.slice A4 q.length c4) q, .blk g6 #[.int .u64 bn, .int .u64 (tn : Int), .slice Ab ms.length cb] 108, .blk g4 #[.slice none 0 0, .int .i64 0, .slice none 0 0, .int .u64 0] 73]), it.Cl := fun vl xs =>
  Cl_cons (Cl_lend _ _ _ _ _ _ lend_cells) (Cl_cons (Cl_blk _ _ _) (Cl_cons (Cl_blk _ _ _) (Cl_cons (Cl_blk _ _ _) (Cl_cons (Cl_row _ _ _ _) (Cl_cons (Cl_blk _ _ _) (Cl_cons (Cl_blk _ _ _) Cl_nil))))))
 obtain ⟨IP, hIP⟩ : ∃ IP : List (GE W0 g ms) → World → Prop, IP = fun pre W => ∃ vl, Own w.heap.size w W (.lend kL 74 vl (L0 ++ pre.map (fun p => p.1.b)) g ms :: [.blk (s + 1) #[.func (.func 90) #[] #[]] 82, .blk s #[.slice Ab ms.length cb] 71, .blk g2 #[.slice A4 q.length c4, .int .i64 ((ti + tn : Nat) : Int), vl, .int .u64 bn] 73, .row kQ 78 (.slice A4 q.length c4) q, .blk g6 #[.int .u64 bn, .int .u64 (tn : Int), .slice Ab ms.length cb] 108, .blk g4 #[.slice none 0 0, .int .i64 0, .slice none 0 0, .int .u64 0] 73]) ∧ (0 < ms.length → W.heap[g]? = W0.heap[g]?) ∧ (vl.ownBlock = v9.ownBlock ∨ ∃ b, vl.ownBlock = some b ∧ W0.heap.size ≤ b) ∧ W0.heap.size ≤ W.heap.size := ⟨_, rfl⟩
 have hIown : OwnFrom W0.heap.size IP := by
  rw [hIP]
  rintro pre W W' row ⟨vl, h1, h2, h3, h4⟩ hg hr
  refine ⟨vl, h1.other (hCl _ _) hg (fun r e => ⟨Nat.le_trans hbase (hr r e).1, (hr r e).2⟩), fun hp => ?_, h3, Nat.le_trans h4 hg.size⟩
  obtain ⟨cells, hc⟩ := hgt hp
  rw [← h2 hp] at hc
  refine (hg.block g (blk_lt hc) (fun e => ?_)).trans (h2 hp)
  obtain ⟨_, o, ho, hnc⟩ := hr g e.symm
  rw [hc] at ho
  cases ho
  cases hnc
 have hI0 : IP [] W0 := by
  rw [hIP]
  exact ⟨v9, by simpa using HLn.out, fun _ => rfl, .inl rfl, Nat.le_refl _⟩
 have hseq : SeqStopsK Fence.wide 3 Try.prog 135 #[.pointer (some ⟨s, 0, none⟩), .pointer (some ⟨s + 1, 0, none⟩)] (fun x : GE W0 g ms => #[x.1.val]) (KP W0.heap.size g2 v9.ownBlock) (fun ys => ys = V.filter (fun p => !depB p.1.b)) (fun _ => True) V.length W0 := fun l J Jx W hW hJ hJx hY hJ0 => by
  refine keptM_in 3 (by decide) W0 (KP W0.heap.size g2 v9.ownBlock) (fun h k => h.trans k) (fun h => KP.of_below h) g ms V Ab cb (fun h => hAb (by omega)) l s (s + 1) J Jx W (KP.of_below hW) hJ (by have := HBO.out.2.2; omega) (fun W' hk i hi => ?_) (fun W' hk => ?_) (fun W' hk => ?_) hY hJ0
  ·obtain ⟨h3, h4⟩ := hV i hi
   refine ⟨?_, h4 W' hk⟩
   have h5 := V[i].2.2.1
   rw [h3] at h5
   exact (World.cell?_of_block (hfg (by omega) W' hk)).trans h5
  ·rw [hVl]
   exact blk_cell ((hfar s _ _ hGS (by decide) (by decide) W' hk).trans hGS) 0
  ·exact blk_cell ((hfar (s + 1) _ _ hGK (by decide) (by decide) W' hk).trans hGK) 0
 have HVf := Aside0.mk hVf
 have HCL := Aside0.mk hCl
 have HHG := Aside0.mk hgt
 have HV9 := Aside0.mk hV9
 have hVn : V.length ≤ 4096 := by have := HBO.out.2.2; omega
 clear hVf hCl hgt hV9 hV hVm hfar hfg hGS hGK hG2 hcl4
 refine wpIn_range1 (nF := 4) (p := 51) (c := 8) (fun x : GE W0 g ms => x.1.val) (by decide) (gf := 135) (lb := #[.pointer (some ⟨s, 0, none⟩), .pointer (some ⟨s + 1, 0, none⟩)]) rfl (enters_of Try.func135 (by kernel_rfl) rfl) hseq
  (fun h k => h.trans k) (fun W l o o' hl _ _ _ => KP.put W l o' hl) (KP.refl _ _ _) IP hIown hI0 ?assign ?body ?done
 case assign =>
  intro l x W K hK
  simp only [List.setIfInBounds_toArray, List.set_cons_zero, List.set_cons_succ] at hK ⊢
  gi_wp2
  exact hK
 case body =>
  rintro l x0 ⟨⟨b, Ax, cx, ix⟩, ⟨⟨hix, hbx⟩, hcell, hle, hbyt⟩⟩ W hI hlt
  rw [hIP] at hI
  obtain ⟨vl, hO, hgg, hvb, hsW⟩ := hI
  dsimp only at hix hbx hcell hle
  subst hbx
  have hu : W.cell? ⟨g, ix, none⟩ = some (.slice Ax ms[ix].length cx) := (World.cell?_of_block (hgg (by omega))).trans hcell
  have k2 : W.cell? ⟨g2, 2, none⟩ = some vl := hO.cell 3 rfl 2 rfl
  have hbd : ((L0 ++ x0.map (fun p => p.1.b)).length + 1) * 24 ≤ 140737488355328 := by
   have := HL0.out
   rw [List.length_append, List.length_map]
   omega
  have hvt := hO.unlend.row_typed 0 rfl
  have hG2 := hO.get 3 rfl
  have HI := Aside0.mk hO
  clear hO
  simp only [List.setIfInBounds_toArray, List.set_cons_zero, List.set_cons_succ, EV.val]
  gi_wp2_with (first | (refine own_append_lendIn kL HI.out rfl (.tmp 53) (.tmp 55) 71 (.slice none 0 0) 24 rfl Try.underlying71 (by kernel_rfl) rfl (by decide) (by decide) ix hix _ hu rfl rfl hbd ?_; intro v1 w1 h1 hg1 hgr hat; obtain ⟨A9, c9, hv1, _, _⟩ := h1.lend_reads; obtain ⟨n9, hn9⟩ : ∃ n, n = (L0 ++ x0.map (fun p => p.1.b) ++ [ms[ix]]).length := ⟨_, rfl⟩; rw [← hn9] at hv1; clear hn9; subst hv1; have H1 := Aside0.mk h1; have f1 : w1.cell? ⟨g2, 2, none⟩ = some vl ∧ w1.frozen? ⟨g2, 2, none⟩ = false := ⟨h1.cell 3 rfl 2 rfl, h1.fz 3 rfl 2⟩; clear h1))
  have hk1 : ∀ (u : Value) k, some k ≠ vl.ownBlock → k ≠ g2 → k < W.heap.size → (w1.setCell ⟨g2, 2, none⟩ u).heap[k]? = W.heap[k]? := fun u k h1 h2 h3 => (Below.heap_setCell w1 ⟨g2, 2, none⟩ u k h2).trans (hgr.block k h3 h1)
  have hs1 : ∀ u : Value, W.heap.size ≤ (w1.setCell ⟨g2, 2, none⟩ u).heap.size := fun u => by simpa using hgr.size
  refine ⟨⟨hs1 _, fun k o hk ho hnc => (hk1 _ k (fun e => ?_) (fun e => ?_) (blk_lt ho)).trans ho⟩, ⟨hs1 _, fun k h1 h2 h3 h4 => hk1 _ k (fun e => ?_) h3 h2⟩, ?_⟩
  ·obtain ⟨c2, h3⟩ := hvt k e.symm
   rw [h3] at ho
   cases ho
   cases hnc
  ·subst e
   rw [hG2] at ho
   cases ho
   cases hnc
  ·rcases hvb with hv | ⟨b2, hb2, hle2⟩
   ·exact h4 (e.trans hv)
   ·rw [hb2] at e
    injection e with e
    omega
  ·rw [hIP]
   refine ⟨.slice A9 n9 c9, ?_, fun hp => ?_, ?_, Nat.le_trans hsW (hs1 _)⟩
   ·rw [List.map_append, ← List.append_assoc]
    exact H1.out.put 3 rfl 2 _ rfl
   ·obtain ⟨cells, hc⟩ := HHG.out hp
    rw [← hgg hp] at hc
    refine (hk1 _ g (HI.out.lend_ne hp) (fun e => ?_) (blk_lt hc)).trans (hgg hp)
    subst e
    rw [hG2] at hc
    injection hc with hc
    injection hc with _ hc
    cases hc
   ·rcases hat with ha | ⟨b2, hb2, hle2⟩
    ·rw [ha]; exact hvb
    ·exact .inr ⟨b2, hb2, by omega⟩
 case done =>
  rintro D xs W hD rfl hI hK
  rename_i K1 hK1
  rw [hIP] at hI
  obtain ⟨vl, hO, -, -, -⟩ := hI
  rw [HVf.out] at hO
  have hO2 := hO.unlend
  obtain ⟨L1, hL1⟩ : ∃ L1, L1 = L0 ++ ms.filter (fun m => !depB m) := ⟨_, rfl⟩
  rw [← hL1] at hO2 HR
  clear hL1
  obtain ⟨A6, c6, rfl, hcl6, _⟩ := hO2.reads 0 rfl
  have hCl : ∀ res : Array Value, ∀ nx2 : Int, ∀ it ∈ [Item.row kL 74 (.slice A6 L1.length c6) L1, .blk (s + 1) #[.func (.func 90) #[] #[]] 82, .blk s #[.slice Ab ms.length cb] 71, .blk g2 #[.slice A4 q.length c4, .int .i64 ((ti + tn : Nat) : Int), .slice A6 L1.length c6, .int .u64 nx2] 73, .row kQ 78 (.slice A4 q.length c4) q, .blk g6 #[.int .u64 bn, .int .u64 (tn : Int), .slice Ab ms.length cb] 108, .blk g4 res 73], it.Cl := fun res nx2 =>
   Cl_cons (Cl_row _ _ _ _) (Cl_cons (Cl_blk _ _ _) (Cl_cons (Cl_blk _ _ _) (Cl_cons (Cl_blk _ _ _) (Cl_cons (Cl_row _ _ _ _) (Cl_cons (Cl_blk _ _ _) (Cl_cons (Cl_blk _ _ _) Cl_nil))))))
  have H11 := Aside0.mk (hO2.keepObj (hCl _ _) (Nat.le_trans hbase hD) hK rfl)
  clear hO hO2 hK
  refine hK1 _ _ ?_
  clear hK1 K1 hI0 hIown hseq hIP HCL HHG HV9 HVf HLn
  by_cases hlen : L1.length ≤ 4096
  ·have hd : decide ((4096 : Int) < (L1.length : Int)) = false := decide_eq_false (by omega)
   have hd2 : decide (4096 < L1.length) = false := decide_eq_false (by omega)
   obtain rfl : r = (⟨q, ((ti + tn : Nat) : Int), L1, IntKind.u64.wrap (bn + 1)⟩, 0) := by rw [HR.out, if_pos hlen]
   clear HR
   have HAE : Aside0 (Arr 4 #[.slice A4 q.length c4, .int .i64 ((ti + tn : Nat) : Int), .slice A6 L1.length c6, .int .u64 (IntKind.u64.wrap (bn + 1))]) := ⟨rfl, by simp [Value.oneCell']⟩
   go_wp2_with (first
    | fail
    | ((with_reducible refine Gd 59 ?_); ( refine OD 58 71 H11 4 g2 2 (.slice A6 L1.length c6) Try.underlying71 ?_))
    | ((with_reducible refine Gd 64 ?_); ( refine OD 63 23 H11 4 g2 3 (.int .u64 bn) Try.underlying23 ?_))
    | ((with_reducible refine Gs 23 66 ?_); ( refine OT1 66 23 H11 4 g2 73 3 (.int .u64 (IntKind.u64.wrap (bn + 1))) (#[.slice A4 q.length c4, .int .i64 ((ti + tn : Nat) : Int), .slice A6 L1.length c6, .int .u64 (IntKind.u64.wrap (bn + 1))]) rfl (by simp) ?_; intro w12 H12))
    | ((with_reducible refine Gd 67 ?_); ( refine OV 2 H12 4 g2 73 rfl Try.underlying73 (by kernel_rfl) ?_))
    | ((with_reducible refine Gs 73 4 ?_); ( refine OS 4 67 H12 7 g4 73 (#[.slice A4 q.length c4, .int .i64 ((ti + tn : Nat) : Int), .slice A6 L1.length c6, .int .u64 (IntKind.u64.wrap (bn + 1))]) 4 HZ HAE ?_; intro w13 H13))
    )
   have HX : Aside0 (Own w.heap.size w w13 (.obj D (.deferred (some [])) :: [.row kL 74 (.slice A6 L1.length c6) L1, .blk (s + 1) #[.func (.func 90) #[] #[]] 82, .blk s #[.slice Ab ms.length cb] 71, .blk g2 #[.slice A4 q.length c4, .int .i64 ((ti + tn : Nat) : Int), .slice A6 L1.length c6, .int .u64 (IntKind.u64.wrap (bn + 1))] 73, .row kQ 78 (.slice A4 q.length c4) q, .blk g6 #[.int .u64 bn, .int .u64 (tn : Int), .slice Ab ms.length cb] 108, .blk g4 #[.slice A4 q.length c4, .int .i64 ((ti + tn : Nat) : Int), .slice A6 L1.length c6, .int .u64 (IntKind.u64.wrap (bn + 1))] 73])) := ⟨H13.out⟩
   refine ⟨by simp, .inl ⟨_, _, rfl, run_takeDeferred HX.out.getObj.2, ?_⟩⟩
   have HE := Aside0.mk (HX.out.putObj (hCl _ _) rfl (.deferred none))
   refine ⟨_, RVt HE 6 g4 Try.underlying73, ?_⟩
   exact ⟨_, _, rfl, (((((HE.out.erase 6).erase 5).erase 3).erase 2).erase 1).bring 1 rfl⟩
  ·have hd : decide ((4096 : Int) < (L1.length : Int)) = true := decide_eq_true (by omega)
   have hd2 : decide (4096 < L1.length) = true := decide_eq_true (by omega)
   obtain rfl : r = (zeroB, 4) := by rw [HR.out, if_neg hlen]
   clear HR
   go_wp2_with (first
    | fail
    | ((with_reducible refine Gd 59 ?_); ( refine OD 58 71 H11 4 g2 2 (.slice A6 L1.length c6) Try.underlying71 ?_))
    | ((with_reducible refine Gs 73 4 ?_); ( refine OS 4 62 H11 7 g4 73 #[.slice none 0 0, .int .i64 0, .slice none 0 0, .int .u64 0] 4 HZ HZ ?_; intro w12 H12))
    )
   have HX : Aside0 (Own w.heap.size w w12 (.obj D (.deferred (some [])) :: [.row kL 74 (.slice A6 L1.length c6) L1, .blk (s + 1) #[.func (.func 90) #[] #[]] 82, .blk s #[.slice Ab ms.length cb] 71, .blk g2 #[.slice A4 q.length c4, .int .i64 ((ti + tn : Nat) : Int), .slice A6 L1.length c6, .int .u64 bn] 73, .row kQ 78 (.slice A4 q.length c4) q, .blk g6 #[.int .u64 bn, .int .u64 (tn : Int), .slice Ab ms.length cb] 108, .blk g4 #[.slice none 0 0, .int .i64 0, .slice none 0 0, .int .u64 0] 73])) := ⟨H12.out⟩
   refine ⟨by simp, .inl ⟨_, _, rfl, run_takeDeferred HX.out.getObj.2, ?_⟩⟩
   have HE := Aside0.mk (HX.out.putObj (hCl _ _) rfl (.deferred none))
   refine ⟨_, RVt HE 6 g4 Try.underlying73, ?_⟩
   exact ⟨_, _, rfl, (((((((((HE.out.erase 6).erase 5).erase 4).erase 3).erase 2).erase 1).erase 0).null kL _).null kQ _)⟩
end Go.Proofs.Ytocphkfkdadhaaa.H

namespace Go.Proofs.Ytocphkfkdadhaaa.H
open Go.RowKit Go.Proofs.YtocphkfkdadhaaaW.PrintWords Go.Proofs.YtocphkfkdadhaaaW.PrintLast Go.Proofs.YtocphkfkdadhaaaW.PrintMore
set_option linter.unusedVariables false
set_option linter.unusedSimpArgs false
theorem rdQ (q : List SQ) (i : Nat) (h : i < q.length) : PRF.rd_T78 q (i : Int) = q[i] := by simp [PRF.rd_T78, List.getD_eq_getElem?_getD, h]
theorem rdL (l : List (List Int)) (i : Nat) (h : i < l.length) : PRF.rd_L2 l (i : Int) = l[i] := by simp [PRF.rd_L2, List.getD_eq_getElem?_getD, h]
end Go.Proofs.Ytocphkfkdadhaaa.H

namespace Go.Proofs.Ytocphkfkdadhaaa.H
set_option linter.unusedVariables false
set_option linter.unusedSimpArgs false
theorem mayI_iff {q : List SQ} {tk : Int} {l : List (List Int)} : mayI q tk l = true ↔ q.length ≤ 4096 ∧ l.length ≤ 4096 ∧ 0 ≤ tk ∧ tk ≤ q.length ∧ riseP 0 q = true ∧ ∀ m ∈ l, m.length ≤ 65536 := by
 unfold mayI longP
 simp only [Bool.and_eq_true, decide_eq_true_eq, Bool.not_eq_true', List.any_eq_false]
 constructor
 ·rintro ⟨⟨⟨⟨⟨h1, h2⟩, h3⟩, h4⟩, h5⟩, h6⟩
  exact ⟨h1, h2, h3, h4, h5, fun m hm => by simpa using h6 m hm⟩
 ·rintro ⟨h1, h2, h3, h4, h5, h6⟩
  exact ⟨⟨⟨⟨⟨h1, h2⟩, h3⟩, h4⟩, h5⟩, fun m hm => by simpa using h6 m hm⟩
structure OpenI (x : Box) (block : Int) (m : List Int) (y : Box) : Prop where
 q : y.q = x.q ++ [⟨block, m⟩]
 may : mayI y.q y.tk y.l = true
 pre : ∃ more, y.l = x.l ++ more
 has : (x.q.length : Int) < y.tk → m ∈ y.l
 qb : ∀ d ∈ y.q, K.Byt d.f1
 lb : ∀ z ∈ y.l, K.Byt z
theorem takenL_byt {q : List SQ} {tk n : Nat} (h : ∀ d ∈ q, K.Byt d.f1) : ∀ m ∈ takenL q tk n, K.Byt m := fun m hm => by
 unfold takenL at hm
 obtain ⟨d, hd, rfl⟩ := List.mem_map.1 hm
 exact h d (List.mem_of_mem_drop (List.mem_of_mem_take hd))
end Go.Proofs.Ytocphkfkdadhaaa.H

namespace Go.Proofs.Ytocphkfkdadhaaa.H
set_option linter.unusedVariables false
set_option linter.unusedSimpArgs false
def depN (l : List (List Int)) : Nat := (l.filter fun m => depB m).length
theorem depN_append (a b : List (List Int)) : depN (a ++ b) = depN a + depN b := by unfold depN; rw [List.filter_append, List.length_append]
def waitN (q : List SQ) (tk : Nat) : Nat := depN ((q.drop tk).map fun d => d.f1)
def totN (x : Box) : Nat := depN x.l + waitN x.q x.tk.toNat
theorem wait_split (q : List SQ) (tk n : Nat) : waitN q tk = depN (takenL q tk n) + waitN q (tk + n) := by
 unfold waitN takenL
 rw [← depN_append, ← List.map_append, ← List.drop_drop, List.take_append_drop]
theorem depN_kept (ms : List (List Int)) : depN (ms.filter fun m => !depB m) = 0 := by
 unfold depN
 rw [List.length_eq_zero_iff, List.filter_eq_nil_iff]
 intro m hm
 have := (List.mem_filter.1 hm).2
 simpa using this
theorem enq_tot (x : Box) (block : Int) (m : List Int) (h : (enqI x block m).2 = 0) : totN (enqI x block m).1 = totN x ∧ mayI x.q x.tk x.l = true := by
 obtain ⟨q, tk, l, nx⟩ := x
 unfold enqI at h ⊢
 dsimp only at h ⊢
 by_cases hc : (sinceI q tk l block && decide (m.length ≤ 65536) && !depB m) = true
 case neg => rw [if_neg hc] at h; cases h
 rw [if_pos hc] at h ⊢
 rw [Bool.and_eq_true, Bool.and_eq_true] at hc
 unfold queueI at h ⊢
 dsimp only at h ⊢
 by_cases hl : q.length < 4096
 case neg => rw [if_neg hl] at h; cases h
 rw [if_pos hl]
 have hmy := (sinceI_may hc.1.1).1
 obtain ⟨m1, m2, m3, m4, m5, m6⟩ := mayI_iff.1 hmy
 refine ⟨?_, hmy⟩
 unfold totN waitN
 dsimp only
 rw [List.drop_append_of_le_length (by omega), List.map_append, depN_append]
 simp only [List.map_cons, List.map_nil]
 have : depN [m] = 0 := by simpa [depN] using hc.2
 omega
theorem post_tot (y : Box) (b : List Int) (hb : K.Byt b) (h0 : (postI y b).2 = 0) : totN (postI y b).1 = totN y ∧ mayI y.q y.tk y.l = true := by
 obtain ⟨q, tk, l, nx⟩ := y
 have hok := batchP_ok b hb
 unfold postI at h0 ⊢
 dsimp only at h0 ⊢
 by_cases hm : mayI q tk l = true
 case neg => rw [if_neg hm] at h0; cases h0
 rw [if_pos hm] at h0 ⊢
 generalize batchP b = bt at *
 obtain ⟨⟨n, t, ms⟩, e⟩ := bt
 dsimp only at h0 hok ⊢
 by_cases he : e = 0
 case neg => rw [if_neg he] at h0; exact absurd h0 he
 rw [if_pos he] at h0 ⊢
 by_cases hn : n = nx ∧ t ≤ (q.length : Int) - tk
 case neg => rw [if_neg hn] at h0; cases h0
 rw [if_pos hn] at h0 ⊢
 by_cases hl : (l ++ takenL q tk.toNat t.toNat ++ ms.filter fun m => !depB m).length ≤ 4096
 case neg => rw [if_neg hl] at h0; cases h0
 rw [if_pos hl]
 obtain ⟨m1, m2, m3, m4, m5, m6⟩ := mayI_iff.1 hm
 refine ⟨?_, hm⟩
 unfold totN
 dsimp only
 rw [depN_append, depN_append, depN_kept, wait_split q tk.toNat t.toNat, show (tk + t).toNat = tk.toNat + t.toNat by omega]
 omega
theorem tickG_tot (q : List SQ) (B : Int) : ∀ (f tk : Nat) (l : List (List Int)), depN (tickG q B f tk l).2 + waitN q (tickG q B f tk l).1 = depN l + waitN q tk
 | 0, tk, l => rfl
 | f + 1, tk, l => by
  by_cases hlt : tk < q.length
  ·by_cases hc : l.length < 4096 ∧ q[tk].f0 + 8 ≤ B
   ·rw [tickG_go hlt hc.1 hc.2, tickG_tot q B f (tk + 1), depN_append, wait_split q tk 1, takenL_one q tk hlt]
    omega
   ·rw [tickG_stop hlt hc]
  ·rw [tickG, dif_neg hlt]
theorem tick_tot (y : Box) (B : Int) (h : (tickI y B).2 = 0) : totN (tickI y B).1 = totN y ∧ mayI y.q y.tk y.l = true := by
 obtain ⟨q, tk, l, nx⟩ := y
 unfold tickI at h ⊢
 dsimp only at h ⊢
 by_cases hc : (mayI q tk l && decide (0 ≤ B)) = true
 case neg => rw [if_neg hc] at h; cases h
 rw [if_pos hc]
 rw [Bool.and_eq_true] at hc
 refine ⟨?_, hc.1⟩
 unfold totN
 dsimp only
 rw [Int.toNat_natCast]
 exact tickG_tot q B _ _ _
def DepI (x y : Box) : Prop := y = x ∨ (mayI x.q x.tk x.l = true ∧ totN y = totN x)
theorem DepI.step {x y z : Box} (h : DepI x y) (hz : totN z = totN y ∧ mayI y.q y.tk y.l = true) : DepI x z := by
 rcases h with rfl | ⟨h1, h2⟩
 ·exact .inr ⟨hz.2, hz.1⟩
 ·exact .inr ⟨h1, hz.1.trans h2⟩
def beforeN (x : Box) : Nat := depN x.l + (if 0 ≤ x.tk then waitN x.q x.tk.toNat else 0)
theorem DepI.le {x y : Box} (h : DepI x y) : depN y.l ≤ beforeN x := by
 rcases h with rfl | ⟨h1, h2⟩
 ·unfold beforeN; omega
 ·have := (mayI_iff.1 h1).2.2.1
  unfold beforeN
  rw [if_pos this]
  unfold totN at h2
  omega
end Go.Proofs.Ytocphkfkdadhaaa.H

namespace Go.Proofs.Ytocphkfkdadhaaa.H
set_option linter.unusedVariables false
set_option linter.unusedSimpArgs false
structure GoodB (x : Box) : Prop where
 qb : ∀ d ∈ x.q, K.Byt d.f1
 lb : ∀ z ∈ x.l, K.Byt z
 q64 : ∀ d ∈ x.q, d.f0 ≤ 9223372036854775807
theorem enq_good (x : Box) (block : Int) (m : List Int) (hx : GoodB x) (hm : K.Byt m) (hb : block ≤ 9223372036854775807) : GoodB (enqI x block m).1 := by
 have hz : GoodB zeroB := ⟨fun _ h => (by cases h), fun _ h => (by cases h), fun _ h => (by cases h)⟩
 unfold enqI
 split
 ·unfold queueI
  split
  ·refine ⟨fun d hd => ?_, hx.lb, fun d hd => ?_⟩
   ·rcases List.mem_append.1 hd with hd | hd
    ·exact hx.qb d hd
    ·rw [List.mem_singleton.1 hd]; exact hm
   ·rcases List.mem_append.1 hd with hd | hd
    ·exact hx.q64 d hd
    ·rw [List.mem_singleton.1 hd]; exact hb
  ·exact hz
 ·exact hz
theorem post_good (y : Box) (b : List Int) (hy : GoodB y) (hb : K.Byt b) (h0 : (postI y b).2 = 0) : GoodB (postI y b).1 := by
 obtain ⟨q, tk, l, nx⟩ := y
 have hok := batchP_ok b hb
 unfold postI at h0 ⊢
 dsimp only at h0 ⊢
 by_cases hm : mayI q tk l = true
 case neg => rw [if_neg hm] at h0; cases h0
 rw [if_pos hm] at h0 ⊢
 generalize batchP b = bt at *
 obtain ⟨⟨n, t, ms⟩, e⟩ := bt
 dsimp only at h0 hok ⊢
 by_cases he : e = 0
 case neg => rw [if_neg he] at h0; exact absurd h0 he
 rw [if_pos he] at h0 ⊢
 by_cases hn : n = nx ∧ t ≤ (q.length : Int) - tk
 case neg => rw [if_neg hn] at h0; cases h0
 rw [if_pos hn] at h0 ⊢
 by_cases hl : (l ++ takenL q tk.toNat t.toNat ++ ms.filter fun m => !depB m).length ≤ 4096
 case neg => rw [if_neg hl] at h0; cases h0
 rw [if_pos hl]
 refine ⟨hy.qb, fun z hz => ?_, hy.q64⟩
 rcases List.mem_append.1 hz with hz | hz
 ·rcases List.mem_append.1 hz with hz | hz
  ·exact hy.lb z hz
  ·exact takenL_byt hy.qb z hz
 ·exact hok.2.1 z (List.mem_filter.1 hz).1
theorem tickG_byt (q : List SQ) (B : Int) (hq : ∀ d ∈ q, K.Byt d.f1) : ∀ (f tk : Nat) (l : List (List Int)), (∀ z ∈ l, K.Byt z) → ∀ z ∈ (tickG q B f tk l).2, K.Byt z
 | 0, tk, l, hl => hl
 | f + 1, tk, l, hl => by
  by_cases hlt : tk < q.length
  ·by_cases hc : l.length < 4096 ∧ q[tk].f0 + 8 ≤ B
   ·rw [tickG_go hlt hc.1 hc.2]
    refine tickG_byt q B hq f (tk + 1) _ fun z hz => ?_
    rcases List.mem_append.1 hz with hz | hz
    ·exact hl z hz
    ·rw [List.mem_singleton.1 hz]; exact hq _ (List.getElem_mem hlt)
   ·rw [tickG_stop hlt hc]; exact hl
  ·rw [tickG, dif_neg hlt]; exact hl
theorem tick_good (y : Box) (B : Int) (hy : GoodB y) : GoodB (tickI y B).1 := by
 unfold tickI
 split
 ·exact ⟨hy.qb, tickG_byt _ _ hy.qb _ _ _ hy.lb, hy.q64⟩
 ·exact ⟨fun _ h => (by cases h), fun _ h => (by cases h), fun _ h => (by cases h)⟩
structure RunI (x y : Box) : Prop where
 dep : DepI x y
 good : GoodB y
theorem RunI.enq {x y : Box} (h : RunI x y) (block : Int) (m : List Int) (hm : K.Byt m) (hb : block ≤ 9223372036854775807) (h0 : (enqI y block m).2 = 0) : RunI x (enqI y block m).1 :=
 ⟨h.dep.step (enq_tot y block m h0), enq_good y block m h.good hm hb⟩
theorem RunI.post {x y : Box} (h : RunI x y) (b : List Int) (hb : K.Byt b) (h0 : (postI y b).2 = 0) : RunI x (postI y b).1 :=
 ⟨h.dep.step (post_tot y b hb h0), post_good y b h.good hb h0⟩
theorem RunI.tick {x y : Box} (h : RunI x y) (B : Int) (h0 : (tickI y B).2 = 0) : RunI x (tickI y B).1 :=
 ⟨h.dep.step (tick_tot y B h0), tick_good y B h.good⟩
theorem depN_take (l : List (List Int)) (i : Nat) (h : i < l.length) : depN (l.take (i + 1)) = depN (l.take i) + (if depB l[i] = true then 1 else 0) := by
 rw [List.take_succ_eq_append_getElem h, depN_append]
 congr 1
 unfold depN
 by_cases hd : depB l[i] = true
 ·rw [if_pos hd]; simp [hd]
 ·rw [if_neg hd]; simp [hd]
theorem depN_le (l : List (List Int)) : depN l ≤ l.length := List.length_filter_le _ _
theorem wait_step (q : List SQ) (j : Nat) (h : j < q.length) : waitN q j = waitN q (j + 1) + (if depB q[j].f1 = true then 1 else 0) := by
 rw [wait_split q j 1, takenL_one q j h]
 unfold depN
 by_cases hd : depB q[j].f1 = true
 ·rw [if_pos hd]; simp [hd]; omega
 ·rw [if_neg hd]; simp [hd]
theorem wait_end (q : List SQ) (j : Nat) (h : q.length ≤ j) : waitN q j = 0 := by
 unfold waitN
 rw [List.drop_of_length_le h]
 rfl
theorem wait_le (q : List SQ) (j : Nat) : waitN q j ≤ q.length := by
 unfold waitN
 refine Nat.le_trans (depN_le _) ?_
 rw [List.length_map, List.length_drop]
 omega
def oneDep : MsgI := ⟨1, 0, 0, 1, 0, z32, z32⟩
end Go.Proofs.Ytocphkfkdadhaaa.H

namespace Go.Proofs.Ytocphkfkdadhaaa.H
open Go.RowKit Go.Proofs.YtocphkfkdadhaaaW.PrintWords Go.Proofs.YtocphkfkdadhaaaW.PrintLast Go.Proofs.YtocphkfkdadhaaaW.PrintMore
set_option linter.unusedVariables false
set_option linter.unusedSimpArgs false
set_option maxHeartbeats 4000000 in
set_option maxRecDepth 100000 in
theorem rmay_any (m : MsgI) (hm : m.ok) (w : World) : Calls Try.prog 91 #[.agg (msgA m)] w fun e w' => e = .returned (.bool (mayM m)) ∧ Below w.heap.size w w' := by
 obtain ⟨_, hfr, htt, ham, hno, ⟨hky, _⟩, ⟨hnx, _⟩⟩ := hm
 obtain ⟨kd, fr, tt, am, no, ky, nx⟩ := m
 dsimp only at *
 have H0 := Aside0.mk (Own.start w)
 have HK := Aside0.mk hky
 have HN := Aside0.mk hnx
 clear hky hnx
 obtain ⟨r, hr⟩ : ∃ r, r = mayM ⟨kd, fr, tt, am, no, ky, nx⟩ := ⟨_, rfl⟩
 rw [← hr]
 simp only [mayM] at hr
 replace hr := Aside0.mk hr
 have HS1 : Aside0 (∀ j v, (vB ky)[j]? = some v → (msgA ⟨kd, fr, tt, am, no, ky, nx⟩)[5 + j]? = some v) := ⟨seg_mid rfl⟩
 have HS2 : Aside0 (∀ j v, (vB nx)[j]? = some v → (msgA ⟨kd, fr, tt, am, no, ky, nx⟩)[37 + j]? = some v) := ⟨by
  have h := seg_mid (a := [Value.int .u8 kd, Value.int .u64 fr, Value.int .u64 tt, Value.int .u64 am, Value.int .u64 no] ++ vB ky) (s := vB nx) (b := []) (o := 37) (by rw [List.length_append, vB_len, HK.out]; rfl)
  simp only [List.append_nil, List.append_assoc] at h
  exact h⟩
 have HZ1 : Aside0 ((Try.prog.info? 25).map (·.size) = some (vB ky).length) := ⟨by rw [vB_len, HK.out]; exact sizeH⟩
 have HZ2 : Aside0 ((Try.prog.info? 25).map (·.size) = some (vB nx).length) := ⟨by rw [vB_len, HN.out]; exact sizeH⟩
 go_enter Try.func91, Try.ntmps91
 go_upto_region 1 with (first
  | fail
  | ((with_reducible refine Gd 1 ?_); ( refine OB H0 92 ((msgA ⟨kd, fr, tt, am, no, ky, nx⟩)) ?_; intro g1 w1 H1 B1))
  )
 replace H1 : Aside0 (Own w.heap.size w w1 [.blk g1 (msgA ⟨kd, fr, tt, am, no, ky, nx⟩) 92]) := ⟨H1.out⟩
 clear H0 B1
 go_cut [3] (fun v3 wc => v3 = .bool (decide (no = 0) && (ky == z32) && (nx == z32)) ∧ Aside0 (Own w.heap.size w wc [.blk g1 (msgA ⟨kd, fr, tt, am, no, ky, nx⟩) 92]))
 case first =>
  by_cases h1 : no = 0
  ·have e1 : (no == 0) = true := beq_iff_eq.2 h1
   replace h1 := Aside0.mk h1
   cases h2 : (ky == z32)
   ·
    go_wp2_with (first
     | fail
     | ((with_reducible refine Gd 5 ?_); ( refine OD 4 23 H1 0 g1 4 (.int .u64 no) Try.underlying23 ?_))
     | ((with_reducible refine Gd 9 ?_); ( refine GDA 8 25 H1 0 g1 5 (vB ky) rfl (HS1.out) Try.underlying25 (HZ1.out) ?_))
     | ((with_reducible refine Gd 10 ?_); ( refine GU 25 [] (cellsB z32) rfl (builtH0) ?_))
     | ((with_reducible refine gate_dst (N := 11) rfl ?_); (refine gate_guard (by rfl) ?_); ( refine eq_H rfl 25 _ (.tmp 9) (.tmp 10) rfl (ky) (z32) rfl rfl Try.underlying25 Try.underlying5 size1B guardH (HK.out) (rfl) ?_))
     | ((with_reducible refine Gd 15 ?_); ( refine GDA 14 25 H1 0 g1 37 (vB nx) rfl (HS2.out) Try.underlying25 (HZ2.out) ?_))
     | ((with_reducible refine Gd 16 ?_); ( refine GU 25 [] (cellsB z32) rfl (builtH0) ?_))
     | ((with_reducible refine gate_dst (N := 17) rfl ?_); (refine gate_guard (by rfl) ?_); ( refine eq_H rfl 25 _ (.tmp 15) (.tmp 16) rfl (nx) (z32) rfl rfl Try.underlying25 Try.underlying5 size1B guardH (HN.out) (rfl) ?_))
     )
    go_meet
    exact ⟨by show Value.bool false = _; simp [h1.out, h2], H1⟩
   ·cases h3 : (nx == z32)
    ·
     go_wp2_with (first
      | fail
      | ((with_reducible refine Gd 5 ?_); ( refine OD 4 23 H1 0 g1 4 (.int .u64 no) Try.underlying23 ?_))
      | ((with_reducible refine Gd 9 ?_); ( refine GDA 8 25 H1 0 g1 5 (vB ky) rfl (HS1.out) Try.underlying25 (HZ1.out) ?_))
      | ((with_reducible refine Gd 10 ?_); ( refine GU 25 [] (cellsB z32) rfl (builtH0) ?_))
      | ((with_reducible refine gate_dst (N := 11) rfl ?_); (refine gate_guard (by rfl) ?_); ( refine eq_H rfl 25 _ (.tmp 9) (.tmp 10) rfl (ky) (z32) rfl rfl Try.underlying25 Try.underlying5 size1B guardH (HK.out) (rfl) ?_))
      | ((with_reducible refine Gd 15 ?_); ( refine GDA 14 25 H1 0 g1 37 (vB nx) rfl (HS2.out) Try.underlying25 (HZ2.out) ?_))
      | ((with_reducible refine Gd 16 ?_); ( refine GU 25 [] (cellsB z32) rfl (builtH0) ?_))
      | ((with_reducible refine gate_dst (N := 17) rfl ?_); (refine gate_guard (by rfl) ?_); ( refine eq_H rfl 25 _ (.tmp 15) (.tmp 16) rfl (nx) (z32) rfl rfl Try.underlying25 Try.underlying5 size1B guardH (HN.out) (rfl) ?_))
      )
     go_meet
     exact ⟨by show Value.bool false = _; simp [h1.out, h2, h3], H1⟩
    ·
     go_wp2_with (first
      | fail
      | ((with_reducible refine Gd 5 ?_); ( refine OD 4 23 H1 0 g1 4 (.int .u64 no) Try.underlying23 ?_))
      | ((with_reducible refine Gd 9 ?_); ( refine GDA 8 25 H1 0 g1 5 (vB ky) rfl (HS1.out) Try.underlying25 (HZ1.out) ?_))
      | ((with_reducible refine Gd 10 ?_); ( refine GU 25 [] (cellsB z32) rfl (builtH0) ?_))
      | ((with_reducible refine gate_dst (N := 11) rfl ?_); (refine gate_guard (by rfl) ?_); ( refine eq_H rfl 25 _ (.tmp 9) (.tmp 10) rfl (ky) (z32) rfl rfl Try.underlying25 Try.underlying5 size1B guardH (HK.out) (rfl) ?_))
      | ((with_reducible refine Gd 15 ?_); ( refine GDA 14 25 H1 0 g1 37 (vB nx) rfl (HS2.out) Try.underlying25 (HZ2.out) ?_))
      | ((with_reducible refine Gd 16 ?_); ( refine GU 25 [] (cellsB z32) rfl (builtH0) ?_))
      | ((with_reducible refine gate_dst (N := 17) rfl ?_); (refine gate_guard (by rfl) ?_); ( refine eq_H rfl 25 _ (.tmp 15) (.tmp 16) rfl (nx) (z32) rfl rfl Try.underlying25 Try.underlying5 size1B guardH (HN.out) (rfl) ?_))
      )
     go_meet
     exact ⟨by show Value.bool true = _; simp [h1.out, h2, h3], H1⟩
  ·have e1 : (no == 0) = false := beq_eq_false_iff_ne.2 h1
   replace h1 := Aside0.mk h1
   go_wp2_with (first
    | fail
    | ((with_reducible refine Gd 5 ?_); ( refine OD 4 23 H1 0 g1 4 (.int .u64 no) Try.underlying23 ?_))
    | ((with_reducible refine Gd 9 ?_); ( refine GDA 8 25 H1 0 g1 5 (vB ky) rfl (HS1.out) Try.underlying25 (HZ1.out) ?_))
    | ((with_reducible refine Gd 10 ?_); ( refine GU 25 [] (cellsB z32) rfl (builtH0) ?_))
    | ((with_reducible refine gate_dst (N := 11) rfl ?_); (refine gate_guard (by rfl) ?_); ( refine eq_H rfl 25 _ (.tmp 9) (.tmp 10) rfl (ky) (z32) rfl rfl Try.underlying25 Try.underlying5 size1B guardH (HK.out) (rfl) ?_))
    | ((with_reducible refine Gd 15 ?_); ( refine GDA 14 25 H1 0 g1 37 (vB nx) rfl (HS2.out) Try.underlying25 (HZ2.out) ?_))
    | ((with_reducible refine Gd 16 ?_); ( refine GU 25 [] (cellsB z32) rfl (builtH0) ?_))
    | ((with_reducible refine gate_dst (N := 17) rfl ?_); (refine gate_guard (by rfl) ?_); ( refine eq_H rfl 25 _ (.tmp 15) (.tmp 16) rfl (nx) (z32) rfl rfl Try.underlying25 Try.underlying5 size1B guardH (HN.out) (rfl) ?_))
    )
   go_meet
   exact ⟨by show Value.bool false = _; simp [h1.out], H1⟩
 case rest =>
  clear H1 HS1 HS2 HZ1 HZ2
  obtain ⟨rfl, H1⟩ := hcut
  replace hr : Aside0 (r = if kd = 1 then decide (fr = 0) && decide (tt < 32) && decide (0 < am) && (decide (no = 0) && (ky == z32) && (nx == z32)) else if kd = 2 then decide (fr < 32) && decide (tt < 32) else if kd = 3 then decide (fr < 32) && decide (0 < am) else false) := ⟨hr.out⟩
  generalize (decide (no = 0) && (ky == z32) && (nx == z32)) = zb at *
  by_cases h1 : kd = 1
  ·subst h1
   by_cases a0 : fr = 0
   ·
    have e0 : (fr == 0) = true := beq_iff_eq.2 a0
    by_cases a1 : tt < 32
    ·
     have e1 : decide (tt < 32) = true := decide_eq_true a1
     by_cases a2 : 0 < am
     ·
      have e2 : decide (0 < am) = true := decide_eq_true a2
      obtain rfl : r = zb := by rw [hr.out]; simp [*]
      clear hr
      go_wp2_with (first
       | fail
       | ((with_reducible refine Gd 20 ?_); ( refine OD 19 90 H1 0 g1 0 (.int .u8 1) Try.underlying90 ?_))
       | ((with_reducible refine Gd 24 ?_); ( refine OD 23 23 H1 0 g1 1 (.int .u64 fr) Try.underlying23 ?_))
       | ((with_reducible refine Gd 28 ?_); ( refine GD 27 23 H1 0 g1 2 (.int .u64 tt) Try.underlying23 ?_))
       | ((with_reducible refine Gd 33 ?_); ( refine GD 32 23 H1 0 g1 3 (.int .u64 am) Try.underlying23 ?_))
       | ((with_reducible refine Gd 42 ?_); ( refine OD 41 23 H1 0 g1 1 (.int .u64 fr) Try.underlying23 ?_))
       | ((with_reducible refine Gd 46 ?_); ( refine GD 45 23 H1 0 g1 2 (.int .u64 tt) Try.underlying23 ?_))
       | ((with_reducible refine Gd 52 ?_); ( refine OD 51 23 H1 0 g1 1 (.int .u64 fr) Try.underlying23 ?_))
       | ((with_reducible refine Gd 56 ?_); ( refine GD 55 23 H1 0 g1 3 (.int .u64 am) Try.underlying23 ?_))
       )
      go_ret
      exact ⟨by first | rfl | (simp [*]; done), H1.out.below⟩
     ·
      have e2 : decide (0 < am) = false := decide_eq_false a2
      obtain rfl : r = false := by rw [hr.out]; simp [*]
      clear hr
      go_wp2_with (first
       | fail
       | ((with_reducible refine Gd 20 ?_); ( refine OD 19 90 H1 0 g1 0 (.int .u8 1) Try.underlying90 ?_))
       | ((with_reducible refine Gd 24 ?_); ( refine OD 23 23 H1 0 g1 1 (.int .u64 fr) Try.underlying23 ?_))
       | ((with_reducible refine Gd 28 ?_); ( refine GD 27 23 H1 0 g1 2 (.int .u64 tt) Try.underlying23 ?_))
       | ((with_reducible refine Gd 33 ?_); ( refine GD 32 23 H1 0 g1 3 (.int .u64 am) Try.underlying23 ?_))
       | ((with_reducible refine Gd 42 ?_); ( refine OD 41 23 H1 0 g1 1 (.int .u64 fr) Try.underlying23 ?_))
       | ((with_reducible refine Gd 46 ?_); ( refine GD 45 23 H1 0 g1 2 (.int .u64 tt) Try.underlying23 ?_))
       | ((with_reducible refine Gd 52 ?_); ( refine OD 51 23 H1 0 g1 1 (.int .u64 fr) Try.underlying23 ?_))
       | ((with_reducible refine Gd 56 ?_); ( refine GD 55 23 H1 0 g1 3 (.int .u64 am) Try.underlying23 ?_))
       )
      go_ret
      exact ⟨by first | rfl | (simp [*]; done), H1.out.below⟩
    ·
     have e1 : decide (tt < 32) = false := decide_eq_false a1
     obtain rfl : r = false := by rw [hr.out]; simp [*]
     clear hr
     go_wp2_with (first
      | fail
      | ((with_reducible refine Gd 20 ?_); ( refine OD 19 90 H1 0 g1 0 (.int .u8 1) Try.underlying90 ?_))
      | ((with_reducible refine Gd 24 ?_); ( refine OD 23 23 H1 0 g1 1 (.int .u64 fr) Try.underlying23 ?_))
      | ((with_reducible refine Gd 28 ?_); ( refine GD 27 23 H1 0 g1 2 (.int .u64 tt) Try.underlying23 ?_))
      | ((with_reducible refine Gd 33 ?_); ( refine GD 32 23 H1 0 g1 3 (.int .u64 am) Try.underlying23 ?_))
      | ((with_reducible refine Gd 42 ?_); ( refine OD 41 23 H1 0 g1 1 (.int .u64 fr) Try.underlying23 ?_))
      | ((with_reducible refine Gd 46 ?_); ( refine GD 45 23 H1 0 g1 2 (.int .u64 tt) Try.underlying23 ?_))
      | ((with_reducible refine Gd 52 ?_); ( refine OD 51 23 H1 0 g1 1 (.int .u64 fr) Try.underlying23 ?_))
      | ((with_reducible refine Gd 56 ?_); ( refine GD 55 23 H1 0 g1 3 (.int .u64 am) Try.underlying23 ?_))
      )
     go_ret
     exact ⟨by first | rfl | (simp [*]; done), H1.out.below⟩
   ·
    have e0 : (fr == 0) = false := beq_eq_false_iff_ne.2 a0
    obtain rfl : r = false := by rw [hr.out]; simp [*]
    clear hr
    go_wp2_with (first
     | fail
     | ((with_reducible refine Gd 20 ?_); ( refine OD 19 90 H1 0 g1 0 (.int .u8 1) Try.underlying90 ?_))
     | ((with_reducible refine Gd 24 ?_); ( refine OD 23 23 H1 0 g1 1 (.int .u64 fr) Try.underlying23 ?_))
     | ((with_reducible refine Gd 28 ?_); ( refine GD 27 23 H1 0 g1 2 (.int .u64 tt) Try.underlying23 ?_))
     | ((with_reducible refine Gd 33 ?_); ( refine GD 32 23 H1 0 g1 3 (.int .u64 am) Try.underlying23 ?_))
     | ((with_reducible refine Gd 42 ?_); ( refine OD 41 23 H1 0 g1 1 (.int .u64 fr) Try.underlying23 ?_))
     | ((with_reducible refine Gd 46 ?_); ( refine GD 45 23 H1 0 g1 2 (.int .u64 tt) Try.underlying23 ?_))
     | ((with_reducible refine Gd 52 ?_); ( refine OD 51 23 H1 0 g1 1 (.int .u64 fr) Try.underlying23 ?_))
     | ((with_reducible refine Gd 56 ?_); ( refine GD 55 23 H1 0 g1 3 (.int .u64 am) Try.underlying23 ?_))
     )
    go_ret
    exact ⟨by first | rfl | (simp [*]; done), H1.out.below⟩
  by_cases h2 : kd = 2
  ·subst h2
   by_cases a0 : fr < 32
   ·
    have e0 : decide (fr < 32) = true := decide_eq_true a0
    by_cases a1 : tt < 32
    ·
     have e1 : decide (tt < 32) = true := decide_eq_true a1
     obtain rfl : r = true := by rw [hr.out]; simp [*]
     clear hr
     go_wp2_with (first
      | fail
      | ((with_reducible refine Gd 20 ?_); ( refine OD 19 90 H1 0 g1 0 (.int .u8 2) Try.underlying90 ?_))
      | ((with_reducible refine Gd 24 ?_); ( refine OD 23 23 H1 0 g1 1 (.int .u64 fr) Try.underlying23 ?_))
      | ((with_reducible refine Gd 28 ?_); ( refine GD 27 23 H1 0 g1 2 (.int .u64 tt) Try.underlying23 ?_))
      | ((with_reducible refine Gd 33 ?_); ( refine GD 32 23 H1 0 g1 3 (.int .u64 am) Try.underlying23 ?_))
      | ((with_reducible refine Gd 42 ?_); ( refine OD 41 23 H1 0 g1 1 (.int .u64 fr) Try.underlying23 ?_))
      | ((with_reducible refine Gd 46 ?_); ( refine GD 45 23 H1 0 g1 2 (.int .u64 tt) Try.underlying23 ?_))
      | ((with_reducible refine Gd 52 ?_); ( refine OD 51 23 H1 0 g1 1 (.int .u64 fr) Try.underlying23 ?_))
      | ((with_reducible refine Gd 56 ?_); ( refine GD 55 23 H1 0 g1 3 (.int .u64 am) Try.underlying23 ?_))
      )
     go_ret
     exact ⟨by first | rfl | (simp [*]; done), H1.out.below⟩
    ·
     have e1 : decide (tt < 32) = false := decide_eq_false a1
     obtain rfl : r = false := by rw [hr.out]; simp [*]
     clear hr
     go_wp2_with (first
      | fail
      | ((with_reducible refine Gd 20 ?_); ( refine OD 19 90 H1 0 g1 0 (.int .u8 2) Try.underlying90 ?_))
      | ((with_reducible refine Gd 24 ?_); ( refine OD 23 23 H1 0 g1 1 (.int .u64 fr) Try.underlying23 ?_))
      | ((with_reducible refine Gd 28 ?_); ( refine GD 27 23 H1 0 g1 2 (.int .u64 tt) Try.underlying23 ?_))
      | ((with_reducible refine Gd 33 ?_); ( refine GD 32 23 H1 0 g1 3 (.int .u64 am) Try.underlying23 ?_))
      | ((with_reducible refine Gd 42 ?_); ( refine OD 41 23 H1 0 g1 1 (.int .u64 fr) Try.underlying23 ?_))
      | ((with_reducible refine Gd 46 ?_); ( refine GD 45 23 H1 0 g1 2 (.int .u64 tt) Try.underlying23 ?_))
      | ((with_reducible refine Gd 52 ?_); ( refine OD 51 23 H1 0 g1 1 (.int .u64 fr) Try.underlying23 ?_))
      | ((with_reducible refine Gd 56 ?_); ( refine GD 55 23 H1 0 g1 3 (.int .u64 am) Try.underlying23 ?_))
      )
     go_ret
     exact ⟨by first | rfl | (simp [*]; done), H1.out.below⟩
   ·
    have e0 : decide (fr < 32) = false := decide_eq_false a0
    obtain rfl : r = false := by rw [hr.out]; simp [*]
    clear hr
    go_wp2_with (first
     | fail
     | ((with_reducible refine Gd 20 ?_); ( refine OD 19 90 H1 0 g1 0 (.int .u8 2) Try.underlying90 ?_))
     | ((with_reducible refine Gd 24 ?_); ( refine OD 23 23 H1 0 g1 1 (.int .u64 fr) Try.underlying23 ?_))
     | ((with_reducible refine Gd 28 ?_); ( refine GD 27 23 H1 0 g1 2 (.int .u64 tt) Try.underlying23 ?_))
     | ((with_reducible refine Gd 33 ?_); ( refine GD 32 23 H1 0 g1 3 (.int .u64 am) Try.underlying23 ?_))
     | ((with_reducible refine Gd 42 ?_); ( refine OD 41 23 H1 0 g1 1 (.int .u64 fr) Try.underlying23 ?_))
     | ((with_reducible refine Gd 46 ?_); ( refine GD 45 23 H1 0 g1 2 (.int .u64 tt) Try.underlying23 ?_))
     | ((with_reducible refine Gd 52 ?_); ( refine OD 51 23 H1 0 g1 1 (.int .u64 fr) Try.underlying23 ?_))
     | ((with_reducible refine Gd 56 ?_); ( refine GD 55 23 H1 0 g1 3 (.int .u64 am) Try.underlying23 ?_))
     )
    go_ret
    exact ⟨by first | rfl | (simp [*]; done), H1.out.below⟩
  by_cases h3 : kd = 3
  ·subst h3
   by_cases a0 : fr < 32
   ·
    have e0 : decide (fr < 32) = true := decide_eq_true a0
    by_cases a1 : 0 < am
    ·
     have e1 : decide (0 < am) = true := decide_eq_true a1
     obtain rfl : r = true := by rw [hr.out]; simp [*]
     clear hr
     go_wp2_with (first
      | fail
      | ((with_reducible refine Gd 20 ?_); ( refine OD 19 90 H1 0 g1 0 (.int .u8 3) Try.underlying90 ?_))
      | ((with_reducible refine Gd 24 ?_); ( refine OD 23 23 H1 0 g1 1 (.int .u64 fr) Try.underlying23 ?_))
      | ((with_reducible refine Gd 28 ?_); ( refine GD 27 23 H1 0 g1 2 (.int .u64 tt) Try.underlying23 ?_))
      | ((with_reducible refine Gd 33 ?_); ( refine GD 32 23 H1 0 g1 3 (.int .u64 am) Try.underlying23 ?_))
      | ((with_reducible refine Gd 42 ?_); ( refine OD 41 23 H1 0 g1 1 (.int .u64 fr) Try.underlying23 ?_))
      | ((with_reducible refine Gd 46 ?_); ( refine GD 45 23 H1 0 g1 2 (.int .u64 tt) Try.underlying23 ?_))
      | ((with_reducible refine Gd 52 ?_); ( refine OD 51 23 H1 0 g1 1 (.int .u64 fr) Try.underlying23 ?_))
      | ((with_reducible refine Gd 56 ?_); ( refine GD 55 23 H1 0 g1 3 (.int .u64 am) Try.underlying23 ?_))
      )
     go_ret
     exact ⟨by first | rfl | (simp [*]; done), H1.out.below⟩
    ·
     have e1 : decide (0 < am) = false := decide_eq_false a1
     obtain rfl : r = false := by rw [hr.out]; simp [*]
     clear hr
     go_wp2_with (first
      | fail
      | ((with_reducible refine Gd 20 ?_); ( refine OD 19 90 H1 0 g1 0 (.int .u8 3) Try.underlying90 ?_))
      | ((with_reducible refine Gd 24 ?_); ( refine OD 23 23 H1 0 g1 1 (.int .u64 fr) Try.underlying23 ?_))
      | ((with_reducible refine Gd 28 ?_); ( refine GD 27 23 H1 0 g1 2 (.int .u64 tt) Try.underlying23 ?_))
      | ((with_reducible refine Gd 33 ?_); ( refine GD 32 23 H1 0 g1 3 (.int .u64 am) Try.underlying23 ?_))
      | ((with_reducible refine Gd 42 ?_); ( refine OD 41 23 H1 0 g1 1 (.int .u64 fr) Try.underlying23 ?_))
      | ((with_reducible refine Gd 46 ?_); ( refine GD 45 23 H1 0 g1 2 (.int .u64 tt) Try.underlying23 ?_))
      | ((with_reducible refine Gd 52 ?_); ( refine OD 51 23 H1 0 g1 1 (.int .u64 fr) Try.underlying23 ?_))
      | ((with_reducible refine Gd 56 ?_); ( refine GD 55 23 H1 0 g1 3 (.int .u64 am) Try.underlying23 ?_))
      )
     go_ret
     exact ⟨by first | rfl | (simp [*]; done), H1.out.below⟩
   ·
    have e0 : decide (fr < 32) = false := decide_eq_false a0
    obtain rfl : r = false := by rw [hr.out]; simp [*]
    clear hr
    go_wp2_with (first
     | fail
     | ((with_reducible refine Gd 20 ?_); ( refine OD 19 90 H1 0 g1 0 (.int .u8 3) Try.underlying90 ?_))
     | ((with_reducible refine Gd 24 ?_); ( refine OD 23 23 H1 0 g1 1 (.int .u64 fr) Try.underlying23 ?_))
     | ((with_reducible refine Gd 28 ?_); ( refine GD 27 23 H1 0 g1 2 (.int .u64 tt) Try.underlying23 ?_))
     | ((with_reducible refine Gd 33 ?_); ( refine GD 32 23 H1 0 g1 3 (.int .u64 am) Try.underlying23 ?_))
     | ((with_reducible refine Gd 42 ?_); ( refine OD 41 23 H1 0 g1 1 (.int .u64 fr) Try.underlying23 ?_))
     | ((with_reducible refine Gd 46 ?_); ( refine GD 45 23 H1 0 g1 2 (.int .u64 tt) Try.underlying23 ?_))
     | ((with_reducible refine Gd 52 ?_); ( refine OD 51 23 H1 0 g1 1 (.int .u64 fr) Try.underlying23 ?_))
     | ((with_reducible refine Gd 56 ?_); ( refine GD 55 23 H1 0 g1 3 (.int .u64 am) Try.underlying23 ?_))
     )
    go_ret
    exact ⟨by first | rfl | (simp [*]; done), H1.out.below⟩
  have e1 : (kd == 1) = false := beq_eq_false_iff_ne.2 h1
  have e2 : (kd == 2) = false := beq_eq_false_iff_ne.2 h2
  have e3 : (kd == 3) = false := beq_eq_false_iff_ne.2 h3
  obtain rfl : r = false := by rw [hr.out]; simp [*]
  clear hr
  go_wp2_with (first
   | fail
   | ((with_reducible refine Gd 20 ?_); ( refine OD 19 90 H1 0 g1 0 (.int .u8 kd) Try.underlying90 ?_))
   | ((with_reducible refine Gd 24 ?_); ( refine OD 23 23 H1 0 g1 1 (.int .u64 fr) Try.underlying23 ?_))
   | ((with_reducible refine Gd 28 ?_); ( refine GD 27 23 H1 0 g1 2 (.int .u64 tt) Try.underlying23 ?_))
   | ((with_reducible refine Gd 33 ?_); ( refine GD 32 23 H1 0 g1 3 (.int .u64 am) Try.underlying23 ?_))
   | ((with_reducible refine Gd 42 ?_); ( refine OD 41 23 H1 0 g1 1 (.int .u64 fr) Try.underlying23 ?_))
   | ((with_reducible refine Gd 46 ?_); ( refine GD 45 23 H1 0 g1 2 (.int .u64 tt) Try.underlying23 ?_))
   | ((with_reducible refine Gd 52 ?_); ( refine OD 51 23 H1 0 g1 1 (.int .u64 fr) Try.underlying23 ?_))
   | ((with_reducible refine Gd 56 ?_); ( refine GD 55 23 H1 0 g1 3 (.int .u64 am) Try.underlying23 ?_))
   )
  go_ret
  exact ⟨by first | rfl | (simp [*]; done), H1.out.below⟩
end Go.Proofs.Ytocphkfkdadhaaa.H

