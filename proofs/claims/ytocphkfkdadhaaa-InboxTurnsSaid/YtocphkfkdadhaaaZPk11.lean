import Derived.Test.YtocphkfkdadhaaaZPk10
import Derived.Test.YtocphkfkdadhaaaZPk8
set_option maxHeartbeats 4000000
set_option linter.unusedVariables false
set_option linter.unusedSimpArgs false
set_option maxRecDepth 100000
namespace Go.Proofs.Ytocphkfkdadhaaa.H
open Go.RowKit Go.Proofs.YtocphkfkdadhaaaW.PrintWords Go.Proofs.YtocphkfkdadhaaaW.PrintLast Go.Proofs.YtocphkfkdadhaaaW.PrintMore
theorem queue_any (x : Box) (block : Int) (msg : List Int) (A1 A2 Am : Option Addr) (c1 c2 cm : Nat) (w : World) (hC1 : Kd.C kQ w A1 x.q.length x.q) (hc1 : x.q.length ≤ c1) (hC2 : Kd.C kL w A2 x.l.length x.l) (hc2 : x.l.length ≤ c2)
 (hC3 : Kd.C kB w Am msg.length msg) (hc3 : msg.length ≤ cm) (hm : msg.length ≤ 1099511627776)
 (hl : x.l.length ≤ 1000000) (hqm : ∀ d ∈ x.q, d.f1.length ≤ 1099511627776) (hlm : ∀ m ∈ x.l, m.length ≤ 1099511627776) :
 Calls Try.prog 84 #[.agg #[.slice A1 x.q.length c1, .int .i64 x.tk, .slice A2 x.l.length c2, .int .u64 x.nx], .int .i64 block, .slice Am msg.length cm] w (BoxPost w (queueI x block msg)) := by
 obtain ⟨q, tk, l, nx⟩ := x
 have H0 := Aside0.mk (Own.start w)
 have HCP := Aside0.mk (fun W (hb : Below w.heap.size w W) (hq : q.length ≤ 1000000) => copied_any q tk l nx A1 A2 c1 c2 W (Kd.C_below hC1 hb) hc1 (Kd.C_below hC2 hb) hc2 hq hl hqm hlm)
 have HCB := Aside0.mk (fun W (hb : Below w.heap.size w W) => bclone_any msg Am cm W (Kd.C_below hC3 hb) hc3 hm)
 obtain ⟨r, hr⟩ : ∃ r, r = queueI ⟨q, tk, l, nx⟩ block msg := ⟨_, rfl⟩
 rw [← hr]
 have HR := Aside0.mk hr
 dsimp only
 clear hC1 hC2 hC3 hc1 hc2 hc3 hqm hlm hr hl hm
 obtain ⟨n, hn⟩ : ∃ n, n = q.length := ⟨_, rfl⟩
 have HN := Aside0.mk hn
 rw [← hn] at HCP ⊢
 clear hn
 generalize l.length = m at *
 generalize msg.length = k at *
 go_enter Try.func84, Try.ntmps84
 go_upto_region 1 with (first
  | fail
  | ((with_reducible refine Gd 3 ?_); refine OB H0 73 #[.slice A1 n c1, .int .i64 tk, .slice A2 m c2, .int .u64 nx] ?_; intro g3 w1 H1 B1)
  | ((with_reducible refine Gd 6 ?_); refine OA H1 73 #[.slice none 0 0, .int .i64 0, .slice none 0 0, .int .u64 0] 4 ?_; intro g6 w2 H2 B2)
  )
 replace H2 : Aside0 (Own w.heap.size w w2 [.blk g6 #[.slice none 0 0, .int .i64 0, .slice none 0 0, .int .u64 0] 73, .blk g3 #[.slice A1 n c1, .int .i64 tk, .slice A2 m c2, .int .u64 nx] 73]) := ⟨H2.out⟩
 have k0 : w2.cell? ⟨g3, 0, none⟩ = some (.slice A1 n c1) := H2.out.cell 1 rfl 0 rfl
 have HA0 : Aside0 (Arr 4 #[.slice none 0 0, .int .i64 0, .slice none 0 0, .int .u64 0]) := ⟨rfl, by simp [Value.oneCell']⟩
 by_cases h4 : n < 4096
 case neg =>
  have hd : decide (4096 ≤ (n : Int)) = true := decide_eq_true (by omega)
  obtain rfl : r = (zeroB, 4) := by rw [HR.out, queueI, if_neg (by show ¬ q.length < 4096; rw [← HN.out]; exact h4)]
  clear HR
  go_wp2_with (first
   | fail
   | ((with_reducible refine Gs 73 6 ?_); refine OS 6 12 H2 0 g6 73 #[.slice none 0 0, .int .i64 0, .slice none 0 0, .int .u64 0] 4 HA0 HA0 ?_; intro w7 HG)
   )
  refine bodyPost_ret (own_resultV_t rfl _ HG.out 0 g6 _ rfl rfl _ Try.underlying73 rfl (by kernel_rfl) _ rfl) rfl ?_
  exact ⟨_, _, rfl, ((((HG.out.erase 0).erase 0).null kL _).null kQ _)⟩
 have hd : decide (4096 ≤ (n : Int)) = false := decide_eq_false (by omega)
 obtain rfl : r = (⟨q ++ [⟨block, msg⟩], tk, l, nx⟩, 0) := by rw [HR.out, queueI, if_pos (by show q.length < 4096; rw [← HN.out]; exact h4)]
 clear HR
 have HA1 : Aside0 (Arr 4 #[.slice A1 n c1, .int .i64 tk, .slice A2 m c2, .int .u64 nx]) := ⟨rfl, by simp [Value.oneCell']⟩
 go_wp2_with (first
  | fail
  | ((with_reducible refine gate_dst (N := 13) rfl ?_); refine own_loadV H2.out 1 g3 _ 73 rfl rfl (.tmp 3) rfl _ rfl Try.underlying73 rfl (by kernel_rfl) ?_)
  | (go_at_call 87; refine (HCP.out _ H2.out.below (by omega)).mono ?_; rintro e w3 ⟨v1, v2, rfl, hO3⟩; obtain ⟨A3, c3, rfl, hcl3, _⟩ := hO3.reads 0 rfl; obtain ⟨A4, c4, rfl, hcl4, _⟩ := hO3.reads 1 rfl; have H3 := Aside0.mk (H2.out.call hO3); have HA3 : Aside0 (Arr 4 #[.slice A3 q.length c3, .int .i64 tk, .slice A4 l.length c4, .int .u64 nx]) := ⟨rfl, by simp [Value.oneCell']⟩; clear hO3)
  | ((with_reducible refine Gs 73 3 ?_); refine OS 3 14 H3 3 g3 73 #[.slice A3 q.length c3, .int .i64 tk, .slice A4 l.length c4, .int .u64 nx] 4 HA1 HA3 ?_; intro w4 H4)
  )
 replace H4 : Aside0 (Own w.heap.size w w4 [.row kQ 78 (.slice A3 q.length c3) q, .row kL 74 (.slice A4 l.length c4) l, .blk g6 #[.slice none 0 0, .int .i64 0, .slice none 0 0, .int .u64 0] 73, .blk g3 #[.slice A3 q.length c3, .int .i64 tk, .slice A4 l.length c4, .int .u64 nx] 73]) := ⟨H4.out⟩
 have k4 : w4.cell? ⟨g3, 0, none⟩ = some (.slice A3 q.length c3) := H4.out.cell 3 rfl 0 rfl
 have HQ4 : q.length < 4096 := by rw [← HN.out]; exact h4
 simp only [Act.put, List.setIfInBounds_toArray, List.set_cons_zero, List.set_cons_succ]
 clear H0 H1 H2 H3 HCP HA1 HA3 k0 B1 B2
 go_cut [] (fun wc => ∃ (v8 : Value), Aside0 (Own w.heap.size w wc [.row kQ 78 v8 (q ++ [⟨block, msg⟩]), .row kL 74 (.slice A4 l.length c4) l, .blk g6 #[.slice none 0 0, .int .i64 0, .slice none 0 0, .int .u64 0] 73, .blk g3 #[v8, .int .i64 tk, .slice A4 l.length c4, .int .u64 nx] 73]))
 case first =>
  refine St (fun _ => True) (fun hHeld => ?_)
  refine Tk 0 ?_
  refine Tk 2 ?_
  refine Tk 3 ?_
  refine Rd2 1 4 (fun K hK => ?_) fun K hK => ?_
  ·
   refine Rn (.slice A3 q.length c3) ?_
   refine Ag hK (fun hHeld => ?_)
   clear hK K
   refine Rd 4 fun K hK => ?_
   go_simp
   refine (HCB.out _ H4.out.drew.below).mono ?_
   rintro e w5 ⟨v5, rfl, hO5⟩
   obtain ⟨A5, c5, rfl, _, _⟩ := hO5.reads 0 rfl
   have H5 := Aside0.mk (H4.out.drew.call hO5)
   have k5 : w5.cell? ⟨g3, 0, none⟩ = some (.slice A3 q.length c3) := H5.out.cell 4 rfl 0 rfl
   clear hO5
   go_wp2_with fail
   refine Ag hK (fun hHeld => ?_)
   clear hK K
   refine Tk 5 ?_
   refine Rd 6 fun K hK => ?_
   refine step_of_run (W1 := w5.alloc (.cells #[.int .i64 block, .slice A5 msg.length c5] 78)) (v := .slice (some ⟨w5.heap.size, 0, none⟩) 1 1) (by rfl) (by first | (go_simp; done) | (go_simp; rfl)) ?_
   refine Ag hK (fun hHeld => ?_)
   clear hK K
   refine Rd 7 fun K hK => ?_
   refine own_appendM_step kQ kB (H5.out.bring 1 rfl) (by rfl) (.tmp 16) (.tmp 21) 70 (.agg #[.int .i64 0, .slice none 0 0]) 32 rfl Try.underlying70 PRF.info78 rfl (show 0 < 2 by decide) (by decide) ⟨block, msg⟩ [.int .i64 block, .slice A5 msg.length c5] rfl rfl (fun W ok h => PRF.k78_mkM W 0 ok ⟨block, msg⟩ h) (by omega) ?_
   intro v8 w8 H8
   obtain ⟨A8, c8, rfl, _, _⟩ := H8.reads 0 rfl
   rw [show (q ++ [(⟨block, msg⟩ : SQ)]).length = q.length + 1 by simp] at H8
   replace H8 := Aside0.mk H8
   have k8 : w8.cell? ⟨g3, 0, none⟩ = some (.slice A3 q.length c3) ∧ w8.frozen? ⟨g3, 0, none⟩ = false := ⟨H8.out.cell 3 rfl 0 rfl, H8.out.fz 3 rfl 0⟩
   refine Ag hK (fun hHeld => ?_)
   clear hK K
   refine Tk 8 ?_
   refine Rd 9 fun K hK => ?_
   go_simp
   refine Ag hK (fun hHeld => ?_)
   clear hK K
   refine Dn ?_
   go_wp2_with fail
   go_meet
   exact ⟨.slice A8 (q.length + 1) c8, ⟨H8.out.put 3 rfl 0 _ rfl⟩⟩
  ·
   go_simp
   refine (HCB.out _ H4.out.drew.below).mono ?_
   rintro e w5 ⟨v5, rfl, hO5⟩
   obtain ⟨A5, c5, rfl, _, _⟩ := hO5.reads 0 rfl
   have H5 := Aside0.mk (H4.out.drew.call hO5)
   have k5 : w5.cell? ⟨g3, 0, none⟩ = some (.slice A3 q.length c3) := H5.out.cell 4 rfl 0 rfl
   clear hO5
   go_wp2_with fail
   refine Ag hK (fun hHeld => ?_)
   clear hK K
   refine Tk 5 ?_
   refine Rd2 1 6 (fun K hK => ?_) fun K hK => ?_
   ·
    refine Rn (.slice A3 q.length c3) ?_
    refine Ag hK (fun hHeld => ?_)
    clear hK K
    refine Rd 6 fun K hK => ?_
    refine step_of_run (W1 := w5.alloc (.cells #[.int .i64 block, .slice A5 msg.length c5] 78)) (v := .slice (some ⟨w5.heap.size, 0, none⟩) 1 1) (by rfl) (by first | (go_simp; done) | (go_simp; rfl)) ?_
    refine Ag hK (fun hHeld => ?_)
    clear hK K
    refine Rd 7 fun K hK => ?_
    refine own_appendM_step kQ kB (H5.out.bring 1 rfl) (by rfl) (.tmp 16) (.tmp 21) 70 (.agg #[.int .i64 0, .slice none 0 0]) 32 rfl Try.underlying70 PRF.info78 rfl (show 0 < 2 by decide) (by decide) ⟨block, msg⟩ [.int .i64 block, .slice A5 msg.length c5] rfl rfl (fun W ok h => PRF.k78_mkM W 0 ok ⟨block, msg⟩ h) (by omega) ?_
    intro v8 w8 H8
    obtain ⟨A8, c8, rfl, _, _⟩ := H8.reads 0 rfl
    rw [show (q ++ [(⟨block, msg⟩ : SQ)]).length = q.length + 1 by simp] at H8
    replace H8 := Aside0.mk H8
    have k8 : w8.cell? ⟨g3, 0, none⟩ = some (.slice A3 q.length c3) ∧ w8.frozen? ⟨g3, 0, none⟩ = false := ⟨H8.out.cell 3 rfl 0 rfl, H8.out.fz 3 rfl 0⟩
    refine Ag hK (fun hHeld => ?_)
    clear hK K
    refine Tk 8 ?_
    refine Rd 9 fun K hK => ?_
    go_simp
    refine Ag hK (fun hHeld => ?_)
    clear hK K
    refine Dn ?_
    go_wp2_with fail
    go_meet
    exact ⟨.slice A8 (q.length + 1) c8, ⟨H8.out.put 3 rfl 0 _ rfl⟩⟩
   ·
    refine step_of_run (W1 := w5.alloc (.cells #[.int .i64 block, .slice A5 msg.length c5] 78)) (v := .slice (some ⟨w5.heap.size, 0, none⟩) 1 1) (by rfl) (by first | (go_simp; done) | (go_simp; rfl)) ?_
    refine Ag hK (fun hHeld => ?_)
    clear hK K
    have k6 : (w5.alloc (.cells #[.int .i64 block, .slice A5 msg.length c5] 78)).cell? ⟨g3, 0, none⟩ = some (.slice A3 q.length c3) := (H5.out.alloc _).cell 4 rfl 0 rfl
    refine Rd 1 fun K hK => ?_
    refine Rn (.slice A3 q.length c3) ?_
    refine Ag hK (fun hHeld => ?_)
    clear hK K
    refine Rd 7 fun K hK => ?_
    refine own_appendM_step kQ kB (H5.out.bring 1 rfl) (by rfl) (.tmp 16) (.tmp 21) 70 (.agg #[.int .i64 0, .slice none 0 0]) 32 rfl Try.underlying70 PRF.info78 rfl (show 0 < 2 by decide) (by decide) ⟨block, msg⟩ [.int .i64 block, .slice A5 msg.length c5] rfl rfl (fun W ok h => PRF.k78_mkM W 0 ok ⟨block, msg⟩ h) (by omega) ?_
    intro v8 w8 H8
    obtain ⟨A8, c8, rfl, _, _⟩ := H8.reads 0 rfl
    rw [show (q ++ [(⟨block, msg⟩ : SQ)]).length = q.length + 1 by simp] at H8
    replace H8 := Aside0.mk H8
    have k8 : w8.cell? ⟨g3, 0, none⟩ = some (.slice A3 q.length c3) ∧ w8.frozen? ⟨g3, 0, none⟩ = false := ⟨H8.out.cell 3 rfl 0 rfl, H8.out.fz 3 rfl 0⟩
    refine Ag hK (fun hHeld => ?_)
    clear hK K
    refine Tk 8 ?_
    refine Rd 9 fun K hK => ?_
    go_simp
    refine Ag hK (fun hHeld => ?_)
    clear hK K
    refine Dn ?_
    go_wp2_with fail
    go_meet
    exact ⟨.slice A8 (q.length + 1) c8, ⟨H8.out.put 3 rfl 0 _ rfl⟩⟩
 case rest =>
  obtain ⟨v8, HC0⟩ := hcut
  obtain ⟨A8, c8, hv8, _, _⟩ := HC0.out.reads 0 rfl
  generalize (q ++ [(⟨block, msg⟩ : SQ)]).length = n8 at hv8
  subst hv8
  have HA8 : Aside0 (Arr 4 #[.slice A8 n8 c8, .int .i64 tk, .slice A4 l.length c4, .int .u64 nx]) := ⟨rfl, by simp [Value.oneCell']⟩
  go_wp2_with (first
   | fail
   | ((with_reducible refine gate_dst (N := 24) rfl ?_); refine own_loadV HC0.out 3 g3 _ 73 rfl rfl (.tmp 3) rfl _ rfl Try.underlying73 rfl (by kernel_rfl) ?_)
   | ((with_reducible refine Gs 73 6 ?_); refine OS 6 24 HC0 2 g6 73 #[.slice A8 n8 c8, .int .i64 tk, .slice A4 l.length c4, .int .u64 nx] 4 HA0 HA8 ?_; intro w7 HG)
   )
  refine bodyPost_ret (own_resultV_t rfl _ HG.out 2 g6 _ rfl rfl _ Try.underlying73 rfl (by kernel_rfl) _ rfl) rfl ?_
  exact ⟨_, _, rfl, (HG.out.erase 2).erase 2⟩
def takenL (q : List SQ) (tk n : Nat) : List (List Int) := ((q.drop tk).take n).map (fun d => d.f1)
theorem takenL_snoc (q : List SQ) (tk i : Nat) (h : tk + i < q.length) : takenL q tk (i + 1) = takenL q tk i ++ [q[tk + i].f1] := by
 unfold takenL
 rw [List.take_succ_eq_append_getElem (by rw [List.length_drop]; omega), List.map_append, List.getElem_drop]
 rfl
theorem take_any (q : List SQ) (tk n : Nat) (l : List (List Int)) (nx : Int) (g gq cq : Nat) (vl : Value) {B : Nat} {w0 w : World} {L : List Item}
 (H : Own B w0 w (.blk g #[.slice (some ⟨gq, 0, none⟩) q.length cq, .int .i64 (tk : Int), vl, .int .u64 nx] 73 :: .row kQ 78 (.slice (some ⟨gq, 0, none⟩) q.length cq) q :: .row kL 74 vl l :: L))
 (hcq : q.length ≤ cq) (hn : tk + n ≤ q.length) (hq : q.length ≤ 1000000) (hl : l.length ≤ 1000000) (hqm : ∀ d ∈ q, d.f1.length ≤ 1099511627776) :
 Calls Try.prog 88 #[.pointer (some ⟨g, 0, none⟩), .int .i64 (n : Int)] w fun e w' => e = .returned (.tuple #[]) ∧ ∃ vl', Own B w0 w' (.blk g #[.slice (some ⟨gq, 0, none⟩) q.length cq, .int .i64 ((tk + n : Nat) : Int), vl', .int .u64 nx] 73 :: .row kQ 78 (.slice (some ⟨gq, 0, none⟩) q.length cq) q :: .row kL 74 vl' (l ++ takenL q tk n) :: L) := by
 have H0 := Aside0.mk H
 obtain ⟨A4, c4, rfl, hcl4, _⟩ := H.reads 2 rfl
 have k0 : w.cell? ⟨g, 0, none⟩ = some (.slice (some ⟨gq, 0, none⟩) q.length cq) := H.cell 0 rfl 0 rfl
 have k1 : w.cell? ⟨g, 1, none⟩ = some (.int .i64 (tk : Int)) := H.cell 0 rfl 1 rfl
 have HQM := Aside0.mk (fun (i : Nat) (h : i < q.length) => hqm q[i] (List.getElem_mem h))
 clear hqm H
 obtain ⟨nq, hnq⟩ : ∃ nq, nq = q.length := ⟨_, rfl⟩
 rw [← hnq] at H0 k0 hcq hn hq ⊢
 have HN := Aside0.mk hnq
 clear hnq
 obtain ⟨hi, hto⟩ : ∃ hi, hi = tk + n := ⟨_, rfl⟩
 rw [← hto] at hn ⊢
 have HTO := Aside0.mk hto
 have hwt : IntKind.i64.wrap ((tk : Int) + (n : Int)) = (hi : Int) := by rw [IntWalk.i64_in _ (by omega)]; omega
 have hsb : (0 : Int) ≤ (hi : Int) ∧ (hi : Int) ≤ (cq : Int) ∧ (tk : Int) ≤ (hi : Int) ∧ (0 : Int) ≤ (tk : Int) ∧ tk ≤ hi := by omega
 clear hto
 go_enter Try.func88, Try.ntmps88
 go_wp2_with fail
 refine St (fun W => W.cell? ⟨g, 0, none⟩ = some (.slice (some ⟨gq, 0, none⟩) nq cq) ∧ W.cell? ⟨g, 1, none⟩ = some (.int .i64 (tk : Int))) (fun hHeld => ?_) (by exact ⟨k0, k1⟩)
 refine Tk 0 ?_
 refine Tk 1 ?_
 refine Tk 2 ?_
 refine Tk 3 ?_
 refine Tk 4 ?_
 refine Tk 5 ?_
 refine Tk 6 ?_
 refine Tk 7 ?_
 refine Tk 8 ?_
 refine Tk 9 ?_
 refine Tk 10 ?_
 refine Tk 11 ?_
 refine Tk 12 ?_
 refine Dn ?_
 have hdn : hi - tk = n := by have := HTO.out; omega
 rw [hdn]
 have HAX : Aside0 (∀ i, i < n → (if hi = tk then some (⟨gq, 0, none⟩ : Addr) else some ⟨gq, tk * 2, none⟩) = some ⟨gq, tk * 2, none⟩) := ⟨fun i h => by rw [if_neg (by have := HTO.out; omega)]⟩
 generalize (if hi = tk then some (⟨gq, 0, none⟩ : Addr) else some ⟨gq, tk * 2, none⟩) = Ax at *
 have H1 : Aside0 (Own B w0 w.drew (.blk g #[.slice (some ⟨gq, 0, none⟩) nq cq, .int .i64 (tk : Int), (.slice A4 l.length c4), .int .u64 nx] 73 :: .row kQ 78 (.slice (some ⟨gq, 0, none⟩) nq cq) q :: .row kL 74 (.slice A4 l.length c4) (l ++ takenL q tk 0) :: L)) := ⟨by have h := H0.out.drew; rw [show l ++ takenL q tk 0 = l by simp [takenL]]; exact h⟩
 clear H0 k0 k1 hHeld hwt hsb
 generalize w.drew = w1 at *
 go_wp2_with fail
 go_loopw [25] (fun v25 wr => ∃ (i : Nat) (vl : Value), i ≤ n ∧ v25 = .int .i64 (i : Int) ∧ Aside0 (Own B w0 wr (.blk g #[.slice (some ⟨gq, 0, none⟩) nq cq, .int .i64 (tk : Int), vl, .int .u64 nx] 73 :: .row kQ 78 (.slice (some ⟨gq, 0, none⟩) nq cq) q :: .row kL 74 vl (l ++ takenL q tk i) :: L))) (fun v25 _ => n - (intOf v25).toNat)
 case atStart => exact ⟨0, _, Nat.zero_le _, rfl, H1⟩
 case round =>
  clear H1
  obtain ⟨i, vl, hin, rfl, HI⟩ := hrel
  by_cases hlt : i < n
  ·have hdl : decide ((i : Int) < (n : Int)) = true := decide_eq_true (by omega)
   have hwi : IntKind.i64.wrap ((i : Int) + 1) = ((i + 1 : Nat) : Int) := by rw [IntWalk.i64_in _ (by omega)]; omega
   have hib : (0 : Int) ≤ (i : Int) ∧ (i : Int) < (n : Int) := by omega
   have hiq : tk + i < q.length := by rw [← HN.out]; have := HTO.out; omega
   obtain rfl := HAX.out i hlt
   obtain ⟨A5, c5, hv5, _, _⟩ := HI.out.reads 2 rfl
   generalize (l ++ takenL q tk i).length = n5 at hv5
   subst hv5
   obtain ⟨cs, hK, hcell⟩ := HI.out.cells_at 1 rfl (tk + i) (List.getElem?_eq_getElem hiq)
   obtain ⟨Am, cm, rfl, hcm, hCm⟩ := PRF.k78_open hK
   have ha : (tk + i) * 2 = tk * 2 + i * 2 := by omega
   have kA : wr.cell? ⟨gq, tk * 2 + i * 2, none⟩ = some (.int .i64 q[tk + i].f0) := by have h := hcell 0 _ rfl; rw [← ha]; exact h
   have kB : wr.cell? ⟨gq, tk * 2 + i * 2 + 1, none⟩ = some (.slice Am q[tk + i].f1.length cm) := by have h := hcell 1 _ rfl; rw [← ha]; exact h
   have HCB := Aside0.mk (fun W (hb : Below wr.heap.size wr W) => bclone_any q[tk + i].f1 Am cm W (Kd.C_below hCm hb) hcm (HQM.out (tk + i) hiq))
   have HTK := Aside0.mk (takenL_snoc q tk i hiq)
   have HLL : Aside0 ((l ++ takenL q tk i).length ≤ 2000000) := ⟨by
    have : (takenL q tk i).length ≤ q.length := by simp only [takenL, List.length_map, List.length_take, List.length_drop]; omega
    rw [List.length_append]; have := HN.out; omega⟩
   clear hK hcell hCm hcm ha
   generalize q[tk + i].f0 = b at *
   generalize q[tk + i].f1 = msg at *
   go_wp2_with fail
   have HX := Aside0.mk (HI.out.new #[.int .i64 b, .slice Am msg.length cm] 78)
   have hBX := below_alloc (Below.refl wr.heap.size wr) (.cells #[.int .i64 b, .slice Am msg.length cm] 78)
   have HCB2 := Aside0.mk (fun W hb => HCB.out W (below_step hBX hb))
   clear HCB hBX HI kA kB
   generalize wr.alloc (.cells #[.int .i64 b, .slice Am msg.length cm] 78) = wx at *
   generalize wr.heap.size = gx at *
   have kx : wx.cell? ⟨gx, 1, none⟩ = some (.slice Am msg.length cm) := HX.out.cell 0 rfl 1 rfl
   have k4 : wx.cell? ⟨g, 2, none⟩ = some (.slice A5 n5 c5) := HX.out.cell 1 rfl 2 rfl
   refine St (fun W => W.cell? ⟨gx, 1, none⟩ = some (.slice Am msg.length cm)) (fun hHeld => ?_) (by exact kx)
   refine Tk 0 ?_
   refine Tk 1 ?_
   refine Tk 2 ?_
   refine Tk 3 ?_
   refine Tk 5 ?_
   refine Tk 6 ?_
   refine Rd2 4 7 (fun K hK => ?_) fun K hK => ?_
   ·
    refine Rn (.slice A5 n5 c5) ?_
    refine Ag hK (fun hHeld => ?_)
    clear hK K
    refine Rd 7 fun K hK => ?_
    go_simp
    refine (HCB2.out _ (below_drew (Below.refl _ _))).mono ?_
    rintro e w5 ⟨v5, rfl, hO5⟩
    obtain ⟨A6, c6, rfl, _, _⟩ := hO5.reads 0 rfl
    have H5 := Aside0.mk (HX.out.drew.call hO5)
    have k5 : w5.cell? ⟨g, 2, none⟩ = some (.slice A5 n5 c5) ∧ w5.cell? ⟨gx, 1, none⟩ = some (.slice Am msg.length cm) := ⟨H5.out.cell 2 rfl 2 rfl, H5.out.cell 1 rfl 1 rfl⟩
    clear hO5
    go_wp2_with fail
    refine Ag hK (fun hHeld => ?_) (by exact k5.2)
    clear hK K
    refine Rd 8 fun K hK => ?_
    have k7 : (w5.alloc (.cells #[.slice A6 msg.length c6] 74)).cell? ⟨gx, 1, none⟩ = some (.slice Am msg.length cm) := (H5.out.alloc _).cell 1 rfl 1 rfl
    refine step_of_run (W1 := w5.alloc (.cells #[.slice A6 msg.length c6] 74)) (v := .slice (some ⟨w5.heap.size, 0, none⟩) 1 1) (by rfl) (by first | (go_simp; done) | (go_simp; rfl)) ?_
    refine Ag hK (fun hHeld => ?_) (by exact k7)
    clear hK K
    refine Rd 9 fun K hK => ?_
    refine own_appendM_step kL kB (H5.out.bring 4 rfl) (by rfl) (.tmp 33) (.tmp 37) 71 (.slice none 0 0) 24 rfl Try.underlying71 PRF.info74 rfl (show 0 < 1 by decide) (by decide) msg [.slice A6 msg.length c6] rfl rfl (fun W ok h => ⟨_, rfl, h⟩) (by have := HLL.out; omega) ?_
    intro v8 w8 H8
    obtain ⟨A8, c8, hv8, _, _⟩ := H8.reads 0 rfl
    generalize (l ++ takenL q tk i ++ [msg]).length = n8 at hv8
    subst hv8
    rw [List.append_assoc, ← HTK.out] at H8
    replace H8 := Aside0.mk H8
    have k8 : w8.cell? ⟨g, 2, none⟩ = some (.slice A5 n5 c5) ∧ w8.frozen? ⟨g, 2, none⟩ = false ∧ w8.cell? ⟨gx, 1, none⟩ = some (.slice Am msg.length cm) := ⟨H8.out.cell 2 rfl 2 rfl, H8.out.fz 2 rfl 2, H8.out.cell 1 rfl 1 rfl⟩
    have HP := Aside0.mk (H8.out.put 2 rfl 2 (.slice A8 n8 c8) rfl)
    have kp : (w8.setCell ⟨g, 2, none⟩ (.slice A8 n8 c8)).cell? ⟨gx, 1, none⟩ = some (.slice Am msg.length cm) := HP.out.cell 1 rfl 1 rfl
    refine Ag hK (fun hHeld => ?_) (by exact k8.2.2)
    clear hK K
    refine Tk 10 ?_
    refine Tk 11 ?_
    refine Rd 12 fun K hK => ?_
    go_simp
    refine Ag hK (fun hHeld => ?_) (by exact kp)
    clear hK K
    refine Dn ?_
    go_wp2_with fail
    go_roundw
    case rel => exact ⟨i + 1, _, hlt, rfl, ⟨((HP.out.erase 1).bring 2 rfl).bring 2 rfl⟩⟩
    case measure => simp [intOf]; omega
   ·
    go_simp
    refine (HCB2.out _ (below_drew (Below.refl _ _))).mono ?_
    rintro e w5 ⟨v5, rfl, hO5⟩
    obtain ⟨A6, c6, rfl, _, _⟩ := hO5.reads 0 rfl
    have H5 := Aside0.mk (HX.out.drew.call hO5)
    have k5 : w5.cell? ⟨g, 2, none⟩ = some (.slice A5 n5 c5) ∧ w5.cell? ⟨gx, 1, none⟩ = some (.slice Am msg.length cm) := ⟨H5.out.cell 2 rfl 2 rfl, H5.out.cell 1 rfl 1 rfl⟩
    clear hO5
    go_wp2_with fail
    refine Ag hK (fun hHeld => ?_) (by exact k5.2)
    clear hK K
    refine Rd2 4 8 (fun K hK => ?_) fun K hK => ?_
    ·
     refine Rn (.slice A5 n5 c5) ?_
     refine Ag hK (fun hHeld => ?_) (by exact k5.2)
     clear hK K
     refine Rd 8 fun K hK => ?_
     have k7 : (w5.alloc (.cells #[.slice A6 msg.length c6] 74)).cell? ⟨gx, 1, none⟩ = some (.slice Am msg.length cm) := (H5.out.alloc _).cell 1 rfl 1 rfl
     refine step_of_run (W1 := w5.alloc (.cells #[.slice A6 msg.length c6] 74)) (v := .slice (some ⟨w5.heap.size, 0, none⟩) 1 1) (by rfl) (by first | (go_simp; done) | (go_simp; rfl)) ?_
     refine Ag hK (fun hHeld => ?_) (by exact k7)
     clear hK K
     refine Rd 9 fun K hK => ?_
     refine own_appendM_step kL kB (H5.out.bring 4 rfl) (by rfl) (.tmp 33) (.tmp 37) 71 (.slice none 0 0) 24 rfl Try.underlying71 PRF.info74 rfl (show 0 < 1 by decide) (by decide) msg [.slice A6 msg.length c6] rfl rfl (fun W ok h => ⟨_, rfl, h⟩) (by have := HLL.out; omega) ?_
     intro v8 w8 H8
     obtain ⟨A8, c8, hv8, _, _⟩ := H8.reads 0 rfl
     generalize (l ++ takenL q tk i ++ [msg]).length = n8 at hv8
     subst hv8
     rw [List.append_assoc, ← HTK.out] at H8
     replace H8 := Aside0.mk H8
     have k8 : w8.cell? ⟨g, 2, none⟩ = some (.slice A5 n5 c5) ∧ w8.frozen? ⟨g, 2, none⟩ = false ∧ w8.cell? ⟨gx, 1, none⟩ = some (.slice Am msg.length cm) := ⟨H8.out.cell 2 rfl 2 rfl, H8.out.fz 2 rfl 2, H8.out.cell 1 rfl 1 rfl⟩
     have HP := Aside0.mk (H8.out.put 2 rfl 2 (.slice A8 n8 c8) rfl)
     have kp : (w8.setCell ⟨g, 2, none⟩ (.slice A8 n8 c8)).cell? ⟨gx, 1, none⟩ = some (.slice Am msg.length cm) := HP.out.cell 1 rfl 1 rfl
     refine Ag hK (fun hHeld => ?_) (by exact k8.2.2)
     clear hK K
     refine Tk 10 ?_
     refine Tk 11 ?_
     refine Rd 12 fun K hK => ?_
     go_simp
     refine Ag hK (fun hHeld => ?_) (by exact kp)
     clear hK K
     refine Dn ?_
     go_wp2_with fail
     go_roundw
     case rel => exact ⟨i + 1, _, hlt, rfl, ⟨((HP.out.erase 1).bring 2 rfl).bring 2 rfl⟩⟩
     case measure => simp [intOf]; omega
    ·
     have k7 : (w5.alloc (.cells #[.slice A6 msg.length c6] 74)).cell? ⟨gx, 1, none⟩ = some (.slice Am msg.length cm) := (H5.out.alloc _).cell 1 rfl 1 rfl
     refine step_of_run (W1 := w5.alloc (.cells #[.slice A6 msg.length c6] 74)) (v := .slice (some ⟨w5.heap.size, 0, none⟩) 1 1) (by rfl) (by first | (go_simp; done) | (go_simp; rfl)) ?_
     refine Ag hK (fun hHeld => ?_) (by exact k7)
     clear hK K
     have k6 : (w5.alloc (.cells #[.slice A6 msg.length c6] 74)).cell? ⟨g, 2, none⟩ = some (.slice A5 n5 c5) := (H5.out.alloc _).cell 2 rfl 2 rfl
     refine Rd 4 fun K hK => ?_
     refine Rn (.slice A5 n5 c5) ?_
     refine Ag hK (fun hHeld => ?_) (by exact k7)
     clear hK K
     refine Rd 9 fun K hK => ?_
     refine own_appendM_step kL kB (H5.out.bring 4 rfl) (by rfl) (.tmp 33) (.tmp 37) 71 (.slice none 0 0) 24 rfl Try.underlying71 PRF.info74 rfl (show 0 < 1 by decide) (by decide) msg [.slice A6 msg.length c6] rfl rfl (fun W ok h => ⟨_, rfl, h⟩) (by have := HLL.out; omega) ?_
     intro v8 w8 H8
     obtain ⟨A8, c8, hv8, _, _⟩ := H8.reads 0 rfl
     generalize (l ++ takenL q tk i ++ [msg]).length = n8 at hv8
     subst hv8
     rw [List.append_assoc, ← HTK.out] at H8
     replace H8 := Aside0.mk H8
     have k8 : w8.cell? ⟨g, 2, none⟩ = some (.slice A5 n5 c5) ∧ w8.frozen? ⟨g, 2, none⟩ = false ∧ w8.cell? ⟨gx, 1, none⟩ = some (.slice Am msg.length cm) := ⟨H8.out.cell 2 rfl 2 rfl, H8.out.fz 2 rfl 2, H8.out.cell 1 rfl 1 rfl⟩
     have HP := Aside0.mk (H8.out.put 2 rfl 2 (.slice A8 n8 c8) rfl)
     have kp : (w8.setCell ⟨g, 2, none⟩ (.slice A8 n8 c8)).cell? ⟨gx, 1, none⟩ = some (.slice Am msg.length cm) := HP.out.cell 1 rfl 1 rfl
     refine Ag hK (fun hHeld => ?_) (by exact k8.2.2)
     clear hK K
     refine Tk 10 ?_
     refine Tk 11 ?_
     refine Rd 12 fun K hK => ?_
     go_simp
     refine Ag hK (fun hHeld => ?_) (by exact kp)
     clear hK K
     refine Dn ?_
     go_wp2_with fail
     go_roundw
     case rel => exact ⟨i + 1, _, hlt, rfl, ⟨((HP.out.erase 1).bring 2 rfl).bring 2 rfl⟩⟩
     case measure => simp [intOf]; omega
  ·have hdl : decide ((i : Int) < (n : Int)) = false := decide_eq_false (by omega)
   obtain rfl : n = i := by omega
   obtain ⟨A5, c5, rfl, _, _⟩ := HI.out.reads 2 rfl
   have kf : wr.cell? ⟨g, 1, none⟩ = some (.int .i64 (tk : Int)) ∧ wr.frozen? ⟨g, 1, none⟩ = false := ⟨HI.out.cell 0 rfl 1 rfl, HI.out.fz 0 rfl 1⟩
   go_wp2_with fail
   refine bodyPost_end (results_none rfl _ _ _) rfl ?_
   exact ⟨rfl, _, HI.out.put 0 rfl 1 _ rfl⟩
def tickG (q : List SQ) (block : Int) : Nat → Nat → List (List Int) → Nat × List (List Int)
 | 0, tk, l => (tk, l)
 | f + 1, tk, l => if h : tk < q.length then if l.length < 4096 ∧ q[tk].f0 + 8 ≤ block then tickG q block f (tk + 1) (l ++ [q[tk].f1]) else (tk, l) else (tk, l)
def tickI (x : Box) (block : Int) : Box × Int :=
 if mayI x.q x.tk x.l && decide (0 ≤ block) then
  (⟨x.q, ((tickG x.q block (x.q.length - x.tk.toNat) x.tk.toNat x.l).1 : Int), (tickG x.q block (x.q.length - x.tk.toNat) x.tk.toNat x.l).2, x.nx⟩, 0) else (zeroB, 2)
theorem riseP_all : ∀ (q : List SQ) (last : Int), riseP last q = true → ∀ d ∈ q, last ≤ d.f0 ∧ d.f1.length ≤ 65536
 | [], _, _, _, hd => by cases hd
 | d :: q, last, h, x, hx => by
  unfold riseP at h
  rw [Bool.and_eq_true, Bool.and_eq_true, decide_eq_true_eq, decide_eq_true_eq] at h
  rcases List.mem_cons.1 hx with rfl | hx
  ·exact ⟨h.1.1, h.1.2⟩
  ·have := riseP_all q d.f0 h.2 x hx
   omega
theorem mayI_all {q : List SQ} {tk : Int} {l : List (List Int)} (h : mayI q tk l = true) : (∀ d ∈ q, 0 ≤ d.f0 ∧ d.f1.length ≤ 65536) ∧ (∀ m ∈ l, m.length ≤ 65536) := by
 unfold mayI longP at h
 simp only [Bool.and_eq_true, decide_eq_true_eq, Bool.not_eq_true'] at h
 refine ⟨riseP_all q 0 h.1.2, fun m hm => ?_⟩
 have h2 := h.2
 rw [List.any_eq_false] at h2
 have := h2 m hm
 simpa using this
theorem takenL_one (q : List SQ) (i : Nat) (h : i < q.length) : takenL q i 1 = [q[i].f1] := by
 have := takenL_snoc q i 0 h
 simpa [takenL] using this
theorem tickG_go {q : List SQ} {block : Int} {f tk : Nat} {l : List (List Int)} (h : tk < q.length) (hl : l.length < 4096) (hb : q[tk].f0 + 8 ≤ block) : tickG q block (f + 1) tk l = tickG q block f (tk + 1) (l ++ [q[tk].f1]) := by
 rw [tickG, dif_pos h, if_pos ⟨hl, hb⟩]
theorem tickG_stop {q : List SQ} {block : Int} {tk : Nat} {l : List (List Int)} (h : tk < q.length) (hl : ¬ (l.length < 4096 ∧ q[tk].f0 + 8 ≤ block)) : ∀ f, tickG q block f tk l = (tk, l)
 | 0 => rfl
 | f + 1 => by rw [tickG, dif_pos h, if_neg hl]
theorem tick_any (x : Box) (block : Int) (A1 A2 : Option Addr) (c1 c2 : Nat) (w : World) (hC1 : Kd.C kQ w A1 x.q.length x.q) (hc1 : x.q.length ≤ c1) (hC2 : Kd.C kL w A2 x.l.length x.l) (hc2 : x.l.length ≤ c2)
 (hblk : block ≤ 9223372036854775807) (hq64 : ∀ d ∈ x.q, d.f0 ≤ 9223372036854775807) :
 Calls Try.prog 38 #[.agg #[.slice A1 x.q.length c1, .int .i64 x.tk, .slice A2 x.l.length c2, .int .u64 x.nx], .int .i64 block] w (BoxPost w (tickI x block)) := by
 obtain ⟨q, tk, l, nx⟩ := x
 have H0 := Aside0.mk (Own.start w)
 have HMY := Aside0.mk (fun W hb => imay_any q tk l nx A1 A2 c1 c2 W (Kd.C_below hC1 hb) hc1 (Kd.C_below hC2 hb) hc2)
 have HCP := Aside0.mk (fun W (hb : Below w.heap.size w W) h1 h2 => copied_any q tk l nx A1 A2 c1 c2 W (Kd.C_below hC1 hb) hc1 (Kd.C_below hC2 hb) hc2 h1 h2)
 have HLN := Aside0.mk (fun h : mayI q tk l = true => mayI_len h)
 have HAL := Aside0.mk (fun h : mayI q tk l = true => mayI_all h)
 have HQ64 := Aside0.mk hq64
 obtain ⟨r, hr⟩ : ∃ r, r = tickI ⟨q, tk, l, nx⟩ block := ⟨_, rfl⟩
 rw [← hr]
 have HR := Aside0.mk hr
 dsimp only
 clear hC1 hC2 hc1 hc2 hq64 hr
 obtain ⟨n, hn⟩ : ∃ n, n = q.length := ⟨_, rfl⟩
 have HN := Aside0.mk hn
 rw [← hn] at HCP HMY ⊢
 clear hn
 generalize hmm : l.length = m at *
 replace hmm := Aside0.mk hmm
 obtain ⟨my, hmy⟩ : ∃ my, my = mayI q tk l := ⟨_, rfl⟩
 rw [← hmy] at HMY HLN HAL
 have HMYE := Aside0.mk hmy
 clear hmy
 go_enter Try.func38, Try.ntmps38
 go_upto_region 1 with (first
  | fail
  | ((with_reducible refine Gd 2 ?_); refine OB H0 73 #[.slice A1 n c1, .int .i64 tk, .slice A2 m c2, .int .u64 nx] ?_; intro g2 w1 H1 B1)
  | ((with_reducible refine Gd 4 ?_); refine OA H1 73 #[.slice none 0 0, .int .i64 0, .slice none 0 0, .int .u64 0] 4 ?_; intro g4 w2 H2 B2)
  )
 replace H2 : Aside0 (Own w.heap.size w w2 [.blk g4 #[.slice none 0 0, .int .i64 0, .slice none 0 0, .int .u64 0] 73, .blk g2 #[.slice A1 n c1, .int .i64 tk, .slice A2 m c2, .int .u64 nx] 73]) := ⟨H2.out⟩
 have HA0 : Aside0 (Arr 4 #[.slice none 0 0, .int .i64 0, .slice none 0 0, .int .u64 0]) := ⟨rfl, by simp [Value.oneCell']⟩
 have HA1 : Aside0 (Arr 4 #[.slice A1 n c1, .int .i64 tk, .slice A2 m c2, .int .u64 nx]) := ⟨rfl, by simp [Value.oneCell']⟩
 clear H0 H1 B1 B2
 go_cut [5, 12] (fun v5 v12 wc => v5 = .int .i64 0 ∧ v12 = .bool (!(my && decide (0 ≤ block))) ∧ Aside0 (Own w.heap.size w wc [.blk g4 #[.slice none 0 0, .int .i64 0, .slice none 0 0, .int .u64 0] 73, .blk g2 #[.slice A1 n c1, .int .i64 tk, .slice A2 m c2, .int .u64 nx] 73]))
 case first =>
  by_cases hb : 0 ≤ block
  ·have hd1 : decide (0 ≤ block) = true := decide_eq_true hb
   have hd2 : decide (block < 0) = false := decide_eq_false (by omega)
   cases my
   all_goals
    go_wp2_with (first
     | fail
     | ((with_reducible refine gate_dst (N := 6) rfl ?_); refine own_loadV H2.out 1 g2 _ 73 rfl rfl (.tmp 2) rfl _ rfl Try.underlying73 rfl (by kernel_rfl) ?_)
     | (go_at_call 57; refine (HMY.out _ H2.out.below).mono ?_; rintro e w3 ⟨rfl, hB3⟩; have H3 := Aside0.mk (H2.out.step hB3); clear hB3)
     )
    go_meet
    exact ⟨rfl, by first | rfl | (rw [hd1]; rfl), H3⟩
  ·have hd1 : decide (0 ≤ block) = false := decide_eq_false hb
   have hd2 : decide (block < 0) = true := decide_eq_true (by omega)
   cases my
   all_goals
    go_wp2_with (first
     | fail
     | ((with_reducible refine gate_dst (N := 6) rfl ?_); refine own_loadV H2.out 1 g2 _ 73 rfl rfl (.tmp 2) rfl _ rfl Try.underlying73 rfl (by kernel_rfl) ?_)
     | (go_at_call 57; refine (HMY.out _ H2.out.below).mono ?_; rintro e w3 ⟨rfl, hB3⟩; have H3 := Aside0.mk (H2.out.step hB3); clear hB3)
     )
    go_meet
    exact ⟨rfl, by first | rfl | (rw [hd1]; rfl), H3⟩
 case rest =>
 clear H2 HMY
 obtain ⟨rfl, rfl, H2⟩ := hcut
 cases hb : (my && decide (0 ≤ block))
 ·obtain rfl : r = (zeroB, 2) := by rw [HR.out, tickI, if_neg (by show ¬ (mayI q tk l && decide (0 ≤ block)) = true; rw [← HMYE.out, hb]; simp)]
  clear HR
  go_wp2_with (first
   | fail
   | ((with_reducible refine Gs 73 4 ?_); refine OS 4 13 H2 0 g4 73 #[.slice none 0 0, .int .i64 0, .slice none 0 0, .int .u64 0] 4 HA0 HA0 ?_; intro w7 HG)
   )
  refine bodyPost_ret (own_resultV_t rfl _ HG.out 0 g4 _ rfl rfl _ Try.underlying73 rfl (by kernel_rfl) _ rfl) rfl ?_
  exact ⟨_, _, rfl, ((((HG.out.erase 0).erase 0).null kL _).null kQ _)⟩
 rw [Bool.and_eq_true, decide_eq_true_eq] at hb
 obtain ⟨rfl, hb0⟩ := hb
 obtain ⟨hn1, hm1, ht0, htn⟩ := HLN.out rfl
 obtain ⟨hq0, hl0⟩ := HAL.out rfl
 rw [← HN.out] at hn1 htn
 obtain ⟨ti, rfl⟩ := Int.eq_ofNat_of_zero_le ht0
 replace htn : ti ≤ n := by omega
 replace HR : Aside0 (r = (⟨q, ((tickG q block (n - ti) ti l).1 : Int), (tickG q block (n - ti) ti l).2, nx⟩, 0)) := ⟨by
  rw [HR.out, tickI, if_pos (by show (mayI q (ti : Int) l && decide (0 ≤ block)) = true; rw [← HMYE.out, decide_eq_true hb0]; rfl), HN.out]; rfl⟩
 have HQA := Aside0.mk (fun (i : Nat) (h : i < q.length) => (⟨(hq0 _ (List.getElem_mem h)).1, HQ64.out _ (List.getElem_mem h)⟩ : 0 ≤ q[i].f0 ∧ q[i].f0 ≤ 9223372036854775807))
 have HCP2 := Aside0.mk (fun W hb => HCP.out W hb (by have := HN.out; omega) (by omega) (fun d hd => by have := (hq0 d hd).2; omega) (fun m hm => by have := hl0 m hm; omega))
 have HQM := Aside0.mk (fun (d : SQ) (hd : d ∈ q) => (show d.f1.length ≤ 1099511627776 by have := (hq0 d hd).2; omega))
 have HNB : Aside0 (q.length ≤ 1000000) := ⟨by have := HN.out; omega⟩
 clear HQ64 HAL HLN HCP hq0 hl0 HMYE ht0
 go_wp2_with (first
  | fail
  | ((with_reducible refine gate_dst (N := 14) rfl ?_); refine own_loadV H2.out 1 g2 _ 73 rfl rfl (.tmp 2) rfl _ rfl Try.underlying73 rfl (by kernel_rfl) ?_)
  | (go_at_call 87; refine (HCP2.out _ H2.out.below).mono ?_; rintro e w3 ⟨v1, v2, rfl, hO3⟩; obtain ⟨A3, c3, rfl, hcl3, _⟩ := hO3.reads 0 rfl; obtain ⟨A4, c4, rfl, hcl4, _⟩ := hO3.reads 1 rfl; have H3 := Aside0.mk (H2.out.call hO3); have HA3 : Aside0 (Arr 4 #[.slice A3 q.length c3, .int .i64 (ti : Int), .slice A4 l.length c4, .int .u64 nx]) := ⟨rfl, by simp [Value.oneCell']⟩; clear hO3)
  | ((with_reducible refine Gs 73 2 ?_); refine OS 2 15 H3 3 g2 73 (#[.slice A3 q.length c3, .int .i64 (ti : Int), .slice A4 l.length c4, .int .u64 nx]) 4 HA1 HA3 ?_; intro w4 H4)
  )
 replace H4 : Aside0 (Own w.heap.size w w4 [.blk g2 #[.slice A3 n c3, .int .i64 (ti : Int), .slice A4 l.length c4, .int .u64 nx] 73, .row kQ 78 (.slice A3 n c3) q, .row kL 74 (.slice A4 l.length c4) l, .blk g4 #[.slice none 0 0, .int .i64 0, .slice none 0 0, .int .u64 0] 73]) := ⟨by have h := H4.out.bring 3 rfl; rw [HN.out]; exact h⟩
 replace hcl3 : n ≤ c3 := by rw [HN.out]; exact hcl3
 clear H2 H3 HA1 HA3 HCP2
 simp only [Act.put, List.setIfInBounds_toArray, List.set_cons_zero, List.set_cons_succ]
 go_loopw [] (fun wr => ∃ (i : Nat) (li : List (List Int)) (vl : Value), i ≤ n ∧ li.length ≤ 4096 ∧ Aside0 (tickG q block (n - ti) ti l = tickG q block (n - i) i li) ∧ Aside0 (Own w.heap.size w wr [.blk g2 #[.slice A3 n c3, .int .i64 (i : Int), vl, .int .u64 nx] 73, .row kQ 78 (.slice A3 n c3) q, .row kL 74 vl li, .blk g4 #[.slice none 0 0, .int .i64 0, .slice none 0 0, .int .u64 0] 73])) (fun wr => n - (intOf ((wr.cell? ⟨g2, 1, none⟩).getD undef)).toNat)
 case atStart => exact ⟨ti, l, _, htn, by have := hmm.out; omega, ⟨rfl⟩, H4⟩
 case round =>
  clear H4
  obtain ⟨i, li, vl, hin, hli, HG, HI⟩ := hrel
  obtain ⟨A4, c4, hv4, hcl4, _⟩ := HI.out.reads 2 rfl
  obtain ⟨m4, hm4⟩ : ∃ m4, m4 = li.length := ⟨_, rfl⟩
  rw [← hm4] at hv4 hli
  replace hm4 := Aside0.mk hm4
  subst hv4
  have k0 : wr.cell? ⟨g2, 0, none⟩ = some (.slice A3 n c3) ∧ wr.cell? ⟨g2, 1, none⟩ = some (.int .i64 (i : Int)) ∧ wr.cell? ⟨g2, 2, none⟩ = some (.slice A4 m4 c4) := ⟨HI.out.cell 0 rfl 0 rfl, HI.out.cell 0 rfl 1 rfl, HI.out.cell 0 rfl 2 rfl⟩
  by_cases hlt : i < n
  ·have hdl : decide (i < n) = true := decide_eq_true (by omega)
   have hiq : i < q.length := by rw [← HN.out]; exact hlt
   by_cases hm : m4 < 4096
   ·have hdm : decide ((m4 : Int) < 4096) = true := decide_eq_true (by omega)
    obtain ⟨gq, cap, he, _⟩ := HI.out.form 1 rfl (by omega)
    rw [← HN.out] at he
    injection he with he he2 he3
    subst he he3
    obtain ⟨cs, hK, hcell⟩ := HI.out.cells_at 1 rfl i (List.getElem?_eq_getElem hiq)
    obtain ⟨Am, cm, rfl, hcm, hCm⟩ := PRF.k78_open hK
    have kA : wr.cell? ⟨gq, i * 2, none⟩ = some (.int .i64 q[i].f0) := hcell 0 _ rfl
    obtain ⟨hb1, hb2⟩ := HQA.out i hiq
    have hib : (0 : Int) ≤ (i : Int) ∧ (i : Int) < (n : Int) := by omega
    have hws : IntKind.i64.wrap (block - q[i].f0) = block - q[i].f0 := IntWalk.i64_in _ (by omega)
    clear hK hcell hCm hcm
    by_cases hbk : q[i].f0 + 8 ≤ block
    ·have hdb : decide (8 ≤ block - q[i].f0) = true := decide_eq_true (by omega)
     have HNG : Aside0 (tickG q block (n - i) i li = tickG q block (n - (i + 1)) (i + 1) (li ++ [q[i].f1])) := ⟨by
      rw [show n - i = (n - (i + 1)) + 1 by omega]; exact tickG_go hiq (by rw [← hm4.out]; exact hm) hbk⟩
     have HTK : Aside0 (Calls Try.prog 88 #[.pointer (some ⟨g2, 0, none⟩), .int .i64 1] wr fun e w' => e = .returned (.tuple #[]) ∧ ∃ vl', Own w.heap.size w w' [.blk g2 #[.slice (some ⟨gq, 0, none⟩) n c3, .int .i64 ((i + 1 : Nat) : Int), vl', .int .u64 nx] 73, .row kQ 78 (.slice (some ⟨gq, 0, none⟩) n c3) q, .row kL 74 vl' (li ++ [q[i].f1]), .blk g4 #[.slice none 0 0, .int .i64 0, .slice none 0 0, .int .u64 0] 73]) := ⟨by
      have h := HI.out
      rw [HN.out] at h hcl3 ⊢
      exact (take_any q i 1 li nx g2 gq c3 _ h hcl3 (by omega) HNB.out (by have := hm4.out; omega) HQM.out).mono fun e w' ⟨h1, vl', h2⟩ => ⟨h1, vl', by rw [takenL_one q i hiq] at h2; exact h2⟩⟩
     clear hb1 hb2
     generalize q[i].f0 = b at *
     go_wp2_with (go_at_call 88; refine HTK.out.mono ?_; rintro e w5 ⟨rfl, vl', H5⟩; replace H5 := Aside0.mk H5)
     have k5 : w5.cell? ⟨g2, 1, none⟩ = some (.int .i64 ((i + 1 : Nat) : Int)) := H5.out.cell 0 rfl 1 rfl
     go_roundw
     case rel => exact ⟨i + 1, _, _, hlt, by rw [List.length_append, ← hm4.out]; simp; omega, ⟨HG.out.trans HNG.out⟩, H5⟩
     case measure => rw [k5, k0.2.1]; simp [intOf]; omega
    ·have hdb : decide (8 ≤ block - q[i].f0) = false := decide_eq_false (by omega)
     have hst := tickG_stop (q := q) (block := block) (l := li) hiq (fun h => hbk h.2) (n - i)
     clear hb1 hb2
     generalize q[i].f0 = b at *
     replace HR : Aside0 (r = (⟨q, (i : Int), li, nx⟩, 0)) := ⟨by rw [HR.out, HG.out, hst]⟩
     clear hst HG
     obtain rfl := HR.out
     clear HR
     have HAE : Aside0 (Arr 4 #[.slice (some ⟨gq, 0, none⟩) n c3, .int .i64 (i : Int), .slice A4 m4 c4, .int .u64 nx]) := ⟨rfl, by simp [Value.oneCell']⟩
     go_wp2_with (first
      | fail
      | ((with_reducible refine gate_dst (N := 41) rfl ?_); refine own_loadV HI.out 0 g2 _ 73 rfl rfl (.tmp 2) rfl _ rfl Try.underlying73 rfl (by kernel_rfl) ?_)
      | ((with_reducible refine Gs 73 4 ?_); refine OS 4 41 HI 3 g4 73 (#[.slice (some ⟨gq, 0, none⟩) n c3, .int .i64 (i : Int), .slice A4 m4 c4, .int .u64 nx]) 4 HA0 HAE ?_; intro w7 HG)
      )
     refine bodyPost_ret (own_resultV_t rfl _ HG.out 3 g4 _ rfl rfl _ Try.underlying73 rfl (by kernel_rfl) _ rfl) rfl ?_
     exact ⟨_, _, rfl, (HG.out.erase 3).erase 0⟩
   ·have hdm : decide ((m4 : Int) < 4096) = false := decide_eq_false (by omega)
    have hst := tickG_stop (q := q) (block := block) (l := li) hiq (fun h => hm (by rw [hm4.out]; exact h.1)) (n - i)
    replace HR : Aside0 (r = (⟨q, (i : Int), li, nx⟩, 0)) := ⟨by rw [HR.out, HG.out, hst]⟩
    clear hst HG
    obtain rfl := HR.out
    clear HR
    have HAE : Aside0 (Arr 4 #[.slice A3 n c3, .int .i64 (i : Int), .slice A4 m4 c4, .int .u64 nx]) := ⟨rfl, by simp [Value.oneCell']⟩
    go_wp2_with (first
     | fail
     | ((with_reducible refine gate_dst (N := 41) rfl ?_); refine own_loadV HI.out 0 g2 _ 73 rfl rfl (.tmp 2) rfl _ rfl Try.underlying73 rfl (by kernel_rfl) ?_)
     | ((with_reducible refine Gs 73 4 ?_); refine OS 4 41 HI 3 g4 73 (#[.slice A3 n c3, .int .i64 (i : Int), .slice A4 m4 c4, .int .u64 nx]) 4 HA0 HAE ?_; intro w7 HG)
     )
    refine bodyPost_ret (own_resultV_t rfl _ HG.out 3 g4 _ rfl rfl _ Try.underlying73 rfl (by kernel_rfl) _ rfl) rfl ?_
    exact ⟨_, _, rfl, (HG.out.erase 3).erase 0⟩
  ·have hdl : decide (i < n) = false := decide_eq_false (by omega)
   have hst : tickG q block (n - i) i li = (i, li) := by rw [show n - i = 0 by omega]; rfl
   replace HR : Aside0 (r = (⟨q, (i : Int), li, nx⟩, 0)) := ⟨by rw [HR.out, HG.out, hst]⟩
   clear hst HG
   obtain rfl := HR.out
   clear HR
   have HAE : Aside0 (Arr 4 #[.slice A3 n c3, .int .i64 (i : Int), .slice A4 m4 c4, .int .u64 nx]) := ⟨rfl, by simp [Value.oneCell']⟩
   go_wp2_with (first
    | fail
    | ((with_reducible refine gate_dst (N := 41) rfl ?_); refine own_loadV HI.out 0 g2 _ 73 rfl rfl (.tmp 2) rfl _ rfl Try.underlying73 rfl (by kernel_rfl) ?_)
    | ((with_reducible refine Gs 73 4 ?_); refine OS 4 41 HI 3 g4 73 (#[.slice A3 n c3, .int .i64 (i : Int), .slice A4 m4 c4, .int .u64 nx]) 4 HA0 HAE ?_; intro w7 HG)
    )
   refine bodyPost_ret (own_resultV_t rfl _ HG.out 3 g4 _ rfl rfl _ Try.underlying73 rfl (by kernel_rfl) _ rfl) rfl ?_
   exact ⟨_, _, rfl, (HG.out.erase 3).erase 0⟩
theorem R_elem {α : Type} {d : Kd α} {e : Nat} {W : World} {base : Nat} {ok : Nat → Prop} {v : Value} {xs : List α} (h : d.R e W base ok v xs) (i : Nat) (hi : i < xs.length) :
 ∃ g cap cs, v = .slice (some ⟨g, 0, none⟩) xs.length cap ∧ xs.length ≤ cap ∧ d.M W base ok xs[i] cs ∧ ∀ j u, cs[j]? = some u → W.cell? ⟨g, i * d.sz + j, none⟩ = some u := by
 obtain ⟨g, cap, h5, _⟩ := Kd.R_form h (by omega)
 subst h5
 obtain ⟨hn, cur, inner, hh, hc3, hc1, hc4, hr⟩ := R_block h
 refine ⟨g, cap, (inner.drop (i * d.sz)).take d.sz, rfl, hc1, d.M_mono (fun k hk => hk.1) (hr.2 i _ (List.getElem?_eq_getElem hi)), fun j u hj => ?_⟩
 rw [blk_cell hh]
 rw [List.getElem?_take] at hj
 split at hj
 ·rw [List.getElem?_drop, ← hc4, List.getElem?_take] at hj
  split at hj
  ·rw [← Array.getElem?_toList]; exact hj
  ·cases hj
 ·cases hj
theorem Own.shM_up {α : Type} {d : Kd α} {w1 wd W : World} {S : Nat → Prop} {e : Nat} {v : Value} {xs : List α} {L : List Item} (h : Own wd.heap.size wd W (.row (shM d wd S) e v xs :: L)) (hb : Below w1.heap.size w1 wd) (hS : ∀ k, S k → w1.heap.size ≤ k) :
 Own w1.heap.size w1 W (.row d e v xs :: L) := by
 obtain ⟨hbl, hba, S1, c1, c2, c3⟩ := h
 have c2 : (shM d wd S).R e W 0 S1 v xs := c2
 have hsz := hb.size
 have c2' : (shM d wd (fun k => S k ∧ k < wd.heap.size)).R e W 0 S1 v xs := by
  obtain ⟨h0, inner, ho, hr⟩ := c2
  refine ⟨h0, inner, ho, Reps.imp_ hr fun x cs hx => ?_⟩
  have hx : d.M wd 0 S x cs := hx
  exact d.M_mono (fun k hk => ⟨hk.1, hk.2.2.1⟩) (d.M_bound hx)
 refine ⟨below_step hb hbl, by omega, fun k => S1 k ∨ (S k ∧ k < wd.heap.size), ?_, shM_own c2' hbl (fun k hk => (c1 k hk).1), ?_⟩
 ·rintro i (hi | hi)
  ·have := c1 i hi; omega
  ·have := hS i hi.1; omega
 ·refine Sep.imp (fun i hi => ⟨by have := hi.1; omega, ?_⟩) c3
  rintro (h | h)
  ·exact hi.2 h
  ·have := hi.1; omega
theorem cutP_byt {b x y : List Int} {n : Nat} (hb : K.Byt b) (h : K.cutP b n = .ok (x, y)) : K.Byt x ∧ K.Byt y := by
 obtain ⟨_, rfl, rfl⟩ := K.cutP_ok h
 exact ⟨fun z hz => hb z (List.mem_of_mem_take hz), fun z hz => hb z (List.mem_of_mem_drop hz)⟩
theorem bodyP_byt {f : Nat} {b x y : List Int} (hb : K.Byt b) (h : K.bodyP f b = .ok (x, y)) : K.Byt x ∧ K.Byt y := by
 unfold K.bodyP at h
 split at h
 ·exact cutP_byt hb h
 ·split at h
  ·split at h
   ·cases h
   ·exact cutP_byt (fun z hz => hb z (List.mem_of_mem_drop hz)) h
  ·cases h
theorem bind_ok {ε α β : Type} {x : Except ε α} {f : α → Except ε β} {r : β} (h : x.bind f = .ok r) : ∃ a, x = .ok a ∧ f a = .ok r := by
 cases x with
 | error e => cases h
 | ok a => exact ⟨a, rfl, h⟩
theorem itemsP_byt (f : List Int → Except Int (SI × List Int)) (hf : ∀ l x r, K.Byt l → f l = .ok (x, r) → K.BytI x ∧ K.Byt r) : ∀ (k : Nat) (l : List Int) (xs : List SI), K.Byt l → K.itemsP f k l = .ok xs → ∀ y ∈ xs, K.BytI y
 | 0, [], xs, _, h => by
  simp only [K.itemsP, Except.ok.injEq] at h
  subst h
  intro y hy; cases hy
 | k + 1, [], xs, _, h => by
  simp only [K.itemsP, Except.ok.injEq] at h
  subst h
  intro y hy; cases hy
 | 0, c :: l, xs, _, h => by simp [K.itemsP] at h
 | k + 1, c :: l, xs, hb, h => by
  simp only [K.itemsP] at h
  obtain ⟨⟨q1, q2⟩, h1, h⟩ := bind_ok h
  obtain ⟨ys, h2, h⟩ := bind_ok h
  simp only [Except.ok.injEq] at h
  subst h
  obtain ⟨hx, hr⟩ := hf _ _ _ hb h1
  intro y hy
  rcases List.mem_cons.1 hy with rfl | hy
  ·exact hx
  ·exact itemsP_byt f hf k _ _ hr h2 y hy
theorem itemF_byt {sub : Option (List Int → Except Int (SI × List Int))} (hsub : ∀ f, sub = some f → ∀ l x r, K.Byt l → f l = .ok (x, r) → K.BytI x ∧ K.Byt r) {l r : List Int} {x : SI} (hb : K.Byt l) (h : K.itemF sub l = .ok (x, r)) : K.BytI x ∧ K.Byt r := by
 cases l with
 | nil => cases h
 | cons c rest =>
  have hc := hb c (by simp)
  have hr : K.Byt rest := fun z hz => hb z (List.mem_cons_of_mem _ hz)
  simp only [K.itemF] at h
  split at h
  ·simp only [Except.ok.injEq, Prod.mk.injEq] at h
   obtain ⟨rfl, rfl⟩ := h
   refine ⟨.mk _ (fun z hz => ?_) (fun y hy => by cases hy), hr⟩
   rw [List.mem_singleton.1 hz]; exact hc
  ·split at h
   ·obtain ⟨⟨q1, q2⟩, h1, h⟩ := bind_ok h
    split at h
    ·cases h
    ·simp only [Except.ok.injEq, Prod.mk.injEq] at h
     obtain ⟨rfl, rfl⟩ := h
     have := bodyP_byt hr h1
     exact ⟨.mk _ this.1 (fun y hy => by cases hy), this.2⟩
   ·split at h
    ·cases h
    ·rename_i f
     obtain ⟨⟨q1, q2⟩, h1, h⟩ := bind_ok h
     obtain ⟨xs, h2, h⟩ := bind_ok h
     simp only [Except.ok.injEq, Prod.mk.injEq] at h
     obtain ⟨rfl, rfl⟩ := h
     have hq := bodyP_byt hr h1
     exact ⟨.mk _ (fun z hz => by cases hz) (itemsP_byt f (hsub f rfl) _ _ _ hq.1 h2), hq.2⟩
theorem itemP_byt : ∀ (lv : Nat) (l r : List Int) (x : SI), K.Byt l → K.itemP lv l = .ok (x, r) → K.BytI x ∧ K.Byt r
 | 0, l, r, x, hb, h => itemF_byt (by simp) hb h
 | lv + 1, l, r, x, hb, h => itemF_byt (sub := some (K.itemP lv)) (by rintro f hf; cases hf; exact fun l x r hb h => itemP_byt lv l r x hb h) hb h
theorem decodeP_byt {l : List Int} {x : SI} (hb : K.Byt l) (h : K.decodeP l = .ok x) : K.BytI x := by
 unfold K.decodeP at h
 split at h
 ·cases h
 ·obtain ⟨⟨q1, q2⟩, h1, h⟩ := bind_ok h
  split at h
  ·simp only [Except.ok.injEq] at h
   subst h
   exact (itemP_byt 16 l q2 _ hb h1).1
  ·cases h
theorem decodeP_err {l : List Int} {e : Int} (h : K.decodeP l = .error e) : e ≠ 0 := by
 unfold K.decodeP at h
 split at h
 ·cases h; decide
 ·rcases K.bind_err h with h | ⟨q, _, h⟩
  ·exact K.itemP_err h
  ·split at h
   ·cases h
   ·cases h; decide
theorem BytI_f1 {x : SI} (h : K.BytI x) : K.Byt x.f1 := by cases h; assumption
theorem BytI_f2 {x : SI} (h : K.BytI x) : ∀ y ∈ x.f2, K.BytI y := by cases h; assumption
structure BatchI where
 n : Int
 t : Int
 ms : List (List Int)
def zeroBt : BatchI := ⟨0, 0, []⟩
def itemsB (a b c : SI) : BatchI × Int :=
 if (K.rnumP a).2 = 0 ∧ (K.rnumP b).2 = 0 ∧ c.f0 = true ∧ c.f2.length ≤ 4096 ∧ (c.f2.all fun y => !y.f0) = true then (⟨(K.rnumP a).1, (K.rnumP b).1, c.f2.map fun y => y.f1⟩, 0) else (zeroBt, 8)
def shapeB (b : Bool) (l : List SI) : BatchI × Int :=
 match b, l with
 | true, [y0, y1, y2] => itemsB y0 y1 y2
 | _, _ => (zeroBt, 8)
theorem shapeB_bad {b : Bool} {l : List SI} (h : b = false ∨ l.length ≠ 3) : shapeB b l = (zeroBt, 8) := by
 unfold shapeB
 split
 ·rcases h with h | h
  ·cases h
  ·exact absurd rfl h
 ·rfl
def batchP (b : List Int) : BatchI × Int :=
 match K.decodeP b with
 | .error e => (zeroBt, e)
 | .ok x => shapeB x.f0 x.f2
def BatchPost (w : World) (r : BatchI × Int) (e : Ending) (w' : World) : Prop :=
 ∃ v, e = .returned (.tuple #[.agg #[.int .u64 r.1.n, .int .u64 r.1.t, v], .int .i64 r.2]) ∧ Own w.heap.size w w' [.row kL 74 v r.1.ms]
theorem z3_one : Aside0 (Arr 3 #[.bool false, .slice none 0 0, .slice none 0 0]) := ⟨rfl, by simp [Value.oneCell']⟩
theorem zB_one : Aside0 (Arr 3 #[.int .u64 0, .int .u64 0, .slice none 0 0]) := ⟨rfl, by simp [Value.oneCell']⟩
theorem arr3_ {b : Bool} {v : Value} {A : Option Addr} {n c : Nat} (h : v.oneCell' = true) : Arr 3 #[.bool b, v, .slice A n c] := ⟨rfl, by
 show (#[Value.bool b, v, .slice A n c].all (·.oneCell')) = true
 simp only [Array.all_eq_true_iff_forall_mem]
 intro x hx
 simp at hx
 rcases hx with rfl | rfl | rfl
 ·rfl
 ·exact h
 ·rfl⟩
theorem R_one {α : Type} {d : Kd α} {e : Nat} {w : World} {base : Nat} {ok : Nat → Prop} {v : Value} {xs : List α} (h : d.R e w base ok v xs) : v.oneCell' = true := by
 obtain ⟨A, c, rfl⟩ := Kd.R_slice h
 rfl
theorem run_index_ptr {P : Program} (t e u : TypeId) (n : Nat) (ht : P.underlying t = some (.array n e)) (he : P.underlying e = some (.pointer u)) (hs : (P.info? e).map (·.size) = some 1) (cs : Array Value) (i : Int) (hi : 0 ≤ i ∧ i < n) {v : Value} (hv : cs[i.toNat]? = some v) (w : World) :
 (Instr.index t (.agg cs) (.int .i64 i)).run P w = .ok v w := by
 obtain ⟨ti, hti, hsz⟩ := Option.map_eq_some_iff.1 hs
 have hag : (isAgg e).run P w = .ok false w := by
  unfold isAgg
  simp [run_underlying he, go_sem]
 simp only [Instr.index, asIntOf, Sem.run_bind, Sem.run_pure, Result.andThen_ok, run_underlying ht]
 rw [if_pos hi]
 simp [sizeOf, typeInfo, hti, hsz, part, hag, hv, go_sem]
def stB (n0 n1 : Int) : Nat → Array Value
 | 0 => #[.int .u64 0, .int .u64 0, .slice none 0 0]
 | 1 => #[.int .u64 n0, .int .u64 0, .slice none 0 0]
 | _ => #[.int .u64 n0, .int .u64 n1, .slice none 0 0]
theorem readnum_any (y : SI) (hb : K.Byt y.f1) (A1 : Option Addr) (c1 : Nat) (A2 : Option Addr) (c2 : Nat) (W : World) (h1 : Kd.C kB W A1 y.f1.length y.f1) (h2 : y.f1.length ≤ c1) (h3 : Kd.C kI W A2 y.f2.length y.f2) (h4 : y.f2.length ≤ c2) :
 Calls Try.prog 108 #[.agg #[.bool y.f0, .slice A1 y.f1.length c1, .slice A2 y.f2.length c2]] W fun e w' => e = .returned (.tuple #[.int .u64 (K.rnumP y).1, .int .i64 (K.rnumP y).2]) ∧ Below W.heap.size W w' := by
 obtain ⟨k, hk⟩ := K.readnum_f y hb
 exact PRF.rlp_ReadNum.calls k y.f0 A1 c1 y.f1 A2 c2 y.f2 _ _ W h1 h2 h3 h4 hk
theorem R_item {W : World} {base : Nat} {ok : Nat → Prop} {v : Value} {xs : List SI} {e : Nat} (h : Kd.R kI e W base ok v xs) (i : Nat) (hi : i < xs.length) :
 ∃ g cap A1 c1 A2 c2, v = .slice (some ⟨g, 0, none⟩) xs.length cap ∧ xs.length ≤ cap ∧ Kd.R kB 5 W base ok (.slice A1 xs[i].f1.length c1) xs[i].f1 ∧ Kd.R kI 159 W base ok (.slice A2 xs[i].f2.length c2) xs[i].f2 ∧ xs[i].f1.length ≤ c1 ∧ xs[i].f2.length ≤ c2 ∧
  ∀ (j : Nat) (u : Value), [Value.bool xs[i].f0, .slice A1 xs[i].f1.length c1, .slice A2 xs[i].f2.length c2][j]? = some u → W.cell? ⟨g, i * 3 + j, none⟩ = some u := by
 obtain ⟨g, cap, cs, h1, h2, hM, hcl⟩ := R_elem h i hi
 obtain ⟨v1, v2, rfl, hr1, hr2⟩ := PRF.k159_openM hM
 obtain ⟨A1, c1, rfl, hc1, _⟩ := Kd.R_reads hr1
 obtain ⟨A2, c2, rfl, hc2, _⟩ := Kd.R_reads hr2
 exact ⟨g, cap, A1, c1, A2, c2, h1, h2, hr1, hr2, hc1, hc2, hcl⟩
theorem all_snoc (l : List SI) (j : Nat) (h : j < l.length) : ((l.take (j + 1)).all fun y => !y.f0) = (((l.take j).all fun y => !y.f0) && !l[j].f0) := by
 rw [List.take_succ_eq_append_getElem h, List.all_append]; simp
theorem f1s_snoc (l : List SI) (j : Nat) (h : j < l.length) : (l.take (j + 1)).map (fun y => y.f1) = (l.take j).map (fun y => y.f1) ++ [l[j].f1] := by
 rw [List.take_succ_eq_append_getElem h, List.map_append]; rfl
theorem readbatch_any (b : List Int) (A : Option Addr) (c : Nat) (w : World) (hB : ∀ x ∈ b, 0 ≤ x ∧ x ≤ 255) (hC : Kd.C kB w A b.length b) (hc : b.length ≤ c) :
 Calls Try.prog 55 #[.slice A b.length c] w (BatchPost w (batchP b)) := by
 have H0 := Aside0.mk (Own.start w)
 have HD := Aside0.mk (fun W (h : Below w.heap.size w W) => K.decode_any A c b W (Kd.C_below hC h) hc hB)
 have hmf : ∀ (fn : Fn) (first cap : Array Value) (w : World), (Instr.makeFunc fn first cap).run Try.prog w = .ok (.func fn first cap) w := fun _ _ _ _ => rfl
 obtain ⟨r, hr⟩ : ∃ r, r = batchP b := ⟨_, rfl⟩
 rw [← hr]
 unfold batchP at hr
 have HBI := fun (x : SI) (h : K.decodeP b = .ok x) => decodeP_byt hB h
 have HER := fun (e : Int) (h : K.decodeP b = .error e) => decodeP_err h
 clear hC hc hB
 generalize K.decodeP b = dec at *
 generalize b.length = nb at *
 have HZ3 := z3_one
 have HZB := zB_one
 cases dec with
 | error e =>
  obtain rfl : r = (zeroBt, e) := hr
  have he : (e != 0) = true := by have := HER e rfl; simpa using this
  clear HBI HER
  go_enter Try.func55, Try.ntmps55
  go_wp2_with (first
   | fail
   | ((with_reducible refine Gd 2 ?_); refine OA H0 108 #[.int .u64 0, .int .u64 0, .slice none 0 0] 3 ?_; intro g2 w1 H1 B1)
   | (go_at_call 106; refine (HD.out _ H1.out.below).mono ?_; rintro e' w3 ⟨hB3, rfl⟩; have H3 := Aside0.mk (H1.out.step hB3); clear hB3)
   | ((with_reducible refine Gd 4 ?_); refine OA H3 159 #[.bool false, .slice none 0 0, .slice none 0 0] 3 ?_; intro g4 w4 H4 B4)
   | ((with_reducible refine Gs 159 4 ?_); refine OS 4 17 H4 0 g4 159 #[.bool false, .slice none 0 0, .slice none 0 0] 3 HZ3 HZ3 ?_; intro w5 H5)
   | ((with_reducible refine Gs 108 2 ?_); refine OS 2 21 H5 1 g2 108 #[.int .u64 0, .int .u64 0, .slice none 0 0] 3 HZB HZB ?_; intro w6 H6)
   )
  refine bodyPost_ret (own_resultV_t rfl _ H6.out 1 g2 _ rfl rfl _ Try.underlying108 rfl (by kernel_rfl) _ rfl) rfl ?_
  exact ⟨_, rfl, ((H6.out.erase 0).erase 0).null kL _⟩
 | ok x =>
 obtain ⟨f0, f1, f2⟩ := x
 have hbi := HBI _ rfl
 clear HBI HER
 replace HD : Aside0 (∀ W, Below w.heap.size w W → Calls Try.prog 106 #[.slice A nb c] W fun e w' => ∃ v1 v2, e = .returned (.tuple #[.agg #[.bool f0, v1, v2], .int .i64 0]) ∧ Below W.heap.size W w' ∧ v1.oneCell' = true ∧ ∃ A2 c2, v2 = .slice A2 f2.length c2 ∧ f2.length ≤ c2 ∧ Kd.R kI 159 w' W.heap.size (fun _ => True) (.slice A2 f2.length c2) f2) := ⟨fun W h => (HD.out W h).mono fun e w' hp => by
  obtain ⟨hb, v1, v2, he, hr1, hr2⟩ := hp
  obtain ⟨A2, c2, rfl, hc2, _⟩ := Kd.R_reads hr2
  exact ⟨v1, _, he, hb, R_one hr1, A2, c2, rfl, hc2, hr2⟩⟩
 have HR : Aside0 (r = shapeB f0 f2) := ⟨hr⟩
 clear hr
 by_cases hl : f2.length = 3
 case neg =>
  have hl3 : ((f2.length : Int) != 3) = true := by simp; omega
  obtain ⟨n2, hn2⟩ : ∃ n2, n2 = f2.length := ⟨_, rfl⟩
  rw [← hn2] at HD hl3
  clear hn2
  cases f0
  ·
   obtain rfl : r = (zeroBt, 8) := HR.out.trans (shapeB_bad (by first | exact Or.inl rfl | exact Or.inr hl))
   clear HR hbi
   go_enter Try.func55, Try.ntmps55
   go_upto_region 6 with (first
    | fail
    | ((with_reducible refine Gd 2 ?_); refine OA H0 108 #[.int .u64 0, .int .u64 0, .slice none 0 0] 3 ?_; intro g2 w1 H1 B1)
    | (go_at_call 106; refine (HD.out _ H1.out.below).mono ?_; rintro e' wd ⟨v1, v2, rfl, hB3, hv1, A2, c2, rfl, hc2, hR2⟩; have HBD := Aside0.mk hB3; have H3 := Aside0.mk (Own.start wd); replace hR2 := Aside0.mk hR2; clear hB3)
    | ((with_reducible refine Gd 4 ?_); refine OA H3 159 #[.bool false, .slice none 0 0, .slice none 0 0] 3 ?_; intro g4 w4 H4 B4)
    | ((with_reducible refine gate_store (t := 159) (p := 4) rfl ?_); have HX3 : Aside0 (Arr 3 #[.bool false, v1, .slice A2 n2 c2]) := ⟨arr3_ hv1⟩; refine own_store H4.out 0 g4 _ 159 rfl rfl (.tmp 4) (.tmp 17) rfl #[.bool false, v1, .slice A2 n2 c2] (by rfl) (by rfl) 3 HZ3.out HX3.out (by kernel_rfl) ?_; intro w5 H5; replace H5 := Aside0.mk H5)
    | ((with_reducible refine Gd 24 ?_); refine OD 23 157 H5 0 g4 2 (.slice A2 n2 c2) Try.underlying157 ?_)
    | ((with_reducible refine Gd 6 ?_); refine OA1 H5 157 (.slice none 0 0) ?_; intro g6 w6 H6 B6)
    | ((with_reducible refine Gs 157 6 ?_); refine OT1 6 157 H6 0 g6 157 0 (.slice A2 n2 c2) #[.slice A2 n2 c2] rfl (by simp) ?_; intro w7 H7)
    )
   have H8 := Aside0.mk (H1.out.step (below_step HBD.out H7.out.below))
   go_wp2_with (first
    | fail
    | ((with_reducible refine Gd 27 ?_); refine OD 26 4 H7 1 g4 0 (.bool false) Try.underlying4 ?_)
    | ((with_reducible refine Gd 30 ?_); refine GD 6 157 H7 0 g6 0 (.slice A2 n2 c2) Try.underlying157 ?_)
    | ((with_reducible refine Gs 108 2 ?_); refine OS 2 34 H8 0 g2 108 #[.int .u64 0, .int .u64 0, .slice none 0 0] 3 HZB HZB ?_; intro w9 H9)
    )
   refine bodyPost_ret (own_resultV_t rfl _ H9.out 0 g2 _ rfl rfl _ Try.underlying108 rfl (by kernel_rfl) _ rfl) rfl ?_
   exact ⟨_, rfl, (H9.out.erase 0).null kL _⟩
  ·
   obtain rfl : r = (zeroBt, 8) := HR.out.trans (shapeB_bad (by first | exact Or.inl rfl | exact Or.inr hl))
   clear HR hbi
   go_enter Try.func55, Try.ntmps55
   go_upto_region 6 with (first
    | fail
    | ((with_reducible refine Gd 2 ?_); refine OA H0 108 #[.int .u64 0, .int .u64 0, .slice none 0 0] 3 ?_; intro g2 w1 H1 B1)
    | (go_at_call 106; refine (HD.out _ H1.out.below).mono ?_; rintro e' wd ⟨v1, v2, rfl, hB3, hv1, A2, c2, rfl, hc2, hR2⟩; have HBD := Aside0.mk hB3; have H3 := Aside0.mk (Own.start wd); replace hR2 := Aside0.mk hR2; clear hB3)
    | ((with_reducible refine Gd 4 ?_); refine OA H3 159 #[.bool false, .slice none 0 0, .slice none 0 0] 3 ?_; intro g4 w4 H4 B4)
    | ((with_reducible refine gate_store (t := 159) (p := 4) rfl ?_); have HX3 : Aside0 (Arr 3 #[.bool true, v1, .slice A2 n2 c2]) := ⟨arr3_ hv1⟩; refine own_store H4.out 0 g4 _ 159 rfl rfl (.tmp 4) (.tmp 17) rfl #[.bool true, v1, .slice A2 n2 c2] (by rfl) (by rfl) 3 HZ3.out HX3.out (by kernel_rfl) ?_; intro w5 H5; replace H5 := Aside0.mk H5)
    | ((with_reducible refine Gd 24 ?_); refine OD 23 157 H5 0 g4 2 (.slice A2 n2 c2) Try.underlying157 ?_)
    | ((with_reducible refine Gd 6 ?_); refine OA1 H5 157 (.slice none 0 0) ?_; intro g6 w6 H6 B6)
    | ((with_reducible refine Gs 157 6 ?_); refine OT1 6 157 H6 0 g6 157 0 (.slice A2 n2 c2) #[.slice A2 n2 c2] rfl (by simp) ?_; intro w7 H7)
    )
   have H8 := Aside0.mk (H1.out.step (below_step HBD.out H7.out.below))
   go_wp2_with (first
    | fail
    | ((with_reducible refine Gd 27 ?_); refine OD 26 4 H7 1 g4 0 (.bool true) Try.underlying4 ?_)
    | ((with_reducible refine Gd 30 ?_); refine GD 6 157 H7 0 g6 0 (.slice A2 n2 c2) Try.underlying157 ?_)
    | ((with_reducible refine Gs 108 2 ?_); refine OS 2 34 H8 0 g2 108 #[.int .u64 0, .int .u64 0, .slice none 0 0] 3 HZB HZB ?_; intro w9 H9)
    )
   refine bodyPost_ret (own_resultV_t rfl _ H9.out 0 g2 _ rfl rfl _ Try.underlying108 rfl (by kernel_rfl) _ rfl) rfl ?_
   exact ⟨_, rfl, (H9.out.erase 0).null kL _⟩
 cases f0
 ·
  rw [hl] at HD
  obtain rfl : r = (zeroBt, 8) := HR.out.trans (shapeB_bad (by first | exact Or.inl rfl | exact Or.inr hl))
  clear HR hbi
  go_enter Try.func55, Try.ntmps55
  go_upto_region 6 with (first
   | fail
   | ((with_reducible refine Gd 2 ?_); refine OA H0 108 #[.int .u64 0, .int .u64 0, .slice none 0 0] 3 ?_; intro g2 w1 H1 B1)
   | (go_at_call 106; refine (HD.out _ H1.out.below).mono ?_; rintro e' wd ⟨v1, v2, rfl, hB3, hv1, A2, c2, rfl, hc2, hR2⟩; have HBD := Aside0.mk hB3; have H3 := Aside0.mk (Own.start wd); replace hR2 := Aside0.mk hR2; clear hB3)
   | ((with_reducible refine Gd 4 ?_); refine OA H3 159 #[.bool false, .slice none 0 0, .slice none 0 0] 3 ?_; intro g4 w4 H4 B4)
   | ((with_reducible refine gate_store (t := 159) (p := 4) rfl ?_); have HX3 : Aside0 (Arr 3 #[.bool false, v1, .slice A2 3 c2]) := ⟨arr3_ hv1⟩; refine own_store H4.out 0 g4 _ 159 rfl rfl (.tmp 4) (.tmp 17) rfl #[.bool false, v1, .slice A2 3 c2] (by rfl) (by rfl) 3 HZ3.out HX3.out (by kernel_rfl) ?_; intro w5 H5; replace H5 := Aside0.mk H5)
   | ((with_reducible refine Gd 24 ?_); refine OD 23 157 H5 0 g4 2 (.slice A2 3 c2) Try.underlying157 ?_)
   | ((with_reducible refine Gd 6 ?_); refine OA1 H5 157 (.slice none 0 0) ?_; intro g6 w6 H6 B6)
   | ((with_reducible refine Gs 157 6 ?_); refine OT1 6 157 H6 0 g6 157 0 (.slice A2 3 c2) #[.slice A2 3 c2] rfl (by simp) ?_; intro w7 H7)
   )
  have H8 := Aside0.mk (H1.out.step (below_step HBD.out H7.out.below))
  go_wp2_with (first
   | fail
   | ((with_reducible refine Gd 27 ?_); refine OD 26 4 H7 1 g4 0 (.bool false) Try.underlying4 ?_)
   | ((with_reducible refine Gd 30 ?_); refine GD 6 157 H7 0 g6 0 (.slice A2 3 c2) Try.underlying157 ?_)
   | ((with_reducible refine Gs 108 2 ?_); refine OS 2 34 H8 0 g2 108 #[.int .u64 0, .int .u64 0, .slice none 0 0] 3 HZB HZB ?_; intro w9 H9)
   )
  refine bodyPost_ret (own_resultV_t rfl _ H9.out 0 g2 _ rfl rfl _ Try.underlying108 rfl (by kernel_rfl) _ rfl) rfl ?_
  exact ⟨_, rfl, (H9.out.erase 0).null kL _⟩
 obtain ⟨y0, y1, y2, rfl⟩ : ∃ y0 y1 y2, f2 = [y0, y1, y2] := by
  match f2, hl with
  | [a, b, c], _ => exact ⟨a, b, c, rfl⟩
 replace HR : Aside0 (r = itemsB y0 y1 y2) := ⟨HR.out⟩
 have hb0 := BytI_f1 (BytI_f2 hbi y0 (by simp))
 have hb1 := BytI_f1 (BytI_f2 hbi y1 (by simp))
 clear hbi hl
 go_enter Try.func55, Try.ntmps55
 go_upto_region 6 with (first
  | fail
  | ((with_reducible refine Gd 2 ?_); refine OA H0 108 #[.int .u64 0, .int .u64 0, .slice none 0 0] 3 ?_; intro g2 w1 H1 B1)
  | (go_at_call 106; refine (HD.out _ H1.out.below).mono ?_; rintro e' wd ⟨v1, v2, rfl, hB3, hv1, A2, c2, rfl, hc2, hR2⟩; have HBD := Aside0.mk hB3; have H3 := Aside0.mk (Own.start wd); replace hR2 := Aside0.mk hR2; clear hB3)
  | ((with_reducible refine Gd 4 ?_); refine OA H3 159 #[.bool false, .slice none 0 0, .slice none 0 0] 3 ?_; intro g4 w4 H4 B4)
  | ((with_reducible refine gate_store (t := 159) (p := 4) rfl ?_); have HX3 : Aside0 (Arr 3 #[.bool true, v1, .slice A2 3 c2]) := ⟨arr3_ hv1⟩; refine own_store H4.out 0 g4 _ 159 rfl rfl (.tmp 4) (.tmp 17) rfl #[.bool true, v1, .slice A2 3 c2] (by rfl) (by rfl) 3 HZ3.out HX3.out (by kernel_rfl) ?_; intro w5 H5; replace H5 := Aside0.mk H5)
  | ((with_reducible refine Gd 24 ?_); refine OD 23 157 H5 0 g4 2 (.slice A2 3 c2) Try.underlying157 ?_)
  | ((with_reducible refine Gd 6 ?_); refine OA1 H5 157 (.slice none 0 0) ?_; intro g6 w6 H6 B6)
  | ((with_reducible refine Gs 157 6 ?_); refine OT1 6 157 H6 0 g6 157 0 (.slice A2 3 c2) #[.slice A2 3 c2] rfl (by simp) ?_; intro w7 H7)
  )
 obtain ⟨gI, cap, a1, d1, a2, d2, he, hcap, q1, q2, q3, q4, hcl0⟩ := R_item hR2.out 0 (by simp)
 injection he with he1 he2 he3
 subst he1 he3
 obtain ⟨_, _, b1, e1, b2, e2, he, _, p1, p2, p3, p4, hcl1⟩ := R_item hR2.out 1 (by simp)
 injection he with he1 he2 he3
 injection he1 with he1
 injection he1 with he1
 subst he1 he3
 obtain ⟨_, _, f1', g1', f2', g2', he, _, s1, s2, s3, s4, hcl2⟩ := R_item hR2.out 2 (by simp)
 injection he with he1 he2 he3
 injection he1 with he1
 injection he1 with he1
 subst he1 he3
 simp only [List.getElem_cons_zero, List.getElem_cons_succ, Nat.zero_mul, Nat.one_mul, Nat.zero_add] at *
 have HCL0 := Aside0.mk hcl0
 have HCL1 := Aside0.mk hcl1
 have HCL2 := Aside0.mk hcl2
 have HN0 : Aside0 (∀ W, Below wd.heap.size wd W → Calls Try.prog 108 #[.agg #[.bool y0.f0, .slice a1 y0.f1.length d1, .slice a2 y0.f2.length d2]] W fun e w' => e = .returned (.tuple #[.int .u64 (K.rnumP y0).1, .int .i64 (K.rnumP y0).2]) ∧ Below W.heap.size W w') := ⟨fun W h => by
  obtain ⟨_, _, x1, _, x3⟩ := Kd.R_reads q1
  injection x1 with x1 _ _
  subst x1
  obtain ⟨_, _, x1, _, x4⟩ := Kd.R_reads q2
  injection x1 with x1 _ _
  subst x1
  exact readnum_any y0 hb0 _ d1 _ d2 W (Kd.C_below x3 h) q3 (Kd.C_below x4 h) q4⟩
 have HN1 : Aside0 (∀ W, Below wd.heap.size wd W → Calls Try.prog 108 #[.agg #[.bool y1.f0, .slice b1 y1.f1.length e1, .slice b2 y1.f2.length e2]] W fun e w' => e = .returned (.tuple #[.int .u64 (K.rnumP y1).1, .int .i64 (K.rnumP y1).2]) ∧ Below W.heap.size W w') := ⟨fun W h => by
  obtain ⟨_, _, x1, _, x3⟩ := Kd.R_reads p1
  injection x1 with x1 _ _
  subst x1
  obtain ⟨_, _, x1, _, x4⟩ := Kd.R_reads p2
  injection x1 with x1 _ _
  subst x1
  exact readnum_any y1 hb1 _ e1 _ e2 W (Kd.C_below x3 h) p3 (Kd.C_below x4 h) p4⟩
 have HS2 := Aside0.mk s2
 unfold itemsB at HR
 clear hb0 hb1 hcl0 hcl1 hcl2 q1 q2 q3 q4 p1 p2 p3 p4 s1 s2 s3 hR2 HD B4 B6 H3 H4 H5 H6
 generalize y0.f1.length = x1 at *
 generalize y0.f2.length = x2 at *
 generalize y1.f1.length = x3 at *
 generalize y1.f2.length = x4 at *
 generalize y2.f1.length = x5 at *
 generalize K.rnumP y0 = rn0 at *
 generalize K.rnumP y1 = rn1 at *
 obtain ⟨n0, er0⟩ := rn0
 obtain ⟨n1, er1⟩ := rn1
 dsimp only at HR HN0 HN1
 go_wp2_with (first
  | fail
  | ((with_reducible refine Gd 27 ?_); refine OD 26 4 H7 1 g4 0 (.bool true) Try.underlying4 ?_)
  | ((with_reducible refine Gd 30 ?_); refine GD 6 157 H7 0 g6 0 (.slice (some ⟨gI, 0, none⟩) 3 c2) Try.underlying157 ?_)
  | ((with_reducible refine Gd 8 ?_); refine OA H7 108 #[.int .u64 0, .int .u64 0, .slice none 0 0] 3 ?_; intro g8 w8 H8 B8)
  )
 have hc0 : 3 ≤ c2 := hc2
 replace H8 : Aside0 (Own wd.heap.size wd w8 [.blk g8 (stB n0 n1 0) 108, .blk g6 #[.slice (some ⟨gI, 3 * 0, none⟩) (3 - 0) c2] 157, .blk g4 #[.bool true, v1, .slice (some ⟨gI, 0, none⟩) 3 c2] 159]) := ⟨H8.out⟩
 clear hc2 hcap H7 H0 B8
 go_loopw [38] (fun v38 wr => ∃ (i c' : Nat), i ≤ 2 ∧ v38 = .int .i64 (i : Int) ∧ 3 - i ≤ c' ∧ Aside0 ((1 ≤ i → er0 = 0) ∧ (2 ≤ i → er1 = 0)) ∧ Aside0 (Own wd.heap.size wd wr [.blk g8 (stB n0 n1 i) 108, .blk g6 #[.slice (some ⟨gI, 3 * i, none⟩) (3 - i) c'] 157, .blk g4 #[.bool true, v1, .slice (some ⟨gI, 0, none⟩) 3 c2] 159])) (fun v38 _ => 2 - (intOf v38).toNat)
 case atStart => exact ⟨0, c2, by decide, rfl, hc0, ⟨fun h => by omega, fun h => by omega⟩, H8⟩
 case round =>
  clear H8 hc0
  obtain ⟨i, c', hi, rfl, hc', HE, HI⟩ := hrel
  have hix0 : ∀ W : World, (Instr.index 169 (.agg #[.pointer (some ⟨g8, 0, none⟩), .pointer (some ⟨g8, 1, none⟩)]) (.int .i64 0)).run Try.prog W = .ok (.pointer (some ⟨g8, 0, none⟩)) W := fun W => run_index_ptr _ _ _ _ Try.underlying169 Try.underlying168 (by kernel_rfl) _ 0 (by decide) rfl W
  have hix1 : ∀ W : World, (Instr.index 169 (.agg #[.pointer (some ⟨g8, 0, none⟩), .pointer (some ⟨g8, 1, none⟩)]) (.int .i64 1)).run Try.prog W = .ok (.pointer (some ⟨g8, 1, none⟩)) W := fun W => run_index_ptr _ _ _ _ Try.underlying169 Try.underlying168 (by kernel_rfl) _ 1 (by decide) rfl W
  obtain rfl | rfl | rfl : i = 0 ∨ i = 1 ∨ i = 2 := by omega
  ·
   have HC := Aside0.mk (next_any y0.f0 (.slice a1 x1 d1) (.slice a2 x2 d2) rfl rfl gI 0 g6 3 c' (HI.out.bring 1 rfl) (fun j u hj => by have h := pw_cell_below HI.out.below (HCL0.out j u hj); first | exact h | (rw [Nat.zero_add]; exact h)) (by decide) hc')
   rw [if_neg (by omega)] at HC
   by_cases hz : er0 = 0
   ·have hzb : (er0 != 0) = false := by simp [hz]
    replace hz := Aside0.mk hz
    go_wp2_with (first
     | fail
     | (go_at_call 107; refine HC.out.mono ?_; rintro e w5 ⟨rfl, H5⟩; replace H5 := Aside0.mk H5)
     | (go_at_call 108; refine (HN0.out _ H5.out.below).mono ?_; rintro e w6 ⟨rfl, hB6⟩; have H6 := Aside0.mk (H5.out.step hB6); clear hB6)
     | ((with_reducible refine Gs 23 48 ?_); refine OT1 48 23 H6 1 g8 108 0 (.int .u64 n0) #[.int .u64 n0, .int .u64 0, .slice none 0 0] rfl (by simp [stB]) ?_; intro w7 H7)
     )
    go_roundw
    case rel => exact ⟨0 + 1, c' - 1, by decide, rfl, by omega, ⟨fun _ => hz.out, fun h => absurd h (by decide)⟩, ⟨H7.out.bring 1 rfl⟩⟩
    case measure => simp [intOf]
   ·have hzb : (er0 != 0) = true := by simpa using hz
    obtain rfl : r = (zeroBt, 8) := by rw [HR.out, if_neg (by rintro ⟨h1, h2, _⟩; first | exact hz h1 | exact hz h2)]
    clear HR
    go_upto_if 50 with (first
     | fail
     | (go_at_call 107; refine HC.out.mono ?_; rintro e w5 ⟨rfl, H5⟩; replace H5 := Aside0.mk H5)
     | (go_at_call 108; refine (HN0.out _ H5.out.below).mono ?_; rintro e w6 ⟨rfl, hB6⟩; have H6 := Aside0.mk (H5.out.step hB6); clear hB6)
     | ((with_reducible refine Gs 23 48 ?_); refine OT1 48 23 H6 1 g8 108 0 (.int .u64 n0) #[.int .u64 n0, .int .u64 0, .slice none 0 0] rfl (by simp [stB]) ?_; intro w7 H7)
     )
    have H8 := Aside0.mk (H1.out.step (below_step HBD.out H7.out.below))
    go_wp2_with (first
     | fail
     | ((with_reducible refine Gs 108 2 ?_); refine OS 2 51 H8 0 g2 108 #[.int .u64 0, .int .u64 0, .slice none 0 0] 3 HZB HZB ?_; intro w9 H9)
     )
    refine bodyPost_ret (own_resultV_t rfl _ H9.out 0 g2 _ rfl rfl _ Try.underlying108 rfl (by kernel_rfl) _ rfl) rfl ?_
    exact ⟨_, rfl, (H9.out.erase 0).null kL _⟩
  ·
   have HC := Aside0.mk (next_any y1.f0 (.slice b1 x3 e1) (.slice b2 x4 e2) rfl rfl gI 3 g6 2 c' (HI.out.bring 1 rfl) (fun j u hj => by have h := pw_cell_below HI.out.below (HCL1.out j u hj); first | exact h | (rw [Nat.zero_add]; exact h)) (by decide) hc')
   rw [if_neg (by omega)] at HC
   by_cases hz : er1 = 0
   ·have hzb : (er1 != 0) = false := by simp [hz]
    replace hz := Aside0.mk hz
    go_wp2_with (first
     | fail
     | (go_at_call 107; refine HC.out.mono ?_; rintro e w5 ⟨rfl, H5⟩; replace H5 := Aside0.mk H5)
     | (go_at_call 108; refine (HN1.out _ H5.out.below).mono ?_; rintro e w6 ⟨rfl, hB6⟩; have H6 := Aside0.mk (H5.out.step hB6); clear hB6)
     | ((with_reducible refine Gs 23 48 ?_); refine OT1 48 23 H6 1 g8 108 1 (.int .u64 n1) #[.int .u64 n0, .int .u64 n1, .slice none 0 0] rfl (by simp [stB]) ?_; intro w7 H7)
     )
    go_roundw
    case rel => exact ⟨1 + 1, c' - 1, by decide, rfl, by omega, ⟨fun _ => HE.out.1 (by decide), fun _ => hz.out⟩, ⟨H7.out.bring 1 rfl⟩⟩
    case measure => simp [intOf]
   ·have hzb : (er1 != 0) = true := by simpa using hz
    obtain rfl : r = (zeroBt, 8) := by rw [HR.out, if_neg (by rintro ⟨h1, h2, _⟩; first | exact hz h1 | exact hz h2)]
    clear HR
    go_upto_if 50 with (first
     | fail
     | (go_at_call 107; refine HC.out.mono ?_; rintro e w5 ⟨rfl, H5⟩; replace H5 := Aside0.mk H5)
     | (go_at_call 108; refine (HN1.out _ H5.out.below).mono ?_; rintro e w6 ⟨rfl, hB6⟩; have H6 := Aside0.mk (H5.out.step hB6); clear hB6)
     | ((with_reducible refine Gs 23 48 ?_); refine OT1 48 23 H6 1 g8 108 1 (.int .u64 n1) #[.int .u64 n0, .int .u64 n1, .slice none 0 0] rfl (by simp [stB]) ?_; intro w7 H7)
     )
    have H8 := Aside0.mk (H1.out.step (below_step HBD.out H7.out.below))
    go_wp2_with (first
     | fail
     | ((with_reducible refine Gs 108 2 ?_); refine OS 2 51 H8 0 g2 108 #[.int .u64 0, .int .u64 0, .slice none 0 0] 3 HZB HZB ?_; intro w9 H9)
     )
    refine bodyPost_ret (own_resultV_t rfl _ H9.out 0 g2 _ rfl rfl _ Try.underlying108 rfl (by kernel_rfl) _ rfl) rfl ?_
    exact ⟨_, rfl, (H9.out.erase 0).null kL _⟩
  have hN := Aside0.mk (next_any y2.f0 (.slice f1' x5 g1') (.slice f2' y2.f2.length g2') rfl rfl gI 6 g6 1 c' (HI.out.bring 1 rfl) (fun j u hj => pw_cell_below HI.out.below (HCL2.out j u hj)) (by decide) hc')
  obtain ⟨he0, he1⟩ := HE.out
  replace he0 : er0 = 0 := he0 (by decide)
  replace he1 : er1 = 0 := he1 (by decide)
  subst he0 he1
  obtain ⟨n5, hn5⟩ : ∃ n5, n5 = y2.f2.length := ⟨_, rfl⟩
  have HN5 := Aside0.mk hn5
  rw [← hn5] at hN HS2 s4
  rw [← hn5] at HCL2
  clear hn5 HE HI HCL0 HCL1 HN0 HN1 hix0 hix1
  have hdl2 : decide ((2 : Int) < 2) = false := by decide
  obtain ⟨Ax, hN⟩ : ∃ Ax, Aside0 (Calls Try.prog 107 #[.pointer (some ⟨g6, 0, none⟩)] wr fun e w' => e = .returned (.agg #[.bool y2.f0, .slice f1' x5 g1', .slice f2' n5 g2']) ∧ Own wd.heap.size wd w' [.blk g6 #[.slice Ax 0 (c' - 1)] 157, .blk g8 #[.int .u64 n0, .int .u64 n1, .slice none 0 0] 108, .blk g4 #[.bool true, v1, .slice (some ⟨gI, 0, none⟩) 3 c2] 159]) := ⟨_, hN⟩
  generalize y2.f0 = b2 at *
  have HX5 : Aside0 (Arr 3 #[.bool b2, .slice f1' x5 g1', .slice f2' n5 g2']) := ⟨arr3_ rfl⟩
  clear hc' hi
  cases b2
  ·
   obtain rfl : r = (zeroBt, 8) := by rw [HR.out, if_neg (by rintro ⟨_, _, h, _⟩; cases h)]
   clear HR
   go_upto_if 63 with (first
    | fail
    | (go_at_call 107; refine hN.out.mono ?_; rintro e w5 ⟨rfl, H5⟩; replace H5 := Aside0.mk H5)
    | ((with_reducible refine Gd 11 ?_); refine OA H5 159 #[.bool false, .slice none 0 0, .slice none 0 0] 3 ?_; intro g11 w6 H6 B6)
    | ((with_reducible refine Gs 159 11 ?_); refine OS 11 54 H6 0 g11 159 #[.bool false, .slice f1' x5 g1', .slice f2' n5 g2'] 3 HZ3 HX5 ?_; intro w7 H7)
    | ((with_reducible refine Gd 56 ?_); refine OD 55 4 H7 0 g11 0 (.bool false) Try.underlying4 ?_)
    | ((with_reducible refine Gd 60 ?_); refine GD 59 157 H7 0 g11 2 (.slice f2' n5 g2') Try.underlying157 ?_)
    | ((with_reducible refine Gd 66 ?_); refine OD 65 157 H7 0 g11 2 (.slice f2' n5 g2') Try.underlying157 ?_)
    )
   have H8 := Aside0.mk (H1.out.step (below_step HBD.out H7.out.below))
   go_wp2_with (first
    | fail
    | ((with_reducible refine Gs 108 2 ?_); refine OS 2 64 H8 0 g2 108 #[.int .u64 0, .int .u64 0, .slice none 0 0] 3 HZB HZB ?_; intro w9 H9)
    )
   refine bodyPost_ret (own_resultV_t rfl _ H9.out 0 g2 _ rfl rfl _ Try.underlying108 rfl (by kernel_rfl) _ rfl) rfl ?_
   exact ⟨_, rfl, (H9.out.erase 0).null kL _⟩
  by_cases hbig : n5 ≤ 4096
  case neg =>
   have hdb : decide (4096 < (n5 : Int)) = true := decide_eq_true (by omega)
   obtain rfl : r = (zeroBt, 8) := by rw [HR.out, if_neg (by rintro ⟨_, _, _, h, _⟩; rw [← HN5.out] at h; exact hbig h)]
   clear HR
   go_upto_if 63 with (first
    | fail
    | (go_at_call 107; refine hN.out.mono ?_; rintro e w5 ⟨rfl, H5⟩; replace H5 := Aside0.mk H5)
    | ((with_reducible refine Gd 11 ?_); refine OA H5 159 #[.bool false, .slice none 0 0, .slice none 0 0] 3 ?_; intro g11 w6 H6 B6)
    | ((with_reducible refine Gs 159 11 ?_); refine OS 11 54 H6 0 g11 159 #[.bool true, .slice f1' x5 g1', .slice f2' n5 g2'] 3 HZ3 HX5 ?_; intro w7 H7)
    | ((with_reducible refine Gd 56 ?_); refine OD 55 4 H7 0 g11 0 (.bool true) Try.underlying4 ?_)
    | ((with_reducible refine Gd 60 ?_); refine GD 59 157 H7 0 g11 2 (.slice f2' n5 g2') Try.underlying157 ?_)
    | ((with_reducible refine Gd 66 ?_); refine OD 65 157 H7 0 g11 2 (.slice f2' n5 g2') Try.underlying157 ?_)
    )
   have H8 := Aside0.mk (H1.out.step (below_step HBD.out H7.out.below))
   go_wp2_with (first
    | fail
    | ((with_reducible refine Gs 108 2 ?_); refine OS 2 64 H8 0 g2 108 #[.int .u64 0, .int .u64 0, .slice none 0 0] 3 HZB HZB ?_; intro w9 H9)
    )
   refine bodyPost_ret (own_resultV_t rfl _ H9.out 0 g2 _ rfl rfl _ Try.underlying108 rfl (by kernel_rfl) _ rfl) rfl ?_
   exact ⟨_, rfl, (H9.out.erase 0).null kL _⟩
  have hdb : decide (4096 < (n5 : Int)) = false := decide_eq_false (by omega)
  replace HR : Aside0 (r = if (y2.f2.all fun y => !y.f0) = true then (⟨n0, n1, y2.f2.map fun y => y.f1⟩, 0) else (zeroBt, 8)) := ⟨by
   rw [HR.out]
   by_cases h : (y2.f2.all fun y => !y.f0) = true
   ·rw [if_pos ⟨rfl, rfl, rfl, by rw [← HN5.out]; exact hbig, h⟩, if_pos h]
   ·rw [if_neg (by rintro ⟨_, _, _, _, h'⟩; exact h h'), if_neg h]⟩
  go_wp2_with (first
   | fail
   | (go_at_call 107; refine hN.out.mono ?_; rintro e w5 ⟨rfl, H5⟩; replace H5 := Aside0.mk H5)
   | ((with_reducible refine Gd 11 ?_); refine OA H5 159 #[.bool false, .slice none 0 0, .slice none 0 0] 3 ?_; intro g11 w6 H6 B6)
   | ((with_reducible refine Gs 159 11 ?_); refine OS 11 54 H6 0 g11 159 #[.bool true, .slice f1' x5 g1', .slice f2' n5 g2'] 3 HZ3 HX5 ?_; intro w7 H7)
   | ((with_reducible refine Gd 56 ?_); refine OD 55 4 H7 0 g11 0 (.bool true) Try.underlying4 ?_)
   | ((with_reducible refine Gd 60 ?_); refine GD 59 157 H7 0 g11 2 (.slice f2' n5 g2') Try.underlying157 ?_)
   | ((with_reducible refine Gd 66 ?_); refine OD 65 157 H7 0 g11 2 (.slice f2' n5 g2') Try.underlying157 ?_)
   )
  have H8 : Aside0 (Own wd.heap.size wd w7 [.row (shM kL wd (fun k => w1.heap.size ≤ k)) 74 (.slice none 0 0) ((y2.f2.take 0).map fun y => y.f1), .blk g8 #[.int .u64 n0, .int .u64 n1, .slice none 0 0] 108]) := ⟨((H7.out.erase 0).erase 0 |>.erase 1).null _ _⟩
  clear H5 H6 H7 B6 hN HCL2 HX5
  go_loopw [68] (fun v68 wr => ∃ (j : Nat) (vm : Value), j ≤ n5 ∧ v68 = .int .i64 (j : Int) ∧ Aside0 (((y2.f2.take j).all fun y => !y.f0) = true) ∧ Aside0 (Own wd.heap.size wd wr [.row (shM kL wd (fun k => w1.heap.size ≤ k)) 74 vm ((y2.f2.take j).map fun y => y.f1), .blk g8 #[.int .u64 n0, .int .u64 n1, vm] 108])) (fun v68 _ => n5 - (intOf v68).toNat)
  case atStart => exact ⟨0, _, Nat.zero_le _, rfl, ⟨rfl⟩, H8⟩
  case round =>
   clear H8
   obtain ⟨j, vm, hj, rfl, HA, HI⟩ := hrel
   by_cases hlt : j < n5
   ·have hdl : decide (j < n5) = true := decide_eq_true hlt
    have hib : (0 : Int) ≤ (j : Int) ∧ (j : Int) < (n5 : Int) := by omega
    have hjl : j < y2.f2.length := by rw [← HN5.out]; exact hlt
    obtain ⟨gL, cap, m1, k1, m2, k2, he, hcap, hr1, hr2, hm1, hm2, hcl⟩ := R_item HS2.out j hjl
    injection he with he he2 he3
    subst he he3
    clear he2
    have HAS := Aside0.mk (all_snoc y2.f2 j hjl)
    have HMS := Aside0.mk (f1s_snoc y2.f2 j hjl)
    obtain ⟨A5, c5, hv5, _, _⟩ := HI.out.reads 0 rfl
    have hlen : ((y2.f2.take j).map fun y => y.f1).length = j := by simp; omega
    rw [hlen] at hv5
    subst hv5
    have HP : Aside0 (∀ w : World, (shM kL wd (fun k => w1.heap.size ≤ k)).M w 0 (fun _ => False) y2.f2[j].f1 [.slice m1 y2.f2[j].f1.length k1]) := ⟨fun _ => ⟨_, rfl, Kd.R_lower (Kd.R_mono (Kd.R_bound hr1) fun k hk => hk.2.1) (Nat.zero_le _)⟩⟩
    have HCJ : Aside0 (∀ W, Below wd.heap.size wd W → ∀ (q : Nat) (u : Value), [Value.bool y2.f2[j].f0, .slice m1 y2.f2[j].f1.length k1, .slice m2 y2.f2[j].f2.length k2][q]? = some u → W.cell? ((⟨gL, j * 3, none⟩ : Addr).add q) = some u) := ⟨fun W hb q u hq => by
     rw [Addr.add_mid]; exact pw_cell_below hb (hcl q u hq)⟩
    have HX6 : Aside0 (Arr 3 #[.bool y2.f2[j].f0, .slice m1 y2.f2[j].f1.length k1, .slice m2 y2.f2[j].f2.length k2]) := ⟨arr3_ rfl⟩
    clear hr1 hr2 hm1 hm2 hcl hcap hlen
    generalize y2.f2[j].f1.length = l1 at *
    generalize y2.f2[j].f2.length = l2 at *
    generalize y2.f2[j].f1 = msg at *
    generalize y2.f2[j].f0 = bj at *
    have HL1 : Aside0 (((y2.f2.take j).map (fun y => y.f1) ++ [msg]).length = j + 1) := ⟨by simp; omega⟩
    cases bj
    ·
     rw [HA.out] at HAS
     go_wp2_with (first
      | fail
      | ((with_reducible refine gate_dst (N := 71) rfl ?_); refine ld_at rfl 159 (.tmp 70) rfl (⟨gL, j * 3, none⟩) ([.bool false, .slice m1 l1 k1, .slice m2 l2 k2]) _ rfl (HCJ.out _ HI.out.below) Try.underlying159 rfl (by kernel_rfl) ?_)
      | ((with_reducible refine Gd 13 ?_); refine OA HI 159 #[.bool false, .slice none 0 0, .slice none 0 0] 3 ?_; intro g13 w5 H5 B5)
      | ((with_reducible refine Gs 159 13 ?_); refine OS 13 71 H5 0 g13 159 #[.bool false, .slice m1 l1 k1, .slice m2 l2 k2] 3 HZ3 HX6 ?_; intro w6 H6)
      | ((with_reducible refine Gd 73 ?_); refine OD 72 4 H6 0 g13 0 (.bool false) Try.underlying4 ?_)
      | ((with_reducible refine Gd 76 ?_); refine OD 75 71 H6 2 g8 2 (.slice A5 j c5) Try.underlying71 ?_)
      | ((with_reducible refine Gd 78 ?_); refine OD 77 74 H6 0 g13 1 (.slice m1 l1 k1) Try.underlying74 ?_)
      | ((with_reducible refine gate_dst (N := 80) rfl ?_); (with_reducible refine gate_builtin (b := .append) (xs := #[.tmp 76, .tmp 79]) rfl ?_); refine own_append_any (shM kL wd (fun k => w1.heap.size ≤ k)) H6.out 1 rfl rfl (.tmp 76) (.tmp 79) 71 (.slice none 0 0) 24 rfl Try.underlying71 (PRF.info74) rfl (show 0 < 1 by decide) (by decide) (msg) ([.slice m1 l1 k1]) (HP.out) (by rfl) (by rfl) (by simp; omega) ?_; intro v8 w8 H8; (obtain ⟨A8, c8, hv8, _, _⟩ := H8.reads 1 rfl; rw [HL1.out] at hv8; subst hv8); replace H8 := Aside0.mk H8)
      | ((with_reducible refine Gs 71 81 ?_); refine OT1 81 71 H8 2 g8 108 2 (.slice A8 (j + 1) c8) (#[.int .u64 n0, .int .u64 n1, .slice A8 (j + 1) c8]) rfl (by simp) ?_; intro w9 H9)
      )
     go_roundw
     case rel => exact ⟨j + 1, _, hlt, by go_num, ⟨HAS.out⟩, ⟨by rw [HMS.out]; exact H9.out.erase 0⟩⟩
     case measure => simp [intOf]; omega
    ·
     have hrv : r = (zeroBt, 8) := by
      rw [HR.out, if_neg]
      intro h
      have h1 := HAS.out
      rw [HA.out] at h1
      rw [← List.take_append_drop (j + 1) y2.f2, List.all_append, h1] at h
      simp at h
     subst hrv
     clear HR
     go_upto_if 73 with (first
      | fail
      | ((with_reducible refine gate_dst (N := 71) rfl ?_); refine ld_at rfl 159 (.tmp 70) rfl (⟨gL, j * 3, none⟩) ([.bool true, .slice m1 l1 k1, .slice m2 l2 k2]) _ rfl (HCJ.out _ HI.out.below) Try.underlying159 rfl (by kernel_rfl) ?_)
      | ((with_reducible refine Gd 13 ?_); refine OA HI 159 #[.bool false, .slice none 0 0, .slice none 0 0] 3 ?_; intro g13 w5 H5 B5)
      | ((with_reducible refine Gs 159 13 ?_); refine OS 13 71 H5 0 g13 159 #[.bool true, .slice m1 l1 k1, .slice m2 l2 k2] 3 HZ3 HX6 ?_; intro w6 H6)
      | ((with_reducible refine Gd 73 ?_); refine OD 72 4 H6 0 g13 0 (.bool true) Try.underlying4 ?_)
      )
     have H8 := Aside0.mk (H1.out.step (below_step HBD.out H6.out.below))
     go_wp2_with (first
      | fail
      | ((with_reducible refine Gs 108 2 ?_); refine OS 2 74 H8 0 g2 108 #[.int .u64 0, .int .u64 0, .slice none 0 0] 3 HZB HZB ?_; intro w9 H9)
      )
     refine bodyPost_ret (own_resultV_t rfl _ H9.out 0 g2 _ rfl rfl _ Try.underlying108 rfl (by kernel_rfl) _ rfl) rfl ?_
     exact ⟨_, rfl, (H9.out.erase 0).null kL _⟩
   ·have hdl : decide (j < n5) = false := decide_eq_false hlt
    obtain rfl : n5 = j := by omega
    have hall : (y2.f2.all fun y => !y.f0) = true := by
     have h := HA.out
     rwa [List.take_of_length_le (by rw [← HN5.out]; exact Nat.le_refl _)] at h
    have hrv : r = (⟨n0, n1, y2.f2.map fun y => y.f1⟩, 0) := by rw [HR.out, if_pos hall]
    subst hrv
    have HI2 : Aside0 (Own wd.heap.size wd wr [.row (shM kL wd (fun k => w1.heap.size ≤ k)) 74 vm (y2.f2.map fun y => y.f1), .blk g8 #[.int .u64 n0, .int .u64 n1, vm] 108]) := ⟨by
     have h := HI.out
     rwa [List.take_of_length_le (by rw [← HN5.out]; exact Nat.le_refl _)] at h⟩
    have HF := Aside0.mk (H1.out.call (HI2.out.shM_up HBD.out (fun k hk => hk)))
    obtain ⟨A5, c5, rfl, _, _⟩ := HI2.out.reads 0 rfl
    have HXB : Aside0 (Arr 3 #[.int .u64 n0, .int .u64 n1, .slice A5 (y2.f2.map fun y => y.f1).length c5]) := ⟨rfl, by simp [Value.oneCell']⟩
    clear HI HR HA hall HS2
    generalize (y2.f2.map fun y => y.f1).length = ln at *
    go_wp2_with (first
     | fail
     | ((with_reducible refine Gd 83 ?_); refine OV 8 HI2 1 g8 108 rfl Try.underlying108 (by kernel_rfl) ?_)
     | ((with_reducible refine Gs 108 2 ?_); refine OS 2 83 HF 2 g2 108 #[.int .u64 n0, .int .u64 n1, .slice A5 ln c5] 3 HZB HXB ?_; intro w9 H9)
     )
    refine bodyPost_ret (own_resultV_t rfl _ H9.out 2 g2 _ rfl rfl _ Try.underlying108 rfl (by kernel_rfl) _ rfl) rfl ?_
    exact ⟨_, rfl, (H9.out.erase 1).erase 1⟩
end Go.Proofs.Ytocphkfkdadhaaa.H
