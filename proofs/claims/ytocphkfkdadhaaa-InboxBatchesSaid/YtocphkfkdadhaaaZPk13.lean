import Derived.Test.YtocphkfkdadhaaaZPk12
import Derived.Test.YtocphkfkdadhaaaZPk11
import Derived.Test.YtocphkfkdadhaaaZPk10
namespace Go.Proofs.Ytocphkfkdadhaaa.H
open Go.RowKit Go.Proofs.YtocphkfkdadhaaaW.PrintWords Go.Proofs.YtocphkfkdadhaaaW.PrintLast Go.Proofs.YtocphkfkdadhaaaW.PrintMore
set_option linter.unusedVariables false
set_option linter.unusedSimpArgs false
def tickG (q : List SQ) (block : Int) : Nat → Nat → List (List Int) → Nat × List (List Int)
 | 0, tk, l => (tk, l)
 | f + 1, tk, l => if h : tk < q.length then if l.length < 4096 ∧ q[tk].f0 + 8 ≤ block then tickG q block f (tk + 1) (l ++ [q[tk].f1]) else (tk, l) else (tk, l)
def tickI (x : Box) (block : Int) : Box × Int :=
 if mayI x.q x.tk x.l && decide (0 ≤ block) then
  (⟨x.q, ((tickG x.q block (x.q.length - x.tk.toNat) x.tk.toNat x.l).1 : Int), (tickG x.q block (x.q.length - x.tk.toNat) x.tk.toNat x.l).2, x.nx⟩, 0) else (zeroB, 2)
theorem riseP_all : ∀ (q : List SQ) (last : Int), riseP last q = true → ∀ d ∈ q, last ≤ d.f0 ∧ d.f1.length ≤ 65536
 | [], _, _, _, hd => by cases hd
 | d :: q, last, h, x, hx => by
  unfold riseP at h
  rw [Bool.and_eq_true, Bool.and_eq_true, decide_eq_true_eq, decide_eq_true_eq] at h
  rcases List.mem_cons.1 hx with rfl | hx
  ·exact ⟨h.1.1, h.1.2⟩
  ·have := riseP_all q d.f0 h.2 x hx
   omega
theorem mayI_all {q : List SQ} {tk : Int} {l : List (List Int)} (h : mayI q tk l = true) : (∀ d ∈ q, 0 ≤ d.f0 ∧ d.f1.length ≤ 65536) ∧ (∀ m ∈ l, m.length ≤ 65536) := by
 unfold mayI longP at h
 simp only [Bool.and_eq_true, decide_eq_true_eq, Bool.not_eq_true'] at h
 refine ⟨riseP_all q 0 h.1.2, fun m hm => ?_⟩
 have h2 := h.2
 rw [List.any_eq_false] at h2
 have := h2 m hm
 simpa using this
theorem takenL_one (q : List SQ) (i : Nat) (h : i < q.length) : takenL q i 1 = [q[i].f1] := by
 have := takenL_snoc q i 0 h
 simpa [takenL] using this
theorem tickG_go {q : List SQ} {block : Int} {f tk : Nat} {l : List (List Int)} (h : tk < q.length) (hl : l.length < 4096) (hb : q[tk].f0 + 8 ≤ block) : tickG q block (f + 1) tk l = tickG q block f (tk + 1) (l ++ [q[tk].f1]) := by
 rw [tickG, dif_pos h, if_pos ⟨hl, hb⟩]
theorem tickG_stop {q : List SQ} {block : Int} {tk : Nat} {l : List (List Int)} (h : tk < q.length) (hl : ¬ (l.length < 4096 ∧ q[tk].f0 + 8 ≤ block)) : ∀ f, tickG q block f tk l = (tk, l)
 | 0 => rfl
 | f + 1 => by rw [tickG, dif_pos h, if_neg hl]
set_option maxHeartbeats 4000000 in
set_option maxRecDepth 100000 in
theorem tick_any (x : Box) (block : Int) (A1 A2 : Option Addr) (c1 c2 : Nat) (w : World) (hC1 : Kd.C kQ w A1 x.q.length x.q) (hc1 : x.q.length ≤ c1) (hC2 : Kd.C kL w A2 x.l.length x.l) (hc2 : x.l.length ≤ c2)
 (hblk : block ≤ 9223372036854775807) (hq64 : ∀ d ∈ x.q, d.f0 ≤ 9223372036854775807) :
 Calls Try.prog 38 #[.agg #[.slice A1 x.q.length c1, .int .i64 x.tk, .slice A2 x.l.length c2, .int .u64 x.nx], .int .i64 block] w (BoxPost w (tickI x block)) := by
 obtain ⟨q, tk, l, nx⟩ := x
 have H0 := Aside0.mk (Own.start w)
 have HMY := Aside0.mk (fun W hb => imay_any q tk l nx A1 A2 c1 c2 W (Kd.C_below hC1 hb) hc1 (Kd.C_below hC2 hb) hc2)
 have HCP := Aside0.mk (fun W (hb : Below w.heap.size w W) h1 h2 => copied_any q tk l nx A1 A2 c1 c2 W (Kd.C_below hC1 hb) hc1 (Kd.C_below hC2 hb) hc2 h1 h2)
 have HLN := Aside0.mk (fun h : mayI q tk l = true => mayI_len h)
 have HAL := Aside0.mk (fun h : mayI q tk l = true => mayI_all h)
 have HQ64 := Aside0.mk hq64
 obtain ⟨r, hr⟩ : ∃ r, r = tickI ⟨q, tk, l, nx⟩ block := ⟨_, rfl⟩
 rw [← hr]
 have HR := Aside0.mk hr
 dsimp only
 clear hC1 hC2 hc1 hc2 hq64 hr
 obtain ⟨n, hn⟩ : ∃ n, n = q.length := ⟨_, rfl⟩
 have HN := Aside0.mk hn
 rw [← hn] at HCP HMY ⊢
 clear hn
 generalize hmm : l.length = m at *
 replace hmm := Aside0.mk hmm
 obtain ⟨my, hmy⟩ : ∃ my, my = mayI q tk l := ⟨_, rfl⟩
 rw [← hmy] at HMY HLN HAL
 have HMYE := Aside0.mk hmy
 clear hmy
 go_enter Try.func38, Try.ntmps38
 go_upto_region 1 with (first
  | fail
  | ((with_reducible refine gate_dst (N := 2) rfl ?_); refine own_box H0.out rfl (N := 2) rfl (t := 73) rfl (.agg #[.slice A1 n c1, .int .i64 tk, .slice A2 m c2, .int .u64 nx]) rfl ?_; intro g2 w1 H1 B1; replace H1 := Aside0.mk H1; replace B1 := Aside0.mk B1)
  | ((with_reducible refine gate_dst (N := 4) rfl ?_); refine own_alloc H1.out rfl (N := 4) rfl (t := 73) rfl (#[.slice none 0 0, .int .i64 0, .slice none 0 0, .int .u64 0]) 4 (by kernel_rfl) ?_; intro g4 w2 H2 B2; replace H2 := Aside0.mk H2; replace B2 := Aside0.mk B2)
  )
 replace H2 : Aside0 (Own w.heap.size w w2 [.blk g4 #[.slice none 0 0, .int .i64 0, .slice none 0 0, .int .u64 0] 73, .blk g2 #[.slice A1 n c1, .int .i64 tk, .slice A2 m c2, .int .u64 nx] 73]) := ⟨H2.out⟩
 have HA0 : Aside0 (Arr 4 #[.slice none 0 0, .int .i64 0, .slice none 0 0, .int .u64 0]) := ⟨rfl, by simp [Value.oneCell']⟩
 have HA1 : Aside0 (Arr 4 #[.slice A1 n c1, .int .i64 tk, .slice A2 m c2, .int .u64 nx]) := ⟨rfl, by simp [Value.oneCell']⟩
 clear H0 H1 B1 B2
 go_cut [5, 12] (fun v5 v12 wc => v5 = .int .i64 0 ∧ v12 = .bool (!(my && decide (0 ≤ block))) ∧ Aside0 (Own w.heap.size w wc [.blk g4 #[.slice none 0 0, .int .i64 0, .slice none 0 0, .int .u64 0] 73, .blk g2 #[.slice A1 n c1, .int .i64 tk, .slice A2 m c2, .int .u64 nx] 73]))
 case first =>
  by_cases hb : 0 ≤ block
  ·have hd1 : decide (0 ≤ block) = true := decide_eq_true hb
   have hd2 : decide (block < 0) = false := decide_eq_false (by omega)
   cases my
   all_goals
    go_wp2_with (first
     | fail
     | ((with_reducible refine gate_dst (N := 6) rfl ?_); refine own_loadV H2.out 1 g2 _ 73 rfl rfl (.tmp 2) rfl _ rfl Try.underlying73 rfl (by kernel_rfl) ?_)
     | (go_at_call 57; refine (HMY.out _ H2.out.below).mono ?_; rintro e w3 ⟨rfl, hB3⟩; have H3 := Aside0.mk (H2.out.step hB3); clear hB3)
     )
    go_meet
    exact ⟨rfl, by first | rfl | (rw [hd1]; rfl), H3⟩
  ·have hd1 : decide (0 ≤ block) = false := decide_eq_false hb
   have hd2 : decide (block < 0) = true := decide_eq_true (by omega)
   cases my
   all_goals
    go_wp2_with (first
     | fail
     | ((with_reducible refine gate_dst (N := 6) rfl ?_); refine own_loadV H2.out 1 g2 _ 73 rfl rfl (.tmp 2) rfl _ rfl Try.underlying73 rfl (by kernel_rfl) ?_)
     | (go_at_call 57; refine (HMY.out _ H2.out.below).mono ?_; rintro e w3 ⟨rfl, hB3⟩; have H3 := Aside0.mk (H2.out.step hB3); clear hB3)
     )
    go_meet
    exact ⟨rfl, by first | rfl | (rw [hd1]; rfl), H3⟩
 case rest =>
 clear H2 HMY
 obtain ⟨rfl, rfl, H2⟩ := hcut
 cases hb : (my && decide (0 ≤ block))
 ·obtain rfl : r = (zeroB, 2) := by rw [HR.out, tickI, if_neg (by show ¬ (mayI q tk l && decide (0 ≤ block)) = true; rw [← HMYE.out, hb]; simp)]
  clear HR
  go_wp2_with (first
   | fail
   | ((with_reducible refine own_store H2.out 0 g4 _ 73 rfl rfl (.tmp 4) (.tmp 13) rfl (#[.slice none 0 0, .int .i64 0, .slice none 0 0, .int .u64 0]) ?_ ?_ 4 HA0.out HA0.out (by kernel_rfl) ?_); (case _ => rfl); (case _ => rfl); intro w7 HG; replace HG := Aside0.mk HG)
   )
  refine bodyPost_ret (own_resultV_t rfl _ HG.out 0 g4 _ rfl rfl _ Try.underlying73 rfl (by kernel_rfl) _ rfl) rfl ?_
  exact ⟨_, _, rfl, ((((HG.out.erase 0).erase 0).null kL _).null kQ _)⟩
 rw [Bool.and_eq_true, decide_eq_true_eq] at hb
 obtain ⟨rfl, hb0⟩ := hb
 obtain ⟨hn1, hm1, ht0, htn⟩ := HLN.out rfl
 obtain ⟨hq0, hl0⟩ := HAL.out rfl
 rw [← HN.out] at hn1 htn
 obtain ⟨ti, rfl⟩ := Int.eq_ofNat_of_zero_le ht0
 replace htn : ti ≤ n := by omega
 replace HR : Aside0 (r = (⟨q, ((tickG q block (n - ti) ti l).1 : Int), (tickG q block (n - ti) ti l).2, nx⟩, 0)) := ⟨by
  rw [HR.out, tickI, if_pos (by show (mayI q (ti : Int) l && decide (0 ≤ block)) = true; rw [← HMYE.out, decide_eq_true hb0]; rfl), HN.out]; rfl⟩
 have HQA := Aside0.mk (fun (i : Nat) (h : i < q.length) => (⟨(hq0 _ (List.getElem_mem h)).1, HQ64.out _ (List.getElem_mem h)⟩ : 0 ≤ q[i].f0 ∧ q[i].f0 ≤ 9223372036854775807))
 have HCP2 := Aside0.mk (fun W hb => HCP.out W hb (by have := HN.out; omega) (by omega) (fun d hd => by have := (hq0 d hd).2; omega) (fun m hm => by have := hl0 m hm; omega))
 have HQM := Aside0.mk (fun (d : SQ) (hd : d ∈ q) => (show d.f1.length ≤ 1099511627776 by have := (hq0 d hd).2; omega))
 have HNB : Aside0 (q.length ≤ 1000000) := ⟨by have := HN.out; omega⟩
 clear HQ64 HAL HLN HCP hq0 hl0 HMYE ht0
 go_wp2_with (first
  | fail
  | ((with_reducible refine gate_dst (N := 14) rfl ?_); refine own_loadV H2.out 1 g2 _ 73 rfl rfl (.tmp 2) rfl _ rfl Try.underlying73 rfl (by kernel_rfl) ?_)
  | (go_at_call 87; refine (HCP2.out _ H2.out.below).mono ?_; rintro e w3 ⟨v1, v2, rfl, hO3⟩; obtain ⟨A3, c3, rfl, hcl3, _⟩ := hO3.reads 0 rfl; obtain ⟨A4, c4, rfl, hcl4, _⟩ := hO3.reads 1 rfl; have H3 := Aside0.mk (H2.out.call hO3); have HA3 : Aside0 (Arr 4 #[.slice A3 q.length c3, .int .i64 (ti : Int), .slice A4 l.length c4, .int .u64 nx]) := ⟨rfl, by simp [Value.oneCell']⟩; clear hO3)
  | ((with_reducible refine own_store H3.out 3 g2 _ 73 rfl rfl (.tmp 2) (.tmp 15) rfl (#[.slice A3 q.length c3, .int .i64 (ti : Int), .slice A4 l.length c4, .int .u64 nx]) ?_ ?_ 4 HA1.out HA3.out (by kernel_rfl) ?_); (case _ => rfl); (case _ => rfl); intro w4 H4; replace H4 := Aside0.mk H4)
  )
 replace H4 : Aside0 (Own w.heap.size w w4 [.blk g2 #[.slice A3 n c3, .int .i64 (ti : Int), .slice A4 l.length c4, .int .u64 nx] 73, .row kQ 78 (.slice A3 n c3) q, .row kL 74 (.slice A4 l.length c4) l, .blk g4 #[.slice none 0 0, .int .i64 0, .slice none 0 0, .int .u64 0] 73]) := ⟨by have h := H4.out.bring 3 rfl; rw [HN.out]; exact h⟩
 replace hcl3 : n ≤ c3 := by rw [HN.out]; exact hcl3
 clear H2 H3 HA1 HA3 HCP2
 simp only [Act.put, List.setIfInBounds_toArray, List.set_cons_zero, List.set_cons_succ]
 go_loopw [] (fun wr => ∃ (i : Nat) (li : List (List Int)) (vl : Value), i ≤ n ∧ li.length ≤ 4096 ∧ Aside0 (tickG q block (n - ti) ti l = tickG q block (n - i) i li) ∧ Aside0 (Own w.heap.size w wr [.blk g2 #[.slice A3 n c3, .int .i64 (i : Int), vl, .int .u64 nx] 73, .row kQ 78 (.slice A3 n c3) q, .row kL 74 vl li, .blk g4 #[.slice none 0 0, .int .i64 0, .slice none 0 0, .int .u64 0] 73])) (fun wr => n - (intOf ((wr.cell? ⟨g2, 1, none⟩).getD undef)).toNat)
 case atStart => exact ⟨ti, l, _, htn, by have := hmm.out; omega, ⟨rfl⟩, H4⟩
 case round =>
  clear H4
  obtain ⟨i, li, vl, hin, hli, HG, HI⟩ := hrel
  obtain ⟨A4, c4, hv4, hcl4, _⟩ := HI.out.reads 2 rfl
  obtain ⟨m4, hm4⟩ : ∃ m4, m4 = li.length := ⟨_, rfl⟩
  rw [← hm4] at hv4 hli
  replace hm4 := Aside0.mk hm4
  subst hv4
  have k0 : wr.cell? ⟨g2, 0, none⟩ = some (.slice A3 n c3) ∧ wr.cell? ⟨g2, 1, none⟩ = some (.int .i64 (i : Int)) ∧ wr.cell? ⟨g2, 2, none⟩ = some (.slice A4 m4 c4) := ⟨HI.out.cell 0 rfl 0 rfl, HI.out.cell 0 rfl 1 rfl, HI.out.cell 0 rfl 2 rfl⟩
  by_cases hlt : i < n
  ·have hdl : decide (i < n) = true := decide_eq_true (by omega)
   have hiq : i < q.length := by rw [← HN.out]; exact hlt
   by_cases hm : m4 < 4096
   ·have hdm : decide ((m4 : Int) < 4096) = true := decide_eq_true (by omega)
    obtain ⟨gq, cap, he, _⟩ := HI.out.form 1 rfl (by omega)
    rw [← HN.out] at he
    injection he with he he2 he3
    subst he he3
    obtain ⟨cs, hK, hcell⟩ := HI.out.cells_at 1 rfl i (List.getElem?_eq_getElem hiq)
    obtain ⟨Am, cm, rfl, hcm, hCm⟩ := PRF.k78_open hK
    have kA : wr.cell? ⟨gq, i * 2, none⟩ = some (.int .i64 q[i].f0) := hcell 0 _ rfl
    obtain ⟨hb1, hb2⟩ := HQA.out i hiq
    have hib : (0 : Int) ≤ (i : Int) ∧ (i : Int) < (n : Int) := by omega
    have hws : IntKind.i64.wrap (block - q[i].f0) = block - q[i].f0 := IntWalk.i64_in _ (by omega)
    clear hK hcell hCm hcm
    by_cases hbk : q[i].f0 + 8 ≤ block
    ·have hdb : decide (8 ≤ block - q[i].f0) = true := decide_eq_true (by omega)
     have HNG : Aside0 (tickG q block (n - i) i li = tickG q block (n - (i + 1)) (i + 1) (li ++ [q[i].f1])) := ⟨by
      rw [show n - i = (n - (i + 1)) + 1 by omega]; exact tickG_go hiq (by rw [← hm4.out]; exact hm) hbk⟩
     have HTK : Aside0 (Calls Try.prog 88 #[.pointer (some ⟨g2, 0, none⟩), .int .i64 1] wr fun e w' => e = .returned (.tuple #[]) ∧ ∃ vl', Own w.heap.size w w' [.blk g2 #[.slice (some ⟨gq, 0, none⟩) n c3, .int .i64 ((i + 1 : Nat) : Int), vl', .int .u64 nx] 73, .row kQ 78 (.slice (some ⟨gq, 0, none⟩) n c3) q, .row kL 74 vl' (li ++ [q[i].f1]), .blk g4 #[.slice none 0 0, .int .i64 0, .slice none 0 0, .int .u64 0] 73]) := ⟨by
      have h := HI.out
      rw [HN.out] at h hcl3 ⊢
      exact (take_any q i 1 li nx g2 gq c3 _ h hcl3 (by omega) HNB.out (by have := hm4.out; omega) HQM.out).mono fun e w' ⟨h1, vl', h2⟩ => ⟨h1, vl', by rw [takenL_one q i hiq] at h2; exact h2⟩⟩
     clear hb1 hb2
     generalize q[i].f0 = b at *
     go_wp2_with (go_at_call 88; refine HTK.out.mono ?_; rintro e w5 ⟨rfl, vl', H5⟩; replace H5 := Aside0.mk H5)
     have k5 : w5.cell? ⟨g2, 1, none⟩ = some (.int .i64 ((i + 1 : Nat) : Int)) := H5.out.cell 0 rfl 1 rfl
     go_roundw
     case rel => exact ⟨i + 1, _, _, hlt, by rw [List.length_append, ← hm4.out]; simp; omega, ⟨HG.out.trans HNG.out⟩, H5⟩
     case measure => rw [k5, k0.2.1]; simp [intOf]; omega
    ·have hdb : decide (8 ≤ block - q[i].f0) = false := decide_eq_false (by omega)
     have hst := tickG_stop (q := q) (block := block) (l := li) hiq (fun h => hbk h.2) (n - i)
     clear hb1 hb2
     generalize q[i].f0 = b at *
     replace HR : Aside0 (r = (⟨q, (i : Int), li, nx⟩, 0)) := ⟨by rw [HR.out, HG.out, hst]⟩
     clear hst HG
     obtain rfl := HR.out
     clear HR
     have HAE : Aside0 (Arr 4 #[.slice (some ⟨gq, 0, none⟩) n c3, .int .i64 (i : Int), .slice A4 m4 c4, .int .u64 nx]) := ⟨rfl, by simp [Value.oneCell']⟩
     go_wp2_with (first
      | fail
      | ((with_reducible refine gate_dst (N := 41) rfl ?_); refine own_loadV HI.out 0 g2 _ 73 rfl rfl (.tmp 2) rfl _ rfl Try.underlying73 rfl (by kernel_rfl) ?_)
      | ((with_reducible refine own_store HI.out 3 g4 _ 73 rfl rfl (.tmp 4) (.tmp 41) rfl (#[.slice (some ⟨gq, 0, none⟩) n c3, .int .i64 (i : Int), .slice A4 m4 c4, .int .u64 nx]) ?_ ?_ 4 HA0.out HAE.out (by kernel_rfl) ?_); (case _ => rfl); (case _ => rfl); intro w7 HG; replace HG := Aside0.mk HG)
      )
     refine bodyPost_ret (own_resultV_t rfl _ HG.out 3 g4 _ rfl rfl _ Try.underlying73 rfl (by kernel_rfl) _ rfl) rfl ?_
     exact ⟨_, _, rfl, (HG.out.erase 3).erase 0⟩
   ·have hdm : decide ((m4 : Int) < 4096) = false := decide_eq_false (by omega)
    have hst := tickG_stop (q := q) (block := block) (l := li) hiq (fun h => hm (by rw [hm4.out]; exact h.1)) (n - i)
    replace HR : Aside0 (r = (⟨q, (i : Int), li, nx⟩, 0)) := ⟨by rw [HR.out, HG.out, hst]⟩
    clear hst HG
    obtain rfl := HR.out
    clear HR
    have HAE : Aside0 (Arr 4 #[.slice A3 n c3, .int .i64 (i : Int), .slice A4 m4 c4, .int .u64 nx]) := ⟨rfl, by simp [Value.oneCell']⟩
    go_wp2_with (first
     | fail
     | ((with_reducible refine gate_dst (N := 41) rfl ?_); refine own_loadV HI.out 0 g2 _ 73 rfl rfl (.tmp 2) rfl _ rfl Try.underlying73 rfl (by kernel_rfl) ?_)
     | ((with_reducible refine own_store HI.out 3 g4 _ 73 rfl rfl (.tmp 4) (.tmp 41) rfl (#[.slice A3 n c3, .int .i64 (i : Int), .slice A4 m4 c4, .int .u64 nx]) ?_ ?_ 4 HA0.out HAE.out (by kernel_rfl) ?_); (case _ => rfl); (case _ => rfl); intro w7 HG; replace HG := Aside0.mk HG)
     )
    refine bodyPost_ret (own_resultV_t rfl _ HG.out 3 g4 _ rfl rfl _ Try.underlying73 rfl (by kernel_rfl) _ rfl) rfl ?_
    exact ⟨_, _, rfl, (HG.out.erase 3).erase 0⟩
  ·have hdl : decide (i < n) = false := decide_eq_false (by omega)
   have hst : tickG q block (n - i) i li = (i, li) := by rw [show n - i = 0 by omega]; rfl
   replace HR : Aside0 (r = (⟨q, (i : Int), li, nx⟩, 0)) := ⟨by rw [HR.out, HG.out, hst]⟩
   clear hst HG
   obtain rfl := HR.out
   clear HR
   have HAE : Aside0 (Arr 4 #[.slice A3 n c3, .int .i64 (i : Int), .slice A4 m4 c4, .int .u64 nx]) := ⟨rfl, by simp [Value.oneCell']⟩
   go_wp2_with (first
    | fail
    | ((with_reducible refine gate_dst (N := 41) rfl ?_); refine own_loadV HI.out 0 g2 _ 73 rfl rfl (.tmp 2) rfl _ rfl Try.underlying73 rfl (by kernel_rfl) ?_)
    | ((with_reducible refine own_store HI.out 3 g4 _ 73 rfl rfl (.tmp 4) (.tmp 41) rfl (#[.slice A3 n c3, .int .i64 (i : Int), .slice A4 m4 c4, .int .u64 nx]) ?_ ?_ 4 HA0.out HAE.out (by kernel_rfl) ?_); (case _ => rfl); (case _ => rfl); intro w7 HG; replace HG := Aside0.mk HG)
    )
   refine bodyPost_ret (own_resultV_t rfl _ HG.out 3 g4 _ rfl rfl _ Try.underlying73 rfl (by kernel_rfl) _ rfl) rfl ?_
   exact ⟨_, _, rfl, (HG.out.erase 3).erase 0⟩
end Go.Proofs.Ytocphkfkdadhaaa.H

namespace Go.Proofs.Ytocphkfkdadhaaa.H
open Go.RowKit Go.Proofs.YtocphkfkdadhaaaW.PrintWords Go.Proofs.YtocphkfkdadhaaaW.PrintLast Go.Proofs.YtocphkfkdadhaaaW.PrintMore
set_option linter.unusedVariables false
set_option linter.unusedSimpArgs false
theorem R_elem {α : Type} {d : Kd α} {e : Nat} {W : World} {base : Nat} {ok : Nat → Prop} {v : Value} {xs : List α} (h : d.R e W base ok v xs) (i : Nat) (hi : i < xs.length) :
 ∃ g cap cs, v = .slice (some ⟨g, 0, none⟩) xs.length cap ∧ xs.length ≤ cap ∧ d.M W base ok xs[i] cs ∧ ∀ j u, cs[j]? = some u → W.cell? ⟨g, i * d.sz + j, none⟩ = some u := by
 obtain ⟨g, cap, h5, _⟩ := Kd.R_form h (by omega)
 subst h5
 obtain ⟨hn, cur, inner, hh, hc3, hc1, hc4, hr⟩ := R_block h
 refine ⟨g, cap, (inner.drop (i * d.sz)).take d.sz, rfl, hc1, d.M_mono (fun k hk => hk.1) (hr.2 i _ (List.getElem?_eq_getElem hi)), fun j u hj => ?_⟩
 rw [blk_cell hh]
 rw [List.getElem?_take] at hj
 split at hj
 ·rw [List.getElem?_drop, ← hc4, List.getElem?_take] at hj
  split at hj
  ·rw [← Array.getElem?_toList]; exact hj
  ·cases hj
 ·cases hj
theorem Own.shM_up {α : Type} {d : Kd α} {w1 wd W : World} {S : Nat → Prop} {e : Nat} {v : Value} {xs : List α} {L : List Item} (h : Own wd.heap.size wd W (.row (shM d wd S) e v xs :: L)) (hb : Below w1.heap.size w1 wd) (hS : ∀ k, S k → w1.heap.size ≤ k) :
 Own w1.heap.size w1 W (.row d e v xs :: L) := by
 obtain ⟨hbl, hba, S1, c1, c2, c3⟩ := h
 have c2 : (shM d wd S).R e W 0 S1 v xs := c2
 have hsz := hb.size
 have c2' : (shM d wd (fun k => S k ∧ k < wd.heap.size)).R e W 0 S1 v xs := by
  obtain ⟨h0, inner, ho, hr⟩ := c2
  refine ⟨h0, inner, ho, Reps.imp_ hr fun x cs hx => ?_⟩
  have hx : d.M wd 0 S x cs := hx
  exact d.M_mono (fun k hk => ⟨hk.1, hk.2.2.1⟩) (d.M_bound hx)
 refine ⟨below_step hb hbl, by omega, fun k => S1 k ∨ (S k ∧ k < wd.heap.size), ?_, shM_own c2' hbl (fun k hk => (c1 k hk).1), ?_⟩
 ·rintro i (hi | hi)
  ·have := c1 i hi; omega
  ·have := hS i hi.1; omega
 ·refine Sep.imp (fun i hi => ⟨by have := hi.1; omega, ?_⟩) c3
  rintro (h | h)
  ·exact hi.2 h
  ·have := hi.1; omega
theorem cutP_byt {b x y : List Int} {n : Nat} (hb : K.Byt b) (h : K.cutP b n = .ok (x, y)) : K.Byt x ∧ K.Byt y := by
 obtain ⟨_, rfl, rfl⟩ := K.cutP_ok h
 exact ⟨fun z hz => hb z (List.mem_of_mem_take hz), fun z hz => hb z (List.mem_of_mem_drop hz)⟩
theorem bodyP_byt {f : Nat} {b x y : List Int} (hb : K.Byt b) (h : K.bodyP f b = .ok (x, y)) : K.Byt x ∧ K.Byt y := by
 unfold K.bodyP at h
 split at h
 ·exact cutP_byt hb h
 ·split at h
  ·split at h
   ·cases h
   ·exact cutP_byt (fun z hz => hb z (List.mem_of_mem_drop hz)) h
  ·cases h
theorem bind_ok {ε α β : Type} {x : Except ε α} {f : α → Except ε β} {r : β} (h : x.bind f = .ok r) : ∃ a, x = .ok a ∧ f a = .ok r := by
 cases x with
 | error e => cases h
 | ok a => exact ⟨a, rfl, h⟩
theorem itemsP_byt (f : List Int → Except Int (SI × List Int)) (hf : ∀ l x r, K.Byt l → f l = .ok (x, r) → K.BytI x ∧ K.Byt r) : ∀ (k : Nat) (l : List Int) (xs : List SI), K.Byt l → K.itemsP f k l = .ok xs → ∀ y ∈ xs, K.BytI y
 | 0, [], xs, _, h => by
  simp only [K.itemsP, Except.ok.injEq] at h
  subst h
  intro y hy; cases hy
 | k + 1, [], xs, _, h => by
  simp only [K.itemsP, Except.ok.injEq] at h
  subst h
  intro y hy; cases hy
 | 0, c :: l, xs, _, h => by simp [K.itemsP] at h
 | k + 1, c :: l, xs, hb, h => by
  simp only [K.itemsP] at h
  obtain ⟨⟨q1, q2⟩, h1, h⟩ := bind_ok h
  obtain ⟨ys, h2, h⟩ := bind_ok h
  simp only [Except.ok.injEq] at h
  subst h
  obtain ⟨hx, hr⟩ := hf _ _ _ hb h1
  intro y hy
  rcases List.mem_cons.1 hy with rfl | hy
  ·exact hx
  ·exact itemsP_byt f hf k _ _ hr h2 y hy
theorem itemF_byt {sub : Option (List Int → Except Int (SI × List Int))} (hsub : ∀ f, sub = some f → ∀ l x r, K.Byt l → f l = .ok (x, r) → K.BytI x ∧ K.Byt r) {l r : List Int} {x : SI} (hb : K.Byt l) (h : K.itemF sub l = .ok (x, r)) : K.BytI x ∧ K.Byt r := by
 cases l with
 | nil => cases h
 | cons c rest =>
  have hc := hb c (by simp)
  have hr : K.Byt rest := fun z hz => hb z (List.mem_cons_of_mem _ hz)
  simp only [K.itemF] at h
  split at h
  ·simp only [Except.ok.injEq, Prod.mk.injEq] at h
   obtain ⟨rfl, rfl⟩ := h
   refine ⟨.mk _ (fun z hz => ?_) (fun y hy => by cases hy), hr⟩
   rw [List.mem_singleton.1 hz]; exact hc
  ·split at h
   ·obtain ⟨⟨q1, q2⟩, h1, h⟩ := bind_ok h
    split at h
    ·cases h
    ·simp only [Except.ok.injEq, Prod.mk.injEq] at h
     obtain ⟨rfl, rfl⟩ := h
     have := bodyP_byt hr h1
     exact ⟨.mk _ this.1 (fun y hy => by cases hy), this.2⟩
   ·split at h
    ·cases h
    ·rename_i f
     obtain ⟨⟨q1, q2⟩, h1, h⟩ := bind_ok h
     obtain ⟨xs, h2, h⟩ := bind_ok h
     simp only [Except.ok.injEq, Prod.mk.injEq] at h
     obtain ⟨rfl, rfl⟩ := h
     have hq := bodyP_byt hr h1
     exact ⟨.mk _ (fun z hz => by cases hz) (itemsP_byt f (hsub f rfl) _ _ _ hq.1 h2), hq.2⟩
theorem itemP_byt : ∀ (lv : Nat) (l r : List Int) (x : SI), K.Byt l → K.itemP lv l = .ok (x, r) → K.BytI x ∧ K.Byt r
 | 0, l, r, x, hb, h => itemF_byt (by simp) hb h
 | lv + 1, l, r, x, hb, h => itemF_byt (sub := some (K.itemP lv)) (by rintro f hf; cases hf; exact fun l x r hb h => itemP_byt lv l r x hb h) hb h
theorem decodeP_byt {l : List Int} {x : SI} (hb : K.Byt l) (h : K.decodeP l = .ok x) : K.BytI x := by
 unfold K.decodeP at h
 split at h
 ·cases h
 ·obtain ⟨⟨q1, q2⟩, h1, h⟩ := bind_ok h
  split at h
  ·simp only [Except.ok.injEq] at h
   subst h
   exact (itemP_byt 16 l q2 _ hb h1).1
  ·cases h
theorem decodeP_err {l : List Int} {e : Int} (h : K.decodeP l = .error e) : e ≠ 0 := by
 unfold K.decodeP at h
 split at h
 ·cases h; decide
 ·rcases K.bind_err h with h | ⟨q, _, h⟩
  ·exact K.itemP_err h
  ·split at h
   ·cases h
   ·cases h; decide
theorem BytI_f1 {x : SI} (h : K.BytI x) : K.Byt x.f1 := by cases h; assumption
theorem BytI_f2 {x : SI} (h : K.BytI x) : ∀ y ∈ x.f2, K.BytI y := by cases h; assumption
structure BatchI where
 n : Int
 t : Int
 ms : List (List Int)
def zeroBt : BatchI := ⟨0, 0, []⟩
def itemsB (a b c : SI) : BatchI × Int :=
 if (K.rnumP a).2 = 0 ∧ (K.rnumP b).2 = 0 ∧ c.f0 = true ∧ c.f2.length ≤ 4096 ∧ (c.f2.all fun y => !y.f0) = true then (⟨(K.rnumP a).1, (K.rnumP b).1, c.f2.map fun y => y.f1⟩, 0) else (zeroBt, 8)
def shapeB (b : Bool) (l : List SI) : BatchI × Int :=
 match b, l with
 | true, [y0, y1, y2] => itemsB y0 y1 y2
 | _, _ => (zeroBt, 8)
theorem shapeB_bad {b : Bool} {l : List SI} (h : b = false ∨ l.length ≠ 3) : shapeB b l = (zeroBt, 8) := by
 unfold shapeB
 split
 ·rcases h with h | h
  ·cases h
  ·exact absurd rfl h
 ·rfl
def batchP (b : List Int) : BatchI × Int :=
 match K.decodeP b with
 | .error e => (zeroBt, e)
 | .ok x => shapeB x.f0 x.f2
def BatchPost (w : World) (r : BatchI × Int) (e : Ending) (w' : World) : Prop :=
 ∃ v, e = .returned (.tuple #[.agg #[.int .u64 r.1.n, .int .u64 r.1.t, v], .int .i64 r.2]) ∧ Own w.heap.size w w' [.row kL 74 v r.1.ms]
end Go.Proofs.Ytocphkfkdadhaaa.H

namespace Go.Proofs.Ytocphkfkdadhaaa.H
open Go.RowKit Go.Proofs.YtocphkfkdadhaaaW.PrintWords Go.Proofs.YtocphkfkdadhaaaW.PrintLast Go.Proofs.YtocphkfkdadhaaaW.PrintMore
set_option linter.unusedVariables false
set_option linter.unusedSimpArgs false
theorem z3_one : Aside0 (Arr 3 #[.bool false, .slice none 0 0, .slice none 0 0]) := ⟨rfl, by simp [Value.oneCell']⟩
theorem zB_one : Aside0 (Arr 3 #[.int .u64 0, .int .u64 0, .slice none 0 0]) := ⟨rfl, by simp [Value.oneCell']⟩
theorem arr3_ {b : Bool} {v : Value} {A : Option Addr} {n c : Nat} (h : v.oneCell' = true) : Arr 3 #[.bool b, v, .slice A n c] := ⟨rfl, by
 show (#[Value.bool b, v, .slice A n c].all (·.oneCell')) = true
 simp only [Array.all_eq_true_iff_forall_mem]
 intro x hx
 simp at hx
 rcases hx with rfl | rfl | rfl
 ·rfl
 ·exact h
 ·rfl⟩
theorem R_one {α : Type} {d : Kd α} {e : Nat} {w : World} {base : Nat} {ok : Nat → Prop} {v : Value} {xs : List α} (h : d.R e w base ok v xs) : v.oneCell' = true := by
 obtain ⟨A, c, rfl⟩ := Kd.R_slice h
 rfl
theorem run_index_ptr {P : Program} (t e u : TypeId) (n : Nat) (ht : P.underlying t = some (.array n e)) (he : P.underlying e = some (.pointer u)) (hs : (P.info? e).map (·.size) = some 1) (cs : Array Value) (i : Int) (hi : 0 ≤ i ∧ i < n) {v : Value} (hv : cs[i.toNat]? = some v) (w : World) :
 (Instr.index t (.agg cs) (.int .i64 i)).run P w = .ok v w := by
 obtain ⟨ti, hti, hsz⟩ := Option.map_eq_some_iff.1 hs
 have hag : (isAgg e).run P w = .ok false w := by
  unfold isAgg
  simp [run_underlying he, go_sem]
 simp only [Instr.index, asIntOf, Sem.run_bind, Sem.run_pure, Result.andThen_ok, run_underlying ht]
 rw [if_pos hi]
 simp [sizeOf, typeInfo, hti, hsz, part, hag, hv, go_sem]
def stB (n0 n1 : Int) : Nat → Array Value
 | 0 => #[.int .u64 0, .int .u64 0, .slice none 0 0]
 | 1 => #[.int .u64 n0, .int .u64 0, .slice none 0 0]
 | _ => #[.int .u64 n0, .int .u64 n1, .slice none 0 0]
theorem readnum_any (y : SI) (hb : K.Byt y.f1) (A1 : Option Addr) (c1 : Nat) (A2 : Option Addr) (c2 : Nat) (W : World) (h1 : Kd.C kB W A1 y.f1.length y.f1) (h2 : y.f1.length ≤ c1) (h3 : Kd.C kI W A2 y.f2.length y.f2) (h4 : y.f2.length ≤ c2) :
 Calls Try.prog 108 #[.agg #[.bool y.f0, .slice A1 y.f1.length c1, .slice A2 y.f2.length c2]] W fun e w' => e = .returned (.tuple #[.int .u64 (K.rnumP y).1, .int .i64 (K.rnumP y).2]) ∧ Below W.heap.size W w' := by
 obtain ⟨k, hk⟩ := K.readnum_f y hb
 exact PRF.rlp_ReadNum.calls k y.f0 A1 c1 y.f1 A2 c2 y.f2 _ _ W h1 h2 h3 h4 hk
theorem R_item {W : World} {base : Nat} {ok : Nat → Prop} {v : Value} {xs : List SI} {e : Nat} (h : Kd.R kI e W base ok v xs) (i : Nat) (hi : i < xs.length) :
 ∃ g cap A1 c1 A2 c2, v = .slice (some ⟨g, 0, none⟩) xs.length cap ∧ xs.length ≤ cap ∧ Kd.R kB 5 W base ok (.slice A1 xs[i].f1.length c1) xs[i].f1 ∧ Kd.R kI 159 W base ok (.slice A2 xs[i].f2.length c2) xs[i].f2 ∧ xs[i].f1.length ≤ c1 ∧ xs[i].f2.length ≤ c2 ∧
  ∀ (j : Nat) (u : Value), [Value.bool xs[i].f0, .slice A1 xs[i].f1.length c1, .slice A2 xs[i].f2.length c2][j]? = some u → W.cell? ⟨g, i * 3 + j, none⟩ = some u := by
 obtain ⟨g, cap, cs, h1, h2, hM, hcl⟩ := R_elem h i hi
 obtain ⟨v1, v2, rfl, hr1, hr2⟩ := PRF.k159_openM hM
 obtain ⟨A1, c1, rfl, hc1, _⟩ := Kd.R_reads hr1
 obtain ⟨A2, c2, rfl, hc2, _⟩ := Kd.R_reads hr2
 exact ⟨g, cap, A1, c1, A2, c2, h1, h2, hr1, hr2, hc1, hc2, hcl⟩
theorem all_snoc (l : List SI) (j : Nat) (h : j < l.length) : ((l.take (j + 1)).all fun y => !y.f0) = (((l.take j).all fun y => !y.f0) && !l[j].f0) := by
 rw [List.take_succ_eq_append_getElem h, List.all_append]; simp
theorem f1s_snoc (l : List SI) (j : Nat) (h : j < l.length) : (l.take (j + 1)).map (fun y => y.f1) = (l.take j).map (fun y => y.f1) ++ [l[j].f1] := by
 rw [List.take_succ_eq_append_getElem h, List.map_append]; rfl
set_option maxHeartbeats 4000000 in
set_option maxRecDepth 100000 in
theorem readbatch_any (b : List Int) (A : Option Addr) (c : Nat) (w : World) (hB : ∀ x ∈ b, 0 ≤ x ∧ x ≤ 255) (hC : Kd.C kB w A b.length b) (hc : b.length ≤ c) :
 Calls Try.prog 55 #[.slice A b.length c] w (BatchPost w (batchP b)) := by
 have H0 := Aside0.mk (Own.start w)
 have HD := Aside0.mk (fun W (h : Below w.heap.size w W) => K.decode_any A c b W (Kd.C_below hC h) hc hB)
 have hmf : ∀ (fn : Fn) (first cap : Array Value) (w : World), (Instr.makeFunc fn first cap).run Try.prog w = .ok (.func fn first cap) w := fun _ _ _ _ => rfl
 obtain ⟨r, hr⟩ : ∃ r, r = batchP b := ⟨_, rfl⟩
 rw [← hr]
 unfold batchP at hr
 have HBI := fun (x : SI) (h : K.decodeP b = .ok x) => decodeP_byt hB h
 have HER := fun (e : Int) (h : K.decodeP b = .error e) => decodeP_err h
 clear hC hc hB
 generalize K.decodeP b = dec at *
 generalize b.length = nb at *
 have HZ3 := z3_one
 have HZB := zB_one
 cases dec with
 | error e =>
  obtain rfl : r = (zeroBt, e) := hr
  have he : (e != 0) = true := by have := HER e rfl; simpa using this
  clear HBI HER
  go_enter Try.func55, Try.ntmps55
  go_wp2_with (first
   | fail
   | ((with_reducible refine gate_dst (N := 2) rfl ?_); refine own_alloc H0.out rfl (N := 2) rfl (t := 108) rfl (#[.int .u64 0, .int .u64 0, .slice none 0 0]) 3 (by kernel_rfl) ?_; intro g2 w1 H1 B1; replace H1 := Aside0.mk H1; replace B1 := Aside0.mk B1)
   | (go_at_call 106; ( refine (HD.out _ H1.out.below).mono ?_; rintro e' w3 ⟨hB3, rfl⟩; have H3 := Aside0.mk (H1.out.step hB3); clear hB3))
   | ((with_reducible refine gate_dst (N := 4) rfl ?_); refine own_alloc H3.out rfl (N := 4) rfl (t := 159) rfl (#[.bool false, .slice none 0 0, .slice none 0 0]) 3 (by kernel_rfl) ?_; intro g4 w4 H4 B4; replace H4 := Aside0.mk H4; replace B4 := Aside0.mk B4)
   | ((with_reducible refine own_store H4.out 0 g4 _ 159 rfl rfl (.tmp 4) (.tmp 17) rfl (#[.bool false, .slice none 0 0, .slice none 0 0]) ?_ ?_ 3 HZ3.out HZ3.out (by kernel_rfl) ?_); (case _ => rfl); (case _ => rfl); intro w5 H5; replace H5 := Aside0.mk H5)
   | ((with_reducible refine own_store H5.out 1 g2 _ 108 rfl rfl (.tmp 2) (.tmp 21) rfl (#[.int .u64 0, .int .u64 0, .slice none 0 0]) ?_ ?_ 3 HZB.out HZB.out (by kernel_rfl) ?_); (case _ => rfl); (case _ => rfl); intro w6 H6; replace H6 := Aside0.mk H6)
   )
  refine bodyPost_ret (own_resultV_t rfl _ H6.out 1 g2 _ rfl rfl _ Try.underlying108 rfl (by kernel_rfl) _ rfl) rfl ?_
  exact ⟨_, rfl, ((H6.out.erase 0).erase 0).null kL _⟩
 | ok x =>
 obtain ⟨f0, f1, f2⟩ := x
 have hbi := HBI _ rfl
 clear HBI HER
 replace HD : Aside0 (∀ W, Below w.heap.size w W → Calls Try.prog 106 #[.slice A nb c] W fun e w' => ∃ v1 v2, e = .returned (.tuple #[.agg #[.bool f0, v1, v2], .int .i64 0]) ∧ Below W.heap.size W w' ∧ v1.oneCell' = true ∧ ∃ A2 c2, v2 = .slice A2 f2.length c2 ∧ f2.length ≤ c2 ∧ Kd.R kI 159 w' W.heap.size (fun _ => True) (.slice A2 f2.length c2) f2) := ⟨fun W h => (HD.out W h).mono fun e w' hp => by
  obtain ⟨hb, v1, v2, he, hr1, hr2⟩ := hp
  obtain ⟨A2, c2, rfl, hc2, _⟩ := Kd.R_reads hr2
  exact ⟨v1, _, he, hb, R_one hr1, A2, c2, rfl, hc2, hr2⟩⟩
 have HR : Aside0 (r = shapeB f0 f2) := ⟨hr⟩
 clear hr
 by_cases hl : f2.length = 3
 case neg =>
  have hl3 : ((f2.length : Int) != 3) = true := by simp; omega
  obtain ⟨n2, hn2⟩ : ∃ n2, n2 = f2.length := ⟨_, rfl⟩
  rw [← hn2] at HD hl3
  clear hn2
  cases f0
  ·
   obtain rfl : r = (zeroBt, 8) := HR.out.trans (shapeB_bad (by first | exact Or.inl rfl | exact Or.inr hl))
   clear HR hbi
   go_enter Try.func55, Try.ntmps55
   go_upto_region 6 with (first
    | fail
    | ((with_reducible refine gate_dst (N := 2) rfl ?_); refine own_alloc H0.out rfl (N := 2) rfl (t := 108) rfl (#[.int .u64 0, .int .u64 0, .slice none 0 0]) 3 (by kernel_rfl) ?_; intro g2 w1 H1 B1; replace H1 := Aside0.mk H1; replace B1 := Aside0.mk B1)
    | (go_at_call 106; ( refine (HD.out _ H1.out.below).mono ?_; rintro e' wd ⟨v1, v2, rfl, hB3, hv1, A2, c2, rfl, hc2, hR2⟩; have HBD := Aside0.mk hB3; have H3 := Aside0.mk (Own.start wd); replace hR2 := Aside0.mk hR2; clear hB3))
    | ((with_reducible refine gate_dst (N := 4) rfl ?_); refine own_alloc H3.out rfl (N := 4) rfl (t := 159) rfl (#[.bool false, .slice none 0 0, .slice none 0 0]) 3 (by kernel_rfl) ?_; intro g4 w4 H4 B4; replace H4 := Aside0.mk H4; replace B4 := Aside0.mk B4)
    | ((with_reducible refine gate_store (t := 159) (p := 4) rfl ?_); ( have HX3 : Aside0 (Arr 3 #[.bool false, v1, .slice A2 n2 c2]) := ⟨arr3_ hv1⟩; refine own_store H4.out 0 g4 _ 159 rfl rfl (.tmp 4) (.tmp 17) rfl #[.bool false, v1, .slice A2 n2 c2] (by rfl) (by rfl) 3 HZ3.out HX3.out (by kernel_rfl) ?_; intro w5 H5; replace H5 := Aside0.mk H5))
    | ((with_reducible refine gate_dst (N := 24) rfl ?_); ( refine own_ld1 H5.out 0 g4 _ _ rfl rfl 157 (.tmp 23) rfl 2 (.slice A2 n2 c2) _ rfl rfl Try.underlying157 rfl ?_))
    | ((with_reducible refine gate_dst (N := 6) rfl ?_); ( refine own_alloc1 H5.out rfl (N := 6) rfl (t := 157) rfl (.slice none 0 0) rfl (by kernel_rfl) ?_; intro g6 w6 H6 B6; replace H6 := Aside0.mk H6; replace B6 := Aside0.mk B6))
    | ((with_reducible refine gate_store (t := 157) (p := 6) rfl ?_); ( refine own_st H6.out 0 g6 _ (#[.slice A2 n2 c2]) 157 (by rfl) rfl 157 (.tmp 6) _ rfl 0 [.slice A2 n2 c2] (.slice A2 n2 c2) (by rfl) (by rfl) (by rfl) (by simp) (by kernel_rfl) (by simp [Value.oneCell']) (by rfl) ?_; intro w7 H7; replace H7 := Aside0.mk H7))
    )
   have H8 := Aside0.mk (H1.out.step (below_step HBD.out H7.out.below))
   go_wp2_with (first
    | fail
    | ((with_reducible refine gate_dst (N := 27) rfl ?_); ( refine own_ld1 H7.out 1 g4 _ _ rfl rfl 4 (.tmp 26) rfl 0 (.bool false) _ rfl rfl Try.underlying4 rfl ?_))
    | ((with_reducible refine gate_dst (N := 30) rfl ?_); (refine gate_guard (by rfl) ?_); ( refine own_ld1 H7.out 0 g6 _ _ rfl rfl 157 (.tmp 6) rfl 0 (.slice A2 n2 c2) _ rfl rfl Try.underlying157 rfl ?_))
    | ((with_reducible refine own_store H8.out 0 g2 _ 108 rfl rfl (.tmp 2) (.tmp 34) rfl (#[.int .u64 0, .int .u64 0, .slice none 0 0]) ?_ ?_ 3 HZB.out HZB.out (by kernel_rfl) ?_); (case _ => rfl); (case _ => rfl); intro w9 H9; replace H9 := Aside0.mk H9)
    )
   refine bodyPost_ret (own_resultV_t rfl _ H9.out 0 g2 _ rfl rfl _ Try.underlying108 rfl (by kernel_rfl) _ rfl) rfl ?_
   exact ⟨_, rfl, (H9.out.erase 0).null kL _⟩
  ·
   obtain rfl : r = (zeroBt, 8) := HR.out.trans (shapeB_bad (by first | exact Or.inl rfl | exact Or.inr hl))
   clear HR hbi
   go_enter Try.func55, Try.ntmps55
   go_upto_region 6 with (first
    | fail
    | ((with_reducible refine gate_dst (N := 2) rfl ?_); refine own_alloc H0.out rfl (N := 2) rfl (t := 108) rfl (#[.int .u64 0, .int .u64 0, .slice none 0 0]) 3 (by kernel_rfl) ?_; intro g2 w1 H1 B1; replace H1 := Aside0.mk H1; replace B1 := Aside0.mk B1)
    | (go_at_call 106; ( refine (HD.out _ H1.out.below).mono ?_; rintro e' wd ⟨v1, v2, rfl, hB3, hv1, A2, c2, rfl, hc2, hR2⟩; have HBD := Aside0.mk hB3; have H3 := Aside0.mk (Own.start wd); replace hR2 := Aside0.mk hR2; clear hB3))
    | ((with_reducible refine gate_dst (N := 4) rfl ?_); refine own_alloc H3.out rfl (N := 4) rfl (t := 159) rfl (#[.bool false, .slice none 0 0, .slice none 0 0]) 3 (by kernel_rfl) ?_; intro g4 w4 H4 B4; replace H4 := Aside0.mk H4; replace B4 := Aside0.mk B4)
    | ((with_reducible refine gate_store (t := 159) (p := 4) rfl ?_); ( have HX3 : Aside0 (Arr 3 #[.bool true, v1, .slice A2 n2 c2]) := ⟨arr3_ hv1⟩; refine own_store H4.out 0 g4 _ 159 rfl rfl (.tmp 4) (.tmp 17) rfl #[.bool true, v1, .slice A2 n2 c2] (by rfl) (by rfl) 3 HZ3.out HX3.out (by kernel_rfl) ?_; intro w5 H5; replace H5 := Aside0.mk H5))
    | ((with_reducible refine gate_dst (N := 24) rfl ?_); ( refine own_ld1 H5.out 0 g4 _ _ rfl rfl 157 (.tmp 23) rfl 2 (.slice A2 n2 c2) _ rfl rfl Try.underlying157 rfl ?_))
    | ((with_reducible refine gate_dst (N := 6) rfl ?_); ( refine own_alloc1 H5.out rfl (N := 6) rfl (t := 157) rfl (.slice none 0 0) rfl (by kernel_rfl) ?_; intro g6 w6 H6 B6; replace H6 := Aside0.mk H6; replace B6 := Aside0.mk B6))
    | ((with_reducible refine gate_store (t := 157) (p := 6) rfl ?_); ( refine own_st H6.out 0 g6 _ (#[.slice A2 n2 c2]) 157 (by rfl) rfl 157 (.tmp 6) _ rfl 0 [.slice A2 n2 c2] (.slice A2 n2 c2) (by rfl) (by rfl) (by rfl) (by simp) (by kernel_rfl) (by simp [Value.oneCell']) (by rfl) ?_; intro w7 H7; replace H7 := Aside0.mk H7))
    )
   have H8 := Aside0.mk (H1.out.step (below_step HBD.out H7.out.below))
   go_wp2_with (first
    | fail
    | ((with_reducible refine gate_dst (N := 27) rfl ?_); ( refine own_ld1 H7.out 1 g4 _ _ rfl rfl 4 (.tmp 26) rfl 0 (.bool true) _ rfl rfl Try.underlying4 rfl ?_))
    | ((with_reducible refine gate_dst (N := 30) rfl ?_); (refine gate_guard (by rfl) ?_); ( refine own_ld1 H7.out 0 g6 _ _ rfl rfl 157 (.tmp 6) rfl 0 (.slice A2 n2 c2) _ rfl rfl Try.underlying157 rfl ?_))
    | ((with_reducible refine own_store H8.out 0 g2 _ 108 rfl rfl (.tmp 2) (.tmp 34) rfl (#[.int .u64 0, .int .u64 0, .slice none 0 0]) ?_ ?_ 3 HZB.out HZB.out (by kernel_rfl) ?_); (case _ => rfl); (case _ => rfl); intro w9 H9; replace H9 := Aside0.mk H9)
    )
   refine bodyPost_ret (own_resultV_t rfl _ H9.out 0 g2 _ rfl rfl _ Try.underlying108 rfl (by kernel_rfl) _ rfl) rfl ?_
   exact ⟨_, rfl, (H9.out.erase 0).null kL _⟩
 cases f0
 ·
  rw [hl] at HD
  obtain rfl : r = (zeroBt, 8) := HR.out.trans (shapeB_bad (by first | exact Or.inl rfl | exact Or.inr hl))
  clear HR hbi
  go_enter Try.func55, Try.ntmps55
  go_upto_region 6 with (first
   | fail
   | ((with_reducible refine gate_dst (N := 2) rfl ?_); refine own_alloc H0.out rfl (N := 2) rfl (t := 108) rfl (#[.int .u64 0, .int .u64 0, .slice none 0 0]) 3 (by kernel_rfl) ?_; intro g2 w1 H1 B1; replace H1 := Aside0.mk H1; replace B1 := Aside0.mk B1)
   | (go_at_call 106; ( refine (HD.out _ H1.out.below).mono ?_; rintro e' wd ⟨v1, v2, rfl, hB3, hv1, A2, c2, rfl, hc2, hR2⟩; have HBD := Aside0.mk hB3; have H3 := Aside0.mk (Own.start wd); replace hR2 := Aside0.mk hR2; clear hB3))
   | ((with_reducible refine gate_dst (N := 4) rfl ?_); refine own_alloc H3.out rfl (N := 4) rfl (t := 159) rfl (#[.bool false, .slice none 0 0, .slice none 0 0]) 3 (by kernel_rfl) ?_; intro g4 w4 H4 B4; replace H4 := Aside0.mk H4; replace B4 := Aside0.mk B4)
   | ((with_reducible refine gate_store (t := 159) (p := 4) rfl ?_); ( have HX3 : Aside0 (Arr 3 #[.bool false, v1, .slice A2 3 c2]) := ⟨arr3_ hv1⟩; refine own_store H4.out 0 g4 _ 159 rfl rfl (.tmp 4) (.tmp 17) rfl #[.bool false, v1, .slice A2 3 c2] (by rfl) (by rfl) 3 HZ3.out HX3.out (by kernel_rfl) ?_; intro w5 H5; replace H5 := Aside0.mk H5))
   | ((with_reducible refine gate_dst (N := 24) rfl ?_); ( refine own_ld1 H5.out 0 g4 _ _ rfl rfl 157 (.tmp 23) rfl 2 (.slice A2 3 c2) _ rfl rfl Try.underlying157 rfl ?_))
   | ((with_reducible refine gate_dst (N := 6) rfl ?_); ( refine own_alloc1 H5.out rfl (N := 6) rfl (t := 157) rfl (.slice none 0 0) rfl (by kernel_rfl) ?_; intro g6 w6 H6 B6; replace H6 := Aside0.mk H6; replace B6 := Aside0.mk B6))
   | ((with_reducible refine gate_store (t := 157) (p := 6) rfl ?_); ( refine own_st H6.out 0 g6 _ (#[.slice A2 3 c2]) 157 (by rfl) rfl 157 (.tmp 6) _ rfl 0 [.slice A2 3 c2] (.slice A2 3 c2) (by rfl) (by rfl) (by rfl) (by simp) (by kernel_rfl) (by simp [Value.oneCell']) (by rfl) ?_; intro w7 H7; replace H7 := Aside0.mk H7))
   )
  have H8 := Aside0.mk (H1.out.step (below_step HBD.out H7.out.below))
  go_wp2_with (first
   | fail
   | ((with_reducible refine gate_dst (N := 27) rfl ?_); ( refine own_ld1 H7.out 1 g4 _ _ rfl rfl 4 (.tmp 26) rfl 0 (.bool false) _ rfl rfl Try.underlying4 rfl ?_))
   | ((with_reducible refine gate_dst (N := 30) rfl ?_); (refine gate_guard (by rfl) ?_); ( refine own_ld1 H7.out 0 g6 _ _ rfl rfl 157 (.tmp 6) rfl 0 (.slice A2 3 c2) _ rfl rfl Try.underlying157 rfl ?_))
   | ((with_reducible refine own_store H8.out 0 g2 _ 108 rfl rfl (.tmp 2) (.tmp 34) rfl (#[.int .u64 0, .int .u64 0, .slice none 0 0]) ?_ ?_ 3 HZB.out HZB.out (by kernel_rfl) ?_); (case _ => rfl); (case _ => rfl); intro w9 H9; replace H9 := Aside0.mk H9)
   )
  refine bodyPost_ret (own_resultV_t rfl _ H9.out 0 g2 _ rfl rfl _ Try.underlying108 rfl (by kernel_rfl) _ rfl) rfl ?_
  exact ⟨_, rfl, (H9.out.erase 0).null kL _⟩
 obtain ⟨y0, y1, y2, rfl⟩ : ∃ y0 y1 y2, f2 = [y0, y1, y2] := by
  match f2, hl with
  | [a, b, c], _ => exact ⟨a, b, c, rfl⟩
 replace HR : Aside0 (r = itemsB y0 y1 y2) := ⟨HR.out⟩
 have hb0 := BytI_f1 (BytI_f2 hbi y0 (by simp))
 have hb1 := BytI_f1 (BytI_f2 hbi y1 (by simp))
 clear hbi hl
 go_enter Try.func55, Try.ntmps55
 go_upto_region 6 with (first
  | fail
  | ((with_reducible refine gate_dst (N := 2) rfl ?_); refine own_alloc H0.out rfl (N := 2) rfl (t := 108) rfl (#[.int .u64 0, .int .u64 0, .slice none 0 0]) 3 (by kernel_rfl) ?_; intro g2 w1 H1 B1; replace H1 := Aside0.mk H1; replace B1 := Aside0.mk B1)
  | (go_at_call 106; ( refine (HD.out _ H1.out.below).mono ?_; rintro e' wd ⟨v1, v2, rfl, hB3, hv1, A2, c2, rfl, hc2, hR2⟩; have HBD := Aside0.mk hB3; have H3 := Aside0.mk (Own.start wd); replace hR2 := Aside0.mk hR2; clear hB3))
  | ((with_reducible refine gate_dst (N := 4) rfl ?_); refine own_alloc H3.out rfl (N := 4) rfl (t := 159) rfl (#[.bool false, .slice none 0 0, .slice none 0 0]) 3 (by kernel_rfl) ?_; intro g4 w4 H4 B4; replace H4 := Aside0.mk H4; replace B4 := Aside0.mk B4)
  | ((with_reducible refine gate_store (t := 159) (p := 4) rfl ?_); ( have HX3 : Aside0 (Arr 3 #[.bool true, v1, .slice A2 3 c2]) := ⟨arr3_ hv1⟩; refine own_store H4.out 0 g4 _ 159 rfl rfl (.tmp 4) (.tmp 17) rfl #[.bool true, v1, .slice A2 3 c2] (by rfl) (by rfl) 3 HZ3.out HX3.out (by kernel_rfl) ?_; intro w5 H5; replace H5 := Aside0.mk H5))
  | ((with_reducible refine gate_dst (N := 24) rfl ?_); ( refine own_ld1 H5.out 0 g4 _ _ rfl rfl 157 (.tmp 23) rfl 2 (.slice A2 3 c2) _ rfl rfl Try.underlying157 rfl ?_))
  | ((with_reducible refine gate_dst (N := 6) rfl ?_); ( refine own_alloc1 H5.out rfl (N := 6) rfl (t := 157) rfl (.slice none 0 0) rfl (by kernel_rfl) ?_; intro g6 w6 H6 B6; replace H6 := Aside0.mk H6; replace B6 := Aside0.mk B6))
  | ((with_reducible refine gate_store (t := 157) (p := 6) rfl ?_); ( refine own_st H6.out 0 g6 _ (#[.slice A2 3 c2]) 157 (by rfl) rfl 157 (.tmp 6) _ rfl 0 [.slice A2 3 c2] (.slice A2 3 c2) (by rfl) (by rfl) (by rfl) (by simp) (by kernel_rfl) (by simp [Value.oneCell']) (by rfl) ?_; intro w7 H7; replace H7 := Aside0.mk H7))
  )
 obtain ⟨gI, cap, a1, d1, a2, d2, he, hcap, q1, q2, q3, q4, hcl0⟩ := R_item hR2.out 0 (by simp)
 injection he with he1 he2 he3
 subst he1 he3
 obtain ⟨_, _, b1, e1, b2, e2, he, _, p1, p2, p3, p4, hcl1⟩ := R_item hR2.out 1 (by simp)
 injection he with he1 he2 he3
 injection he1 with he1
 injection he1 with he1
 subst he1 he3
 obtain ⟨_, _, f1', g1', f2', g2', he, _, s1, s2, s3, s4, hcl2⟩ := R_item hR2.out 2 (by simp)
 injection he with he1 he2 he3
 injection he1 with he1
 injection he1 with he1
 subst he1 he3
 simp only [List.getElem_cons_zero, List.getElem_cons_succ, Nat.zero_mul, Nat.one_mul, Nat.zero_add] at *
 have HCL0 := Aside0.mk hcl0
 have HCL1 := Aside0.mk hcl1
 have HCL2 := Aside0.mk hcl2
 have HN0 : Aside0 (∀ W, Below wd.heap.size wd W → Calls Try.prog 108 #[.agg #[.bool y0.f0, .slice a1 y0.f1.length d1, .slice a2 y0.f2.length d2]] W fun e w' => e = .returned (.tuple #[.int .u64 (K.rnumP y0).1, .int .i64 (K.rnumP y0).2]) ∧ Below W.heap.size W w') := ⟨fun W h => by
  obtain ⟨_, _, x1, _, x3⟩ := Kd.R_reads q1
  injection x1 with x1 _ _
  subst x1
  obtain ⟨_, _, x1, _, x4⟩ := Kd.R_reads q2
  injection x1 with x1 _ _
  subst x1
  exact readnum_any y0 hb0 _ d1 _ d2 W (Kd.C_below x3 h) q3 (Kd.C_below x4 h) q4⟩
 have HN1 : Aside0 (∀ W, Below wd.heap.size wd W → Calls Try.prog 108 #[.agg #[.bool y1.f0, .slice b1 y1.f1.length e1, .slice b2 y1.f2.length e2]] W fun e w' => e = .returned (.tuple #[.int .u64 (K.rnumP y1).1, .int .i64 (K.rnumP y1).2]) ∧ Below W.heap.size W w') := ⟨fun W h => by
  obtain ⟨_, _, x1, _, x3⟩ := Kd.R_reads p1
  injection x1 with x1 _ _
  subst x1
  obtain ⟨_, _, x1, _, x4⟩ := Kd.R_reads p2
  injection x1 with x1 _ _
  subst x1
  exact readnum_any y1 hb1 _ e1 _ e2 W (Kd.C_below x3 h) p3 (Kd.C_below x4 h) p4⟩
 have HS2 := Aside0.mk s2
 unfold itemsB at HR
 clear hb0 hb1 hcl0 hcl1 hcl2 q1 q2 q3 q4 p1 p2 p3 p4 s1 s2 s3 hR2 HD B4 B6 H3 H4 H5 H6
 generalize y0.f1.length = x1 at *
 generalize y0.f2.length = x2 at *
 generalize y1.f1.length = x3 at *
 generalize y1.f2.length = x4 at *
 generalize y2.f1.length = x5 at *
 generalize K.rnumP y0 = rn0 at *
 generalize K.rnumP y1 = rn1 at *
 obtain ⟨n0, er0⟩ := rn0
 obtain ⟨n1, er1⟩ := rn1
 dsimp only at HR HN0 HN1
 go_wp2_with (first
  | fail
  | ((with_reducible refine gate_dst (N := 27) rfl ?_); ( refine own_ld1 H7.out 1 g4 _ _ rfl rfl 4 (.tmp 26) rfl 0 (.bool true) _ rfl rfl Try.underlying4 rfl ?_))
  | ((with_reducible refine gate_dst (N := 30) rfl ?_); (refine gate_guard (by rfl) ?_); ( refine own_ld1 H7.out 0 g6 _ _ rfl rfl 157 (.tmp 6) rfl 0 (.slice (some ⟨gI, 0, none⟩) 3 c2) _ rfl rfl Try.underlying157 rfl ?_))
  | ((with_reducible refine gate_dst (N := 8) rfl ?_); refine own_alloc H7.out rfl (N := 8) rfl (t := 108) rfl (#[.int .u64 0, .int .u64 0, .slice none 0 0]) 3 (by kernel_rfl) ?_; intro g8 w8 H8 B8; replace H8 := Aside0.mk H8; replace B8 := Aside0.mk B8)
  )
 have hc0 : 3 ≤ c2 := hc2
 replace H8 : Aside0 (Own wd.heap.size wd w8 [.blk g8 (stB n0 n1 0) 108, .blk g6 #[.slice (some ⟨gI, 3 * 0, none⟩) (3 - 0) c2] 157, .blk g4 #[.bool true, v1, .slice (some ⟨gI, 0, none⟩) 3 c2] 159]) := ⟨H8.out⟩
 clear hc2 hcap H7 H0 B8
 go_loopw [38] (fun v38 wr => ∃ (i c' : Nat), i ≤ 2 ∧ v38 = .int .i64 (i : Int) ∧ 3 - i ≤ c' ∧ Aside0 ((1 ≤ i → er0 = 0) ∧ (2 ≤ i → er1 = 0)) ∧ Aside0 (Own wd.heap.size wd wr [.blk g8 (stB n0 n1 i) 108, .blk g6 #[.slice (some ⟨gI, 3 * i, none⟩) (3 - i) c'] 157, .blk g4 #[.bool true, v1, .slice (some ⟨gI, 0, none⟩) 3 c2] 159])) (fun v38 _ => 2 - (intOf v38).toNat)
 case atStart => exact ⟨0, c2, by decide, rfl, hc0, ⟨fun h => by omega, fun h => by omega⟩, H8⟩
 case round =>
  clear H8 hc0
  obtain ⟨i, c', hi, rfl, hc', HE, HI⟩ := hrel
  have hix0 : ∀ W : World, (Instr.index 169 (.agg #[.pointer (some ⟨g8, 0, none⟩), .pointer (some ⟨g8, 1, none⟩)]) (.int .i64 0)).run Try.prog W = .ok (.pointer (some ⟨g8, 0, none⟩)) W := fun W => run_index_ptr _ _ _ _ Try.underlying169 Try.underlying168 (by kernel_rfl) _ 0 (by decide) rfl W
  have hix1 : ∀ W : World, (Instr.index 169 (.agg #[.pointer (some ⟨g8, 0, none⟩), .pointer (some ⟨g8, 1, none⟩)]) (.int .i64 1)).run Try.prog W = .ok (.pointer (some ⟨g8, 1, none⟩)) W := fun W => run_index_ptr _ _ _ _ Try.underlying169 Try.underlying168 (by kernel_rfl) _ 1 (by decide) rfl W
  obtain rfl | rfl | rfl : i = 0 ∨ i = 1 ∨ i = 2 := by omega
  ·
   have HC := Aside0.mk (next_any y0.f0 (.slice a1 x1 d1) (.slice a2 x2 d2) rfl rfl gI 0 g6 3 c' (HI.out.bring 1 rfl) (fun j u hj => by have h := pw_cell_below HI.out.below (HCL0.out j u hj); first | exact h | (rw [Nat.zero_add]; exact h)) (by decide) hc')
   rw [if_neg (by omega)] at HC
   by_cases hz : er0 = 0
   ·have hzb : (er0 != 0) = false := by simp [hz]
    replace hz := Aside0.mk hz
    go_wp2_with (first
     | fail
     | (go_at_call 107; ( refine HC.out.mono ?_; rintro e w5 ⟨rfl, H5⟩; replace H5 := Aside0.mk H5))
     | (go_at_call 108; ( refine (HN0.out _ H5.out.below).mono ?_; rintro e w6 ⟨rfl, hB6⟩; have H6 := Aside0.mk (H5.out.step hB6); clear hB6))
     | ((with_reducible refine gate_store (t := 23) (p := 48) rfl ?_); ( refine own_st H6.out 1 g8 _ (#[.int .u64 n0, .int .u64 0, .slice none 0 0]) 108 (by rfl) rfl 23 (.tmp 48) _ rfl 0 [.int .u64 n0] (.int .u64 n0) (by rfl) (by rfl) (by rfl) (by simp [stB]) (by kernel_rfl) (by simp [Value.oneCell']) (by rfl) ?_; intro w7 H7; replace H7 := Aside0.mk H7))
     )
    go_roundw
    case rel => exact ⟨0 + 1, c' - 1, by decide, rfl, by omega, ⟨fun _ => hz.out, fun h => absurd h (by decide)⟩, ⟨H7.out.bring 1 rfl⟩⟩
    case measure => simp [intOf]
   ·have hzb : (er0 != 0) = true := by simpa using hz
    obtain rfl : r = (zeroBt, 8) := by rw [HR.out, if_neg (by rintro ⟨h1, h2, _⟩; first | exact hz h1 | exact hz h2)]
    clear HR
    go_upto_if 50 with (first
     | fail
     | (go_at_call 107; ( refine HC.out.mono ?_; rintro e w5 ⟨rfl, H5⟩; replace H5 := Aside0.mk H5))
     | (go_at_call 108; ( refine (HN0.out _ H5.out.below).mono ?_; rintro e w6 ⟨rfl, hB6⟩; have H6 := Aside0.mk (H5.out.step hB6); clear hB6))
     | ((with_reducible refine gate_store (t := 23) (p := 48) rfl ?_); ( refine own_st H6.out 1 g8 _ (#[.int .u64 n0, .int .u64 0, .slice none 0 0]) 108 (by rfl) rfl 23 (.tmp 48) _ rfl 0 [.int .u64 n0] (.int .u64 n0) (by rfl) (by rfl) (by rfl) (by simp [stB]) (by kernel_rfl) (by simp [Value.oneCell']) (by rfl) ?_; intro w7 H7; replace H7 := Aside0.mk H7))
     )
    have H8 := Aside0.mk (H1.out.step (below_step HBD.out H7.out.below))
    go_wp2_with (first
     | fail
     | ((with_reducible refine own_store H8.out 0 g2 _ 108 rfl rfl (.tmp 2) (.tmp 51) rfl (#[.int .u64 0, .int .u64 0, .slice none 0 0]) ?_ ?_ 3 HZB.out HZB.out (by kernel_rfl) ?_); (case _ => rfl); (case _ => rfl); intro w9 H9; replace H9 := Aside0.mk H9)
     )
    refine bodyPost_ret (own_resultV_t rfl _ H9.out 0 g2 _ rfl rfl _ Try.underlying108 rfl (by kernel_rfl) _ rfl) rfl ?_
    exact ⟨_, rfl, (H9.out.erase 0).null kL _⟩
  ·
   have HC := Aside0.mk (next_any y1.f0 (.slice b1 x3 e1) (.slice b2 x4 e2) rfl rfl gI 3 g6 2 c' (HI.out.bring 1 rfl) (fun j u hj => by have h := pw_cell_below HI.out.below (HCL1.out j u hj); first | exact h | (rw [Nat.zero_add]; exact h)) (by decide) hc')
   rw [if_neg (by omega)] at HC
   by_cases hz : er1 = 0
   ·have hzb : (er1 != 0) = false := by simp [hz]
    replace hz := Aside0.mk hz
    go_wp2_with (first
     | fail
     | (go_at_call 107; ( refine HC.out.mono ?_; rintro e w5 ⟨rfl, H5⟩; replace H5 := Aside0.mk H5))
     | (go_at_call 108; ( refine (HN1.out _ H5.out.below).mono ?_; rintro e w6 ⟨rfl, hB6⟩; have H6 := Aside0.mk (H5.out.step hB6); clear hB6))
     | ((with_reducible refine gate_store (t := 23) (p := 48) rfl ?_); ( refine own_st H6.out 1 g8 _ (#[.int .u64 n0, .int .u64 n1, .slice none 0 0]) 108 (by rfl) rfl 23 (.tmp 48) _ rfl 1 [.int .u64 n1] (.int .u64 n1) (by rfl) (by rfl) (by rfl) (by simp [stB]) (by kernel_rfl) (by simp [Value.oneCell']) (by rfl) ?_; intro w7 H7; replace H7 := Aside0.mk H7))
     )
    go_roundw
    case rel => exact ⟨1 + 1, c' - 1, by decide, rfl, by omega, ⟨fun _ => HE.out.1 (by decide), fun _ => hz.out⟩, ⟨H7.out.bring 1 rfl⟩⟩
    case measure => simp [intOf]
   ·have hzb : (er1 != 0) = true := by simpa using hz
    obtain rfl : r = (zeroBt, 8) := by rw [HR.out, if_neg (by rintro ⟨h1, h2, _⟩; first | exact hz h1 | exact hz h2)]
    clear HR
    go_upto_if 50 with (first
     | fail
     | (go_at_call 107; ( refine HC.out.mono ?_; rintro e w5 ⟨rfl, H5⟩; replace H5 := Aside0.mk H5))
     | (go_at_call 108; ( refine (HN1.out _ H5.out.below).mono ?_; rintro e w6 ⟨rfl, hB6⟩; have H6 := Aside0.mk (H5.out.step hB6); clear hB6))
     | ((with_reducible refine gate_store (t := 23) (p := 48) rfl ?_); ( refine own_st H6.out 1 g8 _ (#[.int .u64 n0, .int .u64 n1, .slice none 0 0]) 108 (by rfl) rfl 23 (.tmp 48) _ rfl 1 [.int .u64 n1] (.int .u64 n1) (by rfl) (by rfl) (by rfl) (by simp [stB]) (by kernel_rfl) (by simp [Value.oneCell']) (by rfl) ?_; intro w7 H7; replace H7 := Aside0.mk H7))
     )
    have H8 := Aside0.mk (H1.out.step (below_step HBD.out H7.out.below))
    go_wp2_with (first
     | fail
     | ((with_reducible refine own_store H8.out 0 g2 _ 108 rfl rfl (.tmp 2) (.tmp 51) rfl (#[.int .u64 0, .int .u64 0, .slice none 0 0]) ?_ ?_ 3 HZB.out HZB.out (by kernel_rfl) ?_); (case _ => rfl); (case _ => rfl); intro w9 H9; replace H9 := Aside0.mk H9)
     )
    refine bodyPost_ret (own_resultV_t rfl _ H9.out 0 g2 _ rfl rfl _ Try.underlying108 rfl (by kernel_rfl) _ rfl) rfl ?_
    exact ⟨_, rfl, (H9.out.erase 0).null kL _⟩
  have hN := Aside0.mk (next_any y2.f0 (.slice f1' x5 g1') (.slice f2' y2.f2.length g2') rfl rfl gI 6 g6 1 c' (HI.out.bring 1 rfl) (fun j u hj => pw_cell_below HI.out.below (HCL2.out j u hj)) (by decide) hc')
  obtain ⟨he0, he1⟩ := HE.out
  replace he0 : er0 = 0 := he0 (by decide)
  replace he1 : er1 = 0 := he1 (by decide)
  subst he0 he1
  obtain ⟨n5, hn5⟩ : ∃ n5, n5 = y2.f2.length := ⟨_, rfl⟩
  have HN5 := Aside0.mk hn5
  rw [← hn5] at hN HS2 s4
  rw [← hn5] at HCL2
  clear hn5 HE HI HCL0 HCL1 HN0 HN1 hix0 hix1
  have hdl2 : decide ((2 : Int) < 2) = false := by decide
  obtain ⟨Ax, hN⟩ : ∃ Ax, Aside0 (Calls Try.prog 107 #[.pointer (some ⟨g6, 0, none⟩)] wr fun e w' => e = .returned (.agg #[.bool y2.f0, .slice f1' x5 g1', .slice f2' n5 g2']) ∧ Own wd.heap.size wd w' [.blk g6 #[.slice Ax 0 (c' - 1)] 157, .blk g8 #[.int .u64 n0, .int .u64 n1, .slice none 0 0] 108, .blk g4 #[.bool true, v1, .slice (some ⟨gI, 0, none⟩) 3 c2] 159]) := ⟨_, hN⟩
  generalize y2.f0 = b2 at *
  have HX5 : Aside0 (Arr 3 #[.bool b2, .slice f1' x5 g1', .slice f2' n5 g2']) := ⟨arr3_ rfl⟩
  clear hc' hi
  cases b2
  ·
   obtain rfl : r = (zeroBt, 8) := by rw [HR.out, if_neg (by rintro ⟨_, _, h, _⟩; cases h)]
   clear HR
   go_upto_if 63 with (first
    | fail
    | (go_at_call 107; ( refine hN.out.mono ?_; rintro e w5 ⟨rfl, H5⟩; replace H5 := Aside0.mk H5))
    | ((with_reducible refine gate_dst (N := 11) rfl ?_); refine own_alloc H5.out rfl (N := 11) rfl (t := 159) rfl (#[.bool false, .slice none 0 0, .slice none 0 0]) 3 (by kernel_rfl) ?_; intro g11 w6 H6 B6; replace H6 := Aside0.mk H6; replace B6 := Aside0.mk B6)
    | ((with_reducible refine own_store H6.out 0 g11 _ 159 rfl rfl (.tmp 11) (.tmp 54) rfl (#[.bool false, .slice f1' x5 g1', .slice f2' n5 g2']) ?_ ?_ 3 HZ3.out HX5.out (by kernel_rfl) ?_); (case _ => rfl); (case _ => rfl); intro w7 H7; replace H7 := Aside0.mk H7)
    | ((with_reducible refine gate_dst (N := 56) rfl ?_); ( refine own_ld1 H7.out 0 g11 _ _ rfl rfl 4 (.tmp 55) rfl 0 (.bool false) _ rfl rfl Try.underlying4 rfl ?_))
    | ((with_reducible refine gate_dst (N := 60) rfl ?_); (refine gate_guard (by rfl) ?_); ( refine own_ld1 H7.out 0 g11 _ _ rfl rfl 157 (.tmp 59) rfl 2 (.slice f2' n5 g2') _ rfl rfl Try.underlying157 rfl ?_))
    | ((with_reducible refine gate_dst (N := 66) rfl ?_); ( refine own_ld1 H7.out 0 g11 _ _ rfl rfl 157 (.tmp 65) rfl 2 (.slice f2' n5 g2') _ rfl rfl Try.underlying157 rfl ?_))
    )
   have H8 := Aside0.mk (H1.out.step (below_step HBD.out H7.out.below))
   go_wp2_with (first
    | fail
    | ((with_reducible refine own_store H8.out 0 g2 _ 108 rfl rfl (.tmp 2) (.tmp 64) rfl (#[.int .u64 0, .int .u64 0, .slice none 0 0]) ?_ ?_ 3 HZB.out HZB.out (by kernel_rfl) ?_); (case _ => rfl); (case _ => rfl); intro w9 H9; replace H9 := Aside0.mk H9)
    )
   refine bodyPost_ret (own_resultV_t rfl _ H9.out 0 g2 _ rfl rfl _ Try.underlying108 rfl (by kernel_rfl) _ rfl) rfl ?_
   exact ⟨_, rfl, (H9.out.erase 0).null kL _⟩
  by_cases hbig : n5 ≤ 4096
  case neg =>
   have hdb : decide (4096 < (n5 : Int)) = true := decide_eq_true (by omega)
   obtain rfl : r = (zeroBt, 8) := by rw [HR.out, if_neg (by rintro ⟨_, _, _, h, _⟩; rw [← HN5.out] at h; exact hbig h)]
   clear HR
   go_upto_if 63 with (first
    | fail
    | (go_at_call 107; ( refine hN.out.mono ?_; rintro e w5 ⟨rfl, H5⟩; replace H5 := Aside0.mk H5))
    | ((with_reducible refine gate_dst (N := 11) rfl ?_); refine own_alloc H5.out rfl (N := 11) rfl (t := 159) rfl (#[.bool false, .slice none 0 0, .slice none 0 0]) 3 (by kernel_rfl) ?_; intro g11 w6 H6 B6; replace H6 := Aside0.mk H6; replace B6 := Aside0.mk B6)
    | ((with_reducible refine own_store H6.out 0 g11 _ 159 rfl rfl (.tmp 11) (.tmp 54) rfl (#[.bool true, .slice f1' x5 g1', .slice f2' n5 g2']) ?_ ?_ 3 HZ3.out HX5.out (by kernel_rfl) ?_); (case _ => rfl); (case _ => rfl); intro w7 H7; replace H7 := Aside0.mk H7)
    | ((with_reducible refine gate_dst (N := 56) rfl ?_); ( refine own_ld1 H7.out 0 g11 _ _ rfl rfl 4 (.tmp 55) rfl 0 (.bool true) _ rfl rfl Try.underlying4 rfl ?_))
    | ((with_reducible refine gate_dst (N := 60) rfl ?_); (refine gate_guard (by rfl) ?_); ( refine own_ld1 H7.out 0 g11 _ _ rfl rfl 157 (.tmp 59) rfl 2 (.slice f2' n5 g2') _ rfl rfl Try.underlying157 rfl ?_))
    | ((with_reducible refine gate_dst (N := 66) rfl ?_); ( refine own_ld1 H7.out 0 g11 _ _ rfl rfl 157 (.tmp 65) rfl 2 (.slice f2' n5 g2') _ rfl rfl Try.underlying157 rfl ?_))
    )
   have H8 := Aside0.mk (H1.out.step (below_step HBD.out H7.out.below))
   go_wp2_with (first
    | fail
    | ((with_reducible refine own_store H8.out 0 g2 _ 108 rfl rfl (.tmp 2) (.tmp 64) rfl (#[.int .u64 0, .int .u64 0, .slice none 0 0]) ?_ ?_ 3 HZB.out HZB.out (by kernel_rfl) ?_); (case _ => rfl); (case _ => rfl); intro w9 H9; replace H9 := Aside0.mk H9)
    )
   refine bodyPost_ret (own_resultV_t rfl _ H9.out 0 g2 _ rfl rfl _ Try.underlying108 rfl (by kernel_rfl) _ rfl) rfl ?_
   exact ⟨_, rfl, (H9.out.erase 0).null kL _⟩
  have hdb : decide (4096 < (n5 : Int)) = false := decide_eq_false (by omega)
  replace HR : Aside0 (r = if (y2.f2.all fun y => !y.f0) = true then (⟨n0, n1, y2.f2.map fun y => y.f1⟩, 0) else (zeroBt, 8)) := ⟨by
   rw [HR.out]
   by_cases h : (y2.f2.all fun y => !y.f0) = true
   ·rw [if_pos ⟨rfl, rfl, rfl, by rw [← HN5.out]; exact hbig, h⟩, if_pos h]
   ·rw [if_neg (by rintro ⟨_, _, _, _, h'⟩; exact h h'), if_neg h]⟩
  go_wp2_with (first
   | fail
   | (go_at_call 107; ( refine hN.out.mono ?_; rintro e w5 ⟨rfl, H5⟩; replace H5 := Aside0.mk H5))
   | ((with_reducible refine gate_dst (N := 11) rfl ?_); refine own_alloc H5.out rfl (N := 11) rfl (t := 159) rfl (#[.bool false, .slice none 0 0, .slice none 0 0]) 3 (by kernel_rfl) ?_; intro g11 w6 H6 B6; replace H6 := Aside0.mk H6; replace B6 := Aside0.mk B6)
   | ((with_reducible refine own_store H6.out 0 g11 _ 159 rfl rfl (.tmp 11) (.tmp 54) rfl (#[.bool true, .slice f1' x5 g1', .slice f2' n5 g2']) ?_ ?_ 3 HZ3.out HX5.out (by kernel_rfl) ?_); (case _ => rfl); (case _ => rfl); intro w7 H7; replace H7 := Aside0.mk H7)
   | ((with_reducible refine gate_dst (N := 56) rfl ?_); ( refine own_ld1 H7.out 0 g11 _ _ rfl rfl 4 (.tmp 55) rfl 0 (.bool true) _ rfl rfl Try.underlying4 rfl ?_))
   | ((with_reducible refine gate_dst (N := 60) rfl ?_); (refine gate_guard (by rfl) ?_); ( refine own_ld1 H7.out 0 g11 _ _ rfl rfl 157 (.tmp 59) rfl 2 (.slice f2' n5 g2') _ rfl rfl Try.underlying157 rfl ?_))
   | ((with_reducible refine gate_dst (N := 66) rfl ?_); ( refine own_ld1 H7.out 0 g11 _ _ rfl rfl 157 (.tmp 65) rfl 2 (.slice f2' n5 g2') _ rfl rfl Try.underlying157 rfl ?_))
   )
  have H8 : Aside0 (Own wd.heap.size wd w7 [.row (shM kL wd (fun k => w1.heap.size ≤ k)) 74 (.slice none 0 0) ((y2.f2.take 0).map fun y => y.f1), .blk g8 #[.int .u64 n0, .int .u64 n1, .slice none 0 0] 108]) := ⟨((H7.out.erase 0).erase 0 |>.erase 1).null _ _⟩
  clear H5 H6 H7 B6 hN HCL2 HX5
  go_loopw [68] (fun v68 wr => ∃ (j : Nat) (vm : Value), j ≤ n5 ∧ v68 = .int .i64 (j : Int) ∧ Aside0 (((y2.f2.take j).all fun y => !y.f0) = true) ∧ Aside0 (Own wd.heap.size wd wr [.row (shM kL wd (fun k => w1.heap.size ≤ k)) 74 vm ((y2.f2.take j).map fun y => y.f1), .blk g8 #[.int .u64 n0, .int .u64 n1, vm] 108])) (fun v68 _ => n5 - (intOf v68).toNat)
  case atStart => exact ⟨0, _, Nat.zero_le _, rfl, ⟨rfl⟩, H8⟩
  case round =>
   clear H8
   obtain ⟨j, vm, hj, rfl, HA, HI⟩ := hrel
   by_cases hlt : j < n5
   ·have hdl : decide (j < n5) = true := decide_eq_true hlt
    have hib : (0 : Int) ≤ (j : Int) ∧ (j : Int) < (n5 : Int) := by omega
    have hjl : j < y2.f2.length := by rw [← HN5.out]; exact hlt
    obtain ⟨gL, cap, m1, k1, m2, k2, he, hcap, hr1, hr2, hm1, hm2, hcl⟩ := R_item HS2.out j hjl
    injection he with he he2 he3
    subst he he3
    clear he2
    have HAS := Aside0.mk (all_snoc y2.f2 j hjl)
    have HMS := Aside0.mk (f1s_snoc y2.f2 j hjl)
    obtain ⟨A5, c5, hv5, _, _⟩ := HI.out.reads 0 rfl
    have hlen : ((y2.f2.take j).map fun y => y.f1).length = j := by simp; omega
    rw [hlen] at hv5
    subst hv5
    have HP : Aside0 (∀ w : World, (shM kL wd (fun k => w1.heap.size ≤ k)).M w 0 (fun _ => False) y2.f2[j].f1 [.slice m1 y2.f2[j].f1.length k1]) := ⟨fun _ => ⟨_, rfl, Kd.R_lower (Kd.R_mono (Kd.R_bound hr1) fun k hk => hk.2.1) (Nat.zero_le _)⟩⟩
    have HCJ : Aside0 (∀ W, Below wd.heap.size wd W → ∀ (q : Nat) (u : Value), [Value.bool y2.f2[j].f0, .slice m1 y2.f2[j].f1.length k1, .slice m2 y2.f2[j].f2.length k2][q]? = some u → W.cell? ((⟨gL, j * 3, none⟩ : Addr).add q) = some u) := ⟨fun W hb q u hq => by
     rw [Addr.add_mid]; exact pw_cell_below hb (hcl q u hq)⟩
    have HX6 : Aside0 (Arr 3 #[.bool y2.f2[j].f0, .slice m1 y2.f2[j].f1.length k1, .slice m2 y2.f2[j].f2.length k2]) := ⟨arr3_ rfl⟩
    clear hr1 hr2 hm1 hm2 hcl hcap hlen
    generalize y2.f2[j].f1.length = l1 at *
    generalize y2.f2[j].f2.length = l2 at *
    generalize y2.f2[j].f1 = msg at *
    generalize y2.f2[j].f0 = bj at *
    have HL1 : Aside0 (((y2.f2.take j).map (fun y => y.f1) ++ [msg]).length = j + 1) := ⟨by simp; omega⟩
    cases bj
    ·
     rw [HA.out] at HAS
     go_wp2_with (first
      | fail
      | ((with_reducible refine gate_dst (N := 71) rfl ?_); ( refine ld_at rfl 159 (.tmp 70) rfl (⟨gL, j * 3, none⟩) ([.bool false, .slice m1 l1 k1, .slice m2 l2 k2]) _ rfl (HCJ.out _ HI.out.below) Try.underlying159 rfl (by kernel_rfl) ?_))
      | ((with_reducible refine gate_dst (N := 13) rfl ?_); refine own_alloc HI.out rfl (N := 13) rfl (t := 159) rfl (#[.bool false, .slice none 0 0, .slice none 0 0]) 3 (by kernel_rfl) ?_; intro g13 w5 H5 B5; replace H5 := Aside0.mk H5; replace B5 := Aside0.mk B5)
      | ((with_reducible refine own_store H5.out 0 g13 _ 159 rfl rfl (.tmp 13) (.tmp 71) rfl (#[.bool false, .slice m1 l1 k1, .slice m2 l2 k2]) ?_ ?_ 3 HZ3.out HX6.out (by kernel_rfl) ?_); (case _ => rfl); (case _ => rfl); intro w6 H6; replace H6 := Aside0.mk H6)
      | ((with_reducible refine gate_dst (N := 73) rfl ?_); ( refine own_ld1 H6.out 0 g13 _ _ rfl rfl 4 (.tmp 72) rfl 0 (.bool false) _ rfl rfl Try.underlying4 rfl ?_))
      | ((with_reducible refine gate_dst (N := 76) rfl ?_); ( refine own_ld1 H6.out 2 g8 _ _ rfl rfl 71 (.tmp 75) rfl 2 (.slice A5 j c5) _ rfl rfl Try.underlying71 rfl ?_))
      | ((with_reducible refine gate_dst (N := 78) rfl ?_); ( refine own_ld1 H6.out 0 g13 _ _ rfl rfl 74 (.tmp 77) rfl 1 (.slice m1 l1 k1) _ rfl rfl Try.underlying74 rfl ?_))
      | ((with_reducible refine gate_dst (N := 80) rfl ?_); (with_reducible refine gate_builtin (b := .append) (xs := #[.tmp 76, .tmp 79]) rfl ?_); ( refine own_append_any (shM kL wd (fun k => w1.heap.size ≤ k)) H6.out 1 rfl rfl (.tmp 76) (.tmp 79) 71 (.slice none 0 0) 24 rfl Try.underlying71 (PRF.info74) rfl (show 0 < 1 by decide) (by decide) (msg) ([.slice m1 l1 k1]) (HP.out) (by rfl) (by rfl) (by simp; omega) ?_; intro v8 w8 H8; (obtain ⟨A8, c8, hv8, _, _⟩ := H8.reads 1 rfl; rw [HL1.out] at hv8; subst hv8); replace H8 := Aside0.mk H8))
      | ((with_reducible refine gate_store (t := 71) (p := 81) rfl ?_); ( refine own_st H8.out 2 g8 _ (#[.int .u64 n0, .int .u64 n1, .slice A8 (j + 1) c8]) 108 (by rfl) rfl 71 (.tmp 81) _ rfl 2 [.slice A8 (j + 1) c8] (.slice A8 (j + 1) c8) (by rfl) (by rfl) (by rfl) (by simp) (by kernel_rfl) (by simp [Value.oneCell']) (by rfl) ?_; intro w9 H9; replace H9 := Aside0.mk H9))
      )
     go_roundw
     case rel => exact ⟨j + 1, _, hlt, by go_num, ⟨HAS.out⟩, ⟨by rw [HMS.out]; exact H9.out.erase 0⟩⟩
     case measure => simp [intOf]; omega
    ·
     have hrv : r = (zeroBt, 8) := by
      rw [HR.out, if_neg]
      intro h
      have h1 := HAS.out
      rw [HA.out] at h1
      rw [← List.take_append_drop (j + 1) y2.f2, List.all_append, h1] at h
      simp at h
     subst hrv
     clear HR
     go_upto_if 73 with (first
      | fail
      | ((with_reducible refine gate_dst (N := 71) rfl ?_); ( refine ld_at rfl 159 (.tmp 70) rfl (⟨gL, j * 3, none⟩) ([.bool true, .slice m1 l1 k1, .slice m2 l2 k2]) _ rfl (HCJ.out _ HI.out.below) Try.underlying159 rfl (by kernel_rfl) ?_))
      | ((with_reducible refine gate_dst (N := 13) rfl ?_); refine own_alloc HI.out rfl (N := 13) rfl (t := 159) rfl (#[.bool false, .slice none 0 0, .slice none 0 0]) 3 (by kernel_rfl) ?_; intro g13 w5 H5 B5; replace H5 := Aside0.mk H5; replace B5 := Aside0.mk B5)
      | ((with_reducible refine own_store H5.out 0 g13 _ 159 rfl rfl (.tmp 13) (.tmp 71) rfl (#[.bool true, .slice m1 l1 k1, .slice m2 l2 k2]) ?_ ?_ 3 HZ3.out HX6.out (by kernel_rfl) ?_); (case _ => rfl); (case _ => rfl); intro w6 H6; replace H6 := Aside0.mk H6)
      | ((with_reducible refine gate_dst (N := 73) rfl ?_); ( refine own_ld1 H6.out 0 g13 _ _ rfl rfl 4 (.tmp 72) rfl 0 (.bool true) _ rfl rfl Try.underlying4 rfl ?_))
      )
     have H8 := Aside0.mk (H1.out.step (below_step HBD.out H6.out.below))
     go_wp2_with (first
      | fail
      | ((with_reducible refine own_store H8.out 0 g2 _ 108 rfl rfl (.tmp 2) (.tmp 74) rfl (#[.int .u64 0, .int .u64 0, .slice none 0 0]) ?_ ?_ 3 HZB.out HZB.out (by kernel_rfl) ?_); (case _ => rfl); (case _ => rfl); intro w9 H9; replace H9 := Aside0.mk H9)
      )
     refine bodyPost_ret (own_resultV_t rfl _ H9.out 0 g2 _ rfl rfl _ Try.underlying108 rfl (by kernel_rfl) _ rfl) rfl ?_
     exact ⟨_, rfl, (H9.out.erase 0).null kL _⟩
   ·have hdl : decide (j < n5) = false := decide_eq_false hlt
    obtain rfl : n5 = j := by omega
    have hall : (y2.f2.all fun y => !y.f0) = true := by
     have h := HA.out
     rwa [List.take_of_length_le (by rw [← HN5.out]; exact Nat.le_refl _)] at h
    have hrv : r = (⟨n0, n1, y2.f2.map fun y => y.f1⟩, 0) := by rw [HR.out, if_pos hall]
    subst hrv
    have HI2 : Aside0 (Own wd.heap.size wd wr [.row (shM kL wd (fun k => w1.heap.size ≤ k)) 74 vm (y2.f2.map fun y => y.f1), .blk g8 #[.int .u64 n0, .int .u64 n1, vm] 108]) := ⟨by
     have h := HI.out
     rwa [List.take_of_length_le (by rw [← HN5.out]; exact Nat.le_refl _)] at h⟩
    have HF := Aside0.mk (H1.out.call (HI2.out.shM_up HBD.out (fun k hk => hk)))
    obtain ⟨A5, c5, rfl, _, _⟩ := HI2.out.reads 0 rfl
    have HXB : Aside0 (Arr 3 #[.int .u64 n0, .int .u64 n1, .slice A5 (y2.f2.map fun y => y.f1).length c5]) := ⟨rfl, by simp [Value.oneCell']⟩
    clear HI HR HA hall HS2
    generalize (y2.f2.map fun y => y.f1).length = ln at *
    go_wp2_with (first
     | fail
     | ((with_reducible refine gate_dst (N := 83) rfl ?_); ( refine own_loadV HI2.out 1 g8 _ 108 rfl rfl (.tmp 8) rfl _ rfl Try.underlying108 rfl (by kernel_rfl) ?_))
     | ((with_reducible refine own_store HF.out 2 g2 _ 108 rfl rfl (.tmp 2) (.tmp 83) rfl (#[.int .u64 n0, .int .u64 n1, .slice A5 ln c5]) ?_ ?_ 3 HZB.out HXB.out (by kernel_rfl) ?_); (case _ => rfl); (case _ => rfl); intro w9 H9; replace H9 := Aside0.mk H9)
     )
    refine bodyPost_ret (own_resultV_t rfl _ H9.out 2 g2 _ rfl rfl _ Try.underlying108 rfl (by kernel_rfl) _ rfl) rfl ?_
    exact ⟨_, rfl, (H9.out.erase 1).erase 1⟩
end Go.Proofs.Ytocphkfkdadhaaa.H

namespace Go.Proofs.Ytocphkfkdadhaaa.K
open Go.RowKit Go.Proofs.YtocphkfkdadhaaaW.PrintWords Go.Proofs.YtocphkfkdadhaaaW.PrintLast Go.Proofs.YtocphkfkdadhaaaW.PrintMore Go.Proofs.Ytocphkfkdadhaaa.PRF
attribute [local go_sem] max2_int min2_int max_two min_two max_three min_three max_four min_four
set_option linter.unusedVariables false
set_option linter.unusedSimpArgs false
def GrewPost (w0 : World) (l : List Int) (e : Ending) (w' : World) : Prop :=
 ∃ v, e = .returned v ∧ Kd.R (Kd.int .u8) 5 w' w0.heap.size (fun _ => True) v l ∧ Below w0.heap.size w0 w'
set_option maxHeartbeats 2000000 in
set_option maxRecDepth 100000 in
theorem form_str (x : S159) (hx : x.f0 = false) (v : Value) (xs : List Int) (A1 A2 : Option Addr) (c1 c2 : Nat) (w0 w : World) (hB : Below w0.heap.size w0 w)
 (hC1 : Kd.C (Kd.int .u8) w0 A1 x.f1.length x.f1) (hc1 : x.f1.length ≤ c1) (hR : Kd.R (Kd.int .u8) 5 w w0.heap.size (fun _ => True) v xs) (hl : xs.length + (formP x).length ≤ 1099511627776) :
 Calls Try.prog 139 #[v, .agg #[.bool false, .slice A1 x.f1.length c1, .slice A2 x.f2.length c2]] w (GrewPost w0 (xs ++ formP x)) := by
 rw [formP_str x hx] at hl ⊢
 obtain ⟨f0, f1, f2⟩ := x
 simp only at *
 have HB := Aside0.mk hB
 have HC1 := Aside0.mk hC1
 have HR := Aside0.mk hR
 have hm := hC1.2.1
 clear hB hC1 hR hx
 obtain ⟨n2, hn2⟩ : ∃ n, n = f2.length := ⟨_, rfl⟩
 rw [← hn2]
 clear hn2
 by_cases h1 : f1.length = 1
 ·obtain ⟨i0, rfl⟩ : ∃ i0, f1 = [i0] := by
   match f1, h1 with
   | [i0], _ => exact ⟨i0, rfl⟩
  obtain ⟨ad, rfl, hcell0⟩ := Kd.at_int HC1.out 0 (by omega) (by simp)
  simp only [Int.toNat_zero, Addr.add_zero', rd, List.getD_cons_zero] at hcell0
  have hcell := pw_cell_below HB.out hcell0
  by_cases hi : i0 < 128
  ·have hd : decide (128 ≤ i0) = false := decide_eq_false (by omega)
   have hs : strP [i0] = [i0] := by simp [strP, hi]
   rw [hs] at hl ⊢
   go_enter Try.func139, Try.ntmps139
   go_wp2_with (first
    | ((with_reducible refine gate_dst (N := 3) rfl ?_); refine alloc_ev rfl (N := 3) rfl (cs := #[.bool false, .slice (some ad) 1 c1, .slice A2 n2 c2]) (t := 159) HB ?hr ?_; (case hr => first | (go_simp; done) | (go_simp; rfl)); intro g3 w1 HG3 HGe3 HE1 HB1; have hcf := cf3 HG3; have hcell1 := pw_cell_below HE1.out hcell; have HR1 := Aside0.mk (Kd.R_below HR.out HE1.out))
    | ((with_reducible refine gate_builtin (b := .append) (xs := #[.tmp 28, .tmp 30]) rfl ?_); refine app_bytes (w0 := w0) rfl (.tmp 28) (.tmp 30) rfl v xs [i0] (some ad) c1 (fun _ => True) rfl rfl HB1 HR1.out (Kd.C_below HC1.out HB1.out) (fun _ _ => trivial) (by simp at hl ⊢; omega) ?_; intro v5 w5 HO5 HB5 hg5 hat5))
   go_ret
   exact ⟨v5, rfl, HO5.out, HB5.out⟩
  ·have hd : decide (128 ≤ i0) = true := decide_eq_true (by omega)
   have hs : strP [i0] = aheadP 128 1 ++ [i0] := by simp [strP, hi]
   rw [hs] at hl ⊢
   have ha := ahead_f 128 1 (by omega) (by omega) (by omega)
   have HA := Aside0.mk ha
   clear ha
   generalize aheadP 128 1 = ah at *
   have HL := Aside0.mk hl
   clear hl hs
   go_enter Try.func139, Try.ntmps139
   go_wp2_with (first
    | ((with_reducible refine gate_dst (N := 3) rfl ?_); refine alloc_ev rfl (N := 3) rfl (cs := #[.bool false, .slice (some ad) 1 c1, .slice A2 n2 c2]) (t := 159) HB ?hr ?_; (case hr => first | (go_simp; done) | (go_simp; rfl)); intro g3 w1 HG3 HGe3 HE1 HB1; have hcf := cf3 HG3; have hcell1 := pw_cell_below HE1.out hcell; have HR1 := Aside0.mk (Kd.R_below HR.out HE1.out); have HNE : Aside0 (some g3 ≠ v.ownBlock) := ⟨fun he => by have := Kd.R_lt HR.out g3 he.symm; have := HGe3.out; omega⟩))
   refine (rlp_ahead.calls 15 128 1 ah _ HA.out).mono ?_
   rintro e w2 ⟨va, rfl, hRa, hE2⟩
   obtain ⟨Aa, na, ca, rfl, hna⟩ := R_shape hRa
   have HRa := Aside0.mk hRa
   have HNa := Aside0.mk hna
   have HB2 := Aside0.mk (below_step HB1.out hE2)
   have HR2 := Aside0.mk (Kd.R_below HR1.out hE2)
   have HG3b := Aside0.mk (blk_below HG3.out hE2)
   have hcf2 := cf3 HG3b
   clear hRa hna hE2
   go_wp2_with (first
    | ((with_reducible refine gate_builtin (b := .append) (xs := #[.tmp 22, .tmp 26]) rfl ?_); refine app_bytes (w0 := w0) rfl (.tmp 22) (.tmp 26) rfl v xs ah Aa ca (fun _ => True) rfl (by rw [← HNa.out]; rfl) HB2 HR2.out (by have := (Kd.R_reads' HRa.out).2.2; exact this) (fun _ _ => trivial) (by have := HL.out; simp at this; omega) ?_; intro v5 w5 HO5 HB5 hg5 hat5; have hcf5 := cf3 ⟨blk_grown HG3b.out hg5.out HNE.out⟩)
    | ((with_reducible refine gate_builtin (b := .append) (xs := #[.tmp 28, .tmp 30]) rfl ?_); refine app_bytes (w0 := w0) rfl (.tmp 28) (.tmp 30) rfl v5 (xs ++ ah) [i0] (some ad) c1 (fun _ => True) rfl rfl HB5 HO5.out (Kd.C_below HC1.out HB5.out) (fun _ _ => trivial) (by have := HL.out; simp at this ⊢; omega) ?_; intro v6 w6 HO6 HB6 hg6 hat6))
   go_ret
   exact ⟨v6, rfl, by rw [← List.append_assoc]; exact HO6.out, HB6.out⟩
 ·have hs : strP f1 = aheadP 128 f1.length ++ f1 := by simp [strP, h1]
  rw [hs] at hl ⊢
  have hlen : f1.length ≤ 1099511627776 := by simp at hl; omega
  have ha := ahead_f 128 f1.length (by omega) (by omega) (by omega)
  have HA := Aside0.mk ha
  clear ha
  generalize aheadP 128 f1.length = ah at *
  have HL := Aside0.mk hl
  clear hl hs
  have h1b : ((f1.length : Int) != 1) = true := by rw [bne_iff_ne]; omega
  have h1c : ((f1.length : Int) == 1) = false := by rw [beq_eq_false_iff_ne]; omega
  go_enter Try.func139, Try.ntmps139
  go_wp2_with (first
   | ((with_reducible refine gate_dst (N := 3) rfl ?_); refine alloc_ev rfl (N := 3) rfl (cs := #[.bool false, .slice A1 f1.length c1, .slice A2 n2 c2]) (t := 159) HB ?hr ?_; (case hr => first | (go_simp; done) | (go_simp; rfl)); intro g3 w1 HG3 HGe3 HE1 HB1; have hcf := cf3 HG3; have HR1 := Aside0.mk (Kd.R_below HR.out HE1.out); have HNE : Aside0 (some g3 ≠ v.ownBlock) := ⟨fun he => by have := Kd.R_lt HR.out g3 he.symm; have := HGe3.out; omega⟩))
  refine (rlp_ahead.calls 15 128 f1.length ah _ HA.out).mono ?_
  rintro e w2 ⟨va, rfl, hRa, hE2⟩
  obtain ⟨Aa, na, ca, rfl, hna⟩ := R_shape hRa
  have HRa := Aside0.mk hRa
  have HNa := Aside0.mk hna
  have HB2 := Aside0.mk (below_step HB1.out hE2)
  have HR2 := Aside0.mk (Kd.R_below HR1.out hE2)
  have HG3b := Aside0.mk (blk_below HG3.out hE2)
  have hcf2 := cf3 HG3b
  clear hRa hna hE2
  go_wp2_with (first
   | ((with_reducible refine gate_builtin (b := .append) (xs := #[.tmp 22, .tmp 26]) rfl ?_); refine app_bytes (w0 := w0) rfl (.tmp 22) (.tmp 26) rfl v xs ah Aa ca (fun _ => True) rfl (by rw [← HNa.out]; rfl) HB2 HR2.out (by have := (Kd.R_reads' HRa.out).2.2; exact this) (fun _ _ => trivial) (by have := HL.out; simp at this; omega) ?_; intro v5 w5 HO5 HB5 hg5 hat5; have hcf5 := cf3 ⟨blk_grown HG3b.out hg5.out HNE.out⟩)
   | ((with_reducible refine gate_builtin (b := .append) (xs := #[.tmp 28, .tmp 30]) rfl ?_); refine app_bytes (w0 := w0) rfl (.tmp 28) (.tmp 30) rfl v5 (xs ++ ah) f1 A1 c1 (fun _ => True) rfl rfl HB5 HO5.out (Kd.C_below HC1.out HB5.out) (fun _ _ => trivial) (by have := HL.out; simp at this ⊢; omega) ?_; intro v6 w6 HO6 HB6 hg6 hat6))
  go_ret
  exact ⟨v6, rfl, by rw [← List.append_assoc]; exact HO6.out, HB6.out⟩
end Go.Proofs.Ytocphkfkdadhaaa.K

namespace Go.Proofs.Ytocphkfkdadhaaa.K
open Go.RowKit Go.Proofs.YtocphkfkdadhaaaW.PrintWords Go.Proofs.YtocphkfkdadhaaaW.PrintLast Go.Proofs.YtocphkfkdadhaaaW.PrintMore Go.Proofs.Ytocphkfkdadhaaa.PRF
attribute [local go_sem] max2_int min2_int max_two min_two max_three min_three max_four min_four
set_option linter.unusedVariables false
set_option linter.unusedSimpArgs false
set_option maxHeartbeats 4000000 in
set_option maxRecDepth 100000 in
theorem form_list (f1 : List Int) (l : List S159) (v : Value) (xs : List Int) (A1 A2 : Option Addr) (c1 c2 : Nat) (w0 w : World) (hB : Below w0.heap.size w0 w)
 (hC2 : Kd.C k159 w0 A2 l.length l) (hc2 : l.length ≤ c2) (hR : Kd.R (Kd.int .u8) 5 w w0.heap.size (fun _ => True) v xs) (hl : xs.length + (aheadP 192 (formsP l).length ++ formsP l).length ≤ 1099511627776)
 (ih : ∀ y ∈ l, ∀ (v : Value) (xs : List Int) (A1 A2 : Option Addr) (c1 c2 : Nat) (w0 w : World), Below w0.heap.size w0 w → Kd.C (Kd.int .u8) w0 A1 y.f1.length y.f1 → y.f1.length ≤ c1 → Kd.C k159 w0 A2 y.f2.length y.f2 → y.f2.length ≤ c2 →
  Kd.R (Kd.int .u8) 5 w w0.heap.size (fun _ => True) v xs → xs.length + (formP y).length ≤ 1099511627776 → Calls Try.prog 139 #[v, .agg #[.bool y.f0, .slice A1 y.f1.length c1, .slice A2 y.f2.length c2]] w (GrewPost w0 (xs ++ formP y))) :
 Calls Try.prog 139 #[v, .agg #[.bool true, .slice A1 f1.length c1, .slice A2 l.length c2]] w (GrewPost w0 (xs ++ (aheadP 192 (formsP l).length ++ formsP l))) := by
 have IH := Aside0.mk ih
 have HB := Aside0.mk hB
 have HC2 := Aside0.mk hC2
 have HR := Aside0.mk hR
 have hm := hC2.2.1
 clear hB hC2 hR ih
 obtain ⟨n1, hn1⟩ : ∃ n, n = f1.length := ⟨_, rfl⟩
 rw [← hn1]
 clear hn1
 have hlen : (formsP l).length ≤ 1099511627776 := by simp at hl; omega
 have ha := ahead_f 192 (formsP l).length (by omega) (by omega) (by omega)
 have HA := Aside0.mk ha
 clear ha
 obtain ⟨all, hall⟩ : ∃ all, all = formsP l := ⟨_, rfl⟩
 have HALL := Aside0.mk hall
 rw [← hall] at HA hl hlen ⊢
 clear hall
 obtain ⟨ah, hah⟩ : ∃ ah, ah = aheadP 192 all.length := ⟨_, rfl⟩
 rw [← hah] at HA hl ⊢
 clear hah
 have HL := Aside0.mk hl
 have HLEN := Aside0.mk hlen
 clear hl hlen
 go_enter Try.func139, Try.ntmps139
 go_wp2_with (first
  | ((with_reducible refine gate_dst (N := 3) rfl ?_); refine alloc_ev rfl (N := 3) rfl (cs := #[.bool true, .slice A1 n1 c1, .slice A2 l.length c2]) (t := 159) HB ?hr ?_; (case hr => first | (go_simp; done) | (go_simp; rfl)); intro g3 w1 HG3 HGe3 HE1 HB1; have hcf := cf3 HG3; have HR1 := Aside0.mk (Kd.R_below HR.out HE1.out); have HNE : Aside0 (some g3 ≠ v.ownBlock) := ⟨fun he => by have := Kd.R_lt HR.out g3 he.symm; have := HGe3.out; omega⟩))
 go_loopw [5, 35] (fun v5 v35 wr => ∃ (i : Nat), i ≤ l.length ∧ v35 = .int .i64 (i : Int) ∧ Aside0 (Kd.R (Kd.int .u8) 5 wr w1.heap.size (fun _ => True) v5 (formsP (l.take i))) ∧ Aside0 (Below w1.heap.size w1 wr)) (fun _ v35 _ => l.length - (intOf v35).toNat)
 case atStart => exact ⟨0, Nat.zero_le _, rfl, ⟨Kd.R_nil _ _ _ _ _⟩, ⟨Below.refl _ _⟩⟩
 case round =>
  obtain ⟨i, hi, rfl, HU, HBr⟩ := hrel
  by_cases hlt : i < l.length
  ·have hd : decide (i < l.length) = true := decide_eq_true hlt
   obtain ⟨ad, B1, d1, B2, d2, he, k0, k1, k2, q1, q2, q3, q4⟩ := at_T159 HC2.out (i : Int) (by omega) (by omega)
   subst he
   rw [rd159 l i hlt, Int.toNat_natCast] at k0 k1 k2
   rw [rd159 l i hlt] at q1 q2 q3 q4
   have HB2 := Aside0.mk (below_step HB1.out HBr.out)
   have k0' := pw_cell_below HB2.out k0
   have k1' := pw_cell_below HB2.out k1
   have k2' := pw_cell_below HB2.out k2
   clear k0 k1 k2 hcf
   have hcf2 := cf3 ⟨blk_below HG3.out HBr.out⟩
   have HIH := Aside0.mk (IH.out l[i] (List.getElem_mem hlt))
   have HT := Aside0.mk (formsP_take l i hlt)
   have HTL := formsP_take_le l (i + 1)
   rw [HT.out, List.length_append, ← HALL.out] at HTL
   have HTL' := Aside0.mk HTL
   clear HTL
   generalize l[i] = y at *
   have Q1 := Aside0.mk q1
   have Q2 := Aside0.mk q2
   have Q3 := Aside0.mk q3
   have Q4 := Aside0.mk q4
   clear q1 q2 q3 q4
   have HU' := Aside0.mk (fun o => Kd.R_alloc HU.out o)
   have HBr' := Aside0.mk (fun o => below_alloc HBr.out o)
   go_wp2_with fail
   refine (HIH.out u5 _ B1 B2 d1 d2 w1 _ (HBr'.out _) (Kd.C_below Q2.out HB1.out) Q1.out (Kd.C_below Q4.out HB1.out) Q3.out (HU'.out _) (by have := HTL'.out; have := HLEN.out; omega)).mono ?_
   rintro e w3 ⟨v3, rfl, hR3, hB3⟩
   have HR3 := Aside0.mk hR3
   have HB3 := Aside0.mk hB3
   clear hR3 hB3
   go_wp2
   go_roundw
   case rel => exact ⟨i + 1, hlt, by go_num, ⟨by rw [HT.out]; exact HR3.out⟩, HB3⟩
   case measure => simp [intOf]; omega
  ·have hd : decide (i < l.length) = false := decide_eq_false hlt
   rw [List.take_of_length_le (by omega), ← HALL.out] at HU
   obtain ⟨Au, nu, cu, rfl, hnu⟩ := R_shape HU.out
   have HNu := Aside0.mk hnu
   have HBw := Aside0.mk (below_step HB1.out HBr.out)
   have HRw := Aside0.mk (Kd.R_below HR1.out HBr.out)
   have HG3b := Aside0.mk (blk_below HG3.out HBr.out)
   have hcf2 := cf3 HG3b
   clear hnu hcf
   go_wp2_with fail
   refine (rlp_ahead.calls 15 192 nu ah _ (by rw [HNu.out]; exact HA.out)).mono ?_
   rintro e w3 ⟨va, rfl, hRa, hE3⟩
   obtain ⟨Aa, na, ca, rfl, hna⟩ := R_shape hRa
   have HRa := Aside0.mk hRa
   have HNa := Aside0.mk hna
   have HB3 := Aside0.mk (below_step HBw.out hE3)
   have HR3 := Aside0.mk (Kd.R_below HRw.out hE3)
   have HU3 := Aside0.mk (Kd.R_below HU.out hE3)
   have HV3 := Aside0.mk (show ∀ k, v.ownBlock = some k → some k ≠ (Value.slice Au nu cu).ownBlock from fun k hk he => by
    have h1 := Kd.R_base HU.out k he.symm
    have h2 := Kd.R_lt HR.out k hk
    have h3 := below_size HE1.out
    omega)
   clear hRa hna hE3 hcf2
   go_wp2_with (first
    | ((with_reducible refine gate_builtin (b := .append) (xs := #[.tmp 43, .tmp 46]) rfl ?_); refine app_bytes (w0 := w0) rfl (.tmp 43) (.tmp 46) rfl v xs ah Aa ca (fun _ => True) rfl (by rw [← HNa.out]; rfl) HB3 HR3.out (by have := (Kd.R_reads' HRa.out).2.2; exact this) (fun _ _ => trivial) (by have := HL.out; simp at this; omega) ?_; intro v5 w5 HO5 HB5 hg5 hat5; have HU5 := Aside0.mk (Kd.R_reads' (Kd.R_grown2 HU3.out rfl hg5.out HV3.out)).2.2)
    | ((with_reducible refine gate_builtin (b := .append) (xs := #[.tmp 48, .tmp 49]) rfl ?_); refine app_bytes (w0 := w0) rfl (.tmp 48) (.tmp 49) rfl v5 (xs ++ ah) all Au cu (fun _ => True) rfl (by rw [← HNu.out]; rfl) HB5 HO5.out HU5.out (fun _ _ => trivial) (by have := HL.out; simp at this ⊢; omega) ?_; intro v6 w6 HO6 HB6 hg6 hat6))
   go_ret
   exact ⟨v6, rfl, by rw [← List.append_assoc]; exact HO6.out, HB6.out⟩
end Go.Proofs.Ytocphkfkdadhaaa.K

