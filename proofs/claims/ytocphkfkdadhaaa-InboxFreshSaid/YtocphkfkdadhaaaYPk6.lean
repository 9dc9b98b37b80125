import Derived.Test.YtocphkfkdadhaaaYPk5
import Derived.Test.YtocphkfkdadhaaaYPk3
import Derived.RangeFuncNested
import Derived.Maps.OwnIn
import Derived.ArgAppend
set_option maxHeartbeats 4000000
set_option linter.unusedVariables false
set_option linter.unusedSimpArgs false
set_option maxRecDepth 100000
namespace Go.Proofs.Ytocphkfkdadhaaa.H
open Go.RowKit Go.Proofs.YtocphkfkdadhaaaW.PrintWords Go.Proofs.YtocphkfkdadhaaaW.PrintLast Go.Proofs.YtocphkfkdadhaaaW.PrintMore
def takenL (q : List SQ) (tk n : Nat) : List (List Int) := ((q.drop tk).take n).map (fun d => d.f1)
theorem takenL_snoc (q : List SQ) (tk i : Nat) (h : tk + i < q.length) : takenL q tk (i + 1) = takenL q tk i ++ [q[tk + i].f1] := by
 unfold takenL
 rw [List.take_succ_eq_append_getElem (by rw [List.length_drop]; omega), List.map_append, List.getElem_drop]
 rfl
theorem take_any (q : List SQ) (tk n : Nat) (l : List (List Int)) (nx : Int) (g gq cq : Nat) (vl : Value) {B : Nat} {w0 w : World} {L : List Item}
 (H : Own B w0 w (.blk g #[.slice (some ⟨gq, 0, none⟩) q.length cq, .int .i64 (tk : Int), vl, .int .u64 nx] 73 :: .row kQ 78 (.slice (some ⟨gq, 0, none⟩) q.length cq) q :: .row kL 74 vl l :: L))
 (hcq : q.length ≤ cq) (hn : tk + n ≤ q.length) (hq : q.length ≤ 1000000) (hl : l.length ≤ 1000000) (hqm : ∀ d ∈ q, d.f1.length ≤ 1099511627776) :
 Calls Try.prog 88 #[.pointer (some ⟨g, 0, none⟩), .int .i64 (n : Int)] w fun e w' => e = .returned (.tuple #[]) ∧ ∃ vl', Own B w0 w' (.blk g #[.slice (some ⟨gq, 0, none⟩) q.length cq, .int .i64 ((tk + n : Nat) : Int), vl', .int .u64 nx] 73 :: .row kQ 78 (.slice (some ⟨gq, 0, none⟩) q.length cq) q :: .row kL 74 vl' (l ++ takenL q tk n) :: L) := by
 have H0 := Aside0.mk H
 obtain ⟨A4, c4, rfl, hcl4, _⟩ := H.reads 2 rfl
 have k0 : w.cell? ⟨g, 0, none⟩ = some (.slice (some ⟨gq, 0, none⟩) q.length cq) := H.cell 0 rfl 0 rfl
 have k1 : w.cell? ⟨g, 1, none⟩ = some (.int .i64 (tk : Int)) := H.cell 0 rfl 1 rfl
 have HQM := Aside0.mk (fun (i : Nat) (h : i < q.length) => hqm q[i] (List.getElem_mem h))
 clear hqm H
 obtain ⟨nq, hnq⟩ : ∃ nq, nq = q.length := ⟨_, rfl⟩
 rw [← hnq] at H0 k0 hcq hn hq ⊢
 have HN := Aside0.mk hnq
 clear hnq
 obtain ⟨hi, hto⟩ : ∃ hi, hi = tk + n := ⟨_, rfl⟩
 rw [← hto] at hn ⊢
 have HTO := Aside0.mk hto
 have hwt : IntKind.i64.wrap ((tk : Int) + (n : Int)) = (hi : Int) := by rw [IntWalk.i64_in _ (by omega)]; omega
 have hsb : (0 : Int) ≤ (hi : Int) ∧ (hi : Int) ≤ (cq : Int) ∧ (tk : Int) ≤ (hi : Int) ∧ (0 : Int) ≤ (tk : Int) ∧ tk ≤ hi := by omega
 clear hto
 go_enter Try.func88, Try.ntmps88
 go_wp2_with fail
 refine St (fun W => W.cell? ⟨g, 0, none⟩ = some (.slice (some ⟨gq, 0, none⟩) nq cq) ∧ W.cell? ⟨g, 1, none⟩ = some (.int .i64 (tk : Int))) (fun hHeld => ?_) (by exact ⟨k0, k1⟩)
 refine Tk 0 ?_
 refine Tk 1 ?_
 refine Tk 2 ?_
 refine Tk 3 ?_
 refine Tk 4 ?_
 refine Tk 5 ?_
 refine Tk 6 ?_
 refine Tk 7 ?_
 refine Tk 8 ?_
 refine Tk 9 ?_
 refine Tk 10 ?_
 refine Tk 11 ?_
 refine Tk 12 ?_
 refine Dn ?_
 have hdn : hi - tk = n := by have := HTO.out; omega
 rw [hdn]
 have HAX : Aside0 (∀ i, i < n → (if hi = tk then some (⟨gq, 0, none⟩ : Addr) else some ⟨gq, tk * 2, none⟩) = some ⟨gq, tk * 2, none⟩) := ⟨fun i h => by rw [if_neg (by have := HTO.out; omega)]⟩
 generalize (if hi = tk then some (⟨gq, 0, none⟩ : Addr) else some ⟨gq, tk * 2, none⟩) = Ax at *
 have H1 : Aside0 (Own B w0 w.drew (.blk g #[.slice (some ⟨gq, 0, none⟩) nq cq, .int .i64 (tk : Int), (.slice A4 l.length c4), .int .u64 nx] 73 :: .row kQ 78 (.slice (some ⟨gq, 0, none⟩) nq cq) q :: .row kL 74 (.slice A4 l.length c4) (l ++ takenL q tk 0) :: L)) := ⟨by have h := H0.out.drew; rw [show l ++ takenL q tk 0 = l by simp [takenL]]; exact h⟩
 clear H0 k0 k1 hHeld hwt hsb
 generalize w.drew = w1 at *
 go_wp2_with fail
 go_loopw [25] (fun v25 wr => ∃ (i : Nat) (vl : Value), i ≤ n ∧ v25 = .int .i64 (i : Int) ∧ Aside0 (Own B w0 wr (.blk g #[.slice (some ⟨gq, 0, none⟩) nq cq, .int .i64 (tk : Int), vl, .int .u64 nx] 73 :: .row kQ 78 (.slice (some ⟨gq, 0, none⟩) nq cq) q :: .row kL 74 vl (l ++ takenL q tk i) :: L))) (fun v25 _ => n - (intOf v25).toNat)
 case atStart => exact ⟨0, _, Nat.zero_le _, rfl, H1⟩
 case round =>
  clear H1
  obtain ⟨i, vl, hin, rfl, HI⟩ := hrel
  by_cases hlt : i < n
  ·have hdl : decide ((i : Int) < (n : Int)) = true := decide_eq_true (by omega)
   have hwi : IntKind.i64.wrap ((i : Int) + 1) = ((i + 1 : Nat) : Int) := by rw [IntWalk.i64_in _ (by omega)]; omega
   have hib : (0 : Int) ≤ (i : Int) ∧ (i : Int) < (n : Int) := by omega
   have hiq : tk + i < q.length := by rw [← HN.out]; have := HTO.out; omega
   obtain rfl := HAX.out i hlt
   obtain ⟨A5, c5, hv5, _, _⟩ := HI.out.reads 2 rfl
   generalize (l ++ takenL q tk i).length = n5 at hv5
   subst hv5
   obtain ⟨cs, hK, hcell⟩ := HI.out.cells_at 1 rfl (tk + i) (List.getElem?_eq_getElem hiq)
   obtain ⟨Am, cm, rfl, hcm, hCm⟩ := PRF.k78_open hK
   have ha : (tk + i) * 2 = tk * 2 + i * 2 := by omega
   have kA : wr.cell? ⟨gq, tk * 2 + i * 2, none⟩ = some (.int .i64 q[tk + i].f0) := by have h := hcell 0 _ rfl; rw [← ha]; exact h
   have kB : wr.cell? ⟨gq, tk * 2 + i * 2 + 1, none⟩ = some (.slice Am q[tk + i].f1.length cm) := by have h := hcell 1 _ rfl; rw [← ha]; exact h
   have HCB := Aside0.mk (fun W (hb : Below wr.heap.size wr W) => bclone_any q[tk + i].f1 Am cm W (Kd.C_below hCm hb) hcm (HQM.out (tk + i) hiq))
   have HTK := Aside0.mk (takenL_snoc q tk i hiq)
   have HLL : Aside0 ((l ++ takenL q tk i).length ≤ 2000000) := ⟨by
    have : (takenL q tk i).length ≤ q.length := by simp only [takenL, List.length_map, List.length_take, List.length_drop]; omega
    rw [List.length_append]; have := HN.out; omega⟩
   clear hK hcell hCm hcm ha
   generalize q[tk + i].f0 = b at *
   generalize q[tk + i].f1 = msg at *
   go_wp2_with fail
   have HX := Aside0.mk (HI.out.new #[.int .i64 b, .slice Am msg.length cm] 78)
   have hBX := below_alloc (Below.refl wr.heap.size wr) (.cells #[.int .i64 b, .slice Am msg.length cm] 78)
   have HCB2 := Aside0.mk (fun W hb => HCB.out W (below_step hBX hb))
   clear HCB hBX HI kA kB
   generalize wr.alloc (.cells #[.int .i64 b, .slice Am msg.length cm] 78) = wx at *
   generalize wr.heap.size = gx at *
   have kx : wx.cell? ⟨gx, 1, none⟩ = some (.slice Am msg.length cm) := HX.out.cell 0 rfl 1 rfl
   have k4 : wx.cell? ⟨g, 2, none⟩ = some (.slice A5 n5 c5) := HX.out.cell 1 rfl 2 rfl
   refine St (fun W => W.cell? ⟨gx, 1, none⟩ = some (.slice Am msg.length cm)) (fun hHeld => ?_) (by exact kx)
   refine Tk 0 ?_
   refine Tk 1 ?_
   refine Tk 2 ?_
   refine Tk 3 ?_
   refine Tk 5 ?_
   refine Tk 6 ?_
   refine Rd2 4 7 (fun K hK => ?_) fun K hK => ?_
   ·
    refine Rn (.slice A5 n5 c5) ?_
    refine Ag hK (fun hHeld => ?_)
    clear hK K
    refine Rd 7 fun K hK => ?_
    go_simp
    refine (HCB2.out _ (below_drew (Below.refl _ _))).mono ?_
    rintro e w5 ⟨v5, rfl, hO5⟩
    obtain ⟨A6, c6, rfl, _, _⟩ := hO5.reads 0 rfl
    have H5 := Aside0.mk (HX.out.drew.call hO5)
    have k5 : w5.cell? ⟨g, 2, none⟩ = some (.slice A5 n5 c5) ∧ w5.cell? ⟨gx, 1, none⟩ = some (.slice Am msg.length cm) := ⟨H5.out.cell 2 rfl 2 rfl, H5.out.cell 1 rfl 1 rfl⟩
    clear hO5
    go_wp2_with fail
    refine Ag hK (fun hHeld => ?_) (by exact k5.2)
    clear hK K
    refine Rd 8 fun K hK => ?_
    have k7 : (w5.alloc (.cells #[.slice A6 msg.length c6] 74)).cell? ⟨gx, 1, none⟩ = some (.slice Am msg.length cm) := (H5.out.alloc _).cell 1 rfl 1 rfl
    refine step_of_run (W1 := w5.alloc (.cells #[.slice A6 msg.length c6] 74)) (v := .slice (some ⟨w5.heap.size, 0, none⟩) 1 1) (by rfl) (by first | (go_simp; done) | (go_simp; rfl)) ?_
    refine Ag hK (fun hHeld => ?_) (by exact k7)
    clear hK K
    refine Rd 9 fun K hK => ?_
    refine own_appendM_step kL kB (H5.out.bring 4 rfl) (by rfl) (.tmp 33) (.tmp 37) 71 (.slice none 0 0) 24 rfl Try.underlying71 PRF.info74 rfl (show 0 < 1 by decide) (by decide) msg [.slice A6 msg.length c6] rfl rfl (fun W ok h => ⟨_, rfl, h⟩) (by have := HLL.out; omega) ?_
    intro v8 w8 H8
    obtain ⟨A8, c8, hv8, _, _⟩ := H8.reads 0 rfl
    generalize (l ++ takenL q tk i ++ [msg]).length = n8 at hv8
    subst hv8
    rw [List.append_assoc, ← HTK.out] at H8
    replace H8 := Aside0.mk H8
    have k8 : w8.cell? ⟨g, 2, none⟩ = some (.slice A5 n5 c5) ∧ w8.frozen? ⟨g, 2, none⟩ = false ∧ w8.cell? ⟨gx, 1, none⟩ = some (.slice Am msg.length cm) := ⟨H8.out.cell 2 rfl 2 rfl, H8.out.fz 2 rfl 2, H8.out.cell 1 rfl 1 rfl⟩
    have HP := Aside0.mk (H8.out.put 2 rfl 2 (.slice A8 n8 c8) rfl)
    have kp : (w8.setCell ⟨g, 2, none⟩ (.slice A8 n8 c8)).cell? ⟨gx, 1, none⟩ = some (.slice Am msg.length cm) := HP.out.cell 1 rfl 1 rfl
    refine Ag hK (fun hHeld => ?_) (by exact k8.2.2)
    clear hK K
    refine Tk 10 ?_
    refine Tk 11 ?_
    refine Rd 12 fun K hK => ?_
    go_simp
    refine Ag hK (fun hHeld => ?_) (by exact kp)
    clear hK K
    refine Dn ?_
    go_wp2_with fail
    go_roundw
    case rel => exact ⟨i + 1, _, hlt, rfl, ⟨((HP.out.erase 1).bring 2 rfl).bring 2 rfl⟩⟩
    case measure => simp [intOf]; omega
   ·
    go_simp
    refine (HCB2.out _ (below_drew (Below.refl _ _))).mono ?_
    rintro e w5 ⟨v5, rfl, hO5⟩
    obtain ⟨A6, c6, rfl, _, _⟩ := hO5.reads 0 rfl
    have H5 := Aside0.mk (HX.out.drew.call hO5)
    have k5 : w5.cell? ⟨g, 2, none⟩ = some (.slice A5 n5 c5) ∧ w5.cell? ⟨gx, 1, none⟩ = some (.slice Am msg.length cm) := ⟨H5.out.cell 2 rfl 2 rfl, H5.out.cell 1 rfl 1 rfl⟩
    clear hO5
    go_wp2_with fail
    refine Ag hK (fun hHeld => ?_) (by exact k5.2)
    clear hK K
    refine Rd2 4 8 (fun K hK => ?_) fun K hK => ?_
    ·
     refine Rn (.slice A5 n5 c5) ?_
     refine Ag hK (fun hHeld => ?_) (by exact k5.2)
     clear hK K
     refine Rd 8 fun K hK => ?_
     have k7 : (w5.alloc (.cells #[.slice A6 msg.length c6] 74)).cell? ⟨gx, 1, none⟩ = some (.slice Am msg.length cm) := (H5.out.alloc _).cell 1 rfl 1 rfl
     refine step_of_run (W1 := w5.alloc (.cells #[.slice A6 msg.length c6] 74)) (v := .slice (some ⟨w5.heap.size, 0, none⟩) 1 1) (by rfl) (by first | (go_simp; done) | (go_simp; rfl)) ?_
     refine Ag hK (fun hHeld => ?_) (by exact k7)
     clear hK K
     refine Rd 9 fun K hK => ?_
     refine own_appendM_step kL kB (H5.out.bring 4 rfl) (by rfl) (.tmp 33) (.tmp 37) 71 (.slice none 0 0) 24 rfl Try.underlying71 PRF.info74 rfl (show 0 < 1 by decide) (by decide) msg [.slice A6 msg.length c6] rfl rfl (fun W ok h => ⟨_, rfl, h⟩) (by have := HLL.out; omega) ?_
     intro v8 w8 H8
     obtain ⟨A8, c8, hv8, _, _⟩ := H8.reads 0 rfl
     generalize (l ++ takenL q tk i ++ [msg]).length = n8 at hv8
     subst hv8
     rw [List.append_assoc, ← HTK.out] at H8
     replace H8 := Aside0.mk H8
     have k8 : w8.cell? ⟨g, 2, none⟩ = some (.slice A5 n5 c5) ∧ w8.frozen? ⟨g, 2, none⟩ = false ∧ w8.cell? ⟨gx, 1, none⟩ = some (.slice Am msg.length cm) := ⟨H8.out.cell 2 rfl 2 rfl, H8.out.fz 2 rfl 2, H8.out.cell 1 rfl 1 rfl⟩
     have HP := Aside0.mk (H8.out.put 2 rfl 2 (.slice A8 n8 c8) rfl)
     have kp : (w8.setCell ⟨g, 2, none⟩ (.slice A8 n8 c8)).cell? ⟨gx, 1, none⟩ = some (.slice Am msg.length cm) := HP.out.cell 1 rfl 1 rfl
     refine Ag hK (fun hHeld => ?_) (by exact k8.2.2)
     clear hK K
     refine Tk 10 ?_
     refine Tk 11 ?_
     refine Rd 12 fun K hK => ?_
     go_simp
     refine Ag hK (fun hHeld => ?_) (by exact kp)
     clear hK K
     refine Dn ?_
     go_wp2_with fail
     go_roundw
     case rel => exact ⟨i + 1, _, hlt, rfl, ⟨((HP.out.erase 1).bring 2 rfl).bring 2 rfl⟩⟩
     case measure => simp [intOf]; omega
    ·
     have k7 : (w5.alloc (.cells #[.slice A6 msg.length c6] 74)).cell? ⟨gx, 1, none⟩ = some (.slice Am msg.length cm) := (H5.out.alloc _).cell 1 rfl 1 rfl
     refine step_of_run (W1 := w5.alloc (.cells #[.slice A6 msg.length c6] 74)) (v := .slice (some ⟨w5.heap.size, 0, none⟩) 1 1) (by rfl) (by first | (go_simp; done) | (go_simp; rfl)) ?_
     refine Ag hK (fun hHeld => ?_) (by exact k7)
     clear hK K
     have k6 : (w5.alloc (.cells #[.slice A6 msg.length c6] 74)).cell? ⟨g, 2, none⟩ = some (.slice A5 n5 c5) := (H5.out.alloc _).cell 2 rfl 2 rfl
     refine Rd 4 fun K hK => ?_
     refine Rn (.slice A5 n5 c5) ?_
     refine Ag hK (fun hHeld => ?_) (by exact k7)
     clear hK K
     refine Rd 9 fun K hK => ?_
     refine own_appendM_step kL kB (H5.out.bring 4 rfl) (by rfl) (.tmp 33) (.tmp 37) 71 (.slice none 0 0) 24 rfl Try.underlying71 PRF.info74 rfl (show 0 < 1 by decide) (by decide) msg [.slice A6 msg.length c6] rfl rfl (fun W ok h => ⟨_, rfl, h⟩) (by have := HLL.out; omega) ?_
     intro v8 w8 H8
     obtain ⟨A8, c8, hv8, _, _⟩ := H8.reads 0 rfl
     generalize (l ++ takenL q tk i ++ [msg]).length = n8 at hv8
     subst hv8
     rw [List.append_assoc, ← HTK.out] at H8
     replace H8 := Aside0.mk H8
     have k8 : w8.cell? ⟨g, 2, none⟩ = some (.slice A5 n5 c5) ∧ w8.frozen? ⟨g, 2, none⟩ = false ∧ w8.cell? ⟨gx, 1, none⟩ = some (.slice Am msg.length cm) := ⟨H8.out.cell 2 rfl 2 rfl, H8.out.fz 2 rfl 2, H8.out.cell 1 rfl 1 rfl⟩
     have HP := Aside0.mk (H8.out.put 2 rfl 2 (.slice A8 n8 c8) rfl)
     have kp : (w8.setCell ⟨g, 2, none⟩ (.slice A8 n8 c8)).cell? ⟨gx, 1, none⟩ = some (.slice Am msg.length cm) := HP.out.cell 1 rfl 1 rfl
     refine Ag hK (fun hHeld => ?_) (by exact k8.2.2)
     clear hK K
     refine Tk 10 ?_
     refine Tk 11 ?_
     refine Rd 12 fun K hK => ?_
     go_simp
     refine Ag hK (fun hHeld => ?_) (by exact kp)
     clear hK K
     refine Dn ?_
     go_wp2_with fail
     go_roundw
     case rel => exact ⟨i + 1, _, hlt, rfl, ⟨((HP.out.erase 1).bring 2 rfl).bring 2 rfl⟩⟩
     case measure => simp [intOf]; omega
  ·have hdl : decide ((i : Int) < (n : Int)) = false := decide_eq_false (by omega)
   obtain rfl : n = i := by omega
   obtain ⟨A5, c5, rfl, _, _⟩ := HI.out.reads 2 rfl
   have kf : wr.cell? ⟨g, 1, none⟩ = some (.int .i64 (tk : Int)) ∧ wr.frozen? ⟨g, 1, none⟩ = false := ⟨HI.out.cell 0 rfl 1 rfl, HI.out.fz 0 rfl 1⟩
   go_wp2_with fail
   refine bodyPost_end (results_none rfl _ _ _) rfl ?_
   exact ⟨rfl, _, HI.out.put 0 rfl 1 _ rfl⟩
def tickG (q : List SQ) (block : Int) : Nat → Nat → List (List Int) → Nat × List (List Int)
 | 0, tk, l => (tk, l)
 | f + 1, tk, l => if h : tk < q.length then if l.length < 4096 ∧ q[tk].f0 + 8 ≤ block then tickG q block f (tk + 1) (l ++ [q[tk].f1]) else (tk, l) else (tk, l)
def tickI (x : Box) (block : Int) : Box × Int :=
 if mayI x.q x.tk x.l && decide (0 ≤ block) then
  (⟨x.q, ((tickG x.q block (x.q.length - x.tk.toNat) x.tk.toNat x.l).1 : Int), (tickG x.q block (x.q.length - x.tk.toNat) x.tk.toNat x.l).2, x.nx⟩, 0) else (zeroB, 2)
theorem riseP_all : ∀ (q : List SQ) (last : Int), riseP last q = true → ∀ d ∈ q, last ≤ d.f0 ∧ d.f1.length ≤ 65536
 | [], _, _, _, hd => by cases hd
 | d :: q, last, h, x, hx => by
  unfold riseP at h
  rw [Bool.and_eq_true, Bool.and_eq_true, decide_eq_true_eq, decide_eq_true_eq] at h
  rcases List.mem_cons.1 hx with rfl | hx
  ·exact ⟨h.1.1, h.1.2⟩
  ·have := riseP_all q d.f0 h.2 x hx
   omega
theorem mayI_all {q : List SQ} {tk : Int} {l : List (List Int)} (h : mayI q tk l = true) : (∀ d ∈ q, 0 ≤ d.f0 ∧ d.f1.length ≤ 65536) ∧ (∀ m ∈ l, m.length ≤ 65536) := by
 unfold mayI longP at h
 simp only [Bool.and_eq_true, decide_eq_true_eq, Bool.not_eq_true'] at h
 refine ⟨riseP_all q 0 h.1.2, fun m hm => ?_⟩
 have h2 := h.2
 rw [List.any_eq_false] at h2
 have := h2 m hm
 simpa using this
theorem takenL_one (q : List SQ) (i : Nat) (h : i < q.length) : takenL q i 1 = [q[i].f1] := by
 have := takenL_snoc q i 0 h
 simpa [takenL] using this
theorem tickG_go {q : List SQ} {block : Int} {f tk : Nat} {l : List (List Int)} (h : tk < q.length) (hl : l.length < 4096) (hb : q[tk].f0 + 8 ≤ block) : tickG q block (f + 1) tk l = tickG q block f (tk + 1) (l ++ [q[tk].f1]) := by
 rw [tickG, dif_pos h, if_pos ⟨hl, hb⟩]
theorem tickG_stop {q : List SQ} {block : Int} {tk : Nat} {l : List (List Int)} (h : tk < q.length) (hl : ¬ (l.length < 4096 ∧ q[tk].f0 + 8 ≤ block)) : ∀ f, tickG q block f tk l = (tk, l)
 | 0 => rfl
 | f + 1 => by rw [tickG, dif_pos h, if_neg hl]
theorem tick_any (x : Box) (block : Int) (A1 A2 : Option Addr) (c1 c2 : Nat) (w : World) (hC1 : Kd.C kQ w A1 x.q.length x.q) (hc1 : x.q.length ≤ c1) (hC2 : Kd.C kL w A2 x.l.length x.l) (hc2 : x.l.length ≤ c2)
 (hblk : block ≤ 9223372036854775807) (hq64 : ∀ d ∈ x.q, d.f0 ≤ 9223372036854775807) :
 Calls Try.prog 38 #[.agg #[.slice A1 x.q.length c1, .int .i64 x.tk, .slice A2 x.l.length c2, .int .u64 x.nx], .int .i64 block] w (BoxPost w (tickI x block)) := by
 obtain ⟨q, tk, l, nx⟩ := x
 have H0 := Aside0.mk (Own.start w)
 have HMY := Aside0.mk (fun W hb => imay_any q tk l nx A1 A2 c1 c2 W (Kd.C_below hC1 hb) hc1 (Kd.C_below hC2 hb) hc2)
 have HCP := Aside0.mk (fun W (hb : Below w.heap.size w W) h1 h2 => copied_any q tk l nx A1 A2 c1 c2 W (Kd.C_below hC1 hb) hc1 (Kd.C_below hC2 hb) hc2 h1 h2)
 have HLN := Aside0.mk (fun h : mayI q tk l = true => mayI_len h)
 have HAL := Aside0.mk (fun h : mayI q tk l = true => mayI_all h)
 have HQ64 := Aside0.mk hq64
 obtain ⟨r, hr⟩ : ∃ r, r = tickI ⟨q, tk, l, nx⟩ block := ⟨_, rfl⟩
 rw [← hr]
 have HR := Aside0.mk hr
 dsimp only
 clear hC1 hC2 hc1 hc2 hq64 hr
 obtain ⟨n, hn⟩ : ∃ n, n = q.length := ⟨_, rfl⟩
 have HN := Aside0.mk hn
 rw [← hn] at HCP HMY ⊢
 clear hn
 generalize hmm : l.length = m at *
 replace hmm := Aside0.mk hmm
 obtain ⟨my, hmy⟩ : ∃ my, my = mayI q tk l := ⟨_, rfl⟩
 rw [← hmy] at HMY HLN HAL
 have HMYE := Aside0.mk hmy
 clear hmy
 go_enter Try.func38, Try.ntmps38
 go_upto_region 1 with (first
  | fail
  | ((with_reducible refine Gd 2 ?_); refine OB H0 73 #[.slice A1 n c1, .int .i64 tk, .slice A2 m c2, .int .u64 nx] ?_; intro g2 w1 H1 B1)
  | ((with_reducible refine Gd 4 ?_); refine OA H1 73 #[.slice none 0 0, .int .i64 0, .slice none 0 0, .int .u64 0] 4 ?_; intro g4 w2 H2 B2)
  )
 replace H2 : Aside0 (Own w.heap.size w w2 [.blk g4 #[.slice none 0 0, .int .i64 0, .slice none 0 0, .int .u64 0] 73, .blk g2 #[.slice A1 n c1, .int .i64 tk, .slice A2 m c2, .int .u64 nx] 73]) := ⟨H2.out⟩
 have HA0 : Aside0 (Arr 4 #[.slice none 0 0, .int .i64 0, .slice none 0 0, .int .u64 0]) := ⟨rfl, by simp [Value.oneCell']⟩
 have HA1 : Aside0 (Arr 4 #[.slice A1 n c1, .int .i64 tk, .slice A2 m c2, .int .u64 nx]) := ⟨rfl, by simp [Value.oneCell']⟩
 clear H0 H1 B1 B2
 go_cut [5, 12] (fun v5 v12 wc => v5 = .int .i64 0 ∧ v12 = .bool (!(my && decide (0 ≤ block))) ∧ Aside0 (Own w.heap.size w wc [.blk g4 #[.slice none 0 0, .int .i64 0, .slice none 0 0, .int .u64 0] 73, .blk g2 #[.slice A1 n c1, .int .i64 tk, .slice A2 m c2, .int .u64 nx] 73]))
 case first =>
  by_cases hb : 0 ≤ block
  ·have hd1 : decide (0 ≤ block) = true := decide_eq_true hb
   have hd2 : decide (block < 0) = false := decide_eq_false (by omega)
   cases my
   all_goals
    go_wp2_with (first
     | fail
     | ((with_reducible refine gate_dst (N := 6) rfl ?_); refine own_loadV H2.out 1 g2 _ 73 rfl rfl (.tmp 2) rfl _ rfl Try.underlying73 rfl (by kernel_rfl) ?_)
     | (go_at_call 57; refine (HMY.out _ H2.out.below).mono ?_; rintro e w3 ⟨rfl, hB3⟩; have H3 := Aside0.mk (H2.out.step hB3); clear hB3)
     )
    go_meet
    exact ⟨rfl, by first | rfl | (rw [hd1]; rfl), H3⟩
  ·have hd1 : decide (0 ≤ block) = false := decide_eq_false hb
   have hd2 : decide (block < 0) = true := decide_eq_true (by omega)
   cases my
   all_goals
    go_wp2_with (first
     | fail
     | ((with_reducible refine gate_dst (N := 6) rfl ?_); refine own_loadV H2.out 1 g2 _ 73 rfl rfl (.tmp 2) rfl _ rfl Try.underlying73 rfl (by kernel_rfl) ?_)
     | (go_at_call 57; refine (HMY.out _ H2.out.below).mono ?_; rintro e w3 ⟨rfl, hB3⟩; have H3 := Aside0.mk (H2.out.step hB3); clear hB3)
     )
    go_meet
    exact ⟨rfl, by first | rfl | (rw [hd1]; rfl), H3⟩
 case rest =>
 clear H2 HMY
 obtain ⟨rfl, rfl, H2⟩ := hcut
 cases hb : (my && decide (0 ≤ block))
 ·obtain rfl : r = (zeroB, 2) := by rw [HR.out, tickI, if_neg (by show ¬ (mayI q tk l && decide (0 ≤ block)) = true; rw [← HMYE.out, hb]; simp)]
  clear HR
  go_wp2_with (first
   | fail
   | ((with_reducible refine Gs 73 4 ?_); refine OS 4 13 H2 0 g4 73 #[.slice none 0 0, .int .i64 0, .slice none 0 0, .int .u64 0] 4 HA0 HA0 ?_; intro w7 HG)
   )
  refine bodyPost_ret (own_resultV_t rfl _ HG.out 0 g4 _ rfl rfl _ Try.underlying73 rfl (by kernel_rfl) _ rfl) rfl ?_
  exact ⟨_, _, rfl, ((((HG.out.erase 0).erase 0).null kL _).null kQ _)⟩
 rw [Bool.and_eq_true, decide_eq_true_eq] at hb
 obtain ⟨rfl, hb0⟩ := hb
 obtain ⟨hn1, hm1, ht0, htn⟩ := HLN.out rfl
 obtain ⟨hq0, hl0⟩ := HAL.out rfl
 rw [← HN.out] at hn1 htn
 obtain ⟨ti, rfl⟩ := Int.eq_ofNat_of_zero_le ht0
 replace htn : ti ≤ n := by omega
 replace HR : Aside0 (r = (⟨q, ((tickG q block (n - ti) ti l).1 : Int), (tickG q block (n - ti) ti l).2, nx⟩, 0)) := ⟨by
  rw [HR.out, tickI, if_pos (by show (mayI q (ti : Int) l && decide (0 ≤ block)) = true; rw [← HMYE.out, decide_eq_true hb0]; rfl), HN.out]; rfl⟩
 have HQA := Aside0.mk (fun (i : Nat) (h : i < q.length) => (⟨(hq0 _ (List.getElem_mem h)).1, HQ64.out _ (List.getElem_mem h)⟩ : 0 ≤ q[i].f0 ∧ q[i].f0 ≤ 9223372036854775807))
 have HCP2 := Aside0.mk (fun W hb => HCP.out W hb (by have := HN.out; omega) (by omega) (fun d hd => by have := (hq0 d hd).2; omega) (fun m hm => by have := hl0 m hm; omega))
 have HQM := Aside0.mk (fun (d : SQ) (hd : d ∈ q) => (show d.f1.length ≤ 1099511627776 by have := (hq0 d hd).2; omega))
 have HNB : Aside0 (q.length ≤ 1000000) := ⟨by have := HN.out; omega⟩
 clear HQ64 HAL HLN HCP hq0 hl0 HMYE ht0
 go_wp2_with (first
  | fail
  | ((with_reducible refine gate_dst (N := 14) rfl ?_); refine own_loadV H2.out 1 g2 _ 73 rfl rfl (.tmp 2) rfl _ rfl Try.underlying73 rfl (by kernel_rfl) ?_)
  | (go_at_call 87; refine (HCP2.out _ H2.out.below).mono ?_; rintro e w3 ⟨v1, v2, rfl, hO3⟩; obtain ⟨A3, c3, rfl, hcl3, _⟩ := hO3.reads 0 rfl; obtain ⟨A4, c4, rfl, hcl4, _⟩ := hO3.reads 1 rfl; have H3 := Aside0.mk (H2.out.call hO3); have HA3 : Aside0 (Arr 4 #[.slice A3 q.length c3, .int .i64 (ti : Int), .slice A4 l.length c4, .int .u64 nx]) := ⟨rfl, by simp [Value.oneCell']⟩; clear hO3)
  | ((with_reducible refine Gs 73 2 ?_); refine OS 2 15 H3 3 g2 73 (#[.slice A3 q.length c3, .int .i64 (ti : Int), .slice A4 l.length c4, .int .u64 nx]) 4 HA1 HA3 ?_; intro w4 H4)
  )
 replace H4 : Aside0 (Own w.heap.size w w4 [.blk g2 #[.slice A3 n c3, .int .i64 (ti : Int), .slice A4 l.length c4, .int .u64 nx] 73, .row kQ 78 (.slice A3 n c3) q, .row kL 74 (.slice A4 l.length c4) l, .blk g4 #[.slice none 0 0, .int .i64 0, .slice none 0 0, .int .u64 0] 73]) := ⟨by have h := H4.out.bring 3 rfl; rw [HN.out]; exact h⟩
 replace hcl3 : n ≤ c3 := by rw [HN.out]; exact hcl3
 clear H2 H3 HA1 HA3 HCP2
 simp only [Act.put, List.setIfInBounds_toArray, List.set_cons_zero, List.set_cons_succ]
 go_loopw [] (fun wr => ∃ (i : Nat) (li : List (List Int)) (vl : Value), i ≤ n ∧ li.length ≤ 4096 ∧ Aside0 (tickG q block (n - ti) ti l = tickG q block (n - i) i li) ∧ Aside0 (Own w.heap.size w wr [.blk g2 #[.slice A3 n c3, .int .i64 (i : Int), vl, .int .u64 nx] 73, .row kQ 78 (.slice A3 n c3) q, .row kL 74 vl li, .blk g4 #[.slice none 0 0, .int .i64 0, .slice none 0 0, .int .u64 0] 73])) (fun wr => n - (intOf ((wr.cell? ⟨g2, 1, none⟩).getD undef)).toNat)
 case atStart => exact ⟨ti, l, _, htn, by have := hmm.out; omega, ⟨rfl⟩, H4⟩
 case round =>
  clear H4
  obtain ⟨i, li, vl, hin, hli, HG, HI⟩ := hrel
  obtain ⟨A4, c4, hv4, hcl4, _⟩ := HI.out.reads 2 rfl
  obtain ⟨m4, hm4⟩ : ∃ m4, m4 = li.length := ⟨_, rfl⟩
  rw [← hm4] at hv4 hli
  replace hm4 := Aside0.mk hm4
  subst hv4
  have k0 : wr.cell? ⟨g2, 0, none⟩ = some (.slice A3 n c3) ∧ wr.cell? ⟨g2, 1, none⟩ = some (.int .i64 (i : Int)) ∧ wr.cell? ⟨g2, 2, none⟩ = some (.slice A4 m4 c4) := ⟨HI.out.cell 0 rfl 0 rfl, HI.out.cell 0 rfl 1 rfl, HI.out.cell 0 rfl 2 rfl⟩
  by_cases hlt : i < n
  ·have hdl : decide (i < n) = true := decide_eq_true (by omega)
   have hiq : i < q.length := by rw [← HN.out]; exact hlt
   by_cases hm : m4 < 4096
   ·have hdm : decide ((m4 : Int) < 4096) = true := decide_eq_true (by omega)
    obtain ⟨gq, cap, he, _⟩ := HI.out.form 1 rfl (by omega)
    rw [← HN.out] at he
    injection he with he he2 he3
    subst he he3
    obtain ⟨cs, hK, hcell⟩ := HI.out.cells_at 1 rfl i (List.getElem?_eq_getElem hiq)
    obtain ⟨Am, cm, rfl, hcm, hCm⟩ := PRF.k78_open hK
    have kA : wr.cell? ⟨gq, i * 2, none⟩ = some (.int .i64 q[i].f0) := hcell 0 _ rfl
    obtain ⟨hb1, hb2⟩ := HQA.out i hiq
    have hib : (0 : Int) ≤ (i : Int) ∧ (i : Int) < (n : Int) := by omega
    have hws : IntKind.i64.wrap (block - q[i].f0) = block - q[i].f0 := IntWalk.i64_in _ (by omega)
    clear hK hcell hCm hcm
    by_cases hbk : q[i].f0 + 8 ≤ block
    ·have hdb : decide (8 ≤ block - q[i].f0) = true := decide_eq_true (by omega)
     have HNG : Aside0 (tickG q block (n - i) i li = tickG q block (n - (i + 1)) (i + 1) (li ++ [q[i].f1])) := ⟨by
      rw [show n - i = (n - (i + 1)) + 1 by omega]; exact tickG_go hiq (by rw [← hm4.out]; exact hm) hbk⟩
     have HTK : Aside0 (Calls Try.prog 88 #[.pointer (some ⟨g2, 0, none⟩), .int .i64 1] wr fun e w' => e = .returned (.tuple #[]) ∧ ∃ vl', Own w.heap.size w w' [.blk g2 #[.slice (some ⟨gq, 0, none⟩) n c3, .int .i64 ((i + 1 : Nat) : Int), vl', .int .u64 nx] 73, .row kQ 78 (.slice (some ⟨gq, 0, none⟩) n c3) q, .row kL 74 vl' (li ++ [q[i].f1]), .blk g4 #[.slice none 0 0, .int .i64 0, .slice none 0 0, .int .u64 0] 73]) := ⟨by
      have h := HI.out
      rw [HN.out] at h hcl3 ⊢
      exact (take_any q i 1 li nx g2 gq c3 _ h hcl3 (by omega) HNB.out (by have := hm4.out; omega) HQM.out).mono fun e w' ⟨h1, vl', h2⟩ => ⟨h1, vl', by rw [takenL_one q i hiq] at h2; exact h2⟩⟩
     clear hb1 hb2
     generalize q[i].f0 = b at *
     go_wp2_with (go_at_call 88; refine HTK.out.mono ?_; rintro e w5 ⟨rfl, vl', H5⟩; replace H5 := Aside0.mk H5)
     have k5 : w5.cell? ⟨g2, 1, none⟩ = some (.int .i64 ((i + 1 : Nat) : Int)) := H5.out.cell 0 rfl 1 rfl
     go_roundw
     case rel => exact ⟨i + 1, _, _, hlt, by rw [List.length_append, ← hm4.out]; simp; omega, ⟨HG.out.trans HNG.out⟩, H5⟩
     case measure => rw [k5, k0.2.1]; simp [intOf]; omega
    ·have hdb : decide (8 ≤ block - q[i].f0) = false := decide_eq_false (by omega)
     have hst := tickG_stop (q := q) (block := block) (l := li) hiq (fun h => hbk h.2) (n - i)
     clear hb1 hb2
     generalize q[i].f0 = b at *
     replace HR : Aside0 (r = (⟨q, (i : Int), li, nx⟩, 0)) := ⟨by rw [HR.out, HG.out, hst]⟩
     clear hst HG
     obtain rfl := HR.out
     clear HR
     have HAE : Aside0 (Arr 4 #[.slice (some ⟨gq, 0, none⟩) n c3, .int .i64 (i : Int), .slice A4 m4 c4, .int .u64 nx]) := ⟨rfl, by simp [Value.oneCell']⟩
     go_wp2_with (first
      | fail
      | ((with_reducible refine gate_dst (N := 41) rfl ?_); refine own_loadV HI.out 0 g2 _ 73 rfl rfl (.tmp 2) rfl _ rfl Try.underlying73 rfl (by kernel_rfl) ?_)
      | ((with_reducible refine Gs 73 4 ?_); refine OS 4 41 HI 3 g4 73 (#[.slice (some ⟨gq, 0, none⟩) n c3, .int .i64 (i : Int), .slice A4 m4 c4, .int .u64 nx]) 4 HA0 HAE ?_; intro w7 HG)
      )
     refine bodyPost_ret (own_resultV_t rfl _ HG.out 3 g4 _ rfl rfl _ Try.underlying73 rfl (by kernel_rfl) _ rfl) rfl ?_
     exact ⟨_, _, rfl, (HG.out.erase 3).erase 0⟩
   ·have hdm : decide ((m4 : Int) < 4096) = false := decide_eq_false (by omega)
    have hst := tickG_stop (q := q) (block := block) (l := li) hiq (fun h => hm (by rw [hm4.out]; exact h.1)) (n - i)
    replace HR : Aside0 (r = (⟨q, (i : Int), li, nx⟩, 0)) := ⟨by rw [HR.out, HG.out, hst]⟩
    clear hst HG
    obtain rfl := HR.out
    clear HR
    have HAE : Aside0 (Arr 4 #[.slice A3 n c3, .int .i64 (i : Int), .slice A4 m4 c4, .int .u64 nx]) := ⟨rfl, by simp [Value.oneCell']⟩
    go_wp2_with (first
     | fail
     | ((with_reducible refine gate_dst (N := 41) rfl ?_); refine own_loadV HI.out 0 g2 _ 73 rfl rfl (.tmp 2) rfl _ rfl Try.underlying73 rfl (by kernel_rfl) ?_)
     | ((with_reducible refine Gs 73 4 ?_); refine OS 4 41 HI 3 g4 73 (#[.slice A3 n c3, .int .i64 (i : Int), .slice A4 m4 c4, .int .u64 nx]) 4 HA0 HAE ?_; intro w7 HG)
     )
    refine bodyPost_ret (own_resultV_t rfl _ HG.out 3 g4 _ rfl rfl _ Try.underlying73 rfl (by kernel_rfl) _ rfl) rfl ?_
    exact ⟨_, _, rfl, (HG.out.erase 3).erase 0⟩
  ·have hdl : decide (i < n) = false := decide_eq_false (by omega)
   have hst : tickG q block (n - i) i li = (i, li) := by rw [show n - i = 0 by omega]; rfl
   replace HR : Aside0 (r = (⟨q, (i : Int), li, nx⟩, 0)) := ⟨by rw [HR.out, HG.out, hst]⟩
   clear hst HG
   obtain rfl := HR.out
   clear HR
   have HAE : Aside0 (Arr 4 #[.slice A3 n c3, .int .i64 (i : Int), .slice A4 m4 c4, .int .u64 nx]) := ⟨rfl, by simp [Value.oneCell']⟩
   go_wp2_with (first
    | fail
    | ((with_reducible refine gate_dst (N := 41) rfl ?_); refine own_loadV HI.out 0 g2 _ 73 rfl rfl (.tmp 2) rfl _ rfl Try.underlying73 rfl (by kernel_rfl) ?_)
    | ((with_reducible refine Gs 73 4 ?_); refine OS 4 41 HI 3 g4 73 (#[.slice A3 n c3, .int .i64 (i : Int), .slice A4 m4 c4, .int .u64 nx]) 4 HA0 HAE ?_; intro w7 HG)
    )
   refine bodyPost_ret (own_resultV_t rfl _ HG.out 3 g4 _ rfl rfl _ Try.underlying73 rfl (by kernel_rfl) _ rfl) rfl ?_
   exact ⟨_, _, rfl, (HG.out.erase 3).erase 0⟩
theorem R_elem {α : Type} {d : Kd α} {e : Nat} {W : World} {base : Nat} {ok : Nat → Prop} {v : Value} {xs : List α} (h : d.R e W base ok v xs) (i : Nat) (hi : i < xs.length) :
 ∃ g cap cs, v = .slice (some ⟨g, 0, none⟩) xs.length cap ∧ xs.length ≤ cap ∧ d.M W base ok xs[i] cs ∧ ∀ j u, cs[j]? = some u → W.cell? ⟨g, i * d.sz + j, none⟩ = some u := by
 obtain ⟨g, cap, h5, _⟩ := Kd.R_form h (by omega)
 subst h5
 obtain ⟨hn, cur, inner, hh, hc3, hc1, hc4, hr⟩ := R_block h
 refine ⟨g, cap, (inner.drop (i * d.sz)).take d.sz, rfl, hc1, d.M_mono (fun k hk => hk.1) (hr.2 i _ (List.getElem?_eq_getElem hi)), fun j u hj => ?_⟩
 rw [blk_cell hh]
 rw [List.getElem?_take] at hj
 split at hj
 ·rw [List.getElem?_drop, ← hc4, List.getElem?_take] at hj
  split at hj
  ·rw [← Array.getElem?_toList]; exact hj
  ·cases hj
 ·cases hj
theorem Own.shM_up {α : Type} {d : Kd α} {w1 wd W : World} {S : Nat → Prop} {e : Nat} {v : Value} {xs : List α} {L : List Item} (h : Own wd.heap.size wd W (.row (shM d wd S) e v xs :: L)) (hb : Below w1.heap.size w1 wd) (hS : ∀ k, S k → w1.heap.size ≤ k) :
 Own w1.heap.size w1 W (.row d e v xs :: L) := by
 obtain ⟨hbl, hba, S1, c1, c2, c3⟩ := h
 have c2 : (shM d wd S).R e W 0 S1 v xs := c2
 have hsz := hb.size
 have c2' : (shM d wd (fun k => S k ∧ k < wd.heap.size)).R e W 0 S1 v xs := by
  obtain ⟨h0, inner, ho, hr⟩ := c2
  refine ⟨h0, inner, ho, Reps.imp_ hr fun x cs hx => ?_⟩
  have hx : d.M wd 0 S x cs := hx
  exact d.M_mono (fun k hk => ⟨hk.1, hk.2.2.1⟩) (d.M_bound hx)
 refine ⟨below_step hb hbl, by omega, fun k => S1 k ∨ (S k ∧ k < wd.heap.size), ?_, shM_own c2' hbl (fun k hk => (c1 k hk).1), ?_⟩
 ·rintro i (hi | hi)
  ·have := c1 i hi; omega
  ·have := hS i hi.1; omega
 ·refine Sep.imp (fun i hi => ⟨by have := hi.1; omega, ?_⟩) c3
  rintro (h | h)
  ·exact hi.2 h
  ·have := hi.1; omega
theorem cutP_byt {b x y : List Int} {n : Nat} (hb : K.Byt b) (h : K.cutP b n = .ok (x, y)) : K.Byt x ∧ K.Byt y := by
 obtain ⟨_, rfl, rfl⟩ := K.cutP_ok h
 exact ⟨fun z hz => hb z (List.mem_of_mem_take hz), fun z hz => hb z (List.mem_of_mem_drop hz)⟩
theorem bodyP_byt {f : Nat} {b x y : List Int} (hb : K.Byt b) (h : K.bodyP f b = .ok (x, y)) : K.Byt x ∧ K.Byt y := by
 unfold K.bodyP at h
 split at h
 ·exact cutP_byt hb h
 ·split at h
  ·split at h
   ·cases h
   ·exact cutP_byt (fun z hz => hb z (List.mem_of_mem_drop hz)) h
  ·cases h
theorem bind_ok {ε α β : Type} {x : Except ε α} {f : α → Except ε β} {r : β} (h : x.bind f = .ok r) : ∃ a, x = .ok a ∧ f a = .ok r := by
 cases x with
 | error e => cases h
 | ok a => exact ⟨a, rfl, h⟩
theorem itemsP_byt (f : List Int → Except Int (SI × List Int)) (hf : ∀ l x r, K.Byt l → f l = .ok (x, r) → K.BytI x ∧ K.Byt r) : ∀ (k : Nat) (l : List Int) (xs : List SI), K.Byt l → K.itemsP f k l = .ok xs → ∀ y ∈ xs, K.BytI y
 | 0, [], xs, _, h => by
  simp only [K.itemsP, Except.ok.injEq] at h
  subst h
  intro y hy; cases hy
 | k + 1, [], xs, _, h => by
  simp only [K.itemsP, Except.ok.injEq] at h
  subst h
  intro y hy; cases hy
 | 0, c :: l, xs, _, h => by simp [K.itemsP] at h
 | k + 1, c :: l, xs, hb, h => by
  simp only [K.itemsP] at h
  obtain ⟨⟨q1, q2⟩, h1, h⟩ := bind_ok h
  obtain ⟨ys, h2, h⟩ := bind_ok h
  simp only [Except.ok.injEq] at h
  subst h
  obtain ⟨hx, hr⟩ := hf _ _ _ hb h1
  intro y hy
  rcases List.mem_cons.1 hy with rfl | hy
  ·exact hx
  ·exact itemsP_byt f hf k _ _ hr h2 y hy
theorem itemF_byt {sub : Option (List Int → Except Int (SI × List Int))} (hsub : ∀ f, sub = some f → ∀ l x r, K.Byt l → f l = .ok (x, r) → K.BytI x ∧ K.Byt r) {l r : List Int} {x : SI} (hb : K.Byt l) (h : K.itemF sub l = .ok (x, r)) : K.BytI x ∧ K.Byt r := by
 cases l with
 | nil => cases h
 | cons c rest =>
  have hc := hb c (by simp)
  have hr : K.Byt rest := fun z hz => hb z (List.mem_cons_of_mem _ hz)
  simp only [K.itemF] at h
  split at h
  ·simp only [Except.ok.injEq, Prod.mk.injEq] at h
   obtain ⟨rfl, rfl⟩ := h
   refine ⟨.mk _ (fun z hz => ?_) (fun y hy => by cases hy), hr⟩
   rw [List.mem_singleton.1 hz]; exact hc
  ·split at h
   ·obtain ⟨⟨q1, q2⟩, h1, h⟩ := bind_ok h
    split at h
    ·cases h
    ·simp only [Except.ok.injEq, Prod.mk.injEq] at h
     obtain ⟨rfl, rfl⟩ := h
     have := bodyP_byt hr h1
     exact ⟨.mk _ this.1 (fun y hy => by cases hy), this.2⟩
   ·split at h
    ·cases h
    ·rename_i f
     obtain ⟨⟨q1, q2⟩, h1, h⟩ := bind_ok h
     obtain ⟨xs, h2, h⟩ := bind_ok h
     simp only [Except.ok.injEq, Prod.mk.injEq] at h
     obtain ⟨rfl, rfl⟩ := h
     have hq := bodyP_byt hr h1
     exact ⟨.mk _ (fun z hz => by cases hz) (itemsP_byt f (hsub f rfl) _ _ _ hq.1 h2), hq.2⟩
theorem itemP_byt : ∀ (lv : Nat) (l r : List Int) (x : SI), K.Byt l → K.itemP lv l = .ok (x, r) → K.BytI x ∧ K.Byt r
 | 0, l, r, x, hb, h => itemF_byt (by simp) hb h
 | lv + 1, l, r, x, hb, h => itemF_byt (sub := some (K.itemP lv)) (by rintro f hf; cases hf; exact fun l x r hb h => itemP_byt lv l r x hb h) hb h
theorem decodeP_byt {l : List Int} {x : SI} (hb : K.Byt l) (h : K.decodeP l = .ok x) : K.BytI x := by
 unfold K.decodeP at h
 split at h
 ·cases h
 ·obtain ⟨⟨q1, q2⟩, h1, h⟩ := bind_ok h
  split at h
  ·simp only [Except.ok.injEq] at h
   subst h
   exact (itemP_byt 16 l q2 _ hb h1).1
  ·cases h
theorem decodeP_err {l : List Int} {e : Int} (h : K.decodeP l = .error e) : e ≠ 0 := by
 unfold K.decodeP at h
 split at h
 ·cases h; decide
 ·rcases K.bind_err h with h | ⟨q, _, h⟩
  ·exact K.itemP_err h
  ·split at h
   ·cases h
   ·cases h; decide
theorem BytI_f1 {x : SI} (h : K.BytI x) : K.Byt x.f1 := by cases h; assumption
theorem BytI_f2 {x : SI} (h : K.BytI x) : ∀ y ∈ x.f2, K.BytI y := by cases h; assumption
structure BatchI where
 n : Int
 t : Int
 ms : List (List Int)
def zeroBt : BatchI := ⟨0, 0, []⟩
def itemsB (a b c : SI) : BatchI × Int :=
 if (K.rnumP a).2 = 0 ∧ (K.rnumP b).2 = 0 ∧ c.f0 = true ∧ c.f2.length ≤ 4096 ∧ (c.f2.all fun y => !y.f0) = true then (⟨(K.rnumP a).1, (K.rnumP b).1, c.f2.map fun y => y.f1⟩, 0) else (zeroBt, 8)
def shapeB (b : Bool) (l : List SI) : BatchI × Int :=
 match b, l with
 | true, [y0, y1, y2] => itemsB y0 y1 y2
 | _, _ => (zeroBt, 8)
theorem shapeB_bad {b : Bool} {l : List SI} (h : b = false ∨ l.length ≠ 3) : shapeB b l = (zeroBt, 8) := by
 unfold shapeB
 split
 ·rcases h with h | h
  ·cases h
  ·exact absurd rfl h
 ·rfl
def batchP (b : List Int) : BatchI × Int :=
 match K.decodeP b with
 | .error e => (zeroBt, e)
 | .ok x => shapeB x.f0 x.f2
def BatchPost (w : World) (r : BatchI × Int) (e : Ending) (w' : World) : Prop :=
 ∃ v, e = .returned (.tuple #[.agg #[.int .u64 r.1.n, .int .u64 r.1.t, v], .int .i64 r.2]) ∧ Own w.heap.size w w' [.row kL 74 v r.1.ms]
def Item.Cl (it : Item) : Prop := ∀ (W : World) (S : Nat → Prop), it.P W S → it.P W (fun k => S k ∧ ∃ o : Obj, W.heap[k]? = some o ∧ o.isCells = true)
theorem Cl_blk (g : Nat) (cs : Array Value) (t : TypeId) : (Item.blk g cs t).Cl := fun W S h => ⟨⟨h.1, _, h.2, rfl⟩, h.2⟩
theorem Cl_row {α : Type} (d : Kd α) (e : Nat) (v : Value) (xs : List α) : (Item.row d e v xs).Cl := fun W S h => Kd.R_mono (Kd.R_bound h) fun k hk => ⟨hk.1, by
 obtain ⟨_, _, _, q, _, cells, hc⟩ := hk
 exact ⟨_, hc, rfl⟩⟩
theorem Sep.cl {W : World} : ∀ {L : List Item} {U : Nat → Prop}, (∀ it ∈ L, it.Cl) → Sep W L U → Sep W L (fun k => U k ∧ ∃ o : Obj, W.heap[k]? = some o ∧ o.isCells = true)
 | [], _, _, _ => trivial
 | it :: L, U, hL, ⟨S, h1, h2, h3⟩ => ⟨_, fun i hi => ⟨h1 i hi.1, hi.2⟩, hL it (by simp) W S h2, Sep.imp (fun i hi => ⟨⟨hi.1.1, hi.2⟩, fun hs => hi.1.2 hs.1⟩) (Sep.cl (fun x hx => hL x (by simp [hx])) h3)⟩
theorem Own.other {B : Nat} {w0 W W1 : World} {L : List Item} {row : Option Nat} (h : Own B w0 W L) (hL : ∀ it ∈ L, it.Cl) (hg : W.grownBy W1 row) (hr : ∀ r, row = some r → B ≤ r ∧ ∃ o : Obj, W.heap[r]? = some o ∧ o.isCells = false) : Own B w0 W1 L :=
 ⟨h.below.grown hg h.base (fun g e => (hr g e).1), Nat.le_trans h.base hg.size, Sep.imp (fun i hi => ⟨hi.1.1, Nat.lt_of_lt_of_le hi.1.2 hg.size⟩) (Sep.move (fun k hk => hg.block k hk.1.2 (fun e => by
  obtain ⟨o, ho, hc⟩ := hk.2
  obtain ⟨_, o', ho', hc'⟩ := hr k e.symm
  rw [ho] at ho'
  cases ho'
  rw [hc] at hc'
  cases hc')) (Sep.cl hL h.sep))⟩
theorem Cl_nil : ∀ it ∈ ([] : List Item), it.Cl := fun _ h => by cases h
theorem Cl_cons {it : Item} {L : List Item} (h : it.Cl) (hL : ∀ x ∈ L, x.Cl) : ∀ x ∈ it :: L, x.Cl := fun x hx => by
 rcases List.mem_cons.1 hx with rfl | hx
 ·exact h
 ·exact hL x hx
def Item.obj (D : Nat) (o : Obj) : Item where
 P := fun W S => S D ∧ W.heap[D]? = some o
 move := fun hm h => ⟨h.1, (hm D h.1).trans h.2⟩
 mono := fun hm h => ⟨hm _ h.1, h.2⟩
theorem Own.keepObj {B : Nat} {w0 W : World} {L : List Item} (h : Own B w0 W L) (hL : ∀ it ∈ L, it.Cl) {D : Nat} {o : Obj} (hD : B ≤ D) (ho : W.heap[D]? = some o) (hc : o.isCells = false) : Own B w0 W (.obj D o :: L) :=
 ⟨h.below, h.base, fun k => k = D, fun i hi => by subst hi; exact ⟨hD, blk_lt ho⟩, ⟨rfl, ho⟩, Sep.imp (fun i hi => ⟨hi.1, fun e => by
  subst e
  obtain ⟨o', ho', hc'⟩ := hi.2
  rw [ho] at ho'
  cases ho'
  rw [hc] at hc'
  cases hc'⟩) (Sep.cl hL h.sep)⟩
theorem Own.getObj {B : Nat} {w0 W : World} {L : List Item} {D : Nat} {o : Obj} (h : Own B w0 W (.obj D o :: L)) : B ≤ D ∧ W.heap[D]? = some o := by
 obtain ⟨S, h1, h2⟩ := h.look 0 rfl
 exact ⟨(h1 D h2.1).1, h2.2⟩
theorem Own.putObj {B : Nat} {w0 W : World} {L : List Item} {D : Nat} {o : Obj} (h : Own B w0 W (.obj D o :: L)) (hL : ∀ it ∈ L, it.Cl) (hc : o.isCells = false) (o' : Obj) : Own B w0 (W.putObj D o') L :=
 (h.erase 0).other hL (grownBy_putObj' W D o') fun r e => by
  cases e
  exact ⟨h.getObj.1, _, h.getObj.2, hc⟩
def Item.lend {α : Type} (d : Kd α) (e : Nat) (v : Value) (xs : List α) (g : Nat) (ms : List α) : Item where
 P := fun W S => Kd.R d e W 0 (fun k => S k ∧ (0 < ms.length → k ≠ g)) v xs ∧ (0 < ms.length → S g) ∧ ∀ (i : Nat) (h : i < ms.length), ∃ u, W.cell? ⟨g, i, none⟩ = some u ∧ d.M W 0 (fun k => S k ∧ k ≠ g ∧ some k ≠ v.ownBlock) ms[i] [u]
 move := fun hm h => ⟨Kd.R_move h.1 (fun k hk => hm k hk.1), h.2.1, fun i hi => by
  obtain ⟨u, h1, h2⟩ := h.2.2 i hi
  exact ⟨u, (World.cell?_of_block (hm g (h.2.1 (by omega)))).trans h1, d.M_move (fun k hk => hm k hk.1) h2⟩⟩
 mono := fun hm h => ⟨Kd.R_mono h.1 (fun k hk => ⟨hm k hk.1, hk.2⟩), fun hp => hm g (h.2.1 hp), fun i hi => by
  obtain ⟨u, h1, h2⟩ := h.2.2 i hi
  exact ⟨u, h1, d.M_mono (fun k hk => ⟨hm k hk.1, hk.2⟩) h2⟩⟩
theorem Cl_lend {α : Type} (d : Kd α) (e : Nat) (v : Value) (xs : List α) (g : Nat) (ms : List α) (hg : ∀ (W : World) (S : Nat → Prop), (Item.lend d e v xs g ms).P W S → 0 < ms.length → ∃ o : Obj, W.heap[g]? = some o ∧ o.isCells = true) : (Item.lend d e v xs g ms).Cl := fun W S h => by
 have hgc := hg W S h
 obtain ⟨h1, h2, h3⟩ := h
 refine ⟨Kd.R_mono (Kd.R_bound h1) fun k hk => ⟨⟨hk.1.1, ?_⟩, hk.1.2⟩, fun hp => ⟨h2 hp, hgc hp⟩, fun i hi => ?_⟩
 ·obtain ⟨_, _, _, q, _, cells, hc⟩ := hk
  exact ⟨_, hc, rfl⟩
 ·obtain ⟨u, k1, k2⟩ := h3 i hi
  refine ⟨u, k1, d.M_mono (fun k hk => ⟨⟨hk.1.1, ?_⟩, hk.1.2⟩) (d.M_bound k2)⟩
  obtain ⟨_, _, _, q, _, cells, hc⟩ := hk
  exact ⟨_, hc, rfl⟩
theorem lend_cells {α : Type} {d : Kd α} {e : Nat} {v : Value} {xs : List α} {g : Nat} {ms : List α} (W : World) (S : Nat → Prop) (h : (Item.lend d e v xs g ms).P W S) (hp : 0 < ms.length) : ∃ o : Obj, W.heap[g]? = some o ∧ o.isCells = true := by
 obtain ⟨u, hu, _⟩ := h.2.2 0 hp
 unfold World.cell? at hu
 cases ho : W.heap[g]? with
 | none => simp [ho] at hu
 | some o => cases o <;> first | exact ⟨_, rfl, rfl⟩ | simp [ho] at hu
theorem R_elem2 {α : Type} {d : Kd α} {e : Nat} {W : World} {base : Nat} {ok : Nat → Prop} {g n cap : Nat} {xs : List α} (h : d.R e W base ok (.slice (some ⟨g, 0, none⟩) n cap) xs) (hsz : d.sz = 1) (i : Nat) (hi : i < xs.length) :
 ∃ u, W.cell? ⟨g, i, none⟩ = some u ∧ d.M W base (fun k => ok k ∧ k ≠ g) xs[i] [u] := by
 obtain ⟨hn, cur, inner, hh, hc3, hc1, hc4, hr⟩ := R_block h
 have hM := hr.2 i _ (List.getElem?_eq_getElem hi)
 have hM2 := d.M_mono (ok' := fun k => ok k ∧ k ≠ g) (fun k hk => ⟨hk.1, fun e => hk.2 (by rw [e]; rfl)⟩) hM
 have hl := (d.K_len (d.K_of_M hM)).trans hsz
 obtain ⟨u, hu⟩ := List.length_eq_one_iff.1 hl
 rw [hu] at hM2
 refine ⟨u, ?_, hM2⟩
 rw [blk_cell hh]
 have h0 : ((inner.drop (i * d.sz)).take d.sz)[0]? = some u := by rw [hu]; rfl
 rw [hsz] at h0 hc4
 rw [List.getElem?_take] at h0
 simp only [Nat.lt_add_one, if_true, Nat.mul_one] at h0
 rw [List.getElem?_drop, ← hc4, List.getElem?_take] at h0
 split at h0
 ·rw [← Array.getElem?_toList]; exact h0
 ·cases h0
theorem Own.lend {α : Type} {d : Kd α} {B : Nat} {w0 W : World} {L : List Item} {e e2 n c : Nat} {v : Value} {xs ms : List α} {A : Option Addr} (hsz : d.sz = 1) (H : Own B w0 W (.row d e v xs :: .row d e2 (.slice A n c) ms :: L)) :
 ∃ g, (0 < ms.length → A = some ⟨g, 0, none⟩) ∧ Own B w0 W (.lend d e v xs g ms :: L) := by
 by_cases hm : 0 < ms.length
 ·obtain ⟨g, cap, he, _⟩ := H.form 1 rfl hm
  injection he with he1 he2 he3
  subst he1
  refine ⟨g, fun _ => rfl, H.join.turn 0 rfl fun S hj => ?_⟩
  obtain ⟨S1, S2, c1, c2, c3, hR, hR2⟩ := hj
  have hR : Kd.R d e W 0 S1 v xs := hR
  have hR2 : Kd.R d e2 W 0 S2 (.slice (some ⟨g, 0, none⟩) n c) ms := hR2
  have hg : S2 g := hR2.1 g rfl
  refine ⟨Kd.R_mono hR fun k hk => ⟨c1 k hk, fun _ e => c3 k hk (e ▸ hg)⟩, fun _ => c2 g hg, fun i hi => ?_⟩
  obtain ⟨u, k1, k2⟩ := R_elem2 hR2 hsz i hi
  exact ⟨u, k1, d.M_mono (fun k hk => ⟨c2 k hk.1, hk.2, fun e => c3 k (hR.1 k e.symm) hk.1⟩) k2⟩
 ·exact ⟨0, fun h => absurd h hm, (H.erase 1).turn 0 rfl fun S hj => ⟨Kd.R_mono hj fun k hk => ⟨hk, fun h => absurd h hm⟩, fun h => absurd h hm, fun i hi => absurd (Nat.lt_of_le_of_lt (Nat.zero_le _) hi) hm⟩⟩
theorem Own.unlend {α : Type} {d : Kd α} {B : Nat} {w0 W : World} {L : List Item} {e g : Nat} {v : Value} {xs ms : List α} (H : Own B w0 W (.lend d e v xs g ms :: L)) : Own B w0 W (.row d e v xs :: L) :=
 H.turn 0 rfl fun S h => Kd.R_mono h.1 fun k hk => hk.1
theorem Own.lend_reads {α : Type} {d : Kd α} {B : Nat} {w0 W : World} {L : List Item} {e g : Nat} {v : Value} {xs ms : List α} (H : Own B w0 W (.lend d e v xs g ms :: L)) : ∃ A c, v = .slice A xs.length c ∧ xs.length ≤ c ∧ d.C W A xs.length xs := H.unlend.reads 0 rfl
section
variable {P : Program} {ops : Array Oper} {rest : List Oper} {o : Oper} {a : Act} {Q : Exit → Act → World → Prop} {B : Nat} {w0 W : World} {L : List Item} {α : Type}
theorem own_append_lendIn {F : Fence} {nF : Nat} (d : Kd α) {e g : Nat} {v : Value} {xs ms : List α} (H : Own B w0 W (.lend d e v xs g ms :: L)) (hgd : o.guard = none) (s x : Operand) (t : TypeId) (z : Value) (bytes : Nat)
 (ho : o.op = .call { callee := .builtin .append, args := #[s, x], argTypes := #[t, t] })
 (ht : P.underlying t = some (.slice e)) (hinfo : (P.info? e).map (fun i => (i.zero, i.size, i.bytes)) = some (some z, d.sz, bytes)) (hz : z.cells.size = d.sz) (hs0 : 0 < d.sz) (hb0 : 0 < bytes)
 (i : Nat) (hi : i < ms.length) (u : Value) (hu : W.cell? ⟨g, i, none⟩ = some u) (hs : a.eval s = v) (hx : a.eval x = .slice (some ⟨W.heap.size, 0, none⟩) 1 1) (hl : (xs.length + 1) * bytes ≤ 140737488355328)
 (h : ∀ v1 w1, Own B w0 w1 (.lend d e v1 (xs ++ [ms[i]]) g ms :: L) → w1.heap[g]? = W.heap[g]? → W.grownBy w1 v.ownBlock → (v1.ownBlock = v.ownBlock ∨ ∃ b, v1.ownBlock = some b ∧ W.heap.size ≤ b) → wpListIn F nF P ops Q rest (a.put o.dst v1) w1) :
 wpListIn F nF P ops Q (o :: rest) a (W.alloc (.cells #[u] e)) := by
 obtain ⟨S, hS, ⟨hR, hSg, hE⟩, hch⟩ := H.focus 0 rfl
 obtain ⟨u', hu', hM⟩ := hE i hi
 obtain rfl : u' = u := by rw [hu] at hu'; injection hu' with hu'; exact hu'.symm
 have hSg' := hSg (by omega)
 have hvg : some g ≠ v.ownBlock := fun he => (hR.1 g he.symm).2 (by omega) rfl
 obtain ⟨i0, hi0, hzz⟩ := Option.map_eq_some_iff.1 hinfo
 simp only [Prod.mk.injEq] at hzz
 obtain ⟨hz0, hz1, hz2⟩ := hzz
 have hlen : xs.length + 1 ≤ 140737488355328 := Nat.le_trans (Nat.le_mul_of_pos_right _ hb0) hl
 have hR' : d.R e W 0 (fun k => (S k ∧ (0 < ms.length → k ≠ g)) ∨ W.heap.size ≤ k) v xs := Kd.R_mono hR fun i hi => .inl hi
 obtain ⟨h0, inner, hown, hr⟩ := hR'
 have h1 := d.K_len (d.K_of_M hM)
 refine wpListIn_append_own_at (W.alloc (.cells #[u'] e)) hgd s x t ho 0 e i0 z d.sz bytes ht hi0 hz0 hz1 hz2 hz hs0 v xs.length inner hs (hown.alloc _) ⟨W.heap.size, 0, none⟩ 1 1 [u'] hx (by rw [Nat.one_mul]; exact h1)
  (by simpa using World.news_of_block (cs := #[u']) (t := e) (fr := (0, 0)) (heap_alloc_new W (.cells #[u'] e))) (d.K_one (d.K_of_M hM)) (by simp only [maxLen]; omega) hl (Nat.zero_le _) ?_
 intro v1 w1 hown1 hg1 _ hat1
 have hg : W.grownBy w1 v.ownBlock := World.grownBy.trans (World.grownBy_alloc W _ _) hg1
 have hat : v1.ownBlock = v.ownBlock ∨ ∃ b, v1.ownBlock = some b ∧ W.heap.size ≤ b := hat1.imp id fun h => ⟨_, h, by simp⟩
 have hR1 := Kd.R_appended h0 hr hM (fun k hk => ⟨.inl ⟨hk.1, fun _ => hk.2.1⟩, hk.2.2⟩) (fun i hi => .inr hi) hown1 hg hat
 have hgg : w1.heap[g]? = W.heap[g]? := hg.block g (hS g hSg').2 hvg
 refine h v1 w1 (hch w1 (.lend d e v1 (xs ++ [ms[i]]) g ms) v.ownBlock hg (fun k hr => (hR.1 k hr).1) ?_) hgg hg hat
 refine ⟨Kd.R_mono (Kd.R_bound hR1) (fun k hk => ?_), fun _ => .inl hSg', fun j hj => ?_⟩
 ·rcases hk with ⟨hk | hk, h2, h3, _⟩
  ·exact ⟨.inl hk.1, hk.2⟩
  ·exact ⟨.inr ⟨hk, h3⟩, fun _ e => by have := (hS g hSg').2; omega⟩
 ·obtain ⟨u2, k1, k2⟩ := hE j hj
  refine ⟨u2, (World.cell?_of_block hgg).trans k1, d.M_mono (fun k hk => ?_) (d.M_move (fun k hk => hg.block k (hS k hk.1).2 hk.2.2) k2)⟩
  refine ⟨.inl hk.1, hk.2.1, fun he => ?_⟩
  rcases hat with ha | ⟨b, hb, hle⟩
  ·exact hk.2.2 (he.trans ha)
  ·rw [hb] at he
   injection he with he
   have := (hS k hk.1).2
   omega
theorem wpIn_range1 {β : Type} {g : Operand} {p c : Tmp} {assign body : Code} {w : World} {nF : Nat} (enc : β → Value) (h1 : 1 ≤ nF) {gf : Nat} {lb : Array Value} (hg : a.eval g = .func (.func gf) #[] lb) (eg : ∀ args w, (callFunc gf args).run P w = .ok (.enter gf args) w)
 {Kp : World → World → Prop} {S : List β → Prop} {N : Nat} (hseq : SeqStopsK Fence.wide (nF - 1) P gf lb (fun x => #[enc x]) Kp S (fun _ => True) N w)
 (hKt : ∀ {A B C : World}, Kp A B → Kp B C → Kp A C) (hKb : ∀ (W : World) (l : Nat) (o o' : Obj), w.heap.size ≤ l → W.heap[l]? = some o → o.isCells = false → o.isWalk = false → Kp W (W.putObj l o')) (hKr : ∀ W, Kp W W)
 (I : List β → World → Prop) (hI : OwnFrom w.heap.size I) (h0 : I [] w)
 (hassign : ∀ (l : Nat) (x : β) (W : World) (K : Act → World → Prop), K { tmps := (a.tmps.setIfInBounds p (enc x)).setIfInBounds c (enc x), defers := [] } W → assign.wpIn (Fence.wide.inRound l) (nF - 1 - 1) P (Exit.then K (fun _ _ _ => False)) { tmps := a.tmps.setIfInBounds p (enc x), defers := [] } W)
 (hbody : ∀ (l : Nat) (pre : List β) (x : β) (W : World), I pre W → pre.length < N → body.wpIn (Fence.wide.inRound l) (nF - 1 - 1) P (ownPostG w.heap.size Kp I (fun _ _ _ => False) (pre ++ [x]) W) { tmps := (a.tmps.setIfInBounds p (enc x)).setIfInBounds c (enc x), defers := [] } W)
 (hdone : ∀ (D : Nat) (xs : List β) (W : World), w.heap.size ≤ D → S xs → I xs W → W.heap[D]? = some (.deferred (some [])) → Q .normal { a with defers := { target := .collected D, args := #[] } :: a.defers } W) :
 (Code.rangeFunc g #[p] assign body).wp P Q a w := by
 refine (wpIn_wide (n := nF)).1 ?_
 refine wpIn_rangeFunc_ownH (F := Fence.wide) rfl h1 hg trivial eg hseq hKt hKb (Below.refl _ _) (fun _ => rfl) I (fun _ _ _ => False) hI (fun _ _ _ _ _ hs _ _ => hs) h0
  (fun x a' W => a' = { tmps := (a.tmps.setIfInBounds p (enc x)).setIfInBounds c (enc x), defers := [] }) (fun x a' _ _ _ _ hs _ _ => hs) ?_ ?_ hdone ?_
 ·intro l pre x W K hi hK
  rw [show #[p].zip #[enc x] = #[(p, enc x)] by simp]
  simp only [List.foldl_toArray, List.foldl_cons, List.foldl_nil]
  exact hassign l x W K (hK _ _ (KeepsFrom.refl _ _) (hKr W) hi rfl)
 ·rintro l pre x a' W _ _ hi rfl hlt
  exact hbody l pre x W hi hlt
 ·intro D c pre W _ _ h _
  exact h.elim
end
theorem Own.lend_far {B : Nat} {w0 W : World} {L : List Item} {e g : Nat} {v : Value} {xs ms : List (List Int)} (H : Own B w0 W (.lend kL e v xs g ms :: L)) (i : Nat) (hi : i < ms.length) :
 ∃ u, W.cell? ⟨g, i, none⟩ = some u ∧ ∀ W' : World, (∀ k cells, k < W.heap.size → some k ≠ v.ownBlock → W.heap[k]? = some (.cells cells 5 (0, 0)) → W'.heap[k]? = W.heap[k]?) → kL.K W' ms[i] [u] := by
 obtain ⟨S, _, h2⟩ := H.look 0 rfl
 obtain ⟨u, k1, k2⟩ := h2.2.2 i hi
 refine ⟨u, k1, fun W' hs => kL.K_of_M (kL.M_move (fun k hk => ?_) (kL.M_bound k2))⟩
 obtain ⟨hk1, _, hk2, q, hq, cells, hc⟩ := hk
 obtain rfl : q = 5 := by simpa [kL, Kd.slice, kB, Kd.int, Kd.scalar] using hq
 exact hs k cells hk2 hk1.2.2 hc
theorem Own.row_typed {α : Type} {d : Kd α} {B : Nat} {w0 W : World} {L : List Item} {e : Nat} {v : Value} {xs : List α} (H : Own B w0 W L) (j : Nat) (hj : L[j]? = some (.row d e v xs)) (k : Nat) (hk : v.ownBlock = some k) : ∃ cells, W.heap[k]? = some (.cells cells e (0, 0)) := by
 obtain ⟨S, _, h2⟩ := H.look j hj
 obtain ⟨_, inner, ho, _⟩ := (h2 : Kd.R d e W 0 S v xs)
 exact own_typed ho k hk
theorem Own.lend_ne {α : Type} {d : Kd α} {B : Nat} {w0 W : World} {L : List Item} {e g : Nat} {v : Value} {xs ms : List α} (H : Own B w0 W (.lend d e v xs g ms :: L)) (hp : 0 < ms.length) : some g ≠ v.ownBlock := fun he => by
 obtain ⟨S, _, h2⟩ := H.look 0 rfl
 exact (h2.1.1 g he.symm).2 hp rfl
structure KP (n0 g2 : Nat) (o : Option Nat) (A B : World) : Prop where
 size : A.heap.size ≤ B.heap.size
 same : ∀ k, k < n0 → k < A.heap.size → k ≠ g2 → some k ≠ o → B.heap[k]? = A.heap[k]?
theorem KP.trans {n0 g2 : Nat} {o : Option Nat} {A B C : World} (h : KP n0 g2 o A B) (k : KP n0 g2 o B C) : KP n0 g2 o A C := ⟨Nat.le_trans h.size k.size, fun i h1 h2 h3 h4 => (k.same i h1 (Nat.lt_of_lt_of_le h2 h.size) h3 h4).trans (h.same i h1 h2 h3 h4)⟩
theorem KP.refl (n0 g2 : Nat) (o : Option Nat) (A : World) : KP n0 g2 o A A := ⟨Nat.le_refl _, fun _ _ _ _ _ => rfl⟩
theorem KP.of_below {n0 g2 : Nat} {o : Option Nat} {A B : World} (h : Below A.heap.size A B) : KP n0 g2 o A B := ⟨h.size, fun k _ hk _ _ => h.block k hk⟩
theorem KP.put {n0 g2 : Nat} {o : Option Nat} (W : World) (l : Nat) (ob : Obj) (hl : n0 ≤ l) : KP n0 g2 o W (W.putObj l ob) := by
 have hg := grownBy_putObj' W l ob
 exact ⟨hg.size, fun k h1 h2 _ _ => hg.block k h2 (fun e => by cases e; omega)⟩
theorem choose_list2 {β : Type} (p : Nat → β → Prop) : ∀ n : Nat, (∀ i, i < n → ∃ b, p i b) → ∃ V : List β, V.length = n ∧ ∀ i (h : i < V.length), p i V[i]
 | 0, _ => ⟨[], rfl, fun i h => by cases h⟩
 | n + 1, h => by
  obtain ⟨V, hl, hV⟩ := choose_list2 p n (fun i hi => h i (by omega))
  obtain ⟨b, hb⟩ := h n (by omega)
  refine ⟨V ++ [b], by simp [hl], fun i hi => ?_⟩
  by_cases hin : i < V.length
  ·rw [List.getElem_append_left hin]; exact hV i hin
  ·obtain rfl : i = V.length := by simp at hi; omega
   rw [List.getElem_append_right (by omega)]
   simp only [Nat.sub_self, List.getElem_cons_zero]
   exact hl ▸ hb
end Go.Proofs.Ytocphkfkdadhaaa.H
namespace Go.Proofs.Ytocphkfkdadhaaa.H
open Go.RowKit Go.Proofs.YtocphkfkdadhaaaW.PrintWords Go.Proofs.YtocphkfkdadhaaaW.PrintLast Go.Proofs.YtocphkfkdadhaaaW.PrintMore
attribute [local go_sem] max2_int min2_int max_two min_two max_three min_three max_four min_four
def Q8 (w : World) (g c : Nat) : Prop := ∃ cs : Array Value, w.heap[g]? = some (.cells cs 5 (0, 0)) ∧ cs.size = c
theorem Q8.set {w : World} {g c i : Nat} {z : Value} (h : Q8 w g c) : Q8 (w.setCell ⟨g, i, none⟩ z) g c := by
 obtain ⟨cs, h1, h2⟩ := h
 exact ⟨cs.setIfInBounds i z, blk_put h1 i _ rfl, by simp [h2]⟩
theorem Q8.cell {w : World} {g c i : Nat} (h : Q8 w g c) (hi : i < c) : (∃ z, w.cell? ⟨g, i, none⟩ = some z) ∧ w.frozen? ⟨g, i, none⟩ = false := by
 obtain ⟨cs, h1, h2⟩ := h
 exact ⟨⟨cs[i], by rw [blk_cell h1 i, Array.getElem?_eq_getElem (by omega)]⟩, blk_frozen h1 i⟩
theorem Q8.lt {w : World} {g c : Nat} (h : Q8 w g c) : g < w.heap.size := by
 obtain ⟨cs, h1, _⟩ := h
 exact blk_lt h1
theorem Q8.keep {w w' : World} {g c : Nat} (h : Q8 w g c) (hb : w'.heap[g]? = w.heap[g]?) : Q8 w' g c := by
 obtain ⟨cs, h1, h2⟩ := h
 exact ⟨cs, hb.trans h1, h2⟩
theorem Q8.set' {w : World} {g c h i : Nat} {z : Value} (hu : Q8 w g c) : Q8 (w.setCell ⟨h, i, none⟩ z) g c := by
 by_cases he : h = g
 ·subst he; exact hu.set
 ·exact hu.keep (Below.heap_setCell w _ _ g (fun e => he e.symm))
theorem app3_raw {ops : Array Oper} {rest : List Oper} {o : Oper} {a : Act} {Q : Exit → Act → World → Prop} {w0 w W : World} (hgd : o.guard = none) (s x : Operand)
 (ho : o.op = .call { callee := .builtin .append, args := #[s, x], argTypes := #[74, 74] }) (g n c : Nat) (z : Int) (B : Nat)
 (hs : a.eval s = .slice (some ⟨g, 0, none⟩) n c) (hx : a.eval x = .slice (some ⟨B, 0, none⟩) 3 3) (hB : W.heap[B]? = some (.cells #[.int .u8 z, .int .u8 z, .int .u8 z] 5 (0, 0)))
 (hU : Q8 W g c) (hK : KeepBut w W g none) (HB : Below w0.heap.size w0 W) (hg : w0.heap.size ≤ g) (hn : n ≤ c) (hn2 : n ≤ 1000000)
 (h : ∀ h n' c' w1, Aside0 (h = g ∨ w.heap.size ≤ h) → Aside0 (w0.heap.size ≤ h) → n' ≤ c' → n' ≤ 1000003 → Aside0 (Q8 w1 h c') → Aside0 (Q8 w1 g c) → Aside0 (KeepBut w w1 g none) → Aside0 (Below w0.heap.size w0 w1) → wpList Try.prog ops Q rest (a.put o.dst (.slice (some ⟨h, 0, none⟩) n' c')) w1) :
 wpList Try.prog ops Q (o :: rest) a W := by
 obtain ⟨cs, h1, h2⟩ := id hU
 have hnews : ∀ j u, ([Value.int .u8 z, Value.int .u8 z, Value.int .u8 z] : List Value)[j]? = some u → W.cell? ((⟨B, 0, none⟩ : Addr).add j) = some u := by
  intro j u hu
  have e : (⟨B, 0, none⟩ : Addr).add j = ⟨B, j, none⟩ := by
   unfold Addr.add
   split
   ·rename_i h0; rw [h0]
   ·simp
  rw [e, blk_cell hB j]
  rw [← hu]
  match j with
  | 0 => rfl
  | 1 => rfl
  | 2 => rfl
  | j + 3 => simp
 obtain ⟨i, hi, hi1, hi2, hi3⟩ : ∃ i, Try.prog.info? 5 = some i ∧ i.zero = some (.int .u8 0) ∧ i.size = 1 ∧ i.bytes = 1 := by
  have := infoB
  cases hh : Try.prog.info? 5 with
  | none => rw [hh] at this; cases this
  | some i => rw [hh] at this; simp at this; exact ⟨i, rfl, this.1, this.2.1, this.2.2⟩
 refine wpList_append_arg W hgd s x 74 ho 5 i (.int .u8 0) 1 1 Try.underlying74 hi hi1 hi2 hi3 rfl (by decide) g 0 n c (cs.toList.take n) hs (by rw [List.length_take]; simp; omega) (fun j u hu => ?_) ⟨B, 0, none⟩ 3 3 [.int .u8 z, .int .u8 z, .int .u8 z] hx rfl hnews (by simp [Value.oneCell']) (fun hr j hj => ?_) (by unfold maxLen; omega) (by omega) (fun hr => ?_) (fun hr v' w' hown hgr => ?_)
 ·have hj : j < n := by
   have := (List.getElem?_eq_some_iff.1 hu).1
   rw [List.length_take] at this; omega
  rw [Nat.zero_add, blk_cell h1 j, ← hu]
  simp [hj]
 ·simp only [List.length_cons, List.length_nil] at hj
  obtain ⟨⟨z', hz⟩, hf⟩ := hU.cell (show n + j < c by omega)
  rw [show 0 + n * 1 + j = n + j by omega, hz]
  exact ⟨rfl, hf⟩
 ·show wpList Try.prog ops Q rest _ (((W.setCell ⟨g, 0 + n * 1, none⟩ _).setCell ⟨g, 0 + n * 1 + 1, none⟩ _).setCell ⟨g, 0 + n * 1 + 1 + 1, none⟩ _)
  have hu' := ((hU.set (i := 0 + n * 1) (z := .int .u8 z)).set (i := 0 + n * 1 + 1) (z := .int .u8 z)).set (i := 0 + n * 1 + 1 + 1) (z := .int .u8 z)
  exact h g (n + 3) c _ ⟨.inl rfl⟩ ⟨hg⟩ hr (by omega) ⟨hu'⟩ ⟨hu'⟩ ⟨((hK.set_ _ _).set_ _ _).set_ _ _⟩ ⟨below_set (below_set (below_set HB hg) hg) hg⟩
 ·rcases hown.2 with ⟨_, h0⟩ | ⟨b, cap, cur, rfl, hb, hheap, hle, _, hsz, _⟩
  ·omega
  ·have hb2 : Below W.heap.size W w' := ⟨hgr.os, hgr.tape, hgr.output, hgr.size, fun k hk => hgr.block k hk (by simp)⟩
   have hK2 : KeepBut w w' g none := ⟨Nat.le_trans hK.1 hgr.size, fun i hi hg' hr' => (hb2.block i (by have := hK.1; omega)).trans (hK.2 i hi hg' hr')⟩
   exact h b (n + 3) cap w' ⟨.inr (Nat.le_trans hK.1 hb)⟩ ⟨Nat.le_trans (below_size HB) hb⟩ hle (by omega) ⟨⟨cur, hheap, by omega⟩⟩ ⟨hU.keep (hb2.block g hU.lt)⟩ ⟨hK2⟩ ⟨below_step HB hb2⟩
theorem spoil_raw (g n c : Nat) (a : Int) (w0 w : World) (hB : Below w0.heap.size w0 w) (hg : w0.heap.size ≤ g) (hU : Q8 w g c) (hn : n ≤ c) (hn2 : n ≤ 1000000) :
 Calls Try.prog 44 #[.slice (some ⟨g, 0, none⟩) n c, .int .u8 a] w fun e w' => e = .returned (.tuple #[]) ∧ Below w0.heap.size w0 w' ∧ KeepBut w w' g none ∧ Q8 w' g c := by
 have HB := Aside0.mk hB
 have HU := Aside0.mk hU
 have HGL := Aside0.mk (Q8.lt hU)
 clear hB hU
 go_enter Try.func44, Try.ntmps44
 go_wp2_with fail
 go_loopw [4] (fun v4 wr => ∃ i : Nat, i ≤ n ∧ v4 = .int .i64 (i : Int) ∧ Aside0 (Q8 wr g c) ∧ Aside0 (KeepBut w wr g none) ∧ Aside0 (Below w0.heap.size w0 wr)) (fun v4 _ => n - (intOf v4).toNat)
 case atStart => exact ⟨0, Nat.zero_le _, rfl, HU, ⟨KeepBut.refl w g none⟩, HB⟩
 case round =>
  obtain ⟨i, hi, rfl, HU1, HK1, HB1⟩ := hrel
  by_cases hlt : i < n
  ·have hdl : decide (i < n) = true := decide_eq_true hlt
   obtain ⟨⟨z, hz⟩, hfz⟩ := HU1.out.cell (show i < c by omega)
   go_wp2_with fail
   refine ⟨⟨i + 1, hlt, by go_num, ⟨HU1.out.set⟩, ⟨HK1.out.set_ _ _⟩, ⟨below_set HB1.out hg⟩⟩, ?_⟩
   simp [intOf]; omega
  ·have hdl : decide (i < n) = false := decide_eq_false hlt
   have HBlk := Aside0.mk (fun o => blk_new wr o)
   go_wp2_with (first
    | fail
    | ((with_reducible refine gate_builtin (b := .append) (xs := #[.tmp 19, .tmp 23]) rfl ?_); refine app3_raw (w0 := w0) (w := w) rfl (.tmp 19) (.tmp 23) rfl g n c a _ rfl rfl (HBlk.out _) (HU1.out.keep (Below.heap_alloc wr _ g (HU1.out.lt))) ⟨Nat.le_trans HK1.out.1 (by rw [World.size_alloc]; omega), fun i hi h1 h2 => (Below.heap_alloc wr _ i (Nat.lt_of_lt_of_le hi HK1.out.1)).trans (HK1.out.2 i hi h1 h2)⟩ (below_alloc HB1.out _) hg hn hn2 ?_; intro h n' c' w5 Hh Hh0 hn' hn'2 HQ5 HU5 HK5 HB5))
   go_loopw [5] (fun v5 wr => ∃ i : Nat, i ≤ n' ∧ v5 = .int .i64 (i : Int) ∧ Aside0 (Q8 wr h c') ∧ Aside0 (Q8 wr g c) ∧ Aside0 (KeepBut w wr g none) ∧ Aside0 (Below w0.heap.size w0 wr)) (fun v5 _ => n' - (intOf v5).toNat)
   case atStart => exact ⟨0, Nat.zero_le _, rfl, HQ5, HU5, HK5, HB5⟩
   case round =>
    obtain ⟨i, hi, rfl, HQ6, HU6, HK6, HB6⟩ := hrel
    by_cases hlt : i < n'
    ·have hdl : decide (i < n') = true := decide_eq_true hlt
     obtain ⟨⟨z, hz⟩, hfz⟩ := HQ6.out.cell (show i < c' by omega)
     go_wp2_with fail
     refine ⟨⟨i + 1, hlt, by go_num, ⟨HQ6.out.set⟩, ⟨?_⟩, ⟨?_⟩, ⟨below_set HB6.out Hh0.out⟩⟩, ?_⟩
     ·exact HU6.out.set'
     ·rcases Hh.out with he | he
      ·subst he; exact HK6.out.set_ _ _
      ·exact keep_far HK6.out he _
     ·simp [intOf]; omega
    ·have hdl : decide (i < n') = false := decide_eq_false hlt
     go_wp2_with fail
     go_end0
     exact ⟨rfl, HB6.out, HK6.out, HU6.out⟩
theorem spoil_f_nil (a : Int) : PRF.proctorref01_Spoil.f 10 [] a = some () := by
 rw [PRF.proctorref01_Spoil.f]
 simp [PRF.proctorref01_Spoil.l0, PRF.proctorref01_Spoil.l1, wrap64]
theorem spoil_none (a : Int) (W : World) : Calls Try.prog 44 #[.slice none 0 0, .int .u8 a] W fun e w' => e = .returned (.tuple #[]) ∧ Below W.heap.size W w' :=
 (PRF.proctorref01_Spoil.calls 10 (fun _ => False) (.slice none 0 0) [] a W W (Below.refl _ _) (Kd.R_nil _ _ _ _ _) (spoil_f_nil a)).mono fun e w' ⟨h1, h2, _⟩ => ⟨h1, h2⟩
def BB (W : World) (S : Nat → Prop) (v : Value) : Prop := v = .slice none 0 0 ∨ ∃ g n c, v = .slice (some ⟨g, 0, none⟩) n c ∧ S g ∧ Q8 W g c ∧ n ≤ c ∧ n ≤ 1000000
theorem BB.imp {W W1 : World} {S S1 : Nat → Prop} {v : Value} (h : BB W S v) (hS : ∀ k, S k → S1 k) (hQ : ∀ g c, S g → Q8 W g c → Q8 W1 g c) : BB W1 S1 v := by
 rcases h with rfl | ⟨g, n, c, rfl, h1, h2, h3, h4⟩
 ·exact .inl rfl
 ·exact .inr ⟨g, n, c, rfl, hS g h1, hQ g c h1 h2, h3, h4⟩
theorem BB_R {e : Nat} {W : World} {S : Nat → Prop} {v : Value} {xs : List Int} (h : Kd.R kB 5 W 0 S v xs) (hl : xs.length ≤ 1000000) : BB W S v := by
 obtain ⟨h1, inner, ⟨h2, h3⟩, h4⟩ := h
 rcases h3 with ⟨rfl, _⟩ | ⟨g, cap, cur, rfl, _, hh, hle, _, hsz, _⟩
 ·exact .inl rfl
 ·exact .inr ⟨g, _, cap, rfl, h1 g rfl, ⟨cur, hh, by rw [hsz]; show cap * 1 = cap; omega⟩, hle, hl⟩
def Item.soft (e sz off : Nat) (v : Value) (n : Nat) : Item where
 P := fun W S => n = 0 ∨ ∃ g c cs, v = .slice (some ⟨g, 0, none⟩) n c ∧ S g ∧ W.heap[g]? = some (.cells cs e (0, 0)) ∧ ∀ i, i < n → ∃ u, cs[i * sz + off]? = some u ∧ BB W (fun k => S k ∧ k ≠ g) u
 move := fun {W W1 S} hm h => by
  rcases h with h | ⟨g, c, cs, h1, h2, h3, h4⟩
  ·exact .inl h
  ·refine .inr ⟨g, c, cs, h1, h2, (hm g h2).trans h3, fun i hi => ?_⟩
   obtain ⟨u, k1, k2⟩ := h4 i hi
   exact ⟨u, k1, k2.imp (fun _ h => h) fun g' c' hg' hq => hq.keep (hm g' hg'.1)⟩
 mono := fun {W S S'} hm h => by
  rcases h with h | ⟨g, c, cs, h1, h2, h3, h4⟩
  ·exact .inl h
  ·refine .inr ⟨g, c, cs, h1, hm g h2, h3, fun i hi => ?_⟩
   obtain ⟨u, k1, k2⟩ := h4 i hi
   exact ⟨u, k1, k2.imp (fun k hk => ⟨hm k hk.1, hk.2⟩) fun _ _ _ h => h⟩
theorem R_soft {α : Type} {d : Kd α} {e : Nat} {W : World} {S : Nat → Prop} {v : Value} {xs : List α} (h : d.R e W 0 S v xs) (off : Nat) (ho : off < d.sz)
 (hM : ∀ x ok cs, x ∈ xs → d.M W 0 ok x cs → ∃ u, cs[off]? = some u ∧ BB W ok u) : (Item.soft e d.sz off v xs.length).P W S := by
 by_cases hx : xs.length = 0
 ·exact .inl hx
 obtain ⟨g, cap, rfl, hle⟩ := Kd.R_form h (by omega)
 obtain ⟨hn, cur, inner, hh, hc3, hc1, hc4, hr⟩ := R_block h
 refine .inr ⟨g, cap, cur, rfl, h.1 g rfl, hh, fun i hi => ?_⟩
 have hM1 := hr.2 i _ (List.getElem?_eq_getElem hi)
 have hM2 := d.M_mono (ok' := fun k => S k ∧ k ≠ g) (fun k hk => ⟨hk.1, fun e => hk.2 (by rw [e]; rfl)⟩) hM1
 obtain ⟨u, hu, hb⟩ := hM _ _ _ (List.getElem_mem hi) hM2
 refine ⟨u, ?_, hb⟩
 rw [List.getElem?_take, if_pos ho, List.getElem?_drop, ← hc4, List.getElem?_take] at hu
 split at hu
 ·rw [← Array.getElem?_toList]; exact hu
 ·cases hu
theorem Own.softL {B : Nat} {w0 W : World} {L : List Item} (h : Own B w0 W L) (k : Nat) {e : Nat} {v : Value} {xs : List (List Int)} (hk : L[k]? = some (.row kL e v xs)) (hl : ∀ x ∈ xs, x.length ≤ 1000000) : Own B w0 W (L.set k (.soft e 1 0 v xs.length)) :=
 h.turn k hk fun S hs => R_soft (d := kL) hs 0 (by decide) fun x ok cs hx ⟨u, hc, hr⟩ => ⟨u, by rw [hc]; rfl, BB_R (e := 0) hr (hl x hx)⟩
theorem Own.soft_cell {w0 W : World} {B : Nat} {L : List Item} (h : Own B w0 W L) (k : Nat) {e sz off n : Nat} {v : Value} (hk : L[k]? = some (.soft e sz off v n)) (i : Nat) (hi : i < n) :
 ∃ g c u, v = .slice (some ⟨g, 0, none⟩) n c ∧ W.cell? ⟨g, i * sz + off, none⟩ = some u ∧ W.frozen? ⟨g, i * sz + off, none⟩ = false := by
 obtain ⟨S, _, h2⟩ := h.look k hk
 rcases h2 with h2 | ⟨g, c, cs, h1, _, h3, h4⟩
 ·omega
 ·obtain ⟨u, k1, _⟩ := h4 i hi
  exact ⟨g, c, u, h1, (blk_cell h3 _).trans k1, blk_frozen h3 _⟩
theorem Q8.eq {W : World} {g c c' : Nat} (h : Q8 W g c) (h' : Q8 W g c') : c = c' := by
 obtain ⟨cs, h1, h2⟩ := h
 obtain ⟨cs', h1', h2'⟩ := h'
 rw [h1] at h1'
 injection h1' with h1'
 injection h1' with h1'
 rw [← h2, ← h2', h1']
theorem Own.spoil {w0 W : World} {L : List Item} (h : Own w0.heap.size w0 W L) (k : Nat) {e sz off n c g : Nat} (hk : L[k]? = some (.soft e sz off (.slice (some ⟨g, 0, none⟩) n c) n)) (i : Nat) (hi : i < n) (a : Int) {u : Value} (hu : W.cell? ⟨g, i * sz + off, none⟩ = some u) :
 Calls Try.prog 44 #[u, .int .u8 a] W fun e w' => e = .returned (.tuple #[]) ∧ Own w0.heap.size w0 w' L := by
 obtain ⟨S, hS, hP, hch⟩ := h.focus k hk
 have hL : L.set k (.soft e sz off (.slice (some ⟨g, 0, none⟩) n c) n) = L := by
  refine List.ext_getElem? fun j => ?_
  rw [List.getElem?_set]
  split
  ·rename_i he
   subst he
   rw [hk]
   have := (List.getElem?_eq_some_iff.1 hk).1
   simp [this]
  ·rfl
 rcases hP with h2 | ⟨g0, c0, cs, h1, hg0, h3, h4⟩
 ·omega
 injection h1 with h1 _ _
 injection h1 with h1
 injection h1 with h1
 subst h1
 obtain ⟨u', k1, k2⟩ := h4 i hi
 obtain rfl : u' = u := by
  rw [blk_cell h3, k1] at hu
  injection hu
 rcases k2 with rfl | ⟨g', n', c', rfl, k3, k4, k5, k6⟩
 ·refine Calls.mono (spoil_none a W) fun e w' hh => ?_
  exact ⟨hh.1, h.step hh.2⟩
 ·refine (spoil_raw g' n' c' a w0 W h.below (hS g' k3.1).1 k4 k5 k6).mono fun e w' hh => ⟨hh.1, ?_⟩
  obtain ⟨-, hb, hkb, hq⟩ := hh
  rw [← hL]
  have hgr : W.grownBy w' (some g') := ⟨by rw [hb.os, h.below.os], by rw [hb.tape, h.below.tape], by rw [hb.output, h.below.output], hkb.1, fun k hk1 hk2 => hkb.2 k hk1 (fun he => hk2 (by rw [he])) (by simp)⟩
  refine hch w' _ (some g') hgr (fun x hx => by injection hx with hx; exact hx ▸ k3.1) ?_
  refine .inr ⟨g, c, cs, rfl, .inl hg0, (hkb.2 g (blk_lt h3) (fun he => k3.2 he.symm) (by simp)).trans h3, fun j hj => ?_⟩
  obtain ⟨u2, m1, m2⟩ := h4 j hj
  refine ⟨u2, m1, m2.imp (fun k hk => ⟨.inl hk.1, hk.2⟩) fun g2 c2 hg2 hq2 => ?_⟩
  by_cases he : g2 = g'
  ·subst he
   rw [hq2.eq k4]
   exact hq
  ·exact hq2.keep (hkb.2 g2 hq2.lt he (by simp))
theorem Own.softnil {B : Nat} {w0 W : World} {L : List Item} (h : Own B w0 W L) (k : Nat) {e sz off n c g : Nat} (hk : L[k]? = some (.soft e sz off (.slice (some ⟨g, 0, none⟩) n c) n)) (i : Nat) (hi : i < n) :
 Own B w0 (W.setCell ⟨g, i * sz + off, none⟩ (.slice none 0 0)) L := by
 obtain ⟨S, hS, hP, hch⟩ := h.focus k hk
 have hL : L.set k (.soft e sz off (.slice (some ⟨g, 0, none⟩) n c) n) = L := by
  refine List.ext_getElem? fun j => ?_
  rw [List.getElem?_set]
  split
  ·rename_i he
   subst he
   rw [hk]
   have := (List.getElem?_eq_some_iff.1 hk).1
   simp [this]
  ·rfl
 rcases hP with h2 | ⟨g0, c0, cs, h1, hg0, h3, h4⟩
 ·omega
 injection h1 with h1 _ _
 injection h1 with h1
 injection h1 with h1
 subst h1
 rw [← hL]
 refine hch _ _ (some g) (Own.grown_cell W g _ _) (fun x hx => by injection hx with hx; exact hx ▸ hg0) ?_
 refine .inr ⟨g, c, _, rfl, .inl hg0, blk_set h3 _ _, fun j hj => ?_⟩
 obtain ⟨u2, m1, m2⟩ := h4 j hj
 by_cases he : i * sz + off = j * sz + off
 ·refine ⟨.slice none 0 0, ?_, .inl rfl⟩
  rw [he, Array.getElem?_setIfInBounds_self_of_lt (by rw [Array.getElem?_eq_some_iff] at m1; exact m1.1)]
 ·refine ⟨u2, by rw [Array.getElem?_setIfInBounds_ne he]; exact m1, m2.imp (fun k hk => ⟨.inl hk.1, hk.2⟩) fun g2 c2 hg2 hq2 => ?_⟩
  exact hq2.keep (Below.heap_setCell W _ _ g2 hg2.2)
end Go.Proofs.Ytocphkfkdadhaaa.H
