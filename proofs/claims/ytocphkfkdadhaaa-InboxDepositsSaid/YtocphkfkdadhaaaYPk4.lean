import Derived.Test.YtocphkfkdadhaaaYPk2
import Derived.Test.YtocphkfkdadhaaaYPk3
import Derived.Deep.DeepCutAuto
import Derived.Deep.RegionHeld3
namespace Go.Proofs.Ytocphkfkdadhaaa.H
open Go.RowKit Go.Proofs.YtocphkfkdadhaaaW.PrintWords Go.Proofs.YtocphkfkdadhaaaW.PrintLast Go.Proofs.YtocphkfkdadhaaaW.PrintMore
set_option linter.unusedVariables false
set_option linter.unusedSimpArgs false
theorem C_sh {α : Type} {d : Kd α} {w W : World} {A : Option Addr} {n : Nat} {xs : List α} (h : Kd.C d w A n xs) (hb : Below w.heap.size w W) : Kd.C (shK d w) W A n xs := ReadsRow.imp_ (R' := (shK d w).K W) h hb (fun _ _ hp => hp)
set_option maxHeartbeats 4000000 in
set_option maxRecDepth 100000 in
theorem copied_any (q : List PRF.S78) (tk : Int) (l : List (List Int)) (nx : Int) (A1 A2 : Option Addr) (c1 c2 : Nat) (w : World) (hC1 : Kd.C kQ w A1 q.length q) (hc1 : q.length ≤ c1) (hC2 : Kd.C kL w A2 l.length l) (hc2 : l.length ≤ c2)
 (hq : q.length ≤ 1000000) (hl : l.length ≤ 1000000) (hqm : ∀ d ∈ q, d.f1.length ≤ 1099511627776) (hlm : ∀ m ∈ l, m.length ≤ 1099511627776) :
 Calls Try.prog 87 #[.agg #[.slice A1 q.length c1, .int .i64 tk, .slice A2 l.length c2, .int .u64 nx]] w fun e w' => ∃ v1 v2, e = .returned (.agg #[v1, .int .i64 tk, v2, .int .u64 nx]) ∧ Own w.heap.size w w' [.row kQ 78 v1 q, .row kL 74 v2 l] := by
 have H0 := Aside0.mk (Own.start w)
 have HCQ := Aside0.mk (fun W (hb : Below w.heap.size w W) => qclone_any q A1 c1 w W (C_sh hC1 hb) hc1 (by omega))
 have HCL := Aside0.mk (fun W (hb : Below w.heap.size w W) => lclone_any l A2 c2 w W (C_sh hC2 hb) hc2 (by omega))
 have HQL := Aside0.mk hq
 have HLL := Aside0.mk hl
 have HQM := Aside0.mk hqm
 have HLM := Aside0.mk hlm
 clear hC1 hC2 hc1 hc2 hq hl hqm hlm
 obtain ⟨n, hn⟩ : ∃ n, n = q.length := ⟨_, rfl⟩
 obtain ⟨m, hm⟩ : ∃ m, m = l.length := ⟨_, rfl⟩
 rw [← hn] at HCQ HQL ⊢
 rw [← hm] at HCL HLL ⊢
 have HN := Aside0.mk hn
 have HM := Aside0.mk hm
 clear hn hm
 go_enter Try.func87, Try.ntmps87
 go_upto_region 1 with (first
  | fail
  | ((with_reducible refine Gd 1 ?_); ( refine OB H0 73 #[.slice A1 n c1, .int .i64 tk, .slice A2 m c2, .int .u64 nx] ?_; intro g1 w1 H1 B1))
  | ((with_reducible refine Gd 2 ?_); ( refine OA H1 73 #[.slice none 0 0, .int .i64 0, .slice none 0 0, .int .u64 0] 4 ?_; intro g2 w2 H2 B2))
  )
 replace H2 : Aside0 (Own w.heap.size w w2 [.blk g2 #[.slice none 0 0, .int .i64 0, .slice none 0 0, .int .u64 0] 73, .blk g1 #[.slice A1 n c1, .int .i64 tk, .slice A2 m c2, .int .u64 nx] 73]) := ⟨H2.out⟩
 have k0 : w2.cell? ⟨g1, 0, none⟩ = some (.slice A1 n c1) := H2.out.cell 1 rfl 0 rfl
 have k2 : w2.cell? ⟨g1, 2, none⟩ = some (.slice A2 m c2) := H2.out.cell 1 rfl 2 rfl
 simp only [Act.put, List.setIfInBounds_toArray, List.set_cons_zero, List.set_cons_succ]
 go_cut [] (fun wc => ∃ (v1 v2 : Value), Aside0 (Own w.heap.size w wc [.row (shK kL w) 74 v2 l, .row (shK kQ w) 78 v1 q, .blk g2 #[.slice none 0 0, .int .i64 0, .slice none 0 0, .int .u64 0] 73, .blk g1 #[v1, .int .i64 tk, v2, .int .u64 nx] 73]))
 case first =>
  refine St (fun _ => True) (fun hHeld => ?_)
  refine Tk 0 ?_
  refine Tk 3 ?_
  refine Rd2 1 4 (fun K hK => ?_) fun K hK => ?_
  ·
   refine Rn (.slice A1 n c1) ?_
   refine Ag hK (fun hHeld => ?_)
   clear hK K
   refine Rd2 2 4 (fun K hK => ?_) fun K hK => ?_
   ·
    go_simp
    refine (HCQ.out _ H2.out.drew.below).mono ?_
    rintro e w3 ⟨v3, rfl, hO3⟩
    obtain ⟨A3, c3, rfl, hcl3, _⟩ := hO3.reads 0 rfl
    have H3 := Aside0.mk (H2.out.drew.call hO3)
    have k3 : w3.cell? ⟨g1, 2, none⟩ = some (.slice A2 m c2) := H3.out.cell 2 rfl 2 rfl
    clear hO3
    go_wp2_with fail
    refine Ag hK (fun hHeld => ?_)
    clear hK K
    refine Rd 4 fun K hK => ?_
    refine Rn (.slice A2 m c2) ?_
    refine Ag hK (fun hHeld => ?_)
    clear hK K
    refine Tk 6 ?_
    refine Rd 5 fun K hK => ?_
    go_simp
    refine (HCL.out _ H3.out.below).mono ?_
    rintro e w4 ⟨v4, rfl, hO4⟩
    obtain ⟨A4, c4, rfl, hcl4, _⟩ := hO4.reads 0 rfl
    have H4 := Aside0.mk (H3.out.call hO4)
    have f4 : w4.cell? ⟨g1, 0, none⟩ = some (.slice A1 n c1) ∧ w4.frozen? ⟨g1, 0, none⟩ = false := ⟨H4.out.cell 3 rfl 0 rfl, H4.out.fz 3 rfl 0⟩
    have f5 : w4.cell? ⟨g1, 2, none⟩ = some (.slice A2 m c2) ∧ w4.frozen? ⟨g1, 2, none⟩ = false := ⟨H4.out.cell 3 rfl 2 rfl, H4.out.fz 3 rfl 2⟩
    clear hO4
    go_wp2_with fail
    refine Ag hK (fun hHeld => ?_)
    clear hK K
    refine Rd 7 fun K hK => ?_
    go_simp
    refine Ag hK (fun hHeld => ?_)
    clear hK K
    refine Tk 8 ?_
    refine Rd 9 fun K hK => ?_
    go_simp
    refine Ag hK (fun hHeld => ?_)
    clear hK K
    refine Dn ?_
    go_wp2_with fail
    go_meet
    exact ⟨_, _, ⟨(H4.out.put 3 rfl 0 _ rfl).put 3 rfl 2 _ rfl⟩⟩
   ·
    refine Rn (.slice A2 m c2) ?_
    refine Ag hK (fun hHeld => ?_)
    clear hK K
    refine Rd 2 fun K hK => ?_
    go_simp
    refine (HCQ.out _ H2.out.drew.below).mono ?_
    rintro e w3 ⟨v3, rfl, hO3⟩
    obtain ⟨A3, c3, rfl, hcl3, _⟩ := hO3.reads 0 rfl
    have H3 := Aside0.mk (H2.out.drew.call hO3)
    have k3 : w3.cell? ⟨g1, 2, none⟩ = some (.slice A2 m c2) := H3.out.cell 2 rfl 2 rfl
    clear hO3
    go_wp2_with fail
    refine Ag hK (fun hHeld => ?_)
    clear hK K
    refine Tk 6 ?_
    refine Rd 5 fun K hK => ?_
    go_simp
    refine (HCL.out _ H3.out.below).mono ?_
    rintro e w4 ⟨v4, rfl, hO4⟩
    obtain ⟨A4, c4, rfl, hcl4, _⟩ := hO4.reads 0 rfl
    have H4 := Aside0.mk (H3.out.call hO4)
    have f4 : w4.cell? ⟨g1, 0, none⟩ = some (.slice A1 n c1) ∧ w4.frozen? ⟨g1, 0, none⟩ = false := ⟨H4.out.cell 3 rfl 0 rfl, H4.out.fz 3 rfl 0⟩
    have f5 : w4.cell? ⟨g1, 2, none⟩ = some (.slice A2 m c2) ∧ w4.frozen? ⟨g1, 2, none⟩ = false := ⟨H4.out.cell 3 rfl 2 rfl, H4.out.fz 3 rfl 2⟩
    clear hO4
    go_wp2_with fail
    refine Ag hK (fun hHeld => ?_)
    clear hK K
    refine Rd 7 fun K hK => ?_
    go_simp
    refine Ag hK (fun hHeld => ?_)
    clear hK K
    refine Tk 8 ?_
    refine Rd 9 fun K hK => ?_
    go_simp
    refine Ag hK (fun hHeld => ?_)
    clear hK K
    refine Dn ?_
    go_wp2_with fail
    go_meet
    exact ⟨_, _, ⟨(H4.out.put 3 rfl 0 _ rfl).put 3 rfl 2 _ rfl⟩⟩
  ·
   refine Rn (.slice A2 m c2) ?_
   refine Ag hK (fun hHeld => ?_)
   clear hK K
   refine Rd 1 fun K hK => ?_
   refine Rn (.slice A1 n c1) ?_
   refine Ag hK (fun hHeld => ?_)
   clear hK K
   refine Rd 2 fun K hK => ?_
   go_simp
   refine (HCQ.out _ H2.out.drew.below).mono ?_
   rintro e w3 ⟨v3, rfl, hO3⟩
   obtain ⟨A3, c3, rfl, hcl3, _⟩ := hO3.reads 0 rfl
   have H3 := Aside0.mk (H2.out.drew.call hO3)
   have k3 : w3.cell? ⟨g1, 2, none⟩ = some (.slice A2 m c2) := H3.out.cell 2 rfl 2 rfl
   clear hO3
   go_wp2_with fail
   refine Ag hK (fun hHeld => ?_)
   clear hK K
   refine Tk 6 ?_
   refine Rd 5 fun K hK => ?_
   go_simp
   refine (HCL.out _ H3.out.below).mono ?_
   rintro e w4 ⟨v4, rfl, hO4⟩
   obtain ⟨A4, c4, rfl, hcl4, _⟩ := hO4.reads 0 rfl
   have H4 := Aside0.mk (H3.out.call hO4)
   have f4 : w4.cell? ⟨g1, 0, none⟩ = some (.slice A1 n c1) ∧ w4.frozen? ⟨g1, 0, none⟩ = false := ⟨H4.out.cell 3 rfl 0 rfl, H4.out.fz 3 rfl 0⟩
   have f5 : w4.cell? ⟨g1, 2, none⟩ = some (.slice A2 m c2) ∧ w4.frozen? ⟨g1, 2, none⟩ = false := ⟨H4.out.cell 3 rfl 2 rfl, H4.out.fz 3 rfl 2⟩
   clear hO4
   go_wp2_with fail
   refine Ag hK (fun hHeld => ?_)
   clear hK K
   refine Rd 7 fun K hK => ?_
   go_simp
   refine Ag hK (fun hHeld => ?_)
   clear hK K
   refine Tk 8 ?_
   refine Rd 9 fun K hK => ?_
   go_simp
   refine Ag hK (fun hHeld => ?_)
   clear hK K
   refine Dn ?_
   go_wp2_with fail
   go_meet
   exact ⟨_, _, ⟨(H4.out.put 3 rfl 0 _ rfl).put 3 rfl 2 _ rfl⟩⟩
 case rest =>
  obtain ⟨v1, v2, HC0⟩ := hcut
  have HC1 := Aside0.mk (HC0.out.sh_mix 1 rfl)
  obtain ⟨A3, c3, hv1, hcl3, _⟩ := HC0.out.reads 1 rfl
  obtain ⟨A4, c4, hv2, hcl4, _⟩ := HC0.out.reads 0 rfl
  rw [← HN.out] at hv1 hcl3
  rw [← HM.out] at hv2 hcl4
  subst hv1 hv2
  replace HC1 : Aside0 (Own w.heap.size w wc [.row (shK kL w) 74 (.slice A4 m c4) l, .row (mixK kQ w) 78 (.slice A3 n c3) (mixL 0 q), .blk g2 #[.slice none 0 0, .int .i64 0, .slice none 0 0, .int .u64 0] 73, .blk g1 #[.slice A3 n c3, .int .i64 tk, .slice A4 m c4, .int .u64 nx] 73]) := ⟨by rw [mixL_0]; exact HC1.out⟩
  have e0 : wc.cell? ⟨g1, 0, none⟩ = some (.slice A3 n c3) := HC1.out.cell 3 rfl 0 rfl
  have HQ1 := HQL.out
  have HBC := Aside0.mk (fun (i : Nat) (h : i < q.length) => HQM.out q[i] (List.getElem_mem h))
  go_wp2_with fail
  go_loopw [16] (fun v16 wr => ∃ (i : Nat), i ≤ n ∧ v16 = .int .i64 (i : Int) ∧ Aside0 (Own w.heap.size w wr [.row (shK kL w) 74 (.slice A4 m c4) l, .row (mixK kQ w) 78 (.slice A3 n c3) (mixL i q), .blk g2 #[.slice none 0 0, .int .i64 0, .slice none 0 0, .int .u64 0] 73, .blk g1 #[.slice A3 n c3, .int .i64 tk, .slice A4 m c4, .int .u64 nx] 73])) (fun v16 _ => n - (intOf v16).toNat)
  case atStart => exact ⟨0, Nat.zero_le _, rfl, HC1⟩
  case round =>
   obtain ⟨i, hi, rfl, HI⟩ := hrel
   clear e0 HC1 HC0
   by_cases hlt : i < n
   ·have hdl : decide ((i : Int) < (n : Int)) = true := decide_eq_true (by omega)
    have hwi : IntKind.i64.wrap ((i : Int) + 1) = ((i + 1 : Nat) : Int) := by rw [IntWalk.i64_in _ (by omega)]; omega
    have hib : (0 : Int) ≤ (i : Int) ∧ (i : Int) < (n : Int) := by omega
    have hiq : i < q.length := by rw [← HN.out]; exact hlt
    obtain ⟨g3, cap, he, _⟩ := HI.out.form 1 rfl (by rw [mixL_len]; omega)
    rw [mixL_len, ← HN.out] at he
    injection he with he he2 he3
    subst he he3
    obtain ⟨cs, ⟨_, hK⟩, hcell⟩ := HI.out.cells_at 1 rfl i (mixL_get hiq)
    obtain ⟨Am, cm, rfl, hcm, hCm⟩ := PRF.k78_open (hK rfl)
    have hcell1 : wr.cell? ⟨g3, i * 2 + 1, none⟩ = some (.slice Am q[i].f1.length cm) := hcell 1 _ rfl
    have hk1 : wr.cell? ⟨g1, 0, none⟩ = some (.slice (some ⟨g3, 0, none⟩) n c3) := HI.out.cell 3 rfl 0 rfl
    have HCB := Aside0.mk (fun W (hb : Below w.heap.size w W) => bclone_any q[i].f1 Am cm W (Kd.C_below hCm hb) hcm (HBC.out i hiq))
    clear hK hcell hCm hcm
    generalize hmq : q[i].f1.length = lm at *
    go_wp2_with fail
    refine St (fun W => W.cell? ⟨g1, 0, none⟩ = some (.slice (some ⟨g3, 0, none⟩) n c3)) (fun hHeld => ?_) (by exact hk1)
    refine Tk 0 ?_
    refine Tk 1 ?_
    refine Tk 2 ?_
    refine Tk 3 ?_
    refine Tk 4 ?_
    refine Tk 5 ?_
    refine Tk 6 ?_
    refine Tk 7 ?_
    have HD := Aside0.mk HI.out.drew
    have hcell2 : wr.drew.cell? ⟨g3, i * 2 + 1, none⟩ = some (.slice Am lm cm) := hcell1
    clear HI hcell1
    generalize wr.drew = wd at *
    refine Rd 8 fun K hK => ?_
    refine Rn (.slice Am lm cm) ?_
    refine Ag hK (fun hHeld => ?_)
    clear hK K
    refine Rd 9 fun K hK => ?_
    go_simp
    refine (HCB.out _ HD.out.below).mono ?_
    rintro e w5 ⟨v5, rfl, hO5⟩
    obtain ⟨A5, c5, rfl, hcl5, _⟩ := hO5.reads 0 rfl
    have H5 := Aside0.mk ((HD.out.call hO5).bring 2 rfl)
    rw [hmq] at H5
    clear hO5
    have hk5 : w5.cell? ⟨g1, 0, none⟩ = some (.slice (some ⟨g3, 0, none⟩) n c3) := H5.out.cell 4 rfl 0 rfl
    have HP := Aside0.mk (Own.put1 (d := mixK kQ w) H5.out i hlt 1 (by show 1 < 2; decide) (u := .slice A5 lm c5) (x := (true, q[i])) (mixL_get hiq) (fun W W1 ok cs hcs hr => ⟨fun _ => by
     obtain ⟨Az, cz, hz, _, _⟩ := PRF.k78_open (hcs.2 rfl)
     rw [hz]
     exact PRF.k78_mkM W1 0 ok q[i] hr, fun h => by cases h⟩))
    obtain ⟨hth1, hth2⟩ := H5.out.there_row (d := mixK kQ w) 0 rfl i hlt 1 (by show 1 < 2; decide)
    obtain ⟨vold, hth1⟩ := Option.isSome_iff_exists.1 hth1
    replace hth1 : w5.cell? ⟨g3, i * 2 + 1, none⟩ = some vold := hth1
    replace hth2 : w5.frozen? ⟨g3, i * 2 + 1, none⟩ = false := hth2
    replace HP := Aside0.mk (HP.out.bring 1 rfl)
    rw [mixL_set hiq] at HP
    have hk6 : (w5.setCell ⟨g3, i * 2 + 1, none⟩ (.slice A5 lm c5)).cell? ⟨g1, 0, none⟩ = some (.slice (some ⟨g3, 0, none⟩) n c3) := HP.out.cell 3 rfl 0 rfl
    clear H5 HD
    go_wp2_with fail
    refine Ag hK (fun hHeld => ?_) (by exact hk5)
    clear hK K
    refine Tk 10 ?_
    refine Tk 11 ?_
    refine Rd 12 fun K hK => ?_
    go_simp
    refine Ag hK (fun hHeld => ?_) (by exact hk6)
    clear hK K
    refine Dn ?_
    clear hk5 hk6 hth1 hth2 hHeld hcell2 hk1
    replace HP : Aside0 (Own w.heap.size w (w5.setCell ⟨g3, i * 2 + 1, none⟩ (.slice A5 lm c5)) [.row (shK kL w) 74 (.slice A4 m c4) l, .row (mixK kQ w) 78 (.slice (some ⟨g3, 0, none⟩) n c3) (mixL (i + 1) q), .blk g2 #[.slice none 0 0, .int .i64 0, .slice none 0 0, .int .u64 0] 73, .blk g1 #[.slice (some ⟨g3, 0, none⟩) n c3, .int .i64 tk, .slice A4 m c4, .int .u64 nx] 73]) := ⟨HP.out⟩
    generalize w5.setCell ⟨g3, i * 2 + 1, none⟩ (.slice A5 lm c5) = w6 at *
    go_wp2_with fail
    go_roundw
    case rel => exact ⟨i + 1, hlt, rfl, HP⟩
    case measure => simp [intOf]; omega
   ·have hdl : decide ((i : Int) < (n : Int)) = false := decide_eq_false (by omega)
    obtain rfl : n = i := by omega
    have HE := Aside0.mk ((show Own w.heap.size w wr [.row (shK kL w) 74 (.slice A4 m c4) l, .row (mixK kQ w) 78 (.slice A3 n c3) (q.map fun x => (true, x)), .blk g2 #[.slice none 0 0, .int .i64 0, .slice none 0 0, .int .u64 0] 73, .blk g1 #[.slice A3 n c3, .int .i64 tk, .slice A4 m c4, .int .u64 nx] 73] from by rw [← mixL_all, ← HN.out]; exact HI.out).mix_own 1 rfl)
    replace HE := Aside0.mk (HE.out.sh_mix 0 rfl)
    have HE1 : Aside0 (Own w.heap.size w wr [.row (mixK kL w) 74 (.slice A4 m c4) (mixL 0 l), .row kQ 78 (.slice A3 n c3) q, .blk g2 #[.slice none 0 0, .int .i64 0, .slice none 0 0, .int .u64 0] 73, .blk g1 #[.slice A3 n c3, .int .i64 tk, .slice A4 m c4, .int .u64 nx] 73]) := ⟨by rw [mixL_0]; exact HE.out⟩
    clear HE HI HBC
    have e2 : wr.cell? ⟨g1, 2, none⟩ = some (.slice A4 m c4) := HE1.out.cell 3 rfl 2 rfl
    have HL1 := HLL.out
    have HBC := Aside0.mk (fun (i : Nat) (h : i < l.length) => HLM.out l[i] (List.getElem_mem h))
    go_wp2_with fail
    go_loopw [35] (fun v35 wr => ∃ (i : Nat), i ≤ m ∧ v35 = .int .i64 (i : Int) ∧ Aside0 (Own w.heap.size w wr [.row (mixK kL w) 74 (.slice A4 m c4) (mixL i l), .row kQ 78 (.slice A3 n c3) q, .blk g2 #[.slice none 0 0, .int .i64 0, .slice none 0 0, .int .u64 0] 73, .blk g1 #[.slice A3 n c3, .int .i64 tk, .slice A4 m c4, .int .u64 nx] 73])) (fun v35 _ => m - (intOf v35).toNat)
    case atStart => exact ⟨0, Nat.zero_le _, rfl, HE1⟩
    case round =>
     obtain ⟨i, hi, rfl, HI⟩ := hrel
     clear e2 HE1
     by_cases hlt : i < m
     ·have hdl : decide ((i : Int) < (m : Int)) = true := decide_eq_true (by omega)
      have hwi : IntKind.i64.wrap ((i : Int) + 1) = ((i + 1 : Nat) : Int) := by rw [IntWalk.i64_in _ (by omega)]; omega
      have hib : (0 : Int) ≤ (i : Int) ∧ (i : Int) < (m : Int) := by omega
      have hiq : i < l.length := by rw [← HM.out]; exact hlt
      obtain ⟨g3, cap, he, _⟩ := HI.out.form 0 rfl (by rw [mixL_len]; omega)
      rw [mixL_len, ← HM.out] at he
      injection he with he he2 he3
      subst he he3
      obtain ⟨cs, ⟨_, hK⟩, hcell⟩ := HI.out.cells_at 0 rfl i (mixL_get hiq)
      obtain ⟨Am, cm, rfl, hcm, hCm⟩ := hK rfl
      have hcell1 : wr.cell? ⟨g3, i, none⟩ = some (.slice Am l[i].length cm) := by
       have h1 : wr.cell? ⟨g3, i * 1 + 0, none⟩ = some (.slice Am l[i].length cm) := hcell 0 _ rfl
       rwa [Nat.mul_one] at h1
      have hk1 : wr.cell? ⟨g1, 2, none⟩ = some (.slice (some ⟨g3, 0, none⟩) m c4) := HI.out.cell 3 rfl 2 rfl
      have HCB := Aside0.mk (fun W (hb : Below w.heap.size w W) => bclone_any l[i] Am cm W (Kd.C_below hCm hb) hcm (HBC.out i hiq))
      clear hK hcell hCm hcm
      generalize hmq : l[i].length = lm at *
      go_wp2_with fail
      refine St (fun W => W.cell? ⟨g1, 2, none⟩ = some (.slice (some ⟨g3, 0, none⟩) m c4)) (fun hHeld => ?_) (by exact hk1)
      refine Tk 0 ?_
      refine Tk 1 ?_
      refine Tk 2 ?_
      refine Tk 3 ?_
      refine Tk 4 ?_
      refine Tk 5 ?_
      refine Tk 6 ?_
      have HD := Aside0.mk HI.out.drew
      have hcell2 : wr.drew.cell? ⟨g3, i, none⟩ = some (.slice Am lm cm) := hcell1
      clear HI hcell1
      generalize wr.drew = wd at *
      refine Rd 7 fun K hK => ?_
      refine Rn (.slice Am lm cm) ?_
      refine Ag hK (fun hHeld => ?_)
      clear hK K
      refine Rd 8 fun K hK => ?_
      go_simp
      refine (HCB.out _ HD.out.below).mono ?_
      rintro e w5 ⟨v5, rfl, hO5⟩
      obtain ⟨A5, c5, rfl, hcl5, _⟩ := hO5.reads 0 rfl
      have H5 := Aside0.mk ((HD.out.call hO5).bring 1 rfl)
      rw [hmq] at H5
      clear hO5
      have hk5 : w5.cell? ⟨g1, 2, none⟩ = some (.slice (some ⟨g3, 0, none⟩) m c4) := H5.out.cell 4 rfl 2 rfl
      have HP := Aside0.mk (Own.put1 (d := mixK kL w) H5.out i hlt 0 (by show 0 < 1; decide) (u := .slice A5 lm c5) (x := (true, l[i])) (mixL_get hiq) (fun W W1 ok cs hcs hr => ⟨fun _ => by
       obtain ⟨Az, cz, hz, _, _⟩ := hcs.2 rfl
       rw [hz]
       exact ⟨_, rfl, hr⟩, fun h => by cases h⟩))
      obtain ⟨hth1, hth2⟩ := H5.out.there_row (d := mixK kL w) 0 rfl i hlt 0 (by show 0 < 1; decide)
      obtain ⟨vold, hth1⟩ := Option.isSome_iff_exists.1 hth1
      have ez : i * (mixK kL w).sz + 0 = i := Nat.mul_one i
      rw [ez] at HP hth1 hth2
      rw [mixL_set hiq] at HP
      have hk6 : (w5.setCell ⟨g3, i, none⟩ (.slice A5 lm c5)).cell? ⟨g1, 2, none⟩ = some (.slice (some ⟨g3, 0, none⟩) m c4) := HP.out.cell 3 rfl 2 rfl
      clear H5 HD
      go_wp2_with fail
      refine Ag hK (fun hHeld => ?_) (by exact hk5)
      clear hK K
      refine Tk 9 ?_
      refine Rd 10 fun K hK => ?_
      go_simp
      refine Ag hK (fun hHeld => ?_) (by exact hk6)
      clear hK K
      refine Dn ?_
      clear hk5 hk6 hth1 hth2 hHeld hcell2 hk1
      replace HP : Aside0 (Own w.heap.size w (w5.setCell ⟨g3, i, none⟩ (.slice A5 lm c5)) [.row (mixK kL w) 74 (.slice (some ⟨g3, 0, none⟩) m c4) (mixL (i + 1) l), .row kQ 78 (.slice A3 n c3) q, .blk g2 #[.slice none 0 0, .int .i64 0, .slice none 0 0, .int .u64 0] 73, .blk g1 #[.slice A3 n c3, .int .i64 tk, .slice (some ⟨g3, 0, none⟩) m c4, .int .u64 nx] 73]) := ⟨HP.out⟩
      generalize w5.setCell ⟨g3, i, none⟩ (.slice A5 lm c5) = w6 at *
      go_wp2_with fail
      go_roundw
      case rel => exact ⟨i + 1, hlt, rfl, HP⟩
      case measure => simp [intOf]; omega
     ·have hdl : decide ((i : Int) < (m : Int)) = false := decide_eq_false (by omega)
      obtain rfl : m = i := by omega
      have HF := Aside0.mk ((show Own w.heap.size w wr [.row (mixK kL w) 74 (.slice A4 m c4) (l.map fun x => (true, x)), .row kQ 78 (.slice A3 n c3) q, .blk g2 #[.slice none 0 0, .int .i64 0, .slice none 0 0, .int .u64 0] 73, .blk g1 #[.slice A3 n c3, .int .i64 tk, .slice A4 m c4, .int .u64 nx] 73] from by rw [← mixL_all, ← HM.out]; exact HI.out).mix_own 0 rfl)
      have HA1 : Aside0 (Arr 4 #[.slice A3 n c3, .int .i64 tk, .slice A4 m c4, .int .u64 nx]) := ⟨rfl, by simp [Value.oneCell']⟩
      have HA0 : Aside0 (Arr 4 #[.slice none 0 0, .int .i64 0, .slice none 0 0, .int .u64 0]) := ⟨rfl, by simp [Value.oneCell']⟩
      clear HI
      go_wp2_with (first
       | fail
       | ((with_reducible refine gate_dst (N := 49) rfl ?_); refine own_loadV HF.out 3 g1 _ 73 rfl rfl (.tmp 1) rfl _ rfl Try.underlying73 rfl (by kernel_rfl) ?_)
       | ((with_reducible refine Gs 73 2 ?_); ( refine OS 2 49 HF 2 g2 73 #[.slice A3 n c3, .int .i64 tk, .slice A4 m c4, .int .u64 nx] 4 HA0 HA1 ?_; intro w7 HG))
       )
      refine bodyPost_ret (own_resultV rfl _ HG.out 2 g2 _ rfl rfl _ Try.underlying73 rfl (by kernel_rfl)) rfl ?_
      exact ⟨_, _, rfl, ((HG.out.bring 1 rfl).erase 2).erase 2⟩
end Go.Proofs.Ytocphkfkdadhaaa.H

namespace Go.Proofs.Ytocphkfkdadhaaa.H
open Go.RowKit Go.Proofs.YtocphkfkdadhaaaW.PrintWords Go.Proofs.YtocphkfkdadhaaaW.PrintLast Go.Proofs.YtocphkfkdadhaaaW.PrintMore
set_option linter.unusedVariables false
set_option linter.unusedSimpArgs false
theorem short_any (m : List Int) (A : Option Addr) (c : Nat) (w : World) (hC : Kd.C kB w A m.length m) (hc : m.length ≤ c) :
 Calls Try.prog 82 #[.slice A m.length c] w fun e w' => e = .returned (.bool (decide (m.length ≤ 65536))) ∧ Below w.heap.size w w' := by
 refine (PRF.inbox_short.calls A c m (decide (m.length ≤ 65536)) w hC hc ?_).mono ?_
 ·rw [PRF.inbox_short.f]; congr 1; apply decide_eq_decide.2; omega
 ·rintro e w' ⟨rfl, h⟩
  exact ⟨rfl, h.below⟩
set_option maxHeartbeats 1000000 in
set_option maxRecDepth 100000 in
theorem long_any (m : List Int) (A : Option Addr) (c : Nat) (w : World) (hC : Kd.C kB w A m.length m) (hc : m.length ≤ c) :
 Calls Try.prog 112 #[.slice A m.length c] w fun e w' => e = .returned (.bool (!decide (m.length ≤ 65536))) ∧ Below w.heap.size w w' := by
 have HS := Aside0.mk (fun W hb => short_any m A c W (Kd.C_below hC hb) hc)
 have H0 := Aside0.mk (Below.refl w.heap.size w)
 clear hC
 generalize decide (m.length ≤ 65536) = b at *
 generalize m.length = n at *
 go_enter Try.func112, Try.ntmps112
 go_wp2_with (go_at_call 82; refine (HS.out _ (Below.refl _ _)).mono ?_; rintro e w1 ⟨rfl, hB⟩)
 go_ret
 exact ⟨rfl, hB⟩
def longP (l : List (List Int)) : Bool := l.any fun m => !decide (m.length ≤ 65536)
set_option maxHeartbeats 1000000 in
set_option maxRecDepth 100000 in
theorem index_any (l : List (List Int)) (A : Option Addr) (c : Nat) (w : World) (hC : Kd.C kL w A l.length l) (hc : l.length ≤ c) (hl : l.length ≤ 1000000) :
 Calls Try.prog 149 #[.slice A l.length c, .func (.func 112) #[] #[]] w fun e w' => ∃ k : Int, e = .returned (.int .i64 k) ∧ (decide (0 ≤ k) = longP l) ∧ Below w.heap.size w w' := by
 have HC := Aside0.mk hC
 have H0 := Aside0.mk (Below.refl w.heap.size w)
 obtain ⟨n, hn⟩ : ∃ n, n = l.length := ⟨_, rfl⟩
 rw [← hn] at HC hc hl ⊢
 have HN := Aside0.mk hn
 clear hC hn
 go_enter Try.func149, Try.ntmps149
 go_wp2_with fail
 go_loopw [8] (fun v8 wr => ∃ (i : Nat), i ≤ n ∧ v8 = .int .i64 (i : Int) ∧ Aside0 (Below w.heap.size w wr) ∧ Aside0 (longP (l.take i) = false)) (fun v8 _ => n - (intOf v8).toNat)
 case atStart => exact ⟨0, Nat.zero_le _, rfl, H0, ⟨rfl⟩⟩
 case round =>
  obtain ⟨i, hi, rfl, HB, HS⟩ := hrel
  by_cases hlt : i < n
  ·have hdl : decide ((i : Int) < (n : Int)) = true := decide_eq_true (by omega)
   have hwi : IntKind.i64.wrap ((i : Int) + 1) = ((i + 1 : Nat) : Int) := by rw [IntWalk.i64_in _ (by omega)]; omega
   have hib : (0 : Int) ≤ (i : Int) ∧ (i : Int) < (n : Int) := by omega
   have hiq : i < l.length := by rw [← HN.out]; exact hlt
   obtain ⟨ad, A0, c0, rfl, hcell, hc0, hC0⟩ := PRF.at_L2 (Kd.C_below HC.out HB.out) (i : Int) hib.1 hib.2
   have hrd : PRF.rd_L2 l (i : Int) = l[i] := by simp [PRF.rd_L2, List.getD_eq_getElem?_getD, hiq]
   rw [hrd, Int.toNat_natCast] at hcell
   rw [hrd] at hC0 hc0
   have HLG := Aside0.mk (long_any l[i] A0 c0 wr hC0 hc0)
   have HTK : Aside0 (longP (l.take (i + 1)) = !decide (l[i].length ≤ 65536)) := ⟨by
    rw [List.take_succ_eq_append_getElem hiq]
    have := HS.out
    unfold longP at this ⊢
    rw [List.any_append, this]; simp⟩
   clear hC0 hc0 hrd
   generalize hb : decide (l[i].length ≤ 65536) = b at *
   generalize l[i].length = ln at *
   cases b
   ·go_wp2_with (go_at_call 112; refine HLG.out.mono ?_; rintro e w1 ⟨rfl, hB⟩; replace hB := Aside0.mk hB)
    go_ret
    refine ⟨_, rfl, ?_, below_step HB.out hB.out⟩
    rw [decide_eq_true (by omega)]
    have h1 := HTK.out
    have h2 : longP (l.take (i + 1) ++ l.drop (i + 1)) = true := by
     unfold longP at h1 ⊢
     rw [List.any_append, h1]; rfl
    rw [List.take_append_drop] at h2
    exact h2.symm
   ·go_wp2_with (go_at_call 112; refine HLG.out.mono ?_; rintro e w1 ⟨rfl, hB⟩; replace hB := Aside0.mk hB)
    go_roundw
    case rel => exact ⟨i + 1, hlt, rfl, ⟨below_step HB.out hB.out⟩, HTK⟩
    case measure => simp [intOf]; omega
  ·have hdl : decide ((i : Int) < (n : Int)) = false := decide_eq_false (by omega)
   obtain rfl : n = i := by omega
   go_wp2_with fail
   go_ret
   refine ⟨_, rfl, ?_, HB.out⟩
   have h1 := HS.out
   rw [List.take_of_length_le (by rw [HN.out]; exact Nat.le_refl _)] at h1
   rw [h1]; rfl
set_option maxHeartbeats 1000000 in
set_option maxRecDepth 100000 in
theorem contains_any (l : List (List Int)) (A : Option Addr) (c : Nat) (w : World) (hC : Kd.C kL w A l.length l) (hc : l.length ≤ c) (hl : l.length ≤ 1000000) :
 Calls Try.prog 111 #[.slice A l.length c, .func (.func 112) #[] #[]] w fun e w' => e = .returned (.bool (longP l)) ∧ Below w.heap.size w w' := by
 have HS := Aside0.mk (index_any l A c w hC hc hl)
 clear hC
 generalize longP l = b at *
 generalize l.length = n at *
 go_enter Try.func111, Try.ntmps111
 go_wp2_with (go_at_call 149; refine HS.out.mono ?_; rintro e w1 ⟨k, rfl, hk, hB⟩)
 go_ret
 exact ⟨by simp [hk], hB⟩
end Go.Proofs.Ytocphkfkdadhaaa.H

namespace Go.Proofs.Ytocphkfkdadhaaa.H
open Go.RowKit Go.Proofs.YtocphkfkdadhaaaW.PrintWords Go.Proofs.YtocphkfkdadhaaaW.PrintLast Go.Proofs.YtocphkfkdadhaaaW.PrintMore
set_option linter.unusedVariables false
set_option linter.unusedSimpArgs false
abbrev SQ := PRF.S78
def riseP : Int → List SQ → Bool
 | _, [] => true
 | last, d :: r => decide (last ≤ d.f0) && decide (d.f1.length ≤ 65536) && riseP d.f0 r
def mayI (q : List SQ) (tk : Int) (l : List (List Int)) : Bool :=
 decide (q.length ≤ 4096) && decide (l.length ≤ 4096) && decide (0 ≤ tk) && decide (tk ≤ q.length) && riseP 0 q && !longP l
set_option maxHeartbeats 4000000 in
set_option maxRecDepth 100000 in
theorem imay_any (q : List SQ) (tk : Int) (l : List (List Int)) (nx : Int) (A1 A2 : Option Addr) (c1 c2 : Nat) (w : World) (hC1 : Kd.C kQ w A1 q.length q) (hc1 : q.length ≤ c1) (hC2 : Kd.C kL w A2 l.length l) (hc2 : l.length ≤ c2) :
 Calls Try.prog 57 #[.agg #[.slice A1 q.length c1, .int .i64 tk, .slice A2 l.length c2, .int .u64 nx]] w fun e w' => e = .returned (.bool (mayI q tk l)) ∧ Below w.heap.size w w' := by
 have H0 := Aside0.mk (Own.start w)
 have HCQ := Aside0.mk hC1
 have HCL := Aside0.mk (fun W (hb : Below w.heap.size w W) (h : l.length ≤ 1000000) => contains_any l A2 c2 W (Kd.C_below hC2 hb) hc2 h)
 clear hC1 hC2 hc2
 obtain ⟨r, hr⟩ : ∃ r, r = mayI q tk l := ⟨_, rfl⟩
 rw [← hr]
 have HR := Aside0.mk hr
 clear hr
 obtain ⟨n, hn⟩ : ∃ n, n = q.length := ⟨_, rfl⟩
 obtain ⟨m, hm⟩ : ∃ m, m = l.length := ⟨_, rfl⟩
 have HM := Aside0.mk hm
 have HN := Aside0.mk hn
 rw [← hn] at hc1 HCQ ⊢
 rw [← hm] at HCL ⊢
 clear hn hm
 go_enter Try.func57, Try.ntmps57
 go_upto_region 1 with (first
  | fail
  | ((with_reducible refine Gd 1 ?_); ( refine OB H0 73 #[.slice A1 n c1, .int .i64 tk, .slice A2 m c2, .int .u64 nx] ?_; intro g1 w1 H1 B1))
  )
 replace H1 : Aside0 (Own w.heap.size w w1 [.blk g1 #[.slice A1 n c1, .int .i64 tk, .slice A2 m c2, .int .u64 nx] 73]) := ⟨H1.out⟩
 have k0 : w1.cell? ⟨g1, 0, none⟩ = some (.slice A1 n c1) := H1.out.cell 0 rfl 0 rfl
 have k1 : w1.cell? ⟨g1, 1, none⟩ = some (.int .i64 tk) := H1.out.cell 0 rfl 1 rfl
 have k2 : w1.cell? ⟨g1, 2, none⟩ = some (.slice A2 m c2) := H1.out.cell 0 rfl 2 rfl
 by_cases h1 : n ≤ 4096
 case neg =>
  have hd1 : decide (4096 < (n : Int)) = true := decide_eq_true (by omega)
  have hrf : r = false := by rw [HR.out, mayI, decide_eq_false (by rw [← HN.out]; exact h1)]; rfl
  subst hrf
  go_wp2_with fail
  go_ret
  exact ⟨rfl, H1.out.below⟩
 have hd1 : decide (4096 < (n : Int)) = false := decide_eq_false (by omega)
 by_cases h2 : m ≤ 4096
 case neg =>
  have hd2 : decide (4096 < (m : Int)) = true := decide_eq_true (by omega)
  have hrf : r = false := by rw [HR.out, mayI, decide_eq_false (p := l.length ≤ 4096) (by rw [← HM.out]; exact h2)]; simp
  subst hrf
  go_wp2_with fail
  go_ret
  exact ⟨rfl, H1.out.below⟩
 have hd2 : decide (4096 < (m : Int)) = false := decide_eq_false (by omega)
 by_cases h3 : 0 ≤ tk
 case neg =>
  have hd3 : decide (tk < 0) = true := decide_eq_true (by omega)
  have hrf : r = false := by rw [HR.out, mayI, decide_eq_false h3]; simp
  subst hrf
  go_wp2_with fail
  go_ret
  exact ⟨rfl, H1.out.below⟩
 have hd3 : decide (tk < 0) = false := decide_eq_false (by omega)
 by_cases h4 : tk ≤ (n : Int)
 case neg =>
  have hd4 : decide ((n : Int) < tk) = true := decide_eq_true (by omega)
  have hrf : r = false := by rw [HR.out, mayI, decide_eq_false (p := tk ≤ (q.length : Int)) (by rw [← HN.out]; exact h4)]; simp
  subst hrf
  go_wp2_with fail
  go_ret
  exact ⟨rfl, H1.out.below⟩
 have hd4 : decide ((n : Int) < tk) = false := decide_eq_false (by omega)
 have hrt : r = (riseP 0 q && !longP l) := by rw [HR.out, mayI, decide_eq_true (by rw [← HN.out]; exact h1), decide_eq_true (p := l.length ≤ 4096) (by rw [← HM.out]; exact h2), decide_eq_true h3, decide_eq_true (p := tk ≤ (q.length : Int)) (by rw [← HN.out]; exact h4)]; simp
 replace HR := Aside0.mk hrt
 clear hrt
 have HCL2 := Aside0.mk (fun W hb => HCL.out W hb (by omega))
 clear HCL
 go_wp2_with fail
 go_loopw [3, 32] (fun v3 v32 wr => ∃ (i : Nat) (last : Int), i ≤ n ∧ v3 = .int .i64 last ∧ v32 = .int .i64 (i : Int) ∧ Aside0 (riseP 0 q = riseP last (q.drop i)) ∧ Aside0 (Own w.heap.size w wr [.blk g1 #[.slice A1 n c1, .int .i64 tk, .slice A2 m c2, .int .u64 nx] 73])) (fun _ v32 _ => n - (intOf v32).toNat)
 case atStart => exact ⟨0, 0, Nat.zero_le _, rfl, rfl, ⟨rfl⟩, H1⟩
 case round =>
  clear k0 k1 k2 H1 H0
  obtain ⟨i, last, hi, rfl, rfl, HS, HI⟩ := hrel
  by_cases hlt : i < n
  ·have hdl : decide ((i : Int) < (n : Int)) = true := decide_eq_true (by omega)
   have hwi : IntKind.i64.wrap ((i : Int) + 1) = ((i + 1 : Nat) : Int) := by rw [IntWalk.i64_in _ (by omega)]; omega
   have hib : (0 : Int) ≤ (i : Int) ∧ (i : Int) < (n : Int) := by omega
   have hiq : i < q.length := by rw [← HN.out]; exact hlt
   obtain ⟨ad, A0, c0, rfl, hcA, hcB, hc0, hC0⟩ := PRF.at_T78 (Kd.C_below HCQ.out HI.out.below) (i : Int) hib.1 hib.2
   have hrd : PRF.rd_T78 q (i : Int) = q[i] := by simp [PRF.rd_T78, List.getD_eq_getElem?_getD, hiq]
   rw [hrd, Int.toNat_natCast] at hcA hcB
   rw [hrd] at hC0 hc0
   have HSH := Aside0.mk (fun W hb => short_any q[i].f1 A0 c0 W (Kd.C_below hC0 hb) hc0)
   have HST : Aside0 (riseP 0 q = (decide (last ≤ q[i].f0) && decide (q[i].f1.length ≤ 65536) && riseP q[i].f0 (q.drop (i + 1)))) := ⟨by rw [HS.out, List.drop_eq_getElem_cons hiq]; rfl⟩
   clear hC0 hc0 hrd HS
   generalize q[i].f0 = b at *
   generalize hll : decide (q[i].f1.length ≤ 65536) = sh at *
   generalize q[i].f1.length = ln at *
   by_cases hb : last ≤ b
   case neg =>
    have hd5 : decide (b < last) = true := decide_eq_true (by omega)
    have hrf : r = false := by rw [HR.out, HST.out, decide_eq_false hb]; rfl
    subst hrf
    go_wp2_with fail
    go_ret
    exact ⟨rfl, (HI.out.alloc _).below⟩
   have hd5 : decide (b < last) = false := decide_eq_false (by omega)
   rw [decide_eq_true hb, Bool.true_and] at HST
   have HNW := Aside0.mk (HI.out.new #[.int .i64 b, .slice A0 ln c0] 78)
   cases sh
   ·have hrf : r = false := by rw [HR.out, HST.out]; rfl
    subst hrf
    go_wp2_with (go_at_call 82; refine (HSH.out _ (below_alloc (Below.refl _ _) _)).mono ?_; rintro e w5 ⟨rfl, hB5⟩; replace hB5 := Aside0.mk hB5)
    go_ret
    exact ⟨rfl, (HNW.out.step hB5.out).below⟩
   ·rw [Bool.true_and] at HST
    go_wp2_with (go_at_call 82; refine (HSH.out _ (below_alloc (Below.refl _ _) _)).mono ?_; rintro e w5 ⟨rfl, hB5⟩; have H5 := Aside0.mk (HNW.out.step hB5); have kb : w5.cell? ⟨wr.heap.size, 0, none⟩ = some (.int .i64 b) := H5.out.cell 0 rfl 0 rfl; clear hB5)
    go_roundw
    case rel => exact ⟨i + 1, b, hlt, rfl, rfl, HST, ⟨H5.out.erase 0⟩⟩
    case measure => simp [intOf]; omega
  ·have hdl : decide ((i : Int) < (n : Int)) = false := decide_eq_false (by omega)
   obtain rfl : n = i := by omega
   have hrt : r = !longP l := by
    have h := HS.out
    rw [List.drop_of_length_le (by rw [HN.out]; exact Nat.le_refl _)] at h
    rw [HR.out, h]
    rfl
   clear HS HR
   subst hrt
   have k2 : wr.cell? ⟨g1, 2, none⟩ = some (.slice A2 m c2) := HI.out.cell 0 rfl 2 rfl
   go_wp2_with (go_at_call 111; refine (HCL2.out _ HI.out.below).mono ?_; rintro e w6 ⟨rfl, hB6⟩; replace hB6 := Aside0.mk hB6)
   go_ret
   exact ⟨rfl, (HI.out.step hB6.out).below⟩
end Go.Proofs.Ytocphkfkdadhaaa.H

namespace Go.Proofs.Ytocphkfkdadhaaa.H
open Go.RowKit Go.Proofs.YtocphkfkdadhaaaW.PrintWords Go.Proofs.YtocphkfkdadhaaaW.PrintLast Go.Proofs.YtocphkfkdadhaaaW.PrintMore
set_option linter.unusedVariables false
set_option linter.unusedSimpArgs false
def lastB (q : List SQ) : Int := (PRF.rd_T78 q ((q.length : Int) - 1)).f0
def sinceI (q : List SQ) (tk : Int) (l : List (List Int)) (block : Int) : Bool := mayI q tk l && decide (0 ≤ block) && (decide (q.length = 0) || decide (lastB q ≤ block))
theorem mayI_len {q : List SQ} {tk : Int} {l : List (List Int)} (h : mayI q tk l = true) : q.length ≤ 4096 ∧ l.length ≤ 4096 ∧ 0 ≤ tk ∧ tk ≤ q.length := by
 unfold mayI at h
 simp only [Bool.and_eq_true, decide_eq_true_eq] at h
 omega
set_option maxHeartbeats 4000000 in
set_option maxRecDepth 100000 in
theorem since_any (q : List SQ) (tk : Int) (l : List (List Int)) (nx block : Int) (A1 A2 : Option Addr) (c1 c2 : Nat) (w : World) (hC1 : Kd.C kQ w A1 q.length q) (hc1 : q.length ≤ c1) (hC2 : Kd.C kL w A2 l.length l) (hc2 : l.length ≤ c2) :
 Calls Try.prog 81 #[.agg #[.slice A1 q.length c1, .int .i64 tk, .slice A2 l.length c2, .int .u64 nx], .int .i64 block] w fun e w' => e = .returned (.bool (sinceI q tk l block)) ∧ Below w.heap.size w w' := by
 have H0 := Aside0.mk (Own.start w)
 have HCQ := Aside0.mk hC1
 have HMY := Aside0.mk (fun W hb => imay_any q tk l nx A1 A2 c1 c2 W (Kd.C_below hC1 hb) hc1 (Kd.C_below hC2 hb) hc2)
 have HLN := Aside0.mk (fun h : mayI q tk l = true => (mayI_len h).1)
 obtain ⟨r, hr⟩ : ∃ r, r = sinceI q tk l block := ⟨_, rfl⟩
 rw [← hr]
 unfold sinceI at hr
 have hlb : ∀ h : 0 < q.length, ∃ ad, A1 = some ad ∧ w.cell? (ad.add ((q.length - 1) * 2)) = some (.int .i64 (lastB q)) := by
  intro h
  obtain ⟨ad, A0, c0, rfl, hcA, hcB, _, _⟩ := PRF.at_T78 hC1 ((q.length : Int) - 1) (by omega) (by omega)
  refine ⟨ad, rfl, ?_⟩
  rw [show ((q.length : Int) - 1).toNat = q.length - 1 by omega] at hcA
  exact hcA
 generalize lastB q = lb at *
 generalize mayI q tk l = my at *
 clear hC1 hC2 hc2
 generalize hn : q.length = n at *
 generalize l.length = m at *
 go_enter Try.func81, Try.ntmps81
 go_upto_region 1 with (first
  | fail
  | ((with_reducible refine Gd 2 ?_); ( refine OB H0 73 #[.slice A1 n c1, .int .i64 tk, .slice A2 m c2, .int .u64 nx] ?_; intro g1 w1 H1 B1))
  )
 replace H1 : Aside0 (Own w.heap.size w w1 [.blk g1 #[.slice A1 n c1, .int .i64 tk, .slice A2 m c2, .int .u64 nx] 73]) := ⟨H1.out⟩
 have k0 : w1.cell? ⟨g1, 0, none⟩ = some (.slice A1 n c1) ∧ w1.cell? ⟨g1, 1, none⟩ = some (.int .i64 tk) ∧ w1.cell? ⟨g1, 2, none⟩ = some (.slice A2 m c2) ∧ w1.cell? ⟨g1, 3, none⟩ = some (.int .u64 nx) := ⟨H1.out.cell 0 rfl 0 rfl, H1.out.cell 0 rfl 1 rfl, H1.out.cell 0 rfl 2 rfl, H1.out.cell 0 rfl 3 rfl⟩
 cases my
 ·obtain rfl : r = false := by rw [hr]; rfl
  clear hr hlb HLN
  go_wp2_with (go_at_call 57; refine (HMY.out _ H1.out.below).mono ?_; rintro e w3 ⟨rfl, hB3⟩; have H3 := Aside0.mk (H1.out.step hB3); have k3 : w3.cell? ⟨g1, 0, none⟩ = some (.slice A1 n c1) := H3.out.cell 0 rfl 0 rfl; clear hB3)
  go_ret
  exact ⟨rfl, H3.out.below⟩
 have hn4 := HLN.out rfl
 rw [Bool.true_and] at hr
 by_cases hb : 0 ≤ block
 case neg =>
  obtain rfl : r = false := by rw [hr, decide_eq_false hb]; rfl
  clear hr hlb HLN
  have hd1 : decide (0 ≤ block) = false := decide_eq_false hb
  go_wp2_with (go_at_call 57; refine (HMY.out _ H1.out.below).mono ?_; rintro e w3 ⟨rfl, hB3⟩; have H3 := Aside0.mk (H1.out.step hB3); have k3 : w3.cell? ⟨g1, 0, none⟩ = some (.slice A1 n c1) := H3.out.cell 0 rfl 0 rfl; clear hB3)
  go_ret
  exact ⟨rfl, H3.out.below⟩
 have hd1 : decide (0 ≤ block) = true := decide_eq_true hb
 rw [hd1, Bool.true_and] at hr
 by_cases hz : n = 0
 ·subst hz
  obtain rfl : r = true := by rw [hr]; rfl
  clear hlb hr HLN
  go_wp2_with (go_at_call 57; refine (HMY.out _ H1.out.below).mono ?_; rintro e w3 ⟨rfl, hB3⟩; have H3 := Aside0.mk (H1.out.step hB3); have k3 : w3.cell? ⟨g1, 0, none⟩ = some (.slice A1 0 c1) := H3.out.cell 0 rfl 0 rfl; clear hB3)
  go_ret
  exact ⟨rfl, H3.out.below⟩
 ·obtain ⟨ad, rfl, hcA⟩ := hlb (by omega)
  rw [decide_eq_false hz, Bool.false_or] at hr
  have HCA := Aside0.mk (fun W (hb : Below w.heap.size w W) => pw_cell_below hb hcA)
  have hdz : ((n : Int) == 0) = false := by rw [beq_eq_false_iff_ne]; omega
  have hwn : IntKind.i64.wrap ((n : Int) - 1) = ((n - 1 : Nat) : Int) := by rw [IntWalk.i64_in _ (by omega)]; omega
  have hib : (0 : Int) ≤ ((n - 1 : Nat) : Int) ∧ ((n - 1 : Nat) : Int) < (n : Int) := by omega
  clear hlb hcA
  subst hr
  go_wp2_with (go_at_call 57; refine (HMY.out _ H1.out.below).mono ?_; rintro e w3 ⟨rfl, hB3⟩; have H3 := Aside0.mk (H1.out.step hB3); have k3 : w3.cell? ⟨g1, 0, none⟩ = some (.slice (some ad) n c1) := H3.out.cell 0 rfl 0 rfl; have k4 := HCA.out _ H3.out.below; clear hB3)
  go_ret
  exact ⟨rfl, H3.out.below⟩
end Go.Proofs.Ytocphkfkdadhaaa.H

namespace Go.Proofs.Ytocphkfkdadhaaa.H
open Go.RowKit Go.Proofs.YtocphkfkdadhaaaW.PrintWords Go.Proofs.YtocphkfkdadhaaaW.PrintLast Go.Proofs.YtocphkfkdadhaaaW.PrintMore
set_option linter.unusedVariables false
set_option linter.unusedSimpArgs false
section
variable {P : Program} {ops : Array Oper} {rest : List Oper} {o : Oper} {a : Act} {Q : Exit → Act → World → Prop} {Kc : Act → World → Prop} {B : Nat} {w0 W : World} {L : List Item} {α β : Type}
theorem own_appendM_step (d : Kd α) (d2 : Kd β) {e e2 : Nat} {v v2 : Value} {xs : List α} {ys : List β} (H : Own B w0 W (.row d e v xs :: .row d2 e2 v2 ys :: L)) (hw : Region.wanted o (yielded ops a.tmps) = true) (s x : Operand) (t : TypeId) (z : Value) (bytes : Nat)
 (ho : o.op = .call { callee := .builtin .append, args := #[s, x], argTypes := #[t, t] })
 (ht : P.underlying t = some (.slice e)) (hinfo : (P.info? e).map (fun i => (i.zero, i.size, i.bytes)) = some (some z, d.sz, bytes)) (hz : z.cells.size = d.sz) (hs0 : 0 < d.sz) (hb0 : 0 < bytes)
 (p : α) (cs : List Value) (hs : a.eval s = v) (hx : a.eval x = .slice (some ⟨W.heap.size, 0, none⟩) 1 1) (hM : ∀ (W : World) (ok : Nat → Prop), d2.R e2 W 0 ok v2 ys → d.M W 0 ok p cs) (hl : (xs.length + 1) * bytes ≤ 140737488355328)
 (h : ∀ v1 w1, Own B w0 w1 (.row d e v1 (xs ++ [p]) :: L) → Kc (a.put o.dst v1) w1) :
 if Region.wanted o (yielded ops a.tmps) = true then Oper.wp P o a (W.alloc (.cells cs.toArray e)) Kc Q else Kc (a.put o.dst undef) (W.alloc (.cells cs.toArray e)) := by
 obtain ⟨S, hS, ⟨S1, S2, c1, c2, c3, hR, hR2⟩, hch⟩ := H.join.focus 0 rfl
 have hR : Kd.R d e W 0 S1 v xs := hR
 have hR2 : Kd.R d2 e2 W 0 S2 v2 ys := hR2
 refine Kd.R_append_step d 0 hw s x t e z bytes ho ht hinfo hz hs0 hb0 v xs p cs (fun i => S i ∨ W.heap.size ≤ i) S2 hs hx (hM W S2 hR2) (fun k hk => ⟨.inl (c2 k hk), fun he => c3 k (hR.1 k he.symm) hk⟩) (fun i hi => .inr hi) (Kd.R_mono hR fun i hi => .inl (c1 i hi)) (w0 := W) ⟨rfl, rfl, rfl, Nat.le_refl _, fun _ _ => rfl⟩ (Nat.zero_le _) hl ?_
 intro v1 w1 hR1 _ hg _
 refine h v1 w1 (hch w1 (.row d e v1 (xs ++ [p])) v.ownBlock hg (fun g hr => c1 g (hR.1 g hr)) ?_)
 exact Kd.R_mono (Kd.R_bound hR1) (fun i hi => by rcases hi with ⟨hi | hi, h2, h3, _⟩; exact .inl hi; exact .inr ⟨hi, h3⟩)
end
structure Box where
 q : List SQ
 tk : Int
 l : List (List Int)
 nx : Int
def zeroB : Box := ⟨[], 0, [], 0⟩
def BoxPost (w : World) (r : Box × Int) (e : Ending) (w' : World) : Prop :=
 ∃ v1 v2, e = .returned (.tuple #[.agg #[v1, .int .i64 r.1.tk, v2, .int .u64 r.1.nx], .int .i64 r.2]) ∧ Own w.heap.size w w' [.row kQ 78 v1 r.1.q, .row kL 74 v2 r.1.l]
def queueI (x : Box) (block : Int) (m : List Int) : Box × Int := if x.q.length < 4096 then (⟨x.q ++ [⟨block, m⟩], x.tk, x.l, x.nx⟩, 0) else (zeroB, 4)
end Go.Proofs.Ytocphkfkdadhaaa.H

namespace Go.Proofs.Ytocphkfkdadhaaa.H
open Go.RowKit Go.Proofs.YtocphkfkdadhaaaW.PrintWords Go.Proofs.YtocphkfkdadhaaaW.PrintLast Go.Proofs.YtocphkfkdadhaaaW.PrintMore
set_option linter.unusedVariables false
set_option linter.unusedSimpArgs false
set_option maxHeartbeats 4000000 in
set_option maxRecDepth 100000 in
theorem queue_any (x : Box) (block : Int) (msg : List Int) (A1 A2 Am : Option Addr) (c1 c2 cm : Nat) (w : World) (hC1 : Kd.C kQ w A1 x.q.length x.q) (hc1 : x.q.length ≤ c1) (hC2 : Kd.C kL w A2 x.l.length x.l) (hc2 : x.l.length ≤ c2)
 (hC3 : Kd.C kB w Am msg.length msg) (hc3 : msg.length ≤ cm) (hm : msg.length ≤ 1099511627776)
 (hl : x.l.length ≤ 1000000) (hqm : ∀ d ∈ x.q, d.f1.length ≤ 1099511627776) (hlm : ∀ m ∈ x.l, m.length ≤ 1099511627776) :
 Calls Try.prog 84 #[.agg #[.slice A1 x.q.length c1, .int .i64 x.tk, .slice A2 x.l.length c2, .int .u64 x.nx], .int .i64 block, .slice Am msg.length cm] w (BoxPost w (queueI x block msg)) := by
 obtain ⟨q, tk, l, nx⟩ := x
 have H0 := Aside0.mk (Own.start w)
 have HCP := Aside0.mk (fun W (hb : Below w.heap.size w W) (hq : q.length ≤ 1000000) => copied_any q tk l nx A1 A2 c1 c2 W (Kd.C_below hC1 hb) hc1 (Kd.C_below hC2 hb) hc2 hq hl hqm hlm)
 have HCB := Aside0.mk (fun W (hb : Below w.heap.size w W) => bclone_any msg Am cm W (Kd.C_below hC3 hb) hc3 hm)
 obtain ⟨r, hr⟩ : ∃ r, r = queueI ⟨q, tk, l, nx⟩ block msg := ⟨_, rfl⟩
 rw [← hr]
 have HR := Aside0.mk hr
 dsimp only
 clear hC1 hC2 hC3 hc1 hc2 hc3 hqm hlm hr hl hm
 obtain ⟨n, hn⟩ : ∃ n, n = q.length := ⟨_, rfl⟩
 have HN := Aside0.mk hn
 rw [← hn] at HCP ⊢
 clear hn
 generalize l.length = m at *
 generalize msg.length = k at *
 go_enter Try.func84, Try.ntmps84
 go_upto_region 1 with (first
  | fail
  | ((with_reducible refine Gd 3 ?_); ( refine OB H0 73 #[.slice A1 n c1, .int .i64 tk, .slice A2 m c2, .int .u64 nx] ?_; intro g3 w1 H1 B1))
  | ((with_reducible refine Gd 6 ?_); ( refine OA H1 73 #[.slice none 0 0, .int .i64 0, .slice none 0 0, .int .u64 0] 4 ?_; intro g6 w2 H2 B2))
  )
 replace H2 : Aside0 (Own w.heap.size w w2 [.blk g6 #[.slice none 0 0, .int .i64 0, .slice none 0 0, .int .u64 0] 73, .blk g3 #[.slice A1 n c1, .int .i64 tk, .slice A2 m c2, .int .u64 nx] 73]) := ⟨H2.out⟩
 have k0 : w2.cell? ⟨g3, 0, none⟩ = some (.slice A1 n c1) := H2.out.cell 1 rfl 0 rfl
 have HA0 : Aside0 (Arr 4 #[.slice none 0 0, .int .i64 0, .slice none 0 0, .int .u64 0]) := ⟨rfl, by simp [Value.oneCell']⟩
 by_cases h4 : n < 4096
 case neg =>
  have hd : decide (4096 ≤ (n : Int)) = true := decide_eq_true (by omega)
  obtain rfl : r = (zeroB, 4) := by rw [HR.out, queueI, if_neg (by show ¬ q.length < 4096; rw [← HN.out]; exact h4)]
  clear HR
  go_wp2_with (first
   | fail
   | ((with_reducible refine Gs 73 6 ?_); ( refine OS 6 12 H2 0 g6 73 #[.slice none 0 0, .int .i64 0, .slice none 0 0, .int .u64 0] 4 HA0 HA0 ?_; intro w7 HG))
   )
  refine bodyPost_ret (own_resultV_t rfl _ HG.out 0 g6 _ rfl rfl _ Try.underlying73 rfl (by kernel_rfl) _ rfl) rfl ?_
  exact ⟨_, _, rfl, ((((HG.out.erase 0).erase 0).null kL _).null kQ _)⟩
 have hd : decide (4096 ≤ (n : Int)) = false := decide_eq_false (by omega)
 obtain rfl : r = (⟨q ++ [⟨block, msg⟩], tk, l, nx⟩, 0) := by rw [HR.out, queueI, if_pos (by show q.length < 4096; rw [← HN.out]; exact h4)]
 clear HR
 have HA1 : Aside0 (Arr 4 #[.slice A1 n c1, .int .i64 tk, .slice A2 m c2, .int .u64 nx]) := ⟨rfl, by simp [Value.oneCell']⟩
 go_wp2_with (first
  | fail
  | ((with_reducible refine gate_dst (N := 13) rfl ?_); refine own_loadV H2.out 1 g3 _ 73 rfl rfl (.tmp 3) rfl _ rfl Try.underlying73 rfl (by kernel_rfl) ?_)
  | (go_at_call 87; refine (HCP.out _ H2.out.below (by omega)).mono ?_; rintro e w3 ⟨v1, v2, rfl, hO3⟩; obtain ⟨A3, c3, rfl, hcl3, _⟩ := hO3.reads 0 rfl; obtain ⟨A4, c4, rfl, hcl4, _⟩ := hO3.reads 1 rfl; have H3 := Aside0.mk (H2.out.call hO3); have HA3 : Aside0 (Arr 4 #[.slice A3 q.length c3, .int .i64 tk, .slice A4 l.length c4, .int .u64 nx]) := ⟨rfl, by simp [Value.oneCell']⟩; clear hO3)
  | ((with_reducible refine Gs 73 3 ?_); ( refine OS 3 14 H3 3 g3 73 #[.slice A3 q.length c3, .int .i64 tk, .slice A4 l.length c4, .int .u64 nx] 4 HA1 HA3 ?_; intro w4 H4))
  )
 replace H4 : Aside0 (Own w.heap.size w w4 [.row kQ 78 (.slice A3 q.length c3) q, .row kL 74 (.slice A4 l.length c4) l, .blk g6 #[.slice none 0 0, .int .i64 0, .slice none 0 0, .int .u64 0] 73, .blk g3 #[.slice A3 q.length c3, .int .i64 tk, .slice A4 l.length c4, .int .u64 nx] 73]) := ⟨H4.out⟩
 have k4 : w4.cell? ⟨g3, 0, none⟩ = some (.slice A3 q.length c3) := H4.out.cell 3 rfl 0 rfl
 have HQ4 : q.length < 4096 := by rw [← HN.out]; exact h4
 simp only [Act.put, List.setIfInBounds_toArray, List.set_cons_zero, List.set_cons_succ]
 clear H0 H1 H2 H3 HCP HA1 HA3 k0 B1 B2
 go_cut [] (fun wc => ∃ (v8 : Value), Aside0 (Own w.heap.size w wc [.row kQ 78 v8 (q ++ [⟨block, msg⟩]), .row kL 74 (.slice A4 l.length c4) l, .blk g6 #[.slice none 0 0, .int .i64 0, .slice none 0 0, .int .u64 0] 73, .blk g3 #[v8, .int .i64 tk, .slice A4 l.length c4, .int .u64 nx] 73]))
 case first =>
  refine St (fun _ => True) (fun hHeld => ?_)
  refine Tk 0 ?_
  refine Tk 2 ?_
  refine Tk 3 ?_
  refine Rd2 1 4 (fun K hK => ?_) fun K hK => ?_
  ·
   refine Rn (.slice A3 q.length c3) ?_
   refine Ag hK (fun hHeld => ?_)
   clear hK K
   refine Rd 4 fun K hK => ?_
   go_simp
   refine (HCB.out _ H4.out.drew.below).mono ?_
   rintro e w5 ⟨v5, rfl, hO5⟩
   obtain ⟨A5, c5, rfl, _, _⟩ := hO5.reads 0 rfl
   have H5 := Aside0.mk (H4.out.drew.call hO5)
   have k5 : w5.cell? ⟨g3, 0, none⟩ = some (.slice A3 q.length c3) := H5.out.cell 4 rfl 0 rfl
   clear hO5
   go_wp2_with fail
   refine Ag hK (fun hHeld => ?_)
   clear hK K
   refine Tk 5 ?_
   refine Rd 6 fun K hK => ?_
   refine step_of_run (W1 := w5.alloc (.cells #[.int .i64 block, .slice A5 msg.length c5] 78)) (v := .slice (some ⟨w5.heap.size, 0, none⟩) 1 1) (by rfl) (by first | (go_simp; done) | (go_simp; rfl)) ?_
   refine Ag hK (fun hHeld => ?_)
   clear hK K
   refine Rd 7 fun K hK => ?_
   refine own_appendM_step kQ kB (H5.out.bring 1 rfl) (by rfl) (.tmp 16) (.tmp 21) 70 (.agg #[.int .i64 0, .slice none 0 0]) 32 rfl Try.underlying70 PRF.info78 rfl (show 0 < 2 by decide) (by decide) ⟨block, msg⟩ [.int .i64 block, .slice A5 msg.length c5] rfl rfl (fun W ok h => PRF.k78_mkM W 0 ok ⟨block, msg⟩ h) (by omega) ?_
   intro v8 w8 H8
   obtain ⟨A8, c8, rfl, _, _⟩ := H8.reads 0 rfl
   rw [show (q ++ [(⟨block, msg⟩ : SQ)]).length = q.length + 1 by simp] at H8
   replace H8 := Aside0.mk H8
   have k8 : w8.cell? ⟨g3, 0, none⟩ = some (.slice A3 q.length c3) ∧ w8.frozen? ⟨g3, 0, none⟩ = false := ⟨H8.out.cell 3 rfl 0 rfl, H8.out.fz 3 rfl 0⟩
   refine Ag hK (fun hHeld => ?_)
   clear hK K
   refine Tk 8 ?_
   refine Rd 9 fun K hK => ?_
   go_simp
   refine Ag hK (fun hHeld => ?_)
   clear hK K
   refine Dn ?_
   go_wp2_with fail
   go_meet
   exact ⟨.slice A8 (q.length + 1) c8, ⟨H8.out.put 3 rfl 0 _ rfl⟩⟩
  ·
   go_simp
   refine (HCB.out _ H4.out.drew.below).mono ?_
   rintro e w5 ⟨v5, rfl, hO5⟩
   obtain ⟨A5, c5, rfl, _, _⟩ := hO5.reads 0 rfl
   have H5 := Aside0.mk (H4.out.drew.call hO5)
   have k5 : w5.cell? ⟨g3, 0, none⟩ = some (.slice A3 q.length c3) := H5.out.cell 4 rfl 0 rfl
   clear hO5
   go_wp2_with fail
   refine Ag hK (fun hHeld => ?_)
   clear hK K
   refine Tk 5 ?_
   refine Rd2 1 6 (fun K hK => ?_) fun K hK => ?_
   ·
    refine Rn (.slice A3 q.length c3) ?_
    refine Ag hK (fun hHeld => ?_)
    clear hK K
    refine Rd 6 fun K hK => ?_
    refine step_of_run (W1 := w5.alloc (.cells #[.int .i64 block, .slice A5 msg.length c5] 78)) (v := .slice (some ⟨w5.heap.size, 0, none⟩) 1 1) (by rfl) (by first | (go_simp; done) | (go_simp; rfl)) ?_
    refine Ag hK (fun hHeld => ?_)
    clear hK K
    refine Rd 7 fun K hK => ?_
    refine own_appendM_step kQ kB (H5.out.bring 1 rfl) (by rfl) (.tmp 16) (.tmp 21) 70 (.agg #[.int .i64 0, .slice none 0 0]) 32 rfl Try.underlying70 PRF.info78 rfl (show 0 < 2 by decide) (by decide) ⟨block, msg⟩ [.int .i64 block, .slice A5 msg.length c5] rfl rfl (fun W ok h => PRF.k78_mkM W 0 ok ⟨block, msg⟩ h) (by omega) ?_
    intro v8 w8 H8
    obtain ⟨A8, c8, rfl, _, _⟩ := H8.reads 0 rfl
    rw [show (q ++ [(⟨block, msg⟩ : SQ)]).length = q.length + 1 by simp] at H8
    replace H8 := Aside0.mk H8
    have k8 : w8.cell? ⟨g3, 0, none⟩ = some (.slice A3 q.length c3) ∧ w8.frozen? ⟨g3, 0, none⟩ = false := ⟨H8.out.cell 3 rfl 0 rfl, H8.out.fz 3 rfl 0⟩
    refine Ag hK (fun hHeld => ?_)
    clear hK K
    refine Tk 8 ?_
    refine Rd 9 fun K hK => ?_
    go_simp
    refine Ag hK (fun hHeld => ?_)
    clear hK K
    refine Dn ?_
    go_wp2_with fail
    go_meet
    exact ⟨.slice A8 (q.length + 1) c8, ⟨H8.out.put 3 rfl 0 _ rfl⟩⟩
   ·
    refine step_of_run (W1 := w5.alloc (.cells #[.int .i64 block, .slice A5 msg.length c5] 78)) (v := .slice (some ⟨w5.heap.size, 0, none⟩) 1 1) (by rfl) (by first | (go_simp; done) | (go_simp; rfl)) ?_
    refine Ag hK (fun hHeld => ?_)
    clear hK K
    have k6 : (w5.alloc (.cells #[.int .i64 block, .slice A5 msg.length c5] 78)).cell? ⟨g3, 0, none⟩ = some (.slice A3 q.length c3) := (H5.out.alloc _).cell 4 rfl 0 rfl
    refine Rd 1 fun K hK => ?_
    refine Rn (.slice A3 q.length c3) ?_
    refine Ag hK (fun hHeld => ?_)
    clear hK K
    refine Rd 7 fun K hK => ?_
    refine own_appendM_step kQ kB (H5.out.bring 1 rfl) (by rfl) (.tmp 16) (.tmp 21) 70 (.agg #[.int .i64 0, .slice none 0 0]) 32 rfl Try.underlying70 PRF.info78 rfl (show 0 < 2 by decide) (by decide) ⟨block, msg⟩ [.int .i64 block, .slice A5 msg.length c5] rfl rfl (fun W ok h => PRF.k78_mkM W 0 ok ⟨block, msg⟩ h) (by omega) ?_
    intro v8 w8 H8
    obtain ⟨A8, c8, rfl, _, _⟩ := H8.reads 0 rfl
    rw [show (q ++ [(⟨block, msg⟩ : SQ)]).length = q.length + 1 by simp] at H8
    replace H8 := Aside0.mk H8
    have k8 : w8.cell? ⟨g3, 0, none⟩ = some (.slice A3 q.length c3) ∧ w8.frozen? ⟨g3, 0, none⟩ = false := ⟨H8.out.cell 3 rfl 0 rfl, H8.out.fz 3 rfl 0⟩
    refine Ag hK (fun hHeld => ?_)
    clear hK K
    refine Tk 8 ?_
    refine Rd 9 fun K hK => ?_
    go_simp
    refine Ag hK (fun hHeld => ?_)
    clear hK K
    refine Dn ?_
    go_wp2_with fail
    go_meet
    exact ⟨.slice A8 (q.length + 1) c8, ⟨H8.out.put 3 rfl 0 _ rfl⟩⟩
 case rest =>
  obtain ⟨v8, HC0⟩ := hcut
  obtain ⟨A8, c8, hv8, _, _⟩ := HC0.out.reads 0 rfl
  generalize (q ++ [(⟨block, msg⟩ : SQ)]).length = n8 at hv8
  subst hv8
  have HA8 : Aside0 (Arr 4 #[.slice A8 n8 c8, .int .i64 tk, .slice A4 l.length c4, .int .u64 nx]) := ⟨rfl, by simp [Value.oneCell']⟩
  go_wp2_with (first
   | fail
   | ((with_reducible refine gate_dst (N := 24) rfl ?_); refine own_loadV HC0.out 3 g3 _ 73 rfl rfl (.tmp 3) rfl _ rfl Try.underlying73 rfl (by kernel_rfl) ?_)
   | ((with_reducible refine Gs 73 6 ?_); ( refine OS 6 24 HC0 2 g6 73 #[.slice A8 n8 c8, .int .i64 tk, .slice A4 l.length c4, .int .u64 nx] 4 HA0 HA8 ?_; intro w7 HG))
   )
  refine bodyPost_ret (own_resultV_t rfl _ HG.out 2 g6 _ rfl rfl _ Try.underlying73 rfl (by kernel_rfl) _ rfl) rfl ?_
  exact ⟨_, _, rfl, (HG.out.erase 2).erase 2⟩
end Go.Proofs.Ytocphkfkdadhaaa.H

namespace Go.Proofs.Ytocphkfkdadhaaa.H
open Go.RowKit Go.Proofs.YtocphkfkdadhaaaW.PrintWords Go.Proofs.YtocphkfkdadhaaaW.PrintLast Go.Proofs.YtocphkfkdadhaaaW.PrintMore
set_option linter.unusedVariables false
set_option linter.unusedSimpArgs false
def takenL (q : List SQ) (tk n : Nat) : List (List Int) := ((q.drop tk).take n).map (fun d => d.f1)
theorem takenL_snoc (q : List SQ) (tk i : Nat) (h : tk + i < q.length) : takenL q tk (i + 1) = takenL q tk i ++ [q[tk + i].f1] := by
 unfold takenL
 rw [List.take_succ_eq_append_getElem (by rw [List.length_drop]; omega), List.map_append, List.getElem_drop]
 rfl
set_option maxHeartbeats 4000000 in
set_option maxRecDepth 100000 in
theorem take_any (q : List SQ) (tk n : Nat) (l : List (List Int)) (nx : Int) (g gq cq : Nat) (vl : Value) {B : Nat} {w0 w : World} {L : List Item}
 (H : Own B w0 w (.blk g #[.slice (some ⟨gq, 0, none⟩) q.length cq, .int .i64 (tk : Int), vl, .int .u64 nx] 73 :: .row kQ 78 (.slice (some ⟨gq, 0, none⟩) q.length cq) q :: .row kL 74 vl l :: L))
 (hcq : q.length ≤ cq) (hn : tk + n ≤ q.length) (hq : q.length ≤ 1000000) (hl : l.length ≤ 1000000) (hqm : ∀ d ∈ q, d.f1.length ≤ 1099511627776) :
 Calls Try.prog 88 #[.pointer (some ⟨g, 0, none⟩), .int .i64 (n : Int)] w fun e w' => e = .returned (.tuple #[]) ∧ ∃ vl', Own B w0 w' (.blk g #[.slice (some ⟨gq, 0, none⟩) q.length cq, .int .i64 ((tk + n : Nat) : Int), vl', .int .u64 nx] 73 :: .row kQ 78 (.slice (some ⟨gq, 0, none⟩) q.length cq) q :: .row kL 74 vl' (l ++ takenL q tk n) :: L) := by
 have H0 := Aside0.mk H
 obtain ⟨A4, c4, rfl, hcl4, _⟩ := H.reads 2 rfl
 have k0 : w.cell? ⟨g, 0, none⟩ = some (.slice (some ⟨gq, 0, none⟩) q.length cq) := H.cell 0 rfl 0 rfl
 have k1 : w.cell? ⟨g, 1, none⟩ = some (.int .i64 (tk : Int)) := H.cell 0 rfl 1 rfl
 have HQM := Aside0.mk (fun (i : Nat) (h : i < q.length) => hqm q[i] (List.getElem_mem h))
 clear hqm H
 obtain ⟨nq, hnq⟩ : ∃ nq, nq = q.length := ⟨_, rfl⟩
 rw [← hnq] at H0 k0 hcq hn hq ⊢
 have HN := Aside0.mk hnq
 clear hnq
 obtain ⟨hi, hto⟩ : ∃ hi, hi = tk + n := ⟨_, rfl⟩
 rw [← hto] at hn ⊢
 have HTO := Aside0.mk hto
 have hwt : IntKind.i64.wrap ((tk : Int) + (n : Int)) = (hi : Int) := by rw [IntWalk.i64_in _ (by omega)]; omega
 have hsb : (0 : Int) ≤ (hi : Int) ∧ (hi : Int) ≤ (cq : Int) ∧ (tk : Int) ≤ (hi : Int) ∧ (0 : Int) ≤ (tk : Int) ∧ tk ≤ hi := by omega
 clear hto
 go_enter Try.func88, Try.ntmps88
 go_wp2_with fail
 refine St (fun W => W.cell? ⟨g, 0, none⟩ = some (.slice (some ⟨gq, 0, none⟩) nq cq) ∧ W.cell? ⟨g, 1, none⟩ = some (.int .i64 (tk : Int))) (fun hHeld => ?_) (by exact ⟨k0, k1⟩)
 refine Tk 0 ?_
 refine Tk 1 ?_
 refine Tk 2 ?_
 refine Tk 3 ?_
 refine Tk 4 ?_
 refine Tk 5 ?_
 refine Tk 6 ?_
 refine Tk 7 ?_
 refine Tk 8 ?_
 refine Tk 9 ?_
 refine Tk 10 ?_
 refine Tk 11 ?_
 refine Tk 12 ?_
 refine Dn ?_
 have hdn : hi - tk = n := by have := HTO.out; omega
 rw [hdn]
 have HAX : Aside0 (∀ i, i < n → (if hi = tk then some (⟨gq, 0, none⟩ : Addr) else some ⟨gq, tk * 2, none⟩) = some ⟨gq, tk * 2, none⟩) := ⟨fun i h => by rw [if_neg (by have := HTO.out; omega)]⟩
 generalize (if hi = tk then some (⟨gq, 0, none⟩ : Addr) else some ⟨gq, tk * 2, none⟩) = Ax at *
 have H1 : Aside0 (Own B w0 w.drew (.blk g #[.slice (some ⟨gq, 0, none⟩) nq cq, .int .i64 (tk : Int), (.slice A4 l.length c4), .int .u64 nx] 73 :: .row kQ 78 (.slice (some ⟨gq, 0, none⟩) nq cq) q :: .row kL 74 (.slice A4 l.length c4) (l ++ takenL q tk 0) :: L)) := ⟨by have h := H0.out.drew; rw [show l ++ takenL q tk 0 = l by simp [takenL]]; exact h⟩
 clear H0 k0 k1 hHeld hwt hsb
 generalize w.drew = w1 at *
 go_wp2_with fail
 go_loopw [25] (fun v25 wr => ∃ (i : Nat) (vl : Value), i ≤ n ∧ v25 = .int .i64 (i : Int) ∧ Aside0 (Own B w0 wr (.blk g #[.slice (some ⟨gq, 0, none⟩) nq cq, .int .i64 (tk : Int), vl, .int .u64 nx] 73 :: .row kQ 78 (.slice (some ⟨gq, 0, none⟩) nq cq) q :: .row kL 74 vl (l ++ takenL q tk i) :: L))) (fun v25 _ => n - (intOf v25).toNat)
 case atStart => exact ⟨0, _, Nat.zero_le _, rfl, H1⟩
 case round =>
  clear H1
  obtain ⟨i, vl, hin, rfl, HI⟩ := hrel
  by_cases hlt : i < n
  ·have hdl : decide ((i : Int) < (n : Int)) = true := decide_eq_true (by omega)
   have hwi : IntKind.i64.wrap ((i : Int) + 1) = ((i + 1 : Nat) : Int) := by rw [IntWalk.i64_in _ (by omega)]; omega
   have hib : (0 : Int) ≤ (i : Int) ∧ (i : Int) < (n : Int) := by omega
   have hiq : tk + i < q.length := by rw [← HN.out]; have := HTO.out; omega
   obtain rfl := HAX.out i hlt
   obtain ⟨A5, c5, hv5, _, _⟩ := HI.out.reads 2 rfl
   generalize (l ++ takenL q tk i).length = n5 at hv5
   subst hv5
   obtain ⟨cs, hK, hcell⟩ := HI.out.cells_at 1 rfl (tk + i) (List.getElem?_eq_getElem hiq)
   obtain ⟨Am, cm, rfl, hcm, hCm⟩ := PRF.k78_open hK
   have ha : (tk + i) * 2 = tk * 2 + i * 2 := by omega
   have kA : wr.cell? ⟨gq, tk * 2 + i * 2, none⟩ = some (.int .i64 q[tk + i].f0) := by have h := hcell 0 _ rfl; rw [← ha]; exact h
   have kB : wr.cell? ⟨gq, tk * 2 + i * 2 + 1, none⟩ = some (.slice Am q[tk + i].f1.length cm) := by have h := hcell 1 _ rfl; rw [← ha]; exact h
   have HCB := Aside0.mk (fun W (hb : Below wr.heap.size wr W) => bclone_any q[tk + i].f1 Am cm W (Kd.C_below hCm hb) hcm (HQM.out (tk + i) hiq))
   have HTK := Aside0.mk (takenL_snoc q tk i hiq)
   have HLL : Aside0 ((l ++ takenL q tk i).length ≤ 2000000) := ⟨by
    have : (takenL q tk i).length ≤ q.length := by simp only [takenL, List.length_map, List.length_take, List.length_drop]; omega
    rw [List.length_append]; have := HN.out; omega⟩
   clear hK hcell hCm hcm ha
   generalize q[tk + i].f0 = b at *
   generalize q[tk + i].f1 = msg at *
   go_wp2_with fail
   have HX := Aside0.mk (HI.out.new #[.int .i64 b, .slice Am msg.length cm] 78)
   have hBX := below_alloc (Below.refl wr.heap.size wr) (.cells #[.int .i64 b, .slice Am msg.length cm] 78)
   have HCB2 := Aside0.mk (fun W hb => HCB.out W (below_step hBX hb))
   clear HCB hBX HI kA kB
   generalize wr.alloc (.cells #[.int .i64 b, .slice Am msg.length cm] 78) = wx at *
   generalize wr.heap.size = gx at *
   have kx : wx.cell? ⟨gx, 1, none⟩ = some (.slice Am msg.length cm) := HX.out.cell 0 rfl 1 rfl
   have k4 : wx.cell? ⟨g, 2, none⟩ = some (.slice A5 n5 c5) := HX.out.cell 1 rfl 2 rfl
   refine St (fun W => W.cell? ⟨gx, 1, none⟩ = some (.slice Am msg.length cm)) (fun hHeld => ?_) (by exact kx)
   refine Tk 0 ?_
   refine Tk 1 ?_
   refine Tk 2 ?_
   refine Tk 3 ?_
   refine Tk 5 ?_
   refine Tk 6 ?_
   refine Rd2 4 7 (fun K hK => ?_) fun K hK => ?_
   ·
    refine Rn (.slice A5 n5 c5) ?_
    refine Ag hK (fun hHeld => ?_)
    clear hK K
    refine Rd 7 fun K hK => ?_
    go_simp
    refine (HCB2.out _ (below_drew (Below.refl _ _))).mono ?_
    rintro e w5 ⟨v5, rfl, hO5⟩
    obtain ⟨A6, c6, rfl, _, _⟩ := hO5.reads 0 rfl
    have H5 := Aside0.mk (HX.out.drew.call hO5)
    have k5 : w5.cell? ⟨g, 2, none⟩ = some (.slice A5 n5 c5) ∧ w5.cell? ⟨gx, 1, none⟩ = some (.slice Am msg.length cm) := ⟨H5.out.cell 2 rfl 2 rfl, H5.out.cell 1 rfl 1 rfl⟩
    clear hO5
    go_wp2_with fail
    refine Ag hK (fun hHeld => ?_) (by exact k5.2)
    clear hK K
    refine Rd 8 fun K hK => ?_
    have k7 : (w5.alloc (.cells #[.slice A6 msg.length c6] 74)).cell? ⟨gx, 1, none⟩ = some (.slice Am msg.length cm) := (H5.out.alloc _).cell 1 rfl 1 rfl
    refine step_of_run (W1 := w5.alloc (.cells #[.slice A6 msg.length c6] 74)) (v := .slice (some ⟨w5.heap.size, 0, none⟩) 1 1) (by rfl) (by first | (go_simp; done) | (go_simp; rfl)) ?_
    refine Ag hK (fun hHeld => ?_) (by exact k7)
    clear hK K
    refine Rd 9 fun K hK => ?_
    refine own_appendM_step kL kB (H5.out.bring 4 rfl) (by rfl) (.tmp 33) (.tmp 37) 71 (.slice none 0 0) 24 rfl Try.underlying71 PRF.info74 rfl (show 0 < 1 by decide) (by decide) msg [.slice A6 msg.length c6] rfl rfl (fun W ok h => ⟨_, rfl, h⟩) (by have := HLL.out; omega) ?_
    intro v8 w8 H8
    obtain ⟨A8, c8, hv8, _, _⟩ := H8.reads 0 rfl
    generalize (l ++ takenL q tk i ++ [msg]).length = n8 at hv8
    subst hv8
    rw [List.append_assoc, ← HTK.out] at H8
    replace H8 := Aside0.mk H8
    have k8 : w8.cell? ⟨g, 2, none⟩ = some (.slice A5 n5 c5) ∧ w8.frozen? ⟨g, 2, none⟩ = false ∧ w8.cell? ⟨gx, 1, none⟩ = some (.slice Am msg.length cm) := ⟨H8.out.cell 2 rfl 2 rfl, H8.out.fz 2 rfl 2, H8.out.cell 1 rfl 1 rfl⟩
    have HP := Aside0.mk (H8.out.put 2 rfl 2 (.slice A8 n8 c8) rfl)
    have kp : (w8.setCell ⟨g, 2, none⟩ (.slice A8 n8 c8)).cell? ⟨gx, 1, none⟩ = some (.slice Am msg.length cm) := HP.out.cell 1 rfl 1 rfl
    refine Ag hK (fun hHeld => ?_) (by exact k8.2.2)
    clear hK K
    refine Tk 10 ?_
    refine Tk 11 ?_
    refine Rd 12 fun K hK => ?_
    go_simp
    refine Ag hK (fun hHeld => ?_) (by exact kp)
    clear hK K
    refine Dn ?_
    go_wp2_with fail
    go_roundw
    case rel => exact ⟨i + 1, _, hlt, rfl, ⟨((HP.out.erase 1).bring 2 rfl).bring 2 rfl⟩⟩
    case measure => simp [intOf]; omega
   ·
    go_simp
    refine (HCB2.out _ (below_drew (Below.refl _ _))).mono ?_
    rintro e w5 ⟨v5, rfl, hO5⟩
    obtain ⟨A6, c6, rfl, _, _⟩ := hO5.reads 0 rfl
    have H5 := Aside0.mk (HX.out.drew.call hO5)
    have k5 : w5.cell? ⟨g, 2, none⟩ = some (.slice A5 n5 c5) ∧ w5.cell? ⟨gx, 1, none⟩ = some (.slice Am msg.length cm) := ⟨H5.out.cell 2 rfl 2 rfl, H5.out.cell 1 rfl 1 rfl⟩
    clear hO5
    go_wp2_with fail
    refine Ag hK (fun hHeld => ?_) (by exact k5.2)
    clear hK K
    refine Rd2 4 8 (fun K hK => ?_) fun K hK => ?_
    ·
     refine Rn (.slice A5 n5 c5) ?_
     refine Ag hK (fun hHeld => ?_) (by exact k5.2)
     clear hK K
     refine Rd 8 fun K hK => ?_
     have k7 : (w5.alloc (.cells #[.slice A6 msg.length c6] 74)).cell? ⟨gx, 1, none⟩ = some (.slice Am msg.length cm) := (H5.out.alloc _).cell 1 rfl 1 rfl
     refine step_of_run (W1 := w5.alloc (.cells #[.slice A6 msg.length c6] 74)) (v := .slice (some ⟨w5.heap.size, 0, none⟩) 1 1) (by rfl) (by first | (go_simp; done) | (go_simp; rfl)) ?_
     refine Ag hK (fun hHeld => ?_) (by exact k7)
     clear hK K
     refine Rd 9 fun K hK => ?_
     refine own_appendM_step kL kB (H5.out.bring 4 rfl) (by rfl) (.tmp 33) (.tmp 37) 71 (.slice none 0 0) 24 rfl Try.underlying71 PRF.info74 rfl (show 0 < 1 by decide) (by decide) msg [.slice A6 msg.length c6] rfl rfl (fun W ok h => ⟨_, rfl, h⟩) (by have := HLL.out; omega) ?_
     intro v8 w8 H8
     obtain ⟨A8, c8, hv8, _, _⟩ := H8.reads 0 rfl
     generalize (l ++ takenL q tk i ++ [msg]).length = n8 at hv8
     subst hv8
     rw [List.append_assoc, ← HTK.out] at H8
     replace H8 := Aside0.mk H8
     have k8 : w8.cell? ⟨g, 2, none⟩ = some (.slice A5 n5 c5) ∧ w8.frozen? ⟨g, 2, none⟩ = false ∧ w8.cell? ⟨gx, 1, none⟩ = some (.slice Am msg.length cm) := ⟨H8.out.cell 2 rfl 2 rfl, H8.out.fz 2 rfl 2, H8.out.cell 1 rfl 1 rfl⟩
     have HP := Aside0.mk (H8.out.put 2 rfl 2 (.slice A8 n8 c8) rfl)
     have kp : (w8.setCell ⟨g, 2, none⟩ (.slice A8 n8 c8)).cell? ⟨gx, 1, none⟩ = some (.slice Am msg.length cm) := HP.out.cell 1 rfl 1 rfl
     refine Ag hK (fun hHeld => ?_) (by exact k8.2.2)
     clear hK K
     refine Tk 10 ?_
     refine Tk 11 ?_
     refine Rd 12 fun K hK => ?_
     go_simp
     refine Ag hK (fun hHeld => ?_) (by exact kp)
     clear hK K
     refine Dn ?_
     go_wp2_with fail
     go_roundw
     case rel => exact ⟨i + 1, _, hlt, rfl, ⟨((HP.out.erase 1).bring 2 rfl).bring 2 rfl⟩⟩
     case measure => simp [intOf]; omega
    ·
     have k7 : (w5.alloc (.cells #[.slice A6 msg.length c6] 74)).cell? ⟨gx, 1, none⟩ = some (.slice Am msg.length cm) := (H5.out.alloc _).cell 1 rfl 1 rfl
     refine step_of_run (W1 := w5.alloc (.cells #[.slice A6 msg.length c6] 74)) (v := .slice (some ⟨w5.heap.size, 0, none⟩) 1 1) (by rfl) (by first | (go_simp; done) | (go_simp; rfl)) ?_
     refine Ag hK (fun hHeld => ?_) (by exact k7)
     clear hK K
     have k6 : (w5.alloc (.cells #[.slice A6 msg.length c6] 74)).cell? ⟨g, 2, none⟩ = some (.slice A5 n5 c5) := (H5.out.alloc _).cell 2 rfl 2 rfl
     refine Rd 4 fun K hK => ?_
     refine Rn (.slice A5 n5 c5) ?_
     refine Ag hK (fun hHeld => ?_) (by exact k7)
     clear hK K
     refine Rd 9 fun K hK => ?_
     refine own_appendM_step kL kB (H5.out.bring 4 rfl) (by rfl) (.tmp 33) (.tmp 37) 71 (.slice none 0 0) 24 rfl Try.underlying71 PRF.info74 rfl (show 0 < 1 by decide) (by decide) msg [.slice A6 msg.length c6] rfl rfl (fun W ok h => ⟨_, rfl, h⟩) (by have := HLL.out; omega) ?_
     intro v8 w8 H8
     obtain ⟨A8, c8, hv8, _, _⟩ := H8.reads 0 rfl
     generalize (l ++ takenL q tk i ++ [msg]).length = n8 at hv8
     subst hv8
     rw [List.append_assoc, ← HTK.out] at H8
     replace H8 := Aside0.mk H8
     have k8 : w8.cell? ⟨g, 2, none⟩ = some (.slice A5 n5 c5) ∧ w8.frozen? ⟨g, 2, none⟩ = false ∧ w8.cell? ⟨gx, 1, none⟩ = some (.slice Am msg.length cm) := ⟨H8.out.cell 2 rfl 2 rfl, H8.out.fz 2 rfl 2, H8.out.cell 1 rfl 1 rfl⟩
     have HP := Aside0.mk (H8.out.put 2 rfl 2 (.slice A8 n8 c8) rfl)
     have kp : (w8.setCell ⟨g, 2, none⟩ (.slice A8 n8 c8)).cell? ⟨gx, 1, none⟩ = some (.slice Am msg.length cm) := HP.out.cell 1 rfl 1 rfl
     refine Ag hK (fun hHeld => ?_) (by exact k8.2.2)
     clear hK K
     refine Tk 10 ?_
     refine Tk 11 ?_
     refine Rd 12 fun K hK => ?_
     go_simp
     refine Ag hK (fun hHeld => ?_) (by exact kp)
     clear hK K
     refine Dn ?_
     go_wp2_with fail
     go_roundw
     case rel => exact ⟨i + 1, _, hlt, rfl, ⟨((HP.out.erase 1).bring 2 rfl).bring 2 rfl⟩⟩
     case measure => simp [intOf]; omega
  ·have hdl : decide ((i : Int) < (n : Int)) = false := decide_eq_false (by omega)
   obtain rfl : n = i := by omega
   obtain ⟨A5, c5, rfl, _, _⟩ := HI.out.reads 2 rfl
   have kf : wr.cell? ⟨g, 1, none⟩ = some (.int .i64 (tk : Int)) ∧ wr.frozen? ⟨g, 1, none⟩ = false := ⟨HI.out.cell 0 rfl 1 rfl, HI.out.fz 0 rfl 1⟩
   go_wp2_with fail
   refine bodyPost_end (results_none rfl _ _ _) rfl ?_
   exact ⟨rfl, _, HI.out.put 0 rfl 1 _ rfl⟩
end Go.Proofs.Ytocphkfkdadhaaa.H

namespace Go.Proofs.Ytocphkfkdadhaaa.H
open Go.RowKit Go.Proofs.YtocphkfkdadhaaaW.PrintWords Go.Proofs.YtocphkfkdadhaaaW.PrintLast Go.Proofs.YtocphkfkdadhaaaW.PrintMore
set_option linter.unusedVariables false
set_option linter.unusedSimpArgs false
def tickG (q : List SQ) (block : Int) : Nat → Nat → List (List Int) → Nat × List (List Int)
 | 0, tk, l => (tk, l)
 | f + 1, tk, l => if h : tk < q.length then if l.length < 4096 ∧ q[tk].f0 + 8 ≤ block then tickG q block f (tk + 1) (l ++ [q[tk].f1]) else (tk, l) else (tk, l)
def tickI (x : Box) (block : Int) : Box × Int :=
 if mayI x.q x.tk x.l && decide (0 ≤ block) then
  (⟨x.q, ((tickG x.q block (x.q.length - x.tk.toNat) x.tk.toNat x.l).1 : Int), (tickG x.q block (x.q.length - x.tk.toNat) x.tk.toNat x.l).2, x.nx⟩, 0) else (zeroB, 2)
theorem riseP_all : ∀ (q : List SQ) (last : Int), riseP last q = true → ∀ d ∈ q, last ≤ d.f0 ∧ d.f1.length ≤ 65536
 | [], _, _, _, hd => by cases hd
 | d :: q, last, h, x, hx => by
  unfold riseP at h
  rw [Bool.and_eq_true, Bool.and_eq_true, decide_eq_true_eq, decide_eq_true_eq] at h
  rcases List.mem_cons.1 hx with rfl | hx
  ·exact ⟨h.1.1, h.1.2⟩
  ·have := riseP_all q d.f0 h.2 x hx
   omega
theorem mayI_all {q : List SQ} {tk : Int} {l : List (List Int)} (h : mayI q tk l = true) : (∀ d ∈ q, 0 ≤ d.f0 ∧ d.f1.length ≤ 65536) ∧ (∀ m ∈ l, m.length ≤ 65536) := by
 unfold mayI longP at h
 simp only [Bool.and_eq_true, decide_eq_true_eq, Bool.not_eq_true'] at h
 refine ⟨riseP_all q 0 h.1.2, fun m hm => ?_⟩
 have h2 := h.2
 rw [List.any_eq_false] at h2
 have := h2 m hm
 simpa using this
theorem takenL_one (q : List SQ) (i : Nat) (h : i < q.length) : takenL q i 1 = [q[i].f1] := by
 have := takenL_snoc q i 0 h
 simpa [takenL] using this
theorem tickG_go {q : List SQ} {block : Int} {f tk : Nat} {l : List (List Int)} (h : tk < q.length) (hl : l.length < 4096) (hb : q[tk].f0 + 8 ≤ block) : tickG q block (f + 1) tk l = tickG q block f (tk + 1) (l ++ [q[tk].f1]) := by
 rw [tickG, dif_pos h, if_pos ⟨hl, hb⟩]
theorem tickG_stop {q : List SQ} {block : Int} {tk : Nat} {l : List (List Int)} (h : tk < q.length) (hl : ¬ (l.length < 4096 ∧ q[tk].f0 + 8 ≤ block)) : ∀ f, tickG q block f tk l = (tk, l)
 | 0 => rfl
 | f + 1 => by rw [tickG, dif_pos h, if_neg hl]
set_option maxHeartbeats 4000000 in
set_option maxRecDepth 100000 in
theorem tick_any (x : Box) (block : Int) (A1 A2 : Option Addr) (c1 c2 : Nat) (w : World) (hC1 : Kd.C kQ w A1 x.q.length x.q) (hc1 : x.q.length ≤ c1) (hC2 : Kd.C kL w A2 x.l.length x.l) (hc2 : x.l.length ≤ c2)
 (hblk : block ≤ 9223372036854775807) (hq64 : ∀ d ∈ x.q, d.f0 ≤ 9223372036854775807) :
 Calls Try.prog 38 #[.agg #[.slice A1 x.q.length c1, .int .i64 x.tk, .slice A2 x.l.length c2, .int .u64 x.nx], .int .i64 block] w (BoxPost w (tickI x block)) := by
 obtain ⟨q, tk, l, nx⟩ := x
 have H0 := Aside0.mk (Own.start w)
 have HMY := Aside0.mk (fun W hb => imay_any q tk l nx A1 A2 c1 c2 W (Kd.C_below hC1 hb) hc1 (Kd.C_below hC2 hb) hc2)
 have HCP := Aside0.mk (fun W (hb : Below w.heap.size w W) h1 h2 => copied_any q tk l nx A1 A2 c1 c2 W (Kd.C_below hC1 hb) hc1 (Kd.C_below hC2 hb) hc2 h1 h2)
 have HLN := Aside0.mk (fun h : mayI q tk l = true => mayI_len h)
 have HAL := Aside0.mk (fun h : mayI q tk l = true => mayI_all h)
 have HQ64 := Aside0.mk hq64
 obtain ⟨r, hr⟩ : ∃ r, r = tickI ⟨q, tk, l, nx⟩ block := ⟨_, rfl⟩
 rw [← hr]
 have HR := Aside0.mk hr
 dsimp only
 clear hC1 hC2 hc1 hc2 hq64 hr
 obtain ⟨n, hn⟩ : ∃ n, n = q.length := ⟨_, rfl⟩
 have HN := Aside0.mk hn
 rw [← hn] at HCP HMY ⊢
 clear hn
 generalize hmm : l.length = m at *
 replace hmm := Aside0.mk hmm
 obtain ⟨my, hmy⟩ : ∃ my, my = mayI q tk l := ⟨_, rfl⟩
 rw [← hmy] at HMY HLN HAL
 have HMYE := Aside0.mk hmy
 clear hmy
 go_enter Try.func38, Try.ntmps38
 go_upto_region 1 with (first
  | fail
  | ((with_reducible refine Gd 2 ?_); ( refine OB H0 73 #[.slice A1 n c1, .int .i64 tk, .slice A2 m c2, .int .u64 nx] ?_; intro g2 w1 H1 B1))
  | ((with_reducible refine Gd 4 ?_); ( refine OA H1 73 #[.slice none 0 0, .int .i64 0, .slice none 0 0, .int .u64 0] 4 ?_; intro g4 w2 H2 B2))
  )
 replace H2 : Aside0 (Own w.heap.size w w2 [.blk g4 #[.slice none 0 0, .int .i64 0, .slice none 0 0, .int .u64 0] 73, .blk g2 #[.slice A1 n c1, .int .i64 tk, .slice A2 m c2, .int .u64 nx] 73]) := ⟨H2.out⟩
 have HA0 : Aside0 (Arr 4 #[.slice none 0 0, .int .i64 0, .slice none 0 0, .int .u64 0]) := ⟨rfl, by simp [Value.oneCell']⟩
 have HA1 : Aside0 (Arr 4 #[.slice A1 n c1, .int .i64 tk, .slice A2 m c2, .int .u64 nx]) := ⟨rfl, by simp [Value.oneCell']⟩
 clear H0 H1 B1 B2
 go_cut [5, 12] (fun v5 v12 wc => v5 = .int .i64 0 ∧ v12 = .bool (!(my && decide (0 ≤ block))) ∧ Aside0 (Own w.heap.size w wc [.blk g4 #[.slice none 0 0, .int .i64 0, .slice none 0 0, .int .u64 0] 73, .blk g2 #[.slice A1 n c1, .int .i64 tk, .slice A2 m c2, .int .u64 nx] 73]))
 case first =>
  by_cases hb : 0 ≤ block
  ·have hd1 : decide (0 ≤ block) = true := decide_eq_true hb
   have hd2 : decide (block < 0) = false := decide_eq_false (by omega)
   cases my
   all_goals
    go_wp2_with (first
     | fail
     | ((with_reducible refine gate_dst (N := 6) rfl ?_); refine own_loadV H2.out 1 g2 _ 73 rfl rfl (.tmp 2) rfl _ rfl Try.underlying73 rfl (by kernel_rfl) ?_)
     | (go_at_call 57; refine (HMY.out _ H2.out.below).mono ?_; rintro e w3 ⟨rfl, hB3⟩; have H3 := Aside0.mk (H2.out.step hB3); clear hB3)
     )
    go_meet
    exact ⟨rfl, by first | rfl | (rw [hd1]; rfl), H3⟩
  ·have hd1 : decide (0 ≤ block) = false := decide_eq_false hb
   have hd2 : decide (block < 0) = true := decide_eq_true (by omega)
   cases my
   all_goals
    go_wp2_with (first
     | fail
     | ((with_reducible refine gate_dst (N := 6) rfl ?_); refine own_loadV H2.out 1 g2 _ 73 rfl rfl (.tmp 2) rfl _ rfl Try.underlying73 rfl (by kernel_rfl) ?_)
     | (go_at_call 57; refine (HMY.out _ H2.out.below).mono ?_; rintro e w3 ⟨rfl, hB3⟩; have H3 := Aside0.mk (H2.out.step hB3); clear hB3)
     )
    go_meet
    exact ⟨rfl, by first | rfl | (rw [hd1]; rfl), H3⟩
 case rest =>
 clear H2 HMY
 obtain ⟨rfl, rfl, H2⟩ := hcut
 cases hb : (my && decide (0 ≤ block))
 ·obtain rfl : r = (zeroB, 2) := by rw [HR.out, tickI, if_neg (by show ¬ (mayI q tk l && decide (0 ≤ block)) = true; rw [← HMYE.out, hb]; simp)]
  clear HR
  go_wp2_with (first
   | fail
   | ((with_reducible refine Gs 73 4 ?_); ( refine OS 4 13 H2 0 g4 73 #[.slice none 0 0, .int .i64 0, .slice none 0 0, .int .u64 0] 4 HA0 HA0 ?_; intro w7 HG))
   )
  refine bodyPost_ret (own_resultV_t rfl _ HG.out 0 g4 _ rfl rfl _ Try.underlying73 rfl (by kernel_rfl) _ rfl) rfl ?_
  exact ⟨_, _, rfl, ((((HG.out.erase 0).erase 0).null kL _).null kQ _)⟩
 rw [Bool.and_eq_true, decide_eq_true_eq] at hb
 obtain ⟨rfl, hb0⟩ := hb
 obtain ⟨hn1, hm1, ht0, htn⟩ := HLN.out rfl
 obtain ⟨hq0, hl0⟩ := HAL.out rfl
 rw [← HN.out] at hn1 htn
 obtain ⟨ti, rfl⟩ := Int.eq_ofNat_of_zero_le ht0
 replace htn : ti ≤ n := by omega
 replace HR : Aside0 (r = (⟨q, ((tickG q block (n - ti) ti l).1 : Int), (tickG q block (n - ti) ti l).2, nx⟩, 0)) := ⟨by
  rw [HR.out, tickI, if_pos (by show (mayI q (ti : Int) l && decide (0 ≤ block)) = true; rw [← HMYE.out, decide_eq_true hb0]; rfl), HN.out]; rfl⟩
 have HQA := Aside0.mk (fun (i : Nat) (h : i < q.length) => (⟨(hq0 _ (List.getElem_mem h)).1, HQ64.out _ (List.getElem_mem h)⟩ : 0 ≤ q[i].f0 ∧ q[i].f0 ≤ 9223372036854775807))
 have HCP2 := Aside0.mk (fun W hb => HCP.out W hb (by have := HN.out; omega) (by omega) (fun d hd => by have := (hq0 d hd).2; omega) (fun m hm => by have := hl0 m hm; omega))
 have HQM := Aside0.mk (fun (d : SQ) (hd : d ∈ q) => (show d.f1.length ≤ 1099511627776 by have := (hq0 d hd).2; omega))
 have HNB : Aside0 (q.length ≤ 1000000) := ⟨by have := HN.out; omega⟩
 clear HQ64 HAL HLN HCP hq0 hl0 HMYE ht0
 go_wp2_with (first
  | fail
  | ((with_reducible refine gate_dst (N := 14) rfl ?_); refine own_loadV H2.out 1 g2 _ 73 rfl rfl (.tmp 2) rfl _ rfl Try.underlying73 rfl (by kernel_rfl) ?_)
  | (go_at_call 87; refine (HCP2.out _ H2.out.below).mono ?_; rintro e w3 ⟨v1, v2, rfl, hO3⟩; obtain ⟨A3, c3, rfl, hcl3, _⟩ := hO3.reads 0 rfl; obtain ⟨A4, c4, rfl, hcl4, _⟩ := hO3.reads 1 rfl; have H3 := Aside0.mk (H2.out.call hO3); have HA3 : Aside0 (Arr 4 #[.slice A3 q.length c3, .int .i64 (ti : Int), .slice A4 l.length c4, .int .u64 nx]) := ⟨rfl, by simp [Value.oneCell']⟩; clear hO3)
  | ((with_reducible refine Gs 73 2 ?_); ( refine OS 2 15 H3 3 g2 73 (#[.slice A3 q.length c3, .int .i64 (ti : Int), .slice A4 l.length c4, .int .u64 nx]) 4 HA1 HA3 ?_; intro w4 H4))
  )
 replace H4 : Aside0 (Own w.heap.size w w4 [.blk g2 #[.slice A3 n c3, .int .i64 (ti : Int), .slice A4 l.length c4, .int .u64 nx] 73, .row kQ 78 (.slice A3 n c3) q, .row kL 74 (.slice A4 l.length c4) l, .blk g4 #[.slice none 0 0, .int .i64 0, .slice none 0 0, .int .u64 0] 73]) := ⟨by have h := H4.out.bring 3 rfl; rw [HN.out]; exact h⟩
 replace hcl3 : n ≤ c3 := by rw [HN.out]; exact hcl3
 clear H2 H3 HA1 HA3 HCP2
 simp only [Act.put, List.setIfInBounds_toArray, List.set_cons_zero, List.set_cons_succ]
 go_loopw [] (fun wr => ∃ (i : Nat) (li : List (List Int)) (vl : Value), i ≤ n ∧ li.length ≤ 4096 ∧ Aside0 (tickG q block (n - ti) ti l = tickG q block (n - i) i li) ∧ Aside0 (Own w.heap.size w wr [.blk g2 #[.slice A3 n c3, .int .i64 (i : Int), vl, .int .u64 nx] 73, .row kQ 78 (.slice A3 n c3) q, .row kL 74 vl li, .blk g4 #[.slice none 0 0, .int .i64 0, .slice none 0 0, .int .u64 0] 73])) (fun wr => n - (intOf ((wr.cell? ⟨g2, 1, none⟩).getD undef)).toNat)
 case atStart => exact ⟨ti, l, _, htn, by have := hmm.out; omega, ⟨rfl⟩, H4⟩
 case round =>
  clear H4
  obtain ⟨i, li, vl, hin, hli, HG, HI⟩ := hrel
  obtain ⟨A4, c4, hv4, hcl4, _⟩ := HI.out.reads 2 rfl
  obtain ⟨m4, hm4⟩ : ∃ m4, m4 = li.length := ⟨_, rfl⟩
  rw [← hm4] at hv4 hli
  replace hm4 := Aside0.mk hm4
  subst hv4
  have k0 : wr.cell? ⟨g2, 0, none⟩ = some (.slice A3 n c3) ∧ wr.cell? ⟨g2, 1, none⟩ = some (.int .i64 (i : Int)) ∧ wr.cell? ⟨g2, 2, none⟩ = some (.slice A4 m4 c4) := ⟨HI.out.cell 0 rfl 0 rfl, HI.out.cell 0 rfl 1 rfl, HI.out.cell 0 rfl 2 rfl⟩
  by_cases hlt : i < n
  ·have hdl : decide (i < n) = true := decide_eq_true (by omega)
   have hiq : i < q.length := by rw [← HN.out]; exact hlt
   by_cases hm : m4 < 4096
   ·have hdm : decide ((m4 : Int) < 4096) = true := decide_eq_true (by omega)
    obtain ⟨gq, cap, he, _⟩ := HI.out.form 1 rfl (by omega)
    rw [← HN.out] at he
    injection he with he he2 he3
    subst he he3
    obtain ⟨cs, hK, hcell⟩ := HI.out.cells_at 1 rfl i (List.getElem?_eq_getElem hiq)
    obtain ⟨Am, cm, rfl, hcm, hCm⟩ := PRF.k78_open hK
    have kA : wr.cell? ⟨gq, i * 2, none⟩ = some (.int .i64 q[i].f0) := hcell 0 _ rfl
    obtain ⟨hb1, hb2⟩ := HQA.out i hiq
    have hib : (0 : Int) ≤ (i : Int) ∧ (i : Int) < (n : Int) := by omega
    have hws : IntKind.i64.wrap (block - q[i].f0) = block - q[i].f0 := IntWalk.i64_in _ (by omega)
    clear hK hcell hCm hcm
    by_cases hbk : q[i].f0 + 8 ≤ block
    ·have hdb : decide (8 ≤ block - q[i].f0) = true := decide_eq_true (by omega)
     have HNG : Aside0 (tickG q block (n - i) i li = tickG q block (n - (i + 1)) (i + 1) (li ++ [q[i].f1])) := ⟨by
      rw [show n - i = (n - (i + 1)) + 1 by omega]; exact tickG_go hiq (by rw [← hm4.out]; exact hm) hbk⟩
     have HTK : Aside0 (Calls Try.prog 88 #[.pointer (some ⟨g2, 0, none⟩), .int .i64 1] wr fun e w' => e = .returned (.tuple #[]) ∧ ∃ vl', Own w.heap.size w w' [.blk g2 #[.slice (some ⟨gq, 0, none⟩) n c3, .int .i64 ((i + 1 : Nat) : Int), vl', .int .u64 nx] 73, .row kQ 78 (.slice (some ⟨gq, 0, none⟩) n c3) q, .row kL 74 vl' (li ++ [q[i].f1]), .blk g4 #[.slice none 0 0, .int .i64 0, .slice none 0 0, .int .u64 0] 73]) := ⟨by
      have h := HI.out
      rw [HN.out] at h hcl3 ⊢
      exact (take_any q i 1 li nx g2 gq c3 _ h hcl3 (by omega) HNB.out (by have := hm4.out; omega) HQM.out).mono fun e w' ⟨h1, vl', h2⟩ => ⟨h1, vl', by rw [takenL_one q i hiq] at h2; exact h2⟩⟩
     clear hb1 hb2
     generalize q[i].f0 = b at *
     go_wp2_with (go_at_call 88; refine HTK.out.mono ?_; rintro e w5 ⟨rfl, vl', H5⟩; replace H5 := Aside0.mk H5)
     have k5 : w5.cell? ⟨g2, 1, none⟩ = some (.int .i64 ((i + 1 : Nat) : Int)) := H5.out.cell 0 rfl 1 rfl
     go_roundw
     case rel => exact ⟨i + 1, _, _, hlt, by rw [List.length_append, ← hm4.out]; simp; omega, ⟨HG.out.trans HNG.out⟩, H5⟩
     case measure => rw [k5, k0.2.1]; simp [intOf]; omega
    ·have hdb : decide (8 ≤ block - q[i].f0) = false := decide_eq_false (by omega)
     have hst := tickG_stop (q := q) (block := block) (l := li) hiq (fun h => hbk h.2) (n - i)
     clear hb1 hb2
     generalize q[i].f0 = b at *
     replace HR : Aside0 (r = (⟨q, (i : Int), li, nx⟩, 0)) := ⟨by rw [HR.out, HG.out, hst]⟩
     clear hst HG
     obtain rfl := HR.out
     clear HR
     have HAE : Aside0 (Arr 4 #[.slice (some ⟨gq, 0, none⟩) n c3, .int .i64 (i : Int), .slice A4 m4 c4, .int .u64 nx]) := ⟨rfl, by simp [Value.oneCell']⟩
     go_wp2_with (first
      | fail
      | ((with_reducible refine gate_dst (N := 41) rfl ?_); refine own_loadV HI.out 0 g2 _ 73 rfl rfl (.tmp 2) rfl _ rfl Try.underlying73 rfl (by kernel_rfl) ?_)
      | ((with_reducible refine Gs 73 4 ?_); ( refine OS 4 41 HI 3 g4 73 (#[.slice (some ⟨gq, 0, none⟩) n c3, .int .i64 (i : Int), .slice A4 m4 c4, .int .u64 nx]) 4 HA0 HAE ?_; intro w7 HG))
      )
     refine bodyPost_ret (own_resultV_t rfl _ HG.out 3 g4 _ rfl rfl _ Try.underlying73 rfl (by kernel_rfl) _ rfl) rfl ?_
     exact ⟨_, _, rfl, (HG.out.erase 3).erase 0⟩
   ·have hdm : decide ((m4 : Int) < 4096) = false := decide_eq_false (by omega)
    have hst := tickG_stop (q := q) (block := block) (l := li) hiq (fun h => hm (by rw [hm4.out]; exact h.1)) (n - i)
    replace HR : Aside0 (r = (⟨q, (i : Int), li, nx⟩, 0)) := ⟨by rw [HR.out, HG.out, hst]⟩
    clear hst HG
    obtain rfl := HR.out
    clear HR
    have HAE : Aside0 (Arr 4 #[.slice A3 n c3, .int .i64 (i : Int), .slice A4 m4 c4, .int .u64 nx]) := ⟨rfl, by simp [Value.oneCell']⟩
    go_wp2_with (first
     | fail
     | ((with_reducible refine gate_dst (N := 41) rfl ?_); refine own_loadV HI.out 0 g2 _ 73 rfl rfl (.tmp 2) rfl _ rfl Try.underlying73 rfl (by kernel_rfl) ?_)
     | ((with_reducible refine Gs 73 4 ?_); ( refine OS 4 41 HI 3 g4 73 (#[.slice A3 n c3, .int .i64 (i : Int), .slice A4 m4 c4, .int .u64 nx]) 4 HA0 HAE ?_; intro w7 HG))
     )
    refine bodyPost_ret (own_resultV_t rfl _ HG.out 3 g4 _ rfl rfl _ Try.underlying73 rfl (by kernel_rfl) _ rfl) rfl ?_
    exact ⟨_, _, rfl, (HG.out.erase 3).erase 0⟩
  ·have hdl : decide (i < n) = false := decide_eq_false (by omega)
   have hst : tickG q block (n - i) i li = (i, li) := by rw [show n - i = 0 by omega]; rfl
   replace HR : Aside0 (r = (⟨q, (i : Int), li, nx⟩, 0)) := ⟨by rw [HR.out, HG.out, hst]⟩
   clear hst HG
   obtain rfl := HR.out
   clear HR
   have HAE : Aside0 (Arr 4 #[.slice A3 n c3, .int .i64 (i : Int), .slice A4 m4 c4, .int .u64 nx]) := ⟨rfl, by simp [Value.oneCell']⟩
   go_wp2_with (first
    | fail
    | ((with_reducible refine gate_dst (N := 41) rfl ?_); refine own_loadV HI.out 0 g2 _ 73 rfl rfl (.tmp 2) rfl _ rfl Try.underlying73 rfl (by kernel_rfl) ?_)
    | ((with_reducible refine Gs 73 4 ?_); ( refine OS 4 41 HI 3 g4 73 (#[.slice A3 n c3, .int .i64 (i : Int), .slice A4 m4 c4, .int .u64 nx]) 4 HA0 HAE ?_; intro w7 HG))
    )
   refine bodyPost_ret (own_resultV_t rfl _ HG.out 3 g4 _ rfl rfl _ Try.underlying73 rfl (by kernel_rfl) _ rfl) rfl ?_
   exact ⟨_, _, rfl, (HG.out.erase 3).erase 0⟩
end Go.Proofs.Ytocphkfkdadhaaa.H

