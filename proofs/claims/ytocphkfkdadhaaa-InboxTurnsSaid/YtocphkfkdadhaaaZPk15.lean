import Derived.Test.YtocphkfkdadhaaaZPk13
import Derived.Test.YtocphkfkdadhaaaZPk8
import Derived.Test.YtocphkfkdadhaaaZPk10
import Derived.Test.YtocphkfkdadhaaaZPk2
set_option maxHeartbeats 4000000
set_option linter.unusedVariables false
set_option linter.unusedSimpArgs false
set_option maxRecDepth 100000
namespace Go.Proofs.Ytocphkfkdadhaaa.H
open Go.RowKit Go.Proofs.YtocphkfkdadhaaaW.PrintWords Go.Proofs.YtocphkfkdadhaaaW.PrintLast Go.Proofs.YtocphkfkdadhaaaW.PrintMore
theorem rmay_any (m : MsgI) (hm : m.ok) (w : World) : Calls Try.prog 91 #[.agg (msgA m)] w fun e w' => e = .returned (.bool (mayM m)) ∧ Below w.heap.size w w' := by
 obtain ⟨_, hfr, htt, ham, hno, ⟨hky, _⟩, ⟨hnx, _⟩⟩ := hm
 obtain ⟨kd, fr, tt, am, no, ky, nx⟩ := m
 dsimp only at *
 have H0 := Aside0.mk (Own.start w)
 have HK := Aside0.mk hky
 have HN := Aside0.mk hnx
 clear hky hnx
 obtain ⟨r, hr⟩ : ∃ r, r = mayM ⟨kd, fr, tt, am, no, ky, nx⟩ := ⟨_, rfl⟩
 rw [← hr]
 simp only [mayM] at hr
 replace hr := Aside0.mk hr
 have HS1 : Aside0 (∀ j v, (vB ky)[j]? = some v → (msgA ⟨kd, fr, tt, am, no, ky, nx⟩)[5 + j]? = some v) := ⟨seg_mid rfl⟩
 have HS2 : Aside0 (∀ j v, (vB nx)[j]? = some v → (msgA ⟨kd, fr, tt, am, no, ky, nx⟩)[37 + j]? = some v) := ⟨by
  have h := seg_mid (a := [Value.int .u8 kd, Value.int .u64 fr, Value.int .u64 tt, Value.int .u64 am, Value.int .u64 no] ++ vB ky) (s := vB nx) (b := []) (o := 37) (by rw [List.length_append, vB_len, HK.out]; rfl)
  simp only [List.append_nil, List.append_assoc] at h
  exact h⟩
 have HZ1 : Aside0 ((Try.prog.info? 25).map (·.size) = some (vB ky).length) := ⟨by rw [vB_len, HK.out]; exact sizeH⟩
 have HZ2 : Aside0 ((Try.prog.info? 25).map (·.size) = some (vB nx).length) := ⟨by rw [vB_len, HN.out]; exact sizeH⟩
 go_enter Try.func91, Try.ntmps91
 go_upto_region 1 with (first
  | fail
  | ((with_reducible refine Gd 1 ?_); refine OB H0 92 ((msgA ⟨kd, fr, tt, am, no, ky, nx⟩)) ?_; intro g1 w1 H1 B1)
  )
 replace H1 : Aside0 (Own w.heap.size w w1 [.blk g1 (msgA ⟨kd, fr, tt, am, no, ky, nx⟩) 92]) := ⟨H1.out⟩
 clear H0 B1
 go_cut [3] (fun v3 wc => v3 = .bool (decide (no = 0) && (ky == z32) && (nx == z32)) ∧ Aside0 (Own w.heap.size w wc [.blk g1 (msgA ⟨kd, fr, tt, am, no, ky, nx⟩) 92]))
 case first =>
  by_cases h1 : no = 0
  ·have e1 : (no == 0) = true := beq_iff_eq.2 h1
   replace h1 := Aside0.mk h1
   cases h2 : (ky == z32)
   ·
    go_wp2_with (first
     | fail
     | ((with_reducible refine Gd 5 ?_); refine OD 4 23 H1 0 g1 4 (.int .u64 no) Try.underlying23 ?_)
     | ((with_reducible refine Gd 9 ?_); refine GDA 8 25 H1 0 g1 5 (vB ky) rfl (HS1.out) Try.underlying25 (HZ1.out) ?_)
     | ((with_reducible refine Gd 10 ?_); refine GU 25 [] (cellsB z32) rfl (builtH0) ?_)
     | ((with_reducible refine gate_dst (N := 11) rfl ?_); (refine gate_guard (by rfl) ?_); refine eq_H rfl 25 _ (.tmp 9) (.tmp 10) rfl (ky) (z32) rfl rfl Try.underlying25 Try.underlying5 size1B guardH (HK.out) (rfl) ?_)
     | ((with_reducible refine Gd 15 ?_); refine GDA 14 25 H1 0 g1 37 (vB nx) rfl (HS2.out) Try.underlying25 (HZ2.out) ?_)
     | ((with_reducible refine Gd 16 ?_); refine GU 25 [] (cellsB z32) rfl (builtH0) ?_)
     | ((with_reducible refine gate_dst (N := 17) rfl ?_); (refine gate_guard (by rfl) ?_); refine eq_H rfl 25 _ (.tmp 15) (.tmp 16) rfl (nx) (z32) rfl rfl Try.underlying25 Try.underlying5 size1B guardH (HN.out) (rfl) ?_)
     )
    go_meet
    exact ⟨by show Value.bool false = _; simp [h1.out, h2], H1⟩
   ·cases h3 : (nx == z32)
    ·
     go_wp2_with (first
      | fail
      | ((with_reducible refine Gd 5 ?_); refine OD 4 23 H1 0 g1 4 (.int .u64 no) Try.underlying23 ?_)
      | ((with_reducible refine Gd 9 ?_); refine GDA 8 25 H1 0 g1 5 (vB ky) rfl (HS1.out) Try.underlying25 (HZ1.out) ?_)
      | ((with_reducible refine Gd 10 ?_); refine GU 25 [] (cellsB z32) rfl (builtH0) ?_)
      | ((with_reducible refine gate_dst (N := 11) rfl ?_); (refine gate_guard (by rfl) ?_); refine eq_H rfl 25 _ (.tmp 9) (.tmp 10) rfl (ky) (z32) rfl rfl Try.underlying25 Try.underlying5 size1B guardH (HK.out) (rfl) ?_)
      | ((with_reducible refine Gd 15 ?_); refine GDA 14 25 H1 0 g1 37 (vB nx) rfl (HS2.out) Try.underlying25 (HZ2.out) ?_)
      | ((with_reducible refine Gd 16 ?_); refine GU 25 [] (cellsB z32) rfl (builtH0) ?_)
      | ((with_reducible refine gate_dst (N := 17) rfl ?_); (refine gate_guard (by rfl) ?_); refine eq_H rfl 25 _ (.tmp 15) (.tmp 16) rfl (nx) (z32) rfl rfl Try.underlying25 Try.underlying5 size1B guardH (HN.out) (rfl) ?_)
      )
     go_meet
     exact ⟨by show Value.bool false = _; simp [h1.out, h2, h3], H1⟩
    ·
     go_wp2_with (first
      | fail
      | ((with_reducible refine Gd 5 ?_); refine OD 4 23 H1 0 g1 4 (.int .u64 no) Try.underlying23 ?_)
      | ((with_reducible refine Gd 9 ?_); refine GDA 8 25 H1 0 g1 5 (vB ky) rfl (HS1.out) Try.underlying25 (HZ1.out) ?_)
      | ((with_reducible refine Gd 10 ?_); refine GU 25 [] (cellsB z32) rfl (builtH0) ?_)
      | ((with_reducible refine gate_dst (N := 11) rfl ?_); (refine gate_guard (by rfl) ?_); refine eq_H rfl 25 _ (.tmp 9) (.tmp 10) rfl (ky) (z32) rfl rfl Try.underlying25 Try.underlying5 size1B guardH (HK.out) (rfl) ?_)
      | ((with_reducible refine Gd 15 ?_); refine GDA 14 25 H1 0 g1 37 (vB nx) rfl (HS2.out) Try.underlying25 (HZ2.out) ?_)
      | ((with_reducible refine Gd 16 ?_); refine GU 25 [] (cellsB z32) rfl (builtH0) ?_)
      | ((with_reducible refine gate_dst (N := 17) rfl ?_); (refine gate_guard (by rfl) ?_); refine eq_H rfl 25 _ (.tmp 15) (.tmp 16) rfl (nx) (z32) rfl rfl Try.underlying25 Try.underlying5 size1B guardH (HN.out) (rfl) ?_)
      )
     go_meet
     exact ⟨by show Value.bool true = _; simp [h1.out, h2, h3], H1⟩
  ·have e1 : (no == 0) = false := beq_eq_false_iff_ne.2 h1
   replace h1 := Aside0.mk h1
   go_wp2_with (first
    | fail
    | ((with_reducible refine Gd 5 ?_); refine OD 4 23 H1 0 g1 4 (.int .u64 no) Try.underlying23 ?_)
    | ((with_reducible refine Gd 9 ?_); refine GDA 8 25 H1 0 g1 5 (vB ky) rfl (HS1.out) Try.underlying25 (HZ1.out) ?_)
    | ((with_reducible refine Gd 10 ?_); refine GU 25 [] (cellsB z32) rfl (builtH0) ?_)
    | ((with_reducible refine gate_dst (N := 11) rfl ?_); (refine gate_guard (by rfl) ?_); refine eq_H rfl 25 _ (.tmp 9) (.tmp 10) rfl (ky) (z32) rfl rfl Try.underlying25 Try.underlying5 size1B guardH (HK.out) (rfl) ?_)
    | ((with_reducible refine Gd 15 ?_); refine GDA 14 25 H1 0 g1 37 (vB nx) rfl (HS2.out) Try.underlying25 (HZ2.out) ?_)
    | ((with_reducible refine Gd 16 ?_); refine GU 25 [] (cellsB z32) rfl (builtH0) ?_)
    | ((with_reducible refine gate_dst (N := 17) rfl ?_); (refine gate_guard (by rfl) ?_); refine eq_H rfl 25 _ (.tmp 15) (.tmp 16) rfl (nx) (z32) rfl rfl Try.underlying25 Try.underlying5 size1B guardH (HN.out) (rfl) ?_)
    )
   go_meet
   exact ⟨by show Value.bool false = _; simp [h1.out], H1⟩
 case rest =>
  clear H1 HS1 HS2 HZ1 HZ2
  obtain ⟨rfl, H1⟩ := hcut
  replace hr : Aside0 (r = if kd = 1 then decide (fr = 0) && decide (tt < 32) && decide (0 < am) && (decide (no = 0) && (ky == z32) && (nx == z32)) else if kd = 2 then decide (fr < 32) && decide (tt < 32) else if kd = 3 then decide (fr < 32) && decide (0 < am) else false) := ⟨hr.out⟩
  generalize (decide (no = 0) && (ky == z32) && (nx == z32)) = zb at *
  by_cases h1 : kd = 1
  ·subst h1
   by_cases a0 : fr = 0
   ·
    have e0 : (fr == 0) = true := beq_iff_eq.2 a0
    by_cases a1 : tt < 32
    ·
     have e1 : decide (tt < 32) = true := decide_eq_true a1
     by_cases a2 : 0 < am
     ·
      have e2 : decide (0 < am) = true := decide_eq_true a2
      obtain rfl : r = zb := by rw [hr.out]; simp [*]
      clear hr
      go_wp2_with (first
       | fail
       | ((with_reducible refine Gd 20 ?_); refine OD 19 90 H1 0 g1 0 (.int .u8 1) Try.underlying90 ?_)
       | ((with_reducible refine Gd 24 ?_); refine OD 23 23 H1 0 g1 1 (.int .u64 fr) Try.underlying23 ?_)
       | ((with_reducible refine Gd 28 ?_); refine GD 27 23 H1 0 g1 2 (.int .u64 tt) Try.underlying23 ?_)
       | ((with_reducible refine Gd 33 ?_); refine GD 32 23 H1 0 g1 3 (.int .u64 am) Try.underlying23 ?_)
       | ((with_reducible refine Gd 42 ?_); refine OD 41 23 H1 0 g1 1 (.int .u64 fr) Try.underlying23 ?_)
       | ((with_reducible refine Gd 46 ?_); refine GD 45 23 H1 0 g1 2 (.int .u64 tt) Try.underlying23 ?_)
       | ((with_reducible refine Gd 52 ?_); refine OD 51 23 H1 0 g1 1 (.int .u64 fr) Try.underlying23 ?_)
       | ((with_reducible refine Gd 56 ?_); refine GD 55 23 H1 0 g1 3 (.int .u64 am) Try.underlying23 ?_)
       )
      go_ret
      exact ⟨by first | rfl | (simp [*]; done), H1.out.below⟩
     ·
      have e2 : decide (0 < am) = false := decide_eq_false a2
      obtain rfl : r = false := by rw [hr.out]; simp [*]
      clear hr
      go_wp2_with (first
       | fail
       | ((with_reducible refine Gd 20 ?_); refine OD 19 90 H1 0 g1 0 (.int .u8 1) Try.underlying90 ?_)
       | ((with_reducible refine Gd 24 ?_); refine OD 23 23 H1 0 g1 1 (.int .u64 fr) Try.underlying23 ?_)
       | ((with_reducible refine Gd 28 ?_); refine GD 27 23 H1 0 g1 2 (.int .u64 tt) Try.underlying23 ?_)
       | ((with_reducible refine Gd 33 ?_); refine GD 32 23 H1 0 g1 3 (.int .u64 am) Try.underlying23 ?_)
       | ((with_reducible refine Gd 42 ?_); refine OD 41 23 H1 0 g1 1 (.int .u64 fr) Try.underlying23 ?_)
       | ((with_reducible refine Gd 46 ?_); refine GD 45 23 H1 0 g1 2 (.int .u64 tt) Try.underlying23 ?_)
       | ((with_reducible refine Gd 52 ?_); refine OD 51 23 H1 0 g1 1 (.int .u64 fr) Try.underlying23 ?_)
       | ((with_reducible refine Gd 56 ?_); refine GD 55 23 H1 0 g1 3 (.int .u64 am) Try.underlying23 ?_)
       )
      go_ret
      exact ⟨by first | rfl | (simp [*]; done), H1.out.below⟩
    ·
     have e1 : decide (tt < 32) = false := decide_eq_false a1
     obtain rfl : r = false := by rw [hr.out]; simp [*]
     clear hr
     go_wp2_with (first
      | fail
      | ((with_reducible refine Gd 20 ?_); refine OD 19 90 H1 0 g1 0 (.int .u8 1) Try.underlying90 ?_)
      | ((with_reducible refine Gd 24 ?_); refine OD 23 23 H1 0 g1 1 (.int .u64 fr) Try.underlying23 ?_)
      | ((with_reducible refine Gd 28 ?_); refine GD 27 23 H1 0 g1 2 (.int .u64 tt) Try.underlying23 ?_)
      | ((with_reducible refine Gd 33 ?_); refine GD 32 23 H1 0 g1 3 (.int .u64 am) Try.underlying23 ?_)
      | ((with_reducible refine Gd 42 ?_); refine OD 41 23 H1 0 g1 1 (.int .u64 fr) Try.underlying23 ?_)
      | ((with_reducible refine Gd 46 ?_); refine GD 45 23 H1 0 g1 2 (.int .u64 tt) Try.underlying23 ?_)
      | ((with_reducible refine Gd 52 ?_); refine OD 51 23 H1 0 g1 1 (.int .u64 fr) Try.underlying23 ?_)
      | ((with_reducible refine Gd 56 ?_); refine GD 55 23 H1 0 g1 3 (.int .u64 am) Try.underlying23 ?_)
      )
     go_ret
     exact ⟨by first | rfl | (simp [*]; done), H1.out.below⟩
   ·
    have e0 : (fr == 0) = false := beq_eq_false_iff_ne.2 a0
    obtain rfl : r = false := by rw [hr.out]; simp [*]
    clear hr
    go_wp2_with (first
     | fail
     | ((with_reducible refine Gd 20 ?_); refine OD 19 90 H1 0 g1 0 (.int .u8 1) Try.underlying90 ?_)
     | ((with_reducible refine Gd 24 ?_); refine OD 23 23 H1 0 g1 1 (.int .u64 fr) Try.underlying23 ?_)
     | ((with_reducible refine Gd 28 ?_); refine GD 27 23 H1 0 g1 2 (.int .u64 tt) Try.underlying23 ?_)
     | ((with_reducible refine Gd 33 ?_); refine GD 32 23 H1 0 g1 3 (.int .u64 am) Try.underlying23 ?_)
     | ((with_reducible refine Gd 42 ?_); refine OD 41 23 H1 0 g1 1 (.int .u64 fr) Try.underlying23 ?_)
     | ((with_reducible refine Gd 46 ?_); refine GD 45 23 H1 0 g1 2 (.int .u64 tt) Try.underlying23 ?_)
     | ((with_reducible refine Gd 52 ?_); refine OD 51 23 H1 0 g1 1 (.int .u64 fr) Try.underlying23 ?_)
     | ((with_reducible refine Gd 56 ?_); refine GD 55 23 H1 0 g1 3 (.int .u64 am) Try.underlying23 ?_)
     )
    go_ret
    exact ⟨by first | rfl | (simp [*]; done), H1.out.below⟩
  by_cases h2 : kd = 2
  ·subst h2
   by_cases a0 : fr < 32
   ·
    have e0 : decide (fr < 32) = true := decide_eq_true a0
    by_cases a1 : tt < 32
    ·
     have e1 : decide (tt < 32) = true := decide_eq_true a1
     obtain rfl : r = true := by rw [hr.out]; simp [*]
     clear hr
     go_wp2_with (first
      | fail
      | ((with_reducible refine Gd 20 ?_); refine OD 19 90 H1 0 g1 0 (.int .u8 2) Try.underlying90 ?_)
      | ((with_reducible refine Gd 24 ?_); refine OD 23 23 H1 0 g1 1 (.int .u64 fr) Try.underlying23 ?_)
      | ((with_reducible refine Gd 28 ?_); refine GD 27 23 H1 0 g1 2 (.int .u64 tt) Try.underlying23 ?_)
      | ((with_reducible refine Gd 33 ?_); refine GD 32 23 H1 0 g1 3 (.int .u64 am) Try.underlying23 ?_)
      | ((with_reducible refine Gd 42 ?_); refine OD 41 23 H1 0 g1 1 (.int .u64 fr) Try.underlying23 ?_)
      | ((with_reducible refine Gd 46 ?_); refine GD 45 23 H1 0 g1 2 (.int .u64 tt) Try.underlying23 ?_)
      | ((with_reducible refine Gd 52 ?_); refine OD 51 23 H1 0 g1 1 (.int .u64 fr) Try.underlying23 ?_)
      | ((with_reducible refine Gd 56 ?_); refine GD 55 23 H1 0 g1 3 (.int .u64 am) Try.underlying23 ?_)
      )
     go_ret
     exact ⟨by first | rfl | (simp [*]; done), H1.out.below⟩
    ·
     have e1 : decide (tt < 32) = false := decide_eq_false a1
     obtain rfl : r = false := by rw [hr.out]; simp [*]
     clear hr
     go_wp2_with (first
      | fail
      | ((with_reducible refine Gd 20 ?_); refine OD 19 90 H1 0 g1 0 (.int .u8 2) Try.underlying90 ?_)
      | ((with_reducible refine Gd 24 ?_); refine OD 23 23 H1 0 g1 1 (.int .u64 fr) Try.underlying23 ?_)
      | ((with_reducible refine Gd 28 ?_); refine GD 27 23 H1 0 g1 2 (.int .u64 tt) Try.underlying23 ?_)
      | ((with_reducible refine Gd 33 ?_); refine GD 32 23 H1 0 g1 3 (.int .u64 am) Try.underlying23 ?_)
      | ((with_reducible refine Gd 42 ?_); refine OD 41 23 H1 0 g1 1 (.int .u64 fr) Try.underlying23 ?_)
      | ((with_reducible refine Gd 46 ?_); refine GD 45 23 H1 0 g1 2 (.int .u64 tt) Try.underlying23 ?_)
      | ((with_reducible refine Gd 52 ?_); refine OD 51 23 H1 0 g1 1 (.int .u64 fr) Try.underlying23 ?_)
      | ((with_reducible refine Gd 56 ?_); refine GD 55 23 H1 0 g1 3 (.int .u64 am) Try.underlying23 ?_)
      )
     go_ret
     exact ⟨by first | rfl | (simp [*]; done), H1.out.below⟩
   ·
    have e0 : decide (fr < 32) = false := decide_eq_false a0
    obtain rfl : r = false := by rw [hr.out]; simp [*]
    clear hr
    go_wp2_with (first
     | fail
     | ((with_reducible refine Gd 20 ?_); refine OD 19 90 H1 0 g1 0 (.int .u8 2) Try.underlying90 ?_)
     | ((with_reducible refine Gd 24 ?_); refine OD 23 23 H1 0 g1 1 (.int .u64 fr) Try.underlying23 ?_)
     | ((with_reducible refine Gd 28 ?_); refine GD 27 23 H1 0 g1 2 (.int .u64 tt) Try.underlying23 ?_)
     | ((with_reducible refine Gd 33 ?_); refine GD 32 23 H1 0 g1 3 (.int .u64 am) Try.underlying23 ?_)
     | ((with_reducible refine Gd 42 ?_); refine OD 41 23 H1 0 g1 1 (.int .u64 fr) Try.underlying23 ?_)
     | ((with_reducible refine Gd 46 ?_); refine GD 45 23 H1 0 g1 2 (.int .u64 tt) Try.underlying23 ?_)
     | ((with_reducible refine Gd 52 ?_); refine OD 51 23 H1 0 g1 1 (.int .u64 fr) Try.underlying23 ?_)
     | ((with_reducible refine Gd 56 ?_); refine GD 55 23 H1 0 g1 3 (.int .u64 am) Try.underlying23 ?_)
     )
    go_ret
    exact ⟨by first | rfl | (simp [*]; done), H1.out.below⟩
  by_cases h3 : kd = 3
  ·subst h3
   by_cases a0 : fr < 32
   ·
    have e0 : decide (fr < 32) = true := decide_eq_true a0
    by_cases a1 : 0 < am
    ·
     have e1 : decide (0 < am) = true := decide_eq_true a1
     obtain rfl : r = true := by rw [hr.out]; simp [*]
     clear hr
     go_wp2_with (first
      | fail
      | ((with_reducible refine Gd 20 ?_); refine OD 19 90 H1 0 g1 0 (.int .u8 3) Try.underlying90 ?_)
      | ((with_reducible refine Gd 24 ?_); refine OD 23 23 H1 0 g1 1 (.int .u64 fr) Try.underlying23 ?_)
      | ((with_reducible refine Gd 28 ?_); refine GD 27 23 H1 0 g1 2 (.int .u64 tt) Try.underlying23 ?_)
      | ((with_reducible refine Gd 33 ?_); refine GD 32 23 H1 0 g1 3 (.int .u64 am) Try.underlying23 ?_)
      | ((with_reducible refine Gd 42 ?_); refine OD 41 23 H1 0 g1 1 (.int .u64 fr) Try.underlying23 ?_)
      | ((with_reducible refine Gd 46 ?_); refine GD 45 23 H1 0 g1 2 (.int .u64 tt) Try.underlying23 ?_)
      | ((with_reducible refine Gd 52 ?_); refine OD 51 23 H1 0 g1 1 (.int .u64 fr) Try.underlying23 ?_)
      | ((with_reducible refine Gd 56 ?_); refine GD 55 23 H1 0 g1 3 (.int .u64 am) Try.underlying23 ?_)
      )
     go_ret
     exact ⟨by first | rfl | (simp [*]; done), H1.out.below⟩
    ·
     have e1 : decide (0 < am) = false := decide_eq_false a1
     obtain rfl : r = false := by rw [hr.out]; simp [*]
     clear hr
     go_wp2_with (first
      | fail
      | ((with_reducible refine Gd 20 ?_); refine OD 19 90 H1 0 g1 0 (.int .u8 3) Try.underlying90 ?_)
      | ((with_reducible refine Gd 24 ?_); refine OD 23 23 H1 0 g1 1 (.int .u64 fr) Try.underlying23 ?_)
      | ((with_reducible refine Gd 28 ?_); refine GD 27 23 H1 0 g1 2 (.int .u64 tt) Try.underlying23 ?_)
      | ((with_reducible refine Gd 33 ?_); refine GD 32 23 H1 0 g1 3 (.int .u64 am) Try.underlying23 ?_)
      | ((with_reducible refine Gd 42 ?_); refine OD 41 23 H1 0 g1 1 (.int .u64 fr) Try.underlying23 ?_)
      | ((with_reducible refine Gd 46 ?_); refine GD 45 23 H1 0 g1 2 (.int .u64 tt) Try.underlying23 ?_)
      | ((with_reducible refine Gd 52 ?_); refine OD 51 23 H1 0 g1 1 (.int .u64 fr) Try.underlying23 ?_)
      | ((with_reducible refine Gd 56 ?_); refine GD 55 23 H1 0 g1 3 (.int .u64 am) Try.underlying23 ?_)
      )
     go_ret
     exact ⟨by first | rfl | (simp [*]; done), H1.out.below⟩
   ·
    have e0 : decide (fr < 32) = false := decide_eq_false a0
    obtain rfl : r = false := by rw [hr.out]; simp [*]
    clear hr
    go_wp2_with (first
     | fail
     | ((with_reducible refine Gd 20 ?_); refine OD 19 90 H1 0 g1 0 (.int .u8 3) Try.underlying90 ?_)
     | ((with_reducible refine Gd 24 ?_); refine OD 23 23 H1 0 g1 1 (.int .u64 fr) Try.underlying23 ?_)
     | ((with_reducible refine Gd 28 ?_); refine GD 27 23 H1 0 g1 2 (.int .u64 tt) Try.underlying23 ?_)
     | ((with_reducible refine Gd 33 ?_); refine GD 32 23 H1 0 g1 3 (.int .u64 am) Try.underlying23 ?_)
     | ((with_reducible refine Gd 42 ?_); refine OD 41 23 H1 0 g1 1 (.int .u64 fr) Try.underlying23 ?_)
     | ((with_reducible refine Gd 46 ?_); refine GD 45 23 H1 0 g1 2 (.int .u64 tt) Try.underlying23 ?_)
     | ((with_reducible refine Gd 52 ?_); refine OD 51 23 H1 0 g1 1 (.int .u64 fr) Try.underlying23 ?_)
     | ((with_reducible refine Gd 56 ?_); refine GD 55 23 H1 0 g1 3 (.int .u64 am) Try.underlying23 ?_)
     )
    go_ret
    exact ⟨by first | rfl | (simp [*]; done), H1.out.below⟩
  have e1 : (kd == 1) = false := beq_eq_false_iff_ne.2 h1
  have e2 : (kd == 2) = false := beq_eq_false_iff_ne.2 h2
  have e3 : (kd == 3) = false := beq_eq_false_iff_ne.2 h3
  obtain rfl : r = false := by rw [hr.out]; simp [*]
  clear hr
  go_wp2_with (first
   | fail
   | ((with_reducible refine Gd 20 ?_); refine OD 19 90 H1 0 g1 0 (.int .u8 kd) Try.underlying90 ?_)
   | ((with_reducible refine Gd 24 ?_); refine OD 23 23 H1 0 g1 1 (.int .u64 fr) Try.underlying23 ?_)
   | ((with_reducible refine Gd 28 ?_); refine GD 27 23 H1 0 g1 2 (.int .u64 tt) Try.underlying23 ?_)
   | ((with_reducible refine Gd 33 ?_); refine GD 32 23 H1 0 g1 3 (.int .u64 am) Try.underlying23 ?_)
   | ((with_reducible refine Gd 42 ?_); refine OD 41 23 H1 0 g1 1 (.int .u64 fr) Try.underlying23 ?_)
   | ((with_reducible refine Gd 46 ?_); refine GD 45 23 H1 0 g1 2 (.int .u64 tt) Try.underlying23 ?_)
   | ((with_reducible refine Gd 52 ?_); refine OD 51 23 H1 0 g1 1 (.int .u64 fr) Try.underlying23 ?_)
   | ((with_reducible refine Gd 56 ?_); refine GD 55 23 H1 0 g1 3 (.int .u64 am) Try.underlying23 ?_)
   )
  go_ret
  exact ⟨by first | rfl | (simp [*]; done), H1.out.below⟩
theorem rread7_any (b : List Int) (A : Option Addr) (c : Nat) (w : World) (hb : ∀ x ∈ b, 0 ≤ x ∧ x ≤ 255) (hC : Kd.C kB w A b.length b) (hc : b.length ≤ c) :
 Calls Try.prog 86 #[.slice A b.length c] w fun e w' => e = .returned (.tuple #[.agg (msgA (readM b).1), .int .i64 (readM b).2]) ∧ Below w.heap.size w w' := by
 have H0 := Aside0.mk (Own.start w)
 have R13 : Aside0 (Arr 13 (cellsN z13)) := ⟨cellsN_arr rfl⟩
 have RZ : Aside0 (Arr 69 (msgA zeroM)) := ⟨msgA_arr rfl rfl⟩
 have HWD := Aside0.mk (fun W (h : Below w.heap.size w W) => rwords_any b A c W hb (Kd.C_below hC h) hc)
 obtain ⟨r, hr⟩ : ∃ r, r = readM b := ⟨_, rfl⟩
 rw [← hr]
 by_cases h1 : b.length = 104
 case neg =>
  have hz : ∃ e : Int, wordsM b = (z13, e) ∧ r = (zeroM, e) ∧ (e == 0) = false := by
   rw [hr]
   unfold wordsM readM
   by_cases h2 : b.length < 104
   ·exact ⟨7, by rw [if_pos h2], by rw [if_pos h2], rfl⟩
   ·exact ⟨8, by rw [if_neg h2, if_pos (by omega)], by rw [if_neg h2, if_pos (by omega)], rfl⟩
  obtain ⟨e, hw, rfl, he⟩ := hz
  rw [hw] at HWD
  clear hr hw h1 hC hc hb
  generalize b.length = n at *
  have hbn : (e != 0) = true := by simp [bne, he]
  go_enter Try.func86, Try.ntmps86
  go_upto_if 13 with (first
   | fail
   | ((with_reducible refine Gd 2 ?_); refine OA H0 92 (msgA zeroM) 69 ?_; intro g2 w1 H1 B1)
   | (go_at_call 131; refine (HWD.out _ H1.out.below).mono ?_; rintro e w3 ⟨rfl, hB3⟩; have H3 := Aside0.mk (H1.out.step hB3); clear hB3)
   | ((with_reducible refine Gd 4 ?_); refine OA H3 194 (cellsN z13) 13 ?_; intro g4 w4 H4 B4)
   | ((with_reducible refine Gs 194 4 ?_); refine OS 4 10 H4 0 g4 194 (cellsN z13) 13 R13 R13 ?_; intro w5 H5)
   )
  go_wp2_with (first
   | fail
   | ((with_reducible refine Gd 14 ?_); refine OU 92 [] (msgA zeroM) rfl (builtM0) ?_)
   | ((with_reducible refine Gs 92 2 ?_); refine OS 2 14 H5 1 g2 92 (msgA zeroM) 69 RZ RZ ?_; intro w6 H6)
   )
  refine bodyPost_ret (own_resultV_t rfl _ H6.out 1 g2 _ rfl rfl _ Try.underlying92 rfl (sizeM_of (msgA_size rfl rfl)) _ rfl) rfl ?_
  exact ⟨rfl, H6.out.below⟩
 have HLN := Aside0.mk h1
 have HOK := Aside0.mk (fieldsOfM_ok hb h1)
 have HKY := Aside0.mk (bytes_key hb h1)
 have HWL := Aside0.mk (wordsAll_lt 13 b hb)
 have HFM : Aside0 (fieldsOfM b = ⟨((wordsAll 13 b).getD 0 0 : Nat), ((wordsAll 13 b).getD 1 0 : Nat), ((wordsAll 13 b).getD 2 0 : Nat), ((wordsAll 13 b).getD 3 0 : Nat), ((wordsAll 13 b).getD 4 0 : Nat), (b.drop 40).take 32, (b.drop 72).take 32⟩) := ⟨rfl⟩
 unfold readM at hr
 rw [if_neg (by omega), if_neg (by omega)] at hr
 rw [readM_len h1, h1] at HWD
 rw [h1]
 have HR := Aside0.mk hr
 have hwl : (wordsAll 13 b).length = 13 := by simp [wordsAll]
 clear hr hC hc hb h1
 generalize fieldsOfM b = m at *
 generalize (b.drop 40).take 32 = ky at *
 generalize (b.drop 72).take 32 = nx at *
 generalize wordsAll 13 b = ws at *
 obtain ⟨a0, a1, a2, a3, a4, a5, a6, a7, a8, a9, a10, a11, a12, rfl⟩ := thirteen hwl
 clear hwl HLN
 replace HFM : Aside0 (m = ⟨(a0 : Int), (a1 : Int), (a2 : Int), (a3 : Int), (a4 : Int), ky, nx⟩) := HFM
 replace HKY : Aside0 (bytesOf [a5, a6, a7, a8] = ky ∧ bytesOf [a9, a10, a11, a12] = nx) := HKY
 obtain rfl := HFM.out
 clear HFM
 have RW : Aside0 (Arr 13 (cellsN [a0, a1, a2, a3, a4, a5, a6, a7, a8, a9, a10, a11, a12])) := ⟨cellsN_arr rfl⟩
 have hu (x : Nat) (h : x ∈ [a0, a1, a2, a3, a4, a5, a6, a7, a8, a9, a10, a11, a12]) := HWL.out x h
 have HF1 : Aside0 (∀ W, Calls Try.prog 132 #[.agg #[.int .u64 (a5 : Int), .int .u64 (a6 : Int), .int .u64 (a7 : Int), .int .u64 (a8 : Int)]] W fun e w' => e = .returned (.agg (cellsB ky)) ∧ Below W.heap.size W w') := ⟨fun W => by
  have h := rfrom_any [a5, a6, a7, a8] rfl (fun x hx => hu x (by simp only [List.mem_cons, List.not_mem_nil, or_false] at hx ⊢; omega)) W
  rw [HKY.out.1] at h
  exact h⟩
 have HF2 : Aside0 (∀ W, Calls Try.prog 132 #[.agg #[.int .u64 (a9 : Int), .int .u64 (a10 : Int), .int .u64 (a11 : Int), .int .u64 (a12 : Int)]] W fun e w' => e = .returned (.agg (cellsB nx)) ∧ Below W.heap.size W w') := ⟨fun W => by
  have h := rfrom_any [a9, a10, a11, a12] rfl (fun x hx => hu x (by simp only [List.mem_cons, List.not_mem_nil, or_false] at hx ⊢; omega)) W
  rw [HKY.out.2] at h
  exact h⟩
 have ha0 := hu a0 (by simp)
 have HKY0 := HKY
 clear HWL HKY hu
 have hkl : ky.length = 32 := by rw [← HKY0.out.1, bytesOf_len]; rfl
 have hnl : nx.length = 32 := by rw [← HKY0.out.2, bytesOf_len]; rfl
 have RK : Aside0 (ky.length = 32) := ⟨hkl⟩
 have RN : Aside0 (nx.length = 32) := ⟨hnl⟩
 obtain ⟨kq, hkq⟩ : ∃ kq, kq = IntKind.u8.wrap (a0 : Int) := ⟨_, rfl⟩
 have HKQ := Aside0.mk hkq
 have hcv : IntKind.u8.wrap (a0 : Int) = kq := hkq.symm
 clear hkq
 have RM : Aside0 (Arr 69 (msgA ⟨kq, (a1 : Int), (a2 : Int), (a3 : Int), (a4 : Int), ky, nx⟩)) := ⟨msgA_arr hkl hnl⟩
 have RM1 : Aside0 (∀ v ∈ (msgA ⟨kq, (a1 : Int), (a2 : Int), (a3 : Int), (a4 : Int), ky, nx⟩).toList, v.oneCell' = true) := ⟨fun v hv => Array.all_eq_true_iff_forall_mem.1 RM.out.2 v (by simpa using hv)⟩
 clear hkl hnl HKY0
 go_enter Try.func86, Try.ntmps86
 go_upto_if 13 with (first
  | fail
  | ((with_reducible refine Gd 2 ?_); refine OA H0 92 (msgA zeroM) 69 ?_; intro g2 w1 H1 B1)
  | (go_at_call 131; refine (HWD.out _ H1.out.below).mono ?_; rintro e w3 ⟨rfl, hB3⟩; have H3 := Aside0.mk (H1.out.step hB3); clear hB3)
  | ((with_reducible refine Gd 4 ?_); refine OA H3 194 (cellsN z13) 13 ?_; intro g4 w4 H4 B4)
  | ((with_reducible refine Gs 194 4 ?_); refine OS 4 10 H4 0 g4 194 (cellsN [a0, a1, a2, a3, a4, a5, a6, a7, a8, a9, a10, a11, a12]) 13 R13 RW ?_; intro w5 H5)
  )
 go_upto_region 4 with fail
 clear H0 H1 H3 H4 HWD B1 B4
 go_cut [6] (fun v6 wc => ∃ g6 : Nat, v6 = .pointer (some ⟨g6, 0, none⟩) ∧ Aside0 (Own w.heap.size w wc [.blk g6 (msgA ⟨kq, (a1 : Int), (a2 : Int), (a3 : Int), (a4 : Int), ky, nx⟩) 92, .blk g4 (cellsN [a0, a1, a2, a3, a4, a5, a6, a7, a8, a9, a10, a11, a12]) 194, .blk g2 (msgA zeroM) 92]))
 case first =>
  refine St (fun W => W.cell? ⟨g4, 0, none⟩ = some (.int .u64 (a0 : Int)) ∧ W.cell? ⟨g4, 1, none⟩ = some (.int .u64 (a1 : Int)) ∧ W.cell? ⟨g4, 2, none⟩ = some (.int .u64 (a2 : Int)) ∧ W.cell? ⟨g4, 3, none⟩ = some (.int .u64 (a3 : Int)) ∧ W.cell? ⟨g4, 4, none⟩ = some (.int .u64 (a4 : Int)) ∧ W.cell? ⟨g4, 5, none⟩ = some (.int .u64 (a5 : Int)) ∧ W.cell? ⟨g4, 6, none⟩ = some (.int .u64 (a6 : Int)) ∧ W.cell? ⟨g4, 7, none⟩ = some (.int .u64 (a7 : Int)) ∧ W.cell? ⟨g4, 8, none⟩ = some (.int .u64 (a8 : Int)) ∧ W.cell? ⟨g4, 9, none⟩ = some (.int .u64 (a9 : Int)) ∧ W.cell? ⟨g4, 10, none⟩ = some (.int .u64 (a10 : Int)) ∧ W.cell? ⟨g4, 11, none⟩ = some (.int .u64 (a11 : Int)) ∧ W.cell? ⟨g4, 12, none⟩ = some (.int .u64 (a12 : Int))) (fun hHeld => ?_) (by exact ⟨H5.out.drew.cell 0 rfl 0 rfl, H5.out.drew.cell 0 rfl 1 rfl, H5.out.drew.cell 0 rfl 2 rfl, H5.out.drew.cell 0 rfl 3 rfl, H5.out.drew.cell 0 rfl 4 rfl, H5.out.drew.cell 0 rfl 5 rfl, H5.out.drew.cell 0 rfl 6 rfl, H5.out.drew.cell 0 rfl 7 rfl, H5.out.drew.cell 0 rfl 8 rfl, H5.out.drew.cell 0 rfl 9 rfl, H5.out.drew.cell 0 rfl 10 rfl, H5.out.drew.cell 0 rfl 11 rfl, H5.out.drew.cell 0 rfl 12 rfl⟩)
  refine Tk 0 ?_
  refine Tk 1 ?_
  refine Tk 2 ?_
  refine Tk 3 ?_
  refine Tk 4 ?_
  refine Tk 5 ?_
  refine Tk 6 ?_
  refine Tk 7 ?_
  refine Tk 8 ?_
  refine Tk 9 ?_
  refine Tk 10 ?_
  refine Tk 11 ?_
  refine Tk 12 ?_
  refine Tk 13 ?_
  refine Tk 14 ?_
  refine Tk 15 ?_
  refine Tk 16 ?_
  refine Tk 17 ?_
  refine Tk 18 ?_
  refine Tk 19 ?_
  refine Tk 21 ?_
  refine Tk 22 ?_
  refine Tk 23 ?_
  refine Tk 24 ?_
  refine Tk 25 ?_
  refine Tk 26 ?_
  refine Tk 27 ?_
  refine Tk 28 ?_
  refine Tk 29 ?_
  have H6 := Aside0.mk H5.out.drew
  generalize w5.drew = wd at *
  refine Rd2 20 32 (fun K hK => ?_) fun K hK => ?_
  ·
   go_simp
   refine (HF1.out _).mono ?_
   rintro e w7 ⟨rfl, hBx⟩
   have H7 := Aside0.mk (H6.out.step hBx)
   clear hBx
   go_wp2_with fail
   refine Ag hK (fun hHeld => ?_) (by exact ⟨H7.out.cell 0 rfl 0 rfl, H7.out.cell 0 rfl 1 rfl, H7.out.cell 0 rfl 2 rfl, H7.out.cell 0 rfl 3 rfl, H7.out.cell 0 rfl 4 rfl, H7.out.cell 0 rfl 5 rfl, H7.out.cell 0 rfl 6 rfl, H7.out.cell 0 rfl 7 rfl, H7.out.cell 0 rfl 8 rfl, H7.out.cell 0 rfl 9 rfl, H7.out.cell 0 rfl 10 rfl, H7.out.cell 0 rfl 11 rfl, H7.out.cell 0 rfl 12 rfl⟩)
   clear hK K
   refine Rd2 30 32 (fun K hK => ?_) fun K hK => ?_
   ·
    go_simp
    refine (HF2.out _).mono ?_
    rintro e w8 ⟨rfl, hBx⟩
    have H8 := Aside0.mk (H7.out.step hBx)
    clear hBx
    go_wp2_with fail
    refine Ag hK (fun hHeld => ?_) (by exact ⟨H8.out.cell 0 rfl 0 rfl, H8.out.cell 0 rfl 1 rfl, H8.out.cell 0 rfl 2 rfl, H8.out.cell 0 rfl 3 rfl, H8.out.cell 0 rfl 4 rfl, H8.out.cell 0 rfl 5 rfl, H8.out.cell 0 rfl 6 rfl, H8.out.cell 0 rfl 7 rfl, H8.out.cell 0 rfl 8 rfl, H8.out.cell 0 rfl 9 rfl, H8.out.cell 0 rfl 10 rfl, H8.out.cell 0 rfl 11 rfl, H8.out.cell 0 rfl 12 rfl⟩)
    clear hK K
    refine Ty 31 (.agg (msgA ⟨kq, (a1 : Int), (a2 : Int), (a3 : Int), (a4 : Int), ky, nx⟩)) ?_ ?_
    ·exact yields_build (by rfl) 92 [(0, .tmp 18), (1, .tmp 20), (2, .tmp 22), (3, .tmp 24), (4, .tmp 26), (5, .tmp 36), (6, .tmp 46)] (by rfl) _ (by rfl) _ (builtM kq (a1 : Int) (a2 : Int) (a3 : Int) (a4 : Int) ky nx RK.out RN.out)
    refine Rd 32 fun K hK => ?_
    refine own_alloc_step H8.out (by rfl) (N := 6) rfl (t := 92) rfl (msgA zeroM) 69 (by kernel_rfl) ?_; intro g6 w9 H9; replace H9 := Aside0.mk H9
    refine Ag hK (fun hHeld => ?_) (by exact ⟨H9.out.cell 1 rfl 0 rfl, H9.out.cell 1 rfl 1 rfl, H9.out.cell 1 rfl 2 rfl, H9.out.cell 1 rfl 3 rfl, H9.out.cell 1 rfl 4 rfl, H9.out.cell 1 rfl 5 rfl, H9.out.cell 1 rfl 6 rfl, H9.out.cell 1 rfl 7 rfl, H9.out.cell 1 rfl 8 rfl, H9.out.cell 1 rfl 9 rfl, H9.out.cell 1 rfl 10 rfl, H9.out.cell 1 rfl 11 rfl, H9.out.cell 1 rfl 12 rfl⟩)
    clear hK K
    refine Rd 33 fun K hK => ?_
    refine own_st_step H9.out 0 g6 _ (msgA ⟨kq, (a1 : Int), (a2 : Int), (a3 : Int), (a4 : Int), ky, nx⟩) 92 (by rfl) (by rfl) 92 (.tmp 6) _ rfl 0 ((msgA ⟨kq, (a1 : Int), (a2 : Int), (a3 : Int), (a4 : Int), ky, nx⟩).toList) (.agg (msgA ⟨kq, (a1 : Int), (a2 : Int), (a3 : Int), (a4 : Int), ky, nx⟩)) (by rfl) (by rfl) (by rfl) (by rw [Array.length_toList, RM.out.1, RZ.out.1]; decide) (by rw [Array.length_toList, RM.out.1]; exact sizeM) (by exact RM1.out) (by exact spl_all (by rw [Array.length_toList, Array.length_toList, RM.out.1, RZ.out.1])) ?_; intro wz HZ; replace HZ := Aside0.mk HZ
    refine Ag hK (fun hHeld => ?_) (by exact ⟨HZ.out.cell 1 rfl 0 rfl, HZ.out.cell 1 rfl 1 rfl, HZ.out.cell 1 rfl 2 rfl, HZ.out.cell 1 rfl 3 rfl, HZ.out.cell 1 rfl 4 rfl, HZ.out.cell 1 rfl 5 rfl, HZ.out.cell 1 rfl 6 rfl, HZ.out.cell 1 rfl 7 rfl, HZ.out.cell 1 rfl 8 rfl, HZ.out.cell 1 rfl 9 rfl, HZ.out.cell 1 rfl 10 rfl, HZ.out.cell 1 rfl 11 rfl, HZ.out.cell 1 rfl 12 rfl⟩)
    clear hK K
    refine Dn ?_
    go_wp2_with fail
    go_meet
    exact ⟨g6, rfl, HZ⟩
   ·
    refine own_alloc_step H7.out (by rfl) (N := 6) rfl (t := 92) rfl (msgA zeroM) 69 (by kernel_rfl) ?_; intro g6 w8 H8; replace H8 := Aside0.mk H8
    refine Ag hK (fun hHeld => ?_) (by exact ⟨H8.out.cell 1 rfl 0 rfl, H8.out.cell 1 rfl 1 rfl, H8.out.cell 1 rfl 2 rfl, H8.out.cell 1 rfl 3 rfl, H8.out.cell 1 rfl 4 rfl, H8.out.cell 1 rfl 5 rfl, H8.out.cell 1 rfl 6 rfl, H8.out.cell 1 rfl 7 rfl, H8.out.cell 1 rfl 8 rfl, H8.out.cell 1 rfl 9 rfl, H8.out.cell 1 rfl 10 rfl, H8.out.cell 1 rfl 11 rfl, H8.out.cell 1 rfl 12 rfl⟩)
    clear hK K
    refine Rd 30 fun K hK => ?_
    go_simp
    refine (HF2.out _).mono ?_
    rintro e w9 ⟨rfl, hBx⟩
    have H9 := Aside0.mk (H8.out.step hBx)
    clear hBx
    go_wp2_with fail
    refine Ag hK (fun hHeld => ?_) (by exact ⟨H9.out.cell 1 rfl 0 rfl, H9.out.cell 1 rfl 1 rfl, H9.out.cell 1 rfl 2 rfl, H9.out.cell 1 rfl 3 rfl, H9.out.cell 1 rfl 4 rfl, H9.out.cell 1 rfl 5 rfl, H9.out.cell 1 rfl 6 rfl, H9.out.cell 1 rfl 7 rfl, H9.out.cell 1 rfl 8 rfl, H9.out.cell 1 rfl 9 rfl, H9.out.cell 1 rfl 10 rfl, H9.out.cell 1 rfl 11 rfl, H9.out.cell 1 rfl 12 rfl⟩)
    clear hK K
    refine Ty 31 (.agg (msgA ⟨kq, (a1 : Int), (a2 : Int), (a3 : Int), (a4 : Int), ky, nx⟩)) ?_ ?_
    ·exact yields_build (by rfl) 92 [(0, .tmp 18), (1, .tmp 20), (2, .tmp 22), (3, .tmp 24), (4, .tmp 26), (5, .tmp 36), (6, .tmp 46)] (by rfl) _ (by rfl) _ (builtM kq (a1 : Int) (a2 : Int) (a3 : Int) (a4 : Int) ky nx RK.out RN.out)
    refine Rd 33 fun K hK => ?_
    refine own_st_step H9.out 0 g6 _ (msgA ⟨kq, (a1 : Int), (a2 : Int), (a3 : Int), (a4 : Int), ky, nx⟩) 92 (by rfl) (by rfl) 92 (.tmp 6) _ rfl 0 ((msgA ⟨kq, (a1 : Int), (a2 : Int), (a3 : Int), (a4 : Int), ky, nx⟩).toList) (.agg (msgA ⟨kq, (a1 : Int), (a2 : Int), (a3 : Int), (a4 : Int), ky, nx⟩)) (by rfl) (by rfl) (by rfl) (by rw [Array.length_toList, RM.out.1, RZ.out.1]; decide) (by rw [Array.length_toList, RM.out.1]; exact sizeM) (by exact RM1.out) (by exact spl_all (by rw [Array.length_toList, Array.length_toList, RM.out.1, RZ.out.1])) ?_; intro wz HZ; replace HZ := Aside0.mk HZ
    refine Ag hK (fun hHeld => ?_) (by exact ⟨HZ.out.cell 1 rfl 0 rfl, HZ.out.cell 1 rfl 1 rfl, HZ.out.cell 1 rfl 2 rfl, HZ.out.cell 1 rfl 3 rfl, HZ.out.cell 1 rfl 4 rfl, HZ.out.cell 1 rfl 5 rfl, HZ.out.cell 1 rfl 6 rfl, HZ.out.cell 1 rfl 7 rfl, HZ.out.cell 1 rfl 8 rfl, HZ.out.cell 1 rfl 9 rfl, HZ.out.cell 1 rfl 10 rfl, HZ.out.cell 1 rfl 11 rfl, HZ.out.cell 1 rfl 12 rfl⟩)
    clear hK K
    refine Dn ?_
    go_wp2_with fail
    go_meet
    exact ⟨g6, rfl, HZ⟩
  ·
   refine own_alloc_step H6.out (by rfl) (N := 6) rfl (t := 92) rfl (msgA zeroM) 69 (by kernel_rfl) ?_; intro g6 w7 H7; replace H7 := Aside0.mk H7
   refine Ag hK (fun hHeld => ?_) (by exact ⟨H7.out.cell 1 rfl 0 rfl, H7.out.cell 1 rfl 1 rfl, H7.out.cell 1 rfl 2 rfl, H7.out.cell 1 rfl 3 rfl, H7.out.cell 1 rfl 4 rfl, H7.out.cell 1 rfl 5 rfl, H7.out.cell 1 rfl 6 rfl, H7.out.cell 1 rfl 7 rfl, H7.out.cell 1 rfl 8 rfl, H7.out.cell 1 rfl 9 rfl, H7.out.cell 1 rfl 10 rfl, H7.out.cell 1 rfl 11 rfl, H7.out.cell 1 rfl 12 rfl⟩)
   clear hK K
   refine Rd 20 fun K hK => ?_
   go_simp
   refine (HF1.out _).mono ?_
   rintro e w8 ⟨rfl, hBx⟩
   have H8 := Aside0.mk (H7.out.step hBx)
   clear hBx
   go_wp2_with fail
   refine Ag hK (fun hHeld => ?_) (by exact ⟨H8.out.cell 1 rfl 0 rfl, H8.out.cell 1 rfl 1 rfl, H8.out.cell 1 rfl 2 rfl, H8.out.cell 1 rfl 3 rfl, H8.out.cell 1 rfl 4 rfl, H8.out.cell 1 rfl 5 rfl, H8.out.cell 1 rfl 6 rfl, H8.out.cell 1 rfl 7 rfl, H8.out.cell 1 rfl 8 rfl, H8.out.cell 1 rfl 9 rfl, H8.out.cell 1 rfl 10 rfl, H8.out.cell 1 rfl 11 rfl, H8.out.cell 1 rfl 12 rfl⟩)
   clear hK K
   refine Rd 30 fun K hK => ?_
   go_simp
   refine (HF2.out _).mono ?_
   rintro e w9 ⟨rfl, hBx⟩
   have H9 := Aside0.mk (H8.out.step hBx)
   clear hBx
   go_wp2_with fail
   refine Ag hK (fun hHeld => ?_) (by exact ⟨H9.out.cell 1 rfl 0 rfl, H9.out.cell 1 rfl 1 rfl, H9.out.cell 1 rfl 2 rfl, H9.out.cell 1 rfl 3 rfl, H9.out.cell 1 rfl 4 rfl, H9.out.cell 1 rfl 5 rfl, H9.out.cell 1 rfl 6 rfl, H9.out.cell 1 rfl 7 rfl, H9.out.cell 1 rfl 8 rfl, H9.out.cell 1 rfl 9 rfl, H9.out.cell 1 rfl 10 rfl, H9.out.cell 1 rfl 11 rfl, H9.out.cell 1 rfl 12 rfl⟩)
   clear hK K
   refine Ty 31 (.agg (msgA ⟨kq, (a1 : Int), (a2 : Int), (a3 : Int), (a4 : Int), ky, nx⟩)) ?_ ?_
   ·exact yields_build (by rfl) 92 [(0, .tmp 18), (1, .tmp 20), (2, .tmp 22), (3, .tmp 24), (4, .tmp 26), (5, .tmp 36), (6, .tmp 46)] (by rfl) _ (by rfl) _ (builtM kq (a1 : Int) (a2 : Int) (a3 : Int) (a4 : Int) ky nx RK.out RN.out)
   refine Rd 33 fun K hK => ?_
   refine own_st_step H9.out 0 g6 _ (msgA ⟨kq, (a1 : Int), (a2 : Int), (a3 : Int), (a4 : Int), ky, nx⟩) 92 (by rfl) (by rfl) 92 (.tmp 6) _ rfl 0 ((msgA ⟨kq, (a1 : Int), (a2 : Int), (a3 : Int), (a4 : Int), ky, nx⟩).toList) (.agg (msgA ⟨kq, (a1 : Int), (a2 : Int), (a3 : Int), (a4 : Int), ky, nx⟩)) (by rfl) (by rfl) (by rfl) (by rw [Array.length_toList, RM.out.1, RZ.out.1]; decide) (by rw [Array.length_toList, RM.out.1]; exact sizeM) (by exact RM1.out) (by exact spl_all (by rw [Array.length_toList, Array.length_toList, RM.out.1, RZ.out.1])) ?_; intro wz HZ; replace HZ := Aside0.mk HZ
   refine Ag hK (fun hHeld => ?_) (by exact ⟨HZ.out.cell 1 rfl 0 rfl, HZ.out.cell 1 rfl 1 rfl, HZ.out.cell 1 rfl 2 rfl, HZ.out.cell 1 rfl 3 rfl, HZ.out.cell 1 rfl 4 rfl, HZ.out.cell 1 rfl 5 rfl, HZ.out.cell 1 rfl 6 rfl, HZ.out.cell 1 rfl 7 rfl, HZ.out.cell 1 rfl 8 rfl, HZ.out.cell 1 rfl 9 rfl, HZ.out.cell 1 rfl 10 rfl, HZ.out.cell 1 rfl 11 rfl, HZ.out.cell 1 rfl 12 rfl⟩)
   clear hK K
   refine Dn ?_
   go_wp2_with fail
   go_meet
   exact ⟨g6, rfl, HZ⟩
 case rest =>
  obtain ⟨g6, rfl, HC0⟩ := hcut
  have k0 : ∀ W, Own w.heap.size w W [.blk g6 (msgA ⟨kq, (a1 : Int), (a2 : Int), (a3 : Int), (a4 : Int), ky, nx⟩) 92, .blk g4 (cellsN [a0, a1, a2, a3, a4, a5, a6, a7, a8, a9, a10, a11, a12]) 194, .blk g2 (msgA zeroM) 92] → W.cell? ⟨g4, 0, none⟩ = some (.int .u64 (a0 : Int)) := fun W h => h.cell 1 rfl 0 rfl
  replace k0 := k0 _ HC0.out
  clear H5 HF1 HF2 RK RN RM1 hcv
  by_cases h3 : 3 < a0
  ·have hd : decide (3 < (a0 : Int)) = true := decide_eq_true (by omega)
   obtain rfl : r = (zeroM, 8) := by rw [HR.out, if_pos (show (3 : Int) < (a0 : Int) by omega)]
   clear HR HOK
   go_wp2_with (first
    | fail
    | ((with_reducible refine Gd 56 ?_); refine OU 92 [] (msgA zeroM) rfl (builtM0) ?_)
    | ((with_reducible refine Gs 92 2 ?_); refine OS 2 56 HC0 2 g2 92 (msgA zeroM) 69 RZ RZ ?_; intro w9 H9)
    )
   refine bodyPost_ret (own_resultV_t rfl _ H9.out 2 g2 _ rfl rfl _ Try.underlying92 rfl (sizeM_of (msgA_size rfl rfl)) _ rfl) rfl ?_
   exact ⟨rfl, H9.out.below⟩
  have hd : decide (3 < (a0 : Int)) = false := decide_eq_false (by omega)
  have hok := HOK.out (by omega)
  rw [if_neg (show ¬ (3 : Int) < (a0 : Int) by omega)] at HR
  obtain rfl : kq = (a0 : Int) := by rw [HKQ.out, IntKind.wrap_u8]; omega
  clear HOK HKQ
  have HMY := Aside0.mk (fun W => rmay_any ⟨(a0 : Int), (a1 : Int), (a2 : Int), (a3 : Int), (a4 : Int), ky, nx⟩ hok W)
  clear hok
  cases hmay : mayM ⟨(a0 : Int), (a1 : Int), (a2 : Int), (a3 : Int), (a4 : Int), ky, nx⟩
  ·obtain rfl : r = (zeroM, 8) := by rw [HR.out, hmay]; rfl
   clear HR
   rw [hmay] at HMY
   clear hmay
   go_wp2_with (first
    | fail
    | ((with_reducible refine Gd 52 ?_); refine GV 6 HC0 0 g6 92 rfl Try.underlying92 (sizeM_of RM.out.1) ?_)
    | (go_at_call 91; refine (HMY.out _).mono ?_; rintro e w8 ⟨rfl, hB8⟩; have H8 := Aside0.mk (HC0.out.step hB8); clear hB8)
    | ((with_reducible refine Gd 56 ?_); refine OU 92 [] (msgA zeroM) rfl (builtM0) ?_)
    | ((with_reducible refine Gs 92 2 ?_); refine OS 2 56 H8 2 g2 92 (msgA zeroM) 69 RZ RZ ?_; intro w9 H9)
    )
   refine bodyPost_ret (own_resultV_t rfl _ H9.out 2 g2 _ rfl rfl _ Try.underlying92 rfl (sizeM_of (msgA_size rfl rfl)) _ rfl) rfl ?_
   exact ⟨rfl, H9.out.below⟩
  ·obtain rfl : r = (⟨(a0 : Int), (a1 : Int), (a2 : Int), (a3 : Int), (a4 : Int), ky, nx⟩, 0) := by rw [HR.out, hmay]; rfl
   clear HR
   rw [hmay] at HMY
   clear hmay
   go_wp2_with (first
    | fail
    | ((with_reducible refine Gd 52 ?_); refine GV 6 HC0 0 g6 92 rfl Try.underlying92 (sizeM_of RM.out.1) ?_)
    | (go_at_call 91; refine (HMY.out _).mono ?_; rintro e w8 ⟨rfl, hB8⟩; have H8 := Aside0.mk (HC0.out.step hB8); clear hB8)
    | ((with_reducible refine Gd 57 ?_); refine OV 6 H8 0 g6 92 rfl Try.underlying92 (sizeM_of RM.out.1) ?_)
    | ((with_reducible refine Gs 92 2 ?_); refine OS 2 57 H8 2 g2 92 (msgA ⟨(a0 : Int), (a1 : Int), (a2 : Int), (a3 : Int), (a4 : Int), ky, nx⟩) 69 RZ RM ?_; intro w9 H9)
    )
   refine bodyPost_ret (own_resultV_t rfl _ H9.out 2 g2 _ rfl rfl _ Try.underlying92 rfl (sizeM_of RM.out.1) _ rfl) rfl ?_
   exact ⟨rfl, H9.out.below⟩
theorem brings_any (b : List Int) (A : Option Addr) (c : Nat) (w : World) (hb : ∀ x ∈ b, 0 ≤ x ∧ x ≤ 255) (hC : Kd.C kB w A b.length b) (hc : b.length ≤ c) :
 Calls Try.prog 36 #[.slice A b.length c] w fun e w' => e = .returned (.bool (depB b)) ∧ Below w.heap.size w w' := by
 have H0 := Aside0.mk (Own.start w)
 have RZ : Aside0 (Arr 69 (msgA zeroM)) := ⟨msgA_arr rfl rfl⟩
 have HRD := Aside0.mk (fun W (h : Below w.heap.size w W) => rread7_any b A c W hb (Kd.C_below hC h) hc)
 have hsz := readM_size b hb
 have RM : Aside0 (Arr 69 (msgA (readM b).1)) := ⟨msgA_arr hsz.1 hsz.2⟩
 obtain ⟨r, hr⟩ : ∃ r, r = depB b := ⟨_, rfl⟩
 rw [← hr]
 unfold depB at hr
 clear hC hc hb hsz
 generalize b.length = n at *
 generalize (readM b).2 = er at *
 generalize (readM b).1 = m at *
 obtain ⟨kd, fr, tt, am, no, ky, nx⟩ := m
 dsimp only at hr
 by_cases h0 : er = 0
 ·subst h0
  rw [decide_eq_true rfl, Bool.true_and] at hr
  have hk : (kd == 1) = r := by rw [hr]; rfl
  clear hr
  go_enter Try.func36, Try.ntmps36
  go_wp2_with (first
   | fail
   | (go_at_call 86; refine (HRD.out _ H0.out.below).mono ?_; rintro e w1 ⟨rfl, hB1⟩; have H1 := Aside0.mk (H0.out.step hB1); clear hB1)
   | ((with_reducible refine Gd 3 ?_); refine OA H1 92 (msgA zeroM) 69 ?_; intro g3 w2 H2 B2)
   | ((with_reducible refine Gs 92 3 ?_); refine OS 3 8 H2 0 g3 92 (msgA ⟨kd, fr, tt, am, no, ky, nx⟩) 69 RZ RM ?_; intro w3 H3)
   | ((with_reducible refine Gd 14 ?_); refine GD 13 90 H3 0 g3 0 (.int .u8 kd) Try.underlying90 ?_)
   )
  go_ret
  exact ⟨rfl, H3.out.below⟩
 ·have he : (er == 0) = false := beq_eq_false_iff_ne.2 h0
  obtain rfl : r = false := by rw [hr, decide_eq_false h0]; rfl
  clear hr h0
  go_enter Try.func36, Try.ntmps36
  go_wp2_with (first
   | fail
   | (go_at_call 86; refine (HRD.out _ H0.out.below).mono ?_; rintro e w1 ⟨rfl, hB1⟩; have H1 := Aside0.mk (H0.out.step hB1); clear hB1)
   | ((with_reducible refine Gd 3 ?_); refine OA H1 92 (msgA zeroM) 69 ?_; intro g3 w2 H2 B2)
   | ((with_reducible refine Gs 92 3 ?_); refine OS 3 8 H2 0 g3 92 (msgA ⟨kd, fr, tt, am, no, ky, nx⟩) 69 RZ RM ?_; intro w3 H3)
   )
  go_ret
  exact ⟨rfl, H3.out.below⟩
theorem C_mid {W : World} {g : Nat} {t : TypeId} {cs : Array Value} (h : W.heap[g]? = some (.cells cs t (0, 0))) (o : Nat) (xs : List Int) (hx : ∀ j (hj : j < xs.length), cs[o + j]? = some (.int .u8 xs[j])) (hm : xs.length ≤ 9223372036854775807) : Kd.C kB W (some ⟨g, o, none⟩) xs.length xs := by
 refine ⟨rfl, hm, fun _ => ⟨_, rfl, fun j p hj => ⟨[.int .u8 p], rfl, rfl, fun i u hu => ?_⟩⟩⟩
 obtain ⟨hj1, hj2⟩ := List.getElem?_eq_some_iff.1 hj
 match i, hu with
 | 0, hu =>
  obtain rfl : Value.int .u8 p = u := by simpa using hu
  have e : (⟨g, o, none⟩ : Addr).add (j * 1 + 0) = ⟨g, o + j, none⟩ := by
   unfold Addr.add
   split
   ·rename_i h0; rw [show j = 0 by omega]; rfl
   ·simp
  show W.cell? ((⟨g, o, none⟩ : Addr).add (j * 1 + 0)) = _
  rw [e, blk_cell h, hx j hj1, hj2]
 | i + 1, hu => simp at hu
def headN (m : MsgI) : List Nat := [m.kd.toNat, m.fr.toNat, m.tt.toNat, m.am.toNat, m.no.toNat]
def writeM (m : MsgI) : List Int := bytesOf (headN m) ++ (m.ky ++ m.nx)
def wrM (m : MsgI) : List Int × Int := if mayM m then (writeM m, 0) else ([], 2)
theorem bytesOf_take (ws : List Nat) (i : Nat) (h : i < ws.length) : bytesOf (ws.take (i + 1)) = bytesOf (ws.take i) ++ be8I ws[i] := by
 unfold bytesOf
 rw [List.take_succ_eq_append_getElem h, List.map_append, List.flatten_append]
 simp
theorem msgA_ky {m : MsgI} (h1 : m.ky.length = 32) (j : Nat) (hj : j < m.ky.length) : (msgA m)[5 + j]? = some (.int .u8 m.ky[j]) := by
 unfold msgA
 rw [List.getElem?_toArray, List.getElem?_append_right (by simp), List.getElem?_append_left (by simp [vB]; omega)]
 simp [vB, hj]
theorem msgA_nx {m : MsgI} (h1 : m.ky.length = 32) (j : Nat) (hj : j < m.nx.length) : (msgA m)[37 + j]? = some (.int .u8 m.nx[j]) := by
 unfold msgA
 rw [List.getElem?_toArray, List.getElem?_append_right (by simp; omega), List.getElem?_append_right (by simp [vB, h1]; omega)]
 have e : 37 + j - ([Value.int .u8 m.kd, Value.int .u64 m.fr, Value.int .u64 m.tt, Value.int .u64 m.am, Value.int .u64 m.no] : List Value).length - (vB m.ky).length = j := by simp [vB, h1]; omega
 rw [e]
 simp [vB, hj]
theorem rwrite7_any (m : MsgI) (hm : m.ok) (w : World) : Calls Try.prog 41 #[.agg (msgA m)] w fun e w' => ∃ v, e = .returned (.tuple #[v, .int .i64 (wrM m).2]) ∧ Own w.heap.size w w' [.row kB 5 v (wrM m).1] := by
 have H0 := Aside0.mk (Own.start w)
 have HMY := Aside0.mk (fun W => rmay_any m hm W)
 have HSZ := Aside0.mk (sizeM_of (msgA_size hm.ky.1 hm.nx.1))
 obtain ⟨r, hr⟩ : ∃ r, r = wrM m := ⟨_, rfl⟩
 rw [← hr]
 unfold wrM at hr
 have HR := Aside0.mk hr
 clear hr
 obtain ⟨my, hmy⟩ : ∃ my, my = mayM m := ⟨_, rfl⟩
 rw [← hmy] at HMY HR
 clear hmy
 have hcs : (msgA m)[0]? = some (.int .u8 m.kd) ∧ (msgA m)[1]? = some (.int .u64 m.fr) ∧ (msgA m)[2]? = some (.int .u64 m.tt) ∧ (msgA m)[3]? = some (.int .u64 m.am) ∧ (msgA m)[4]? = some (.int .u64 m.no) := ⟨rfl, rfl, rfl, rfl, rfl⟩
 have HKY := Aside0.mk (fun j hj => msgA_ky hm.ky.1 j hj)
 have HNX := Aside0.mk (fun j hj => msgA_nx hm.ky.1 j hj)
 have HKL := Aside0.mk hm.ky.1
 have HNL := Aside0.mk hm.nx.1
 obtain ⟨ws, hws⟩ : ∃ ws, ws = headN m := ⟨_, rfl⟩
 have hwl : ws.length = 5 := by rw [hws]; rfl
 have hwm : ws.map (fun n : Nat => (n : Int)) = [m.kd, m.fr, m.tt, m.am, m.no] := by
  rw [hws]
  have := hm.kd; have := hm.fr; have := hm.tt; have := hm.am; have := hm.no
  simp only [headN, List.map_cons, List.map_nil]
  rw [Int.toNat_of_nonneg (by omega), Int.toNat_of_nonneg (by omega), Int.toNat_of_nonneg (by omega), Int.toNat_of_nonneg (by omega), Int.toNat_of_nonneg (by omega)]
 have hwu : ∀ x ∈ ws, x ≤ 18446744073709551615 := by
  rw [hws]
  have := hm.kd; have := hm.fr; have := hm.tt; have := hm.am; have := hm.no
  intro x hx
  simp only [headN, List.mem_cons, List.not_mem_nil, or_false] at hx
  omega
 have hwr : writeM m = bytesOf ws ++ (m.ky ++ m.nx) := by rw [hws]; rfl
 rw [hwr] at HR
 have hwc : IntKind.u64.wrap m.kd = m.kd := by
  have := hm.kd
  rw [IntKind.wrap_u64]; omega
 clear hws hwr
 have HWU := Aside0.mk hwu
 have HWM := Aside0.mk hwm
 have HWL := Aside0.mk hwl
 obtain ⟨M, hM⟩ : ∃ M, M = msgA m := ⟨_, rfl⟩
 rw [← hM] at HMY HSZ hcs HKY HNX ⊢
 obtain ⟨kd, fr, tt, am, no, ky, nx⟩ := m
 dsimp only at *
 clear hM hwu hwm hwl hm
 go_enter Try.func41, Try.ntmps41
 cases my with
 | false =>
  obtain rfl : r = ([], 2) := by rw [HR.out]; rfl
  go_wp2_with (first
   | fail
   | ((with_reducible refine Gd 1 ?_); refine OB H0 92 (M) ?_; intro g1 w1 H1 B1)
   | ((with_reducible refine Gd 7 ?_); refine OV 1 H1 0 g1 92 rfl Try.underlying92 (HSZ.out) ?_)
   | (go_at_call 91; refine (HMY.out _).mono ?_; rintro e w2 ⟨rfl, hB2⟩; have H2 := Aside0.mk (H1.out.step hB2); clear hB2)
   )
  go_ret2
  exact ⟨_, rfl, (H2.out.null kB _).erase 1⟩
 | true =>
  obtain rfl : r = (bytesOf ws ++ (ky ++ nx), 0) := by rw [HR.out]; rfl
  clear HR
  go_upto_region 6 with (first
   | fail
   | ((with_reducible refine Gd 1 ?_); refine OB H0 92 (M) ?_; intro g1 w1 H1 B1)
   | ((with_reducible refine Gd 7 ?_); refine OV 1 H1 0 g1 92 rfl Try.underlying92 (HSZ.out) ?_)
   | (go_at_call 91; refine (HMY.out _).mono ?_; rintro e w2 ⟨rfl, hB2⟩; have H2 := Aside0.mk (H1.out.step hB2); clear hB2)
   | ((with_reducible refine gate_dst (N := 11) rfl ?_); refine own_ld1 H2.out 0 g1 _ _ rfl rfl 90 (.tmp 10) rfl 0 (.int .u8 kd) _ rfl hcs.1 Try.underlying90 rfl ?_)
   | ((with_reducible refine gate_dst (N := 14) rfl ?_); refine own_ld1 H2.out 0 g1 _ _ rfl rfl 23 (.tmp 13) rfl 1 (.int .u64 fr) _ rfl hcs.2.1 Try.underlying23 rfl ?_)
   | ((with_reducible refine gate_dst (N := 16) rfl ?_); refine own_ld1 H2.out 0 g1 _ _ rfl rfl 23 (.tmp 15) rfl 2 (.int .u64 tt) _ rfl hcs.2.2.1 Try.underlying23 rfl ?_)
   | ((with_reducible refine gate_dst (N := 18) rfl ?_); refine own_ld1 H2.out 0 g1 _ _ rfl rfl 23 (.tmp 17) rfl 3 (.int .u64 am) _ rfl hcs.2.2.2.1 Try.underlying23 rfl ?_)
   | ((with_reducible refine gate_dst (N := 20) rfl ?_); refine own_ld1 H2.out 0 g1 _ _ rfl rfl 23 (.tmp 19) rfl 4 (.int .u64 no) _ rfl hcs.2.2.2.2 Try.underlying23 rfl ?_)
   | ((with_reducible refine gate_dst (N := 21) rfl ?_); refine own_lit kU Flat_U H2.out 23 rfl (N := 21) rfl (xs := [kd, fr, tt, am, no]) (inner := ([kd, fr, tt, am, no]).map (Value.int .u64)) ?hr21 (Kd.reps_scalar _) (by simp) ?_; (case hr21 => first | (go_simp; done) | (go_simp; rfl)); intro A4 c4 w4 H4 B4; replace H4 := Aside0.mk H4; replace B4 := Aside0.mk B4)
   )
  have H5 := Aside0.mk (H4.out.null kB 5)
  rw [← HWM.out] at H5
  clear H0 H1 H2 H4 B1 B4 hcs
  have HBT := Aside0.mk (fun i (h : i < 5) => bytesOf_take ws i (by rw [HWL.out]; exact h))
  have HBL := Aside0.mk (fun i (h : i ≤ 5) => show (bytesOf (ws.take i)).length = 8 * i by rw [bytesOf_len, List.length_take, HWL.out, Nat.min_eq_left h])
  have HB5 : Aside0 (bytesOf (ws.take 5) = bytesOf ws) := ⟨by rw [List.take_of_length_le (by rw [HWL.out]; exact Nat.le_refl _)]⟩
  have H6 : Aside0 (Own w.heap.size w w4 [.row kB 5 (.slice none 0 0) (bytesOf (ws.take 0)), .row kU 23 (.slice A4 5 c4) (ws.map (fun n : Nat => (n : Int))), .blk g1 M 92]) := ⟨by have h := H5.out; rw [List.length_map, HWL.out] at h; exact h⟩
  clear H5
  go_wp2_with fail
  go_loopw [5, 6] (fun v5 v6 wr => ∃ (i : Nat) (A : Option Addr) (c : Nat), i ≤ 5 ∧ v6 = .int .i64 (i : Int) ∧ v5 = .slice A (8 * i) c ∧ Aside0 (Own w.heap.size w wr [.row kB 5 (.slice A (8 * i) c) (bytesOf (ws.take i)), .row kU 23 (.slice A4 5 c4) (ws.map (fun n : Nat => (n : Int))), .blk g1 M 92])) (fun v5 v6 _ => 5 - (intOf v6).toNat)
  case atStart => exact ⟨0, none, 0, by decide, rfl, rfl, H6⟩
  case round =>
   clear H6
   obtain ⟨i, A, c, hi, rfl, rfl, HI⟩ := hrel
   by_cases hlt : i < 5
   ·have hdl : decide ((i : Int) < 5) = true := decide_eq_true (by omega)
    obtain ⟨ad, rfl, hcell⟩ := Kd.at_int (HI.out.C_of 1 rfl) (i : Int) (Int.natCast_nonneg i) (by omega)
    have hib : (0 : Int) ≤ (i : Int) ∧ (i : Int) < ((5 : Nat) : Int) := by omega
    have hil : i < ws.length := by rw [HWL.out]; exact hlt
    have hrd : rd (ws.map (fun n : Nat => (n : Int))) (i : Int) = ((ws[i] : Nat) : Int) := by simp [rd, List.getD_eq_getElem?_getD, hil]
    rw [hrd, Int.toNat_natCast] at hcell
    have HX := Aside0.mk (fun W => eight_any ws[i] (HWU.out _ (List.getElem_mem hil)) W)
    have HT := Aside0.mk (HBT.out i hlt)
    have hL := Aside0.mk (HBL.out i hi)
    have h8 : Aside0 ((be8I ws[i]).length = 8) := ⟨by simp [be8I, toI, be8_len]⟩
    generalize be8I ws[i] = b8 at *
    generalize ws[i] = x at *
    clear hrd
    go_wp2_with (first
     | fail
     | (go_at_call 79; refine (HX.out _).mono ?_; rintro e w5 ⟨v, rfl, hO⟩; obtain ⟨A7, c7, rfl, hc7, _⟩ := hO.reads 0 rfl; have H7 := Aside0.mk (HI.out.call hO); clear hO)
     | ((with_reducible refine gate_dst (N := 32) rfl ?_); (with_reducible refine gate_builtin (b := .append) (xs := #[.tmp 26, .tmp 31]) rfl ?_); refine own_append_row kB Flat_B H7.out 1 rfl rfl (.tmp 26) (.tmp 31) 74 (.int .u8 0) 1 rfl Try.underlying74 infoB rfl (by decide) (by decide) (b8) _ _ _ rfl rfl (H7.out.C_of 0 rfl) ?_ ?_; (case _ => (have := hL.out; have := h8.out; omega)); intro v8 w8 H8; replace H8 := Aside0.mk H8)
     )
    obtain ⟨A8, c8, rfl, _, _⟩ := H8.out.reads 1 rfl
    rw [show (bytesOf (ws.take i) ++ b8).length = 8 * (i + 1) by rw [List.length_append, hL.out, h8.out]; omega, ← HT.out] at H8
    rw [show (bytesOf (ws.take i) ++ b8).length = 8 * (i + 1) by rw [List.length_append, hL.out, h8.out]; omega]
    go_wp2_with fail
    go_roundw
    case rel => exact ⟨i + 1, A8, c8, hlt, by go_num, rfl, ⟨H8.out.erase 0⟩⟩
    case measure => simp [intOf]; omega
   ·have hdl : decide ((i : Int) < 5) = false := decide_eq_false (by omega)
    obtain rfl : i = 5 := by omega
    rw [HB5.out] at HI
    have hL := Aside0.mk (HBL.out 5 (Nat.le_refl _))
    rw [HB5.out] at hL
    go_upto_region 9 with fail
    have HD := Aside0.mk HI.out.drew
    refine St (fun _ => True) (fun hHeld => ?_)
    refine Tk 0 ?_
    refine Tk 1 ?_
    refine Tk 2 ?_
    refine Tk 4 ?_
    refine Tk 5 ?_
    clear hHeld HI
    generalize wr.drew = wd at *
    refine Rd 3 fun K hK => ?_
    have hC1 : Kd.C kB wd (some ⟨g1, 5, none⟩) 32 ky := by have h := C_mid (HD.out.get 2 rfl) 5 ky HKY.out (by rw [HKL.out]; decide); rw [HKL.out] at h; exact h
    refine own_append_row_step kB Flat_B HD.out 0 rfl rfl (.tmp 33) (.tmp 35) 74 (.int .u8 0) 1 rfl Try.underlying74 infoB rfl (by decide) (by decide) ky _ _ _ (by rfl) (by rfl) hC1 (by rw [hL.out]; decide) ?_
    intro v1 w1 h1
    have H1 := Aside0.mk h1
    clear h1 hC1
    refine Ag hK (fun hHeld => ?_)
    clear hK K
    refine Rd 6 fun K hK => ?_
    have hC2 : Kd.C kB w1 (some ⟨g1, 37, none⟩) 32 nx := by have h := C_mid (H1.out.get 2 rfl) 37 nx HNX.out (by rw [HNL.out]; decide); rw [HNL.out] at h; exact h
    refine own_append_row_step kB Flat_B H1.out 0 rfl rfl (.tmp 36) (.tmp 38) 74 (.int .u8 0) 1 rfl Try.underlying74 infoB rfl (by decide) (by decide) nx _ _ _ (by rfl) (by rfl) hC2 (by rw [List.length_append, hL.out, HKL.out]; decide) ?_
    intro v2 w2 h2
    rw [List.append_assoc] at h2
    have H2 := Aside0.mk h2
    clear h2 hC2
    refine Ag hK (fun hHeld => ?_)
    clear hK K
    refine Tk 7 ?_
    refine Tk 8 ?_
    refine Dn ?_
    go_wp2_with fail
    go_ret2
    exact ⟨_, rfl, (H2.out.erase 1).erase 1⟩
def z4 : List Nat := List.replicate 4 0
theorem swords_any (b : List Int) (hb : ∀ x ∈ b, 0 ≤ x ∧ x ≤ 255) (hl : b.length = 32) (w : World) :
 Calls Try.prog 137 #[.agg (cellsB b)] w fun e w' => e = .returned (.agg (cellsN (wordsAll 4 b))) ∧ Below w.heap.size w w' := by
 have H0 := Aside0.mk (Own.start w)
 have R4 : Aside0 (Arr 4 (cellsN z4)) := ⟨cellsN_arr rfl⟩
 have RB : Aside0 (Arr 32 (cellsB b)) := ⟨Arr_B hl⟩
 have HBB := Aside0.mk hb
 have HN := Aside0.mk hl
 clear hb hl
 go_enter Try.func137, Try.ntmps137
 go_wp2_with (first
  | fail
  | ((with_reducible refine Gd 1 ?_); go_loud ( refine OB H0 25 ((cellsB b)) ?_; intro g1 w0 H1 B0))
  | ((with_reducible refine Gd 2 ?_); go_loud ( refine OA H1 198 (cellsN z4) 4 ?_; intro g2 w1 H2 B1))
  | ((with_reducible refine Gd 3 ?_); go_loud ( refine OA H2 198 (cellsN z4) 4 ?_; intro g3 w2 H3 B2))
  | ((with_reducible refine Gd 6 ?_); go_loud ( refine OL 1 H3 2 g1 25 Try.underlying25 32 RB ?_))
  )
 have H4 : Aside0 (Own w.heap.size w w2 [.blk g3 (cellsN (wordsU 4 b 0)) 198, .blk g2 (cellsN z4) 198]) := ⟨by rw [wordsU_zero]; exact H3.out.erase 2⟩
 clear H0 H1 H2 H3 B0 B1 B2
 go_loopw [7] (fun vi wr => ∃ (i : Nat), i ≤ 32 ∧ vi = .int .i64 (i : Int) ∧ Aside0 (Own w.heap.size w wr [.blk g3 (cellsN (wordsU 4 b i)) 198, .blk g2 (cellsN z4) 198])) (fun vi _ => 32 - (intOf vi).toNat)
 case atStart => exact ⟨0, Nat.zero_le _, rfl, H4⟩
 case round =>
  clear H4
  obtain ⟨i, hi, rfl, HI⟩ := hrel
  by_cases hlt : i < 32
  ·have hdl : decide ((i : Int) < 32) = true := decide_eq_true (by omega)
   have hib : i < b.length := by rw [HN.out]; exact hlt
   have hbb := HBB.out _ (List.getElem_mem hib)
   have hq : i / 8 < 4 := by omega
   have hxl := wordU_lt b i HBB.out hib
   have HST := Aside0.mk (wordsU_step 4 b i hib hq)
   have hx : wr.cell? ⟨g3, i / 8, none⟩ = some (.int .u64 ((wordU b i (i / 8) : Nat) : Int)) := HI.out.cell 0 rfl (i / 8) (by rw [cellsN_at _ _ (by rw [wordsU_len]; exact hq), wordsU_at])
   have hxf := HI.out.fz 0 rfl (i / 8)
   obtain ⟨y, hy⟩ := Int.eq_ofNat_of_zero_le hbb.1
   rw [hy, Int.toNat_natCast] at HST
   have hcb : (cellsB b)[i]? = some (.int .u8 (y : Int)) := by rw [← hy]; simp [cellsB, hib]
   rw [hy] at hbb
   have hor := num_or (wordU b i (i / 8)) y hxl (by omega)
   generalize wordU b i (i / 8) = x at *
   have hix := fun W : World => run_index_arr (P := Try.prog) 25 5 32 .u8 Try.underlying25 Try.underlying5 (by kernel_rfl) (cellsB b) i hlt hcb W
   have hu8 : IntKind.u64.wrap (y : Int) = (y : Int) := IntWalk.u64_in _ (by omega)
   clear hy hcb
   go_wp2_with fail
   go_roundw
   case rel => exact ⟨i + 1, hlt, by go_num, ⟨((HI.out.put 0 rfl (i / 8) _ ((cellsN_set _ _ _).trans (congrArg cellsN HST.out))))⟩⟩
   case measure => simp [intOf]; omega
  ·have hdl : decide ((i : Int) < 32) = false := decide_eq_false (by omega)
   obtain rfl : i = 32 := by omega
   have HE : Aside0 (Own w.heap.size w wr [.blk g3 (cellsN (wordsAll 4 b)) 198, .blk g2 (cellsN z4) 198]) := ⟨by have h := HI.out; rwa [show (32 : Nat) = 8 * 4 from rfl, wordsU_all 4 b (by rw [HN.out])] at h⟩
   have RA : Aside0 (Arr 4 (cellsN (wordsAll 4 b))) := ⟨cellsN_arr (by simp [wordsAll])⟩
   clear HI
   go_wp2_with (first
    | fail
    | ((with_reducible refine Gd 23 ?_); go_loud ( refine OL 3 HE 0 g3 198 Try.underlying198 4 RA ?_))
    | ((with_reducible refine Gs 198 2 ?_); go_loud ( refine OS 2 23 HE 1 g2 198 (cellsN (wordsAll 4 b)) 4 R4 RA ?_; intro w3 H3))
    )
   refine bodyPost_ret (own_resultV rfl _ H3.out 1 g2 _ rfl rfl _ Try.underlying198 rfl (by rw [RA.out.1]; kernel_rfl)) rfl ?_
   exact ⟨rfl, H3.out.below⟩
end Go.Proofs.Ytocphkfkdadhaaa.H
namespace Go.Proofs.Ytocphkfkdadhaaa.H
section
variable {P : Program} {md : Region.Mode} {ops : Array Oper} {Q : Exit → Act → World → Prop} {S : World → Prop} {fuel : Nat} {listed l' : Array Bool} {a a' : Act} {w : World} {v : Value} {oi : Oper}
theorem Rd3 (i j k : Nat) {oj ok : Oper} {l2 l3 : Array Bool} {f : Nat} (h : ∀ K' : Act → World → Prop, Shut (∀ a w, S w → (S w → wpAnyH P md ops Q S fuel l' a w) → K' a w) → if Region.wanted oi (yielded ops a.tmps) = true then Oper.wp P oi a w K' Q else K' (a.put oi.dst undef) w)
 (h2 : ∀ K' : Act → World → Prop, Shut (∀ a w, S w → (S w → wpAnyH P md ops Q S fuel l2 a w) → K' a w) → if Region.wanted oj (yielded ops a.tmps) = true then Oper.wp P oj a w K' Q else K' (a.put oj.dst undef) w)
 (h3 : ∀ K' : Act → World → Prop, Shut (∀ a w, S w → (S w → wpAnyH P md ops Q S fuel l3 a w) → K' a w) → if Region.wanted ok (yielded ops a.tmps) = true then Oper.wp P ok a w K' Q else K' (a.put ok.dst undef) w) (hf : f = fuel + 1 := by rfl)
 (hi : ops[i]? = some oi := by (simp only [↓List.getElem?_toArray, ↓List.getElem?_cons_succ, ↓List.getElem?_cons_zero]; rfl))
 (hj : ops[j]? = some oj := by (simp only [↓List.getElem?_toArray, ↓List.getElem?_cons_succ, ↓List.getElem?_cons_zero]; rfl))
 (hk : ops[k]? = some ok := by (simp only [↓List.getElem?_toArray, ↓List.getElem?_cons_succ, ↓List.getElem?_cons_zero]; rfl))
 (hr : Region.ready md ops listed = [i, j, k] := by kernel_rfl)
 (hl : listed.setIfInBounds i true = l' := by ((try simp only [List.setIfInBounds_toArray, List.set_cons_zero, List.set_cons_succ]); rfl))
 (hl2 : listed.setIfInBounds j true = l2 := by ((try simp only [List.setIfInBounds_toArray, List.set_cons_zero, List.set_cons_succ]); rfl))
 (hl3 : listed.setIfInBounds k true = l3 := by ((try simp only [List.setIfInBounds_toArray, List.set_cons_zero, List.set_cons_succ]); rfl)) : wpAnyH P md ops Q S f listed a w := by
 subst hl hl2 hl3 hf
 exact wpAnyH_ready hr (by simp) (AllReadyH.cons hi h (AllReadyH.cons hj h2 (AllReadyH.cons hk h3 AllReadyH.nil)))
end
end Go.Proofs.Ytocphkfkdadhaaa.H
