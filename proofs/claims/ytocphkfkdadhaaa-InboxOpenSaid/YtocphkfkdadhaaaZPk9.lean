import Derived.Test.YtocphkfkdadhaaaZPk7
import Derived.Test.YtocphkfkdadhaaaZPk3
import Derived.Test.YtocphkfkdadhaaaZPk4
import Derived.Test.YtocphkfkdadhaaaZPk8
namespace Go.Proofs.Ytocphkfkdadhaaa.H
open Go.RowKit Go.Proofs.YtocphkfkdadhaaaW.PrintWords Go.Proofs.YtocphkfkdadhaaaW.PrintLast Go.Proofs.YtocphkfkdadhaaaW.PrintMore
set_option linter.unusedVariables false
set_option linter.unusedSimpArgs false
set_option maxHeartbeats 4000000 in
set_option maxRecDepth 100000 in
theorem rmay_any (m : MsgI) (hm : m.ok) (w : World) : Calls Try.prog 91 #[.agg (msgA m)] w fun e w' => e = .returned (.bool (mayM m)) ∧ Below w.heap.size w w' := by
 obtain ⟨_, hfr, htt, ham, hno, ⟨hky, _⟩, ⟨hnx, _⟩⟩ := hm
 obtain ⟨kd, fr, tt, am, no, ky, nx⟩ := m
 dsimp only at *
 have H0 := Aside0.mk (Own.start w)
 have HK := Aside0.mk hky
 have HN := Aside0.mk hnx
 clear hky hnx
 obtain ⟨r, hr⟩ : ∃ r, r = mayM ⟨kd, fr, tt, am, no, ky, nx⟩ := ⟨_, rfl⟩
 rw [← hr]
 simp only [mayM] at hr
 replace hr := Aside0.mk hr
 have HS1 : Aside0 (∀ j v, (vB ky)[j]? = some v → (msgA ⟨kd, fr, tt, am, no, ky, nx⟩)[5 + j]? = some v) := ⟨seg_mid rfl⟩
 have HS2 : Aside0 (∀ j v, (vB nx)[j]? = some v → (msgA ⟨kd, fr, tt, am, no, ky, nx⟩)[37 + j]? = some v) := ⟨by
  have h := seg_mid (a := [Value.int .u8 kd, Value.int .u64 fr, Value.int .u64 tt, Value.int .u64 am, Value.int .u64 no] ++ vB ky) (s := vB nx) (b := []) (o := 37) (by rw [List.length_append, vB_len, HK.out]; rfl)
  simp only [List.append_nil, List.append_assoc] at h
  exact h⟩
 have HZ1 : Aside0 ((Try.prog.info? 25).map (·.size) = some (vB ky).length) := ⟨by rw [vB_len, HK.out]; exact sizeH⟩
 have HZ2 : Aside0 ((Try.prog.info? 25).map (·.size) = some (vB nx).length) := ⟨by rw [vB_len, HN.out]; exact sizeH⟩
 go_enter Try.func91, Try.ntmps91
 go_upto_region 1 with (first
  | fail
  | ((with_reducible refine Gd 1 ?_); ( refine OB H0 92 ((msgA ⟨kd, fr, tt, am, no, ky, nx⟩)) ?_; intro g1 w1 H1 B1))
  )
 replace H1 : Aside0 (Own w.heap.size w w1 [.blk g1 (msgA ⟨kd, fr, tt, am, no, ky, nx⟩) 92]) := ⟨H1.out⟩
 clear H0 B1
 go_cut [3] (fun v3 wc => v3 = .bool (decide (no = 0) && (ky == z32) && (nx == z32)) ∧ Aside0 (Own w.heap.size w wc [.blk g1 (msgA ⟨kd, fr, tt, am, no, ky, nx⟩) 92]))
 case first =>
  by_cases h1 : no = 0
  ·have e1 : (no == 0) = true := beq_iff_eq.2 h1
   replace h1 := Aside0.mk h1
   cases h2 : (ky == z32)
   ·
    go_wp2_with (first
     | fail
     | ((with_reducible refine Gd 5 ?_); ( refine OD 4 23 H1 0 g1 4 (.int .u64 no) Try.underlying23 ?_))
     | ((with_reducible refine Gd 9 ?_); ( refine GDA 8 25 H1 0 g1 5 (vB ky) rfl (HS1.out) Try.underlying25 (HZ1.out) ?_))
     | ((with_reducible refine Gd 10 ?_); ( refine GU 25 [] (cellsB z32) rfl (builtH0) ?_))
     | ((with_reducible refine gate_dst (N := 11) rfl ?_); (refine gate_guard (by rfl) ?_); ( refine eq_H rfl 25 _ (.tmp 9) (.tmp 10) rfl (ky) (z32) rfl rfl Try.underlying25 Try.underlying5 size1B guardH (HK.out) (rfl) ?_))
     | ((with_reducible refine Gd 15 ?_); ( refine GDA 14 25 H1 0 g1 37 (vB nx) rfl (HS2.out) Try.underlying25 (HZ2.out) ?_))
     | ((with_reducible refine Gd 16 ?_); ( refine GU 25 [] (cellsB z32) rfl (builtH0) ?_))
     | ((with_reducible refine gate_dst (N := 17) rfl ?_); (refine gate_guard (by rfl) ?_); ( refine eq_H rfl 25 _ (.tmp 15) (.tmp 16) rfl (nx) (z32) rfl rfl Try.underlying25 Try.underlying5 size1B guardH (HN.out) (rfl) ?_))
     )
    go_meet
    exact ⟨by show Value.bool false = _; simp [h1.out, h2], H1⟩
   ·cases h3 : (nx == z32)
    ·
     go_wp2_with (first
      | fail
      | ((with_reducible refine Gd 5 ?_); ( refine OD 4 23 H1 0 g1 4 (.int .u64 no) Try.underlying23 ?_))
      | ((with_reducible refine Gd 9 ?_); ( refine GDA 8 25 H1 0 g1 5 (vB ky) rfl (HS1.out) Try.underlying25 (HZ1.out) ?_))
      | ((with_reducible refine Gd 10 ?_); ( refine GU 25 [] (cellsB z32) rfl (builtH0) ?_))
      | ((with_reducible refine gate_dst (N := 11) rfl ?_); (refine gate_guard (by rfl) ?_); ( refine eq_H rfl 25 _ (.tmp 9) (.tmp 10) rfl (ky) (z32) rfl rfl Try.underlying25 Try.underlying5 size1B guardH (HK.out) (rfl) ?_))
      | ((with_reducible refine Gd 15 ?_); ( refine GDA 14 25 H1 0 g1 37 (vB nx) rfl (HS2.out) Try.underlying25 (HZ2.out) ?_))
      | ((with_reducible refine Gd 16 ?_); ( refine GU 25 [] (cellsB z32) rfl (builtH0) ?_))
      | ((with_reducible refine gate_dst (N := 17) rfl ?_); (refine gate_guard (by rfl) ?_); ( refine eq_H rfl 25 _ (.tmp 15) (.tmp 16) rfl (nx) (z32) rfl rfl Try.underlying25 Try.underlying5 size1B guardH (HN.out) (rfl) ?_))
      )
     go_meet
     exact ⟨by show Value.bool false = _; simp [h1.out, h2, h3], H1⟩
    ·
     go_wp2_with (first
      | fail
      | ((with_reducible refine Gd 5 ?_); ( refine OD 4 23 H1 0 g1 4 (.int .u64 no) Try.underlying23 ?_))
      | ((with_reducible refine Gd 9 ?_); ( refine GDA 8 25 H1 0 g1 5 (vB ky) rfl (HS1.out) Try.underlying25 (HZ1.out) ?_))
      | ((with_reducible refine Gd 10 ?_); ( refine GU 25 [] (cellsB z32) rfl (builtH0) ?_))
      | ((with_reducible refine gate_dst (N := 11) rfl ?_); (refine gate_guard (by rfl) ?_); ( refine eq_H rfl 25 _ (.tmp 9) (.tmp 10) rfl (ky) (z32) rfl rfl Try.underlying25 Try.underlying5 size1B guardH (HK.out) (rfl) ?_))
      | ((with_reducible refine Gd 15 ?_); ( refine GDA 14 25 H1 0 g1 37 (vB nx) rfl (HS2.out) Try.underlying25 (HZ2.out) ?_))
      | ((with_reducible refine Gd 16 ?_); ( refine GU 25 [] (cellsB z32) rfl (builtH0) ?_))
      | ((with_reducible refine gate_dst (N := 17) rfl ?_); (refine gate_guard (by rfl) ?_); ( refine eq_H rfl 25 _ (.tmp 15) (.tmp 16) rfl (nx) (z32) rfl rfl Try.underlying25 Try.underlying5 size1B guardH (HN.out) (rfl) ?_))
      )
     go_meet
     exact ⟨by show Value.bool true = _; simp [h1.out, h2, h3], H1⟩
  ·have e1 : (no == 0) = false := beq_eq_false_iff_ne.2 h1
   replace h1 := Aside0.mk h1
   go_wp2_with (first
    | fail
    | ((with_reducible refine Gd 5 ?_); ( refine OD 4 23 H1 0 g1 4 (.int .u64 no) Try.underlying23 ?_))
    | ((with_reducible refine Gd 9 ?_); ( refine GDA 8 25 H1 0 g1 5 (vB ky) rfl (HS1.out) Try.underlying25 (HZ1.out) ?_))
    | ((with_reducible refine Gd 10 ?_); ( refine GU 25 [] (cellsB z32) rfl (builtH0) ?_))
    | ((with_reducible refine gate_dst (N := 11) rfl ?_); (refine gate_guard (by rfl) ?_); ( refine eq_H rfl 25 _ (.tmp 9) (.tmp 10) rfl (ky) (z32) rfl rfl Try.underlying25 Try.underlying5 size1B guardH (HK.out) (rfl) ?_))
    | ((with_reducible refine Gd 15 ?_); ( refine GDA 14 25 H1 0 g1 37 (vB nx) rfl (HS2.out) Try.underlying25 (HZ2.out) ?_))
    | ((with_reducible refine Gd 16 ?_); ( refine GU 25 [] (cellsB z32) rfl (builtH0) ?_))
    | ((with_reducible refine gate_dst (N := 17) rfl ?_); (refine gate_guard (by rfl) ?_); ( refine eq_H rfl 25 _ (.tmp 15) (.tmp 16) rfl (nx) (z32) rfl rfl Try.underlying25 Try.underlying5 size1B guardH (HN.out) (rfl) ?_))
    )
   go_meet
   exact ⟨by show Value.bool false = _; simp [h1.out], H1⟩
 case rest =>
  clear H1 HS1 HS2 HZ1 HZ2
  obtain ⟨rfl, H1⟩ := hcut
  replace hr : Aside0 (r = if kd = 1 then decide (fr = 0) && decide (tt < 32) && decide (0 < am) && (decide (no = 0) && (ky == z32) && (nx == z32)) else if kd = 2 then decide (fr < 32) && decide (tt < 32) else if kd = 3 then decide (fr < 32) && decide (0 < am) else false) := ⟨hr.out⟩
  generalize (decide (no = 0) && (ky == z32) && (nx == z32)) = zb at *
  by_cases h1 : kd = 1
  ·subst h1
   by_cases a0 : fr = 0
   ·
    have e0 : (fr == 0) = true := beq_iff_eq.2 a0
    by_cases a1 : tt < 32
    ·
     have e1 : decide (tt < 32) = true := decide_eq_true a1
     by_cases a2 : 0 < am
     ·
      have e2 : decide (0 < am) = true := decide_eq_true a2
      obtain rfl : r = zb := by rw [hr.out]; simp [*]
      clear hr
      go_wp2_with (first
       | fail
       | ((with_reducible refine Gd 20 ?_); ( refine OD 19 90 H1 0 g1 0 (.int .u8 1) Try.underlying90 ?_))
       | ((with_reducible refine Gd 24 ?_); ( refine OD 23 23 H1 0 g1 1 (.int .u64 fr) Try.underlying23 ?_))
       | ((with_reducible refine Gd 28 ?_); ( refine GD 27 23 H1 0 g1 2 (.int .u64 tt) Try.underlying23 ?_))
       | ((with_reducible refine Gd 33 ?_); ( refine GD 32 23 H1 0 g1 3 (.int .u64 am) Try.underlying23 ?_))
       | ((with_reducible refine Gd 42 ?_); ( refine OD 41 23 H1 0 g1 1 (.int .u64 fr) Try.underlying23 ?_))
       | ((with_reducible refine Gd 46 ?_); ( refine GD 45 23 H1 0 g1 2 (.int .u64 tt) Try.underlying23 ?_))
       | ((with_reducible refine Gd 52 ?_); ( refine OD 51 23 H1 0 g1 1 (.int .u64 fr) Try.underlying23 ?_))
       | ((with_reducible refine Gd 56 ?_); ( refine GD 55 23 H1 0 g1 3 (.int .u64 am) Try.underlying23 ?_))
       )
      go_ret
      exact ⟨by first | rfl | (simp [*]; done), H1.out.below⟩
     ·
      have e2 : decide (0 < am) = false := decide_eq_false a2
      obtain rfl : r = false := by rw [hr.out]; simp [*]
      clear hr
      go_wp2_with (first
       | fail
       | ((with_reducible refine Gd 20 ?_); ( refine OD 19 90 H1 0 g1 0 (.int .u8 1) Try.underlying90 ?_))
       | ((with_reducible refine Gd 24 ?_); ( refine OD 23 23 H1 0 g1 1 (.int .u64 fr) Try.underlying23 ?_))
       | ((with_reducible refine Gd 28 ?_); ( refine GD 27 23 H1 0 g1 2 (.int .u64 tt) Try.underlying23 ?_))
       | ((with_reducible refine Gd 33 ?_); ( refine GD 32 23 H1 0 g1 3 (.int .u64 am) Try.underlying23 ?_))
       | ((with_reducible refine Gd 42 ?_); ( refine OD 41 23 H1 0 g1 1 (.int .u64 fr) Try.underlying23 ?_))
       | ((with_reducible refine Gd 46 ?_); ( refine GD 45 23 H1 0 g1 2 (.int .u64 tt) Try.underlying23 ?_))
       | ((with_reducible refine Gd 52 ?_); ( refine OD 51 23 H1 0 g1 1 (.int .u64 fr) Try.underlying23 ?_))
       | ((with_reducible refine Gd 56 ?_); ( refine GD 55 23 H1 0 g1 3 (.int .u64 am) Try.underlying23 ?_))
       )
      go_ret
      exact ⟨by first | rfl | (simp [*]; done), H1.out.below⟩
    ·
     have e1 : decide (tt < 32) = false := decide_eq_false a1
     obtain rfl : r = false := by rw [hr.out]; simp [*]
     clear hr
     go_wp2_with (first
      | fail
      | ((with_reducible refine Gd 20 ?_); ( refine OD 19 90 H1 0 g1 0 (.int .u8 1) Try.underlying90 ?_))
      | ((with_reducible refine Gd 24 ?_); ( refine OD 23 23 H1 0 g1 1 (.int .u64 fr) Try.underlying23 ?_))
      | ((with_reducible refine Gd 28 ?_); ( refine GD 27 23 H1 0 g1 2 (.int .u64 tt) Try.underlying23 ?_))
      | ((with_reducible refine Gd 33 ?_); ( refine GD 32 23 H1 0 g1 3 (.int .u64 am) Try.underlying23 ?_))
      | ((with_reducible refine Gd 42 ?_); ( refine OD 41 23 H1 0 g1 1 (.int .u64 fr) Try.underlying23 ?_))
      | ((with_reducible refine Gd 46 ?_); ( refine GD 45 23 H1 0 g1 2 (.int .u64 tt) Try.underlying23 ?_))
      | ((with_reducible refine Gd 52 ?_); ( refine OD 51 23 H1 0 g1 1 (.int .u64 fr) Try.underlying23 ?_))
      | ((with_reducible refine Gd 56 ?_); ( refine GD 55 23 H1 0 g1 3 (.int .u64 am) Try.underlying23 ?_))
      )
     go_ret
     exact ⟨by first | rfl | (simp [*]; done), H1.out.below⟩
   ·
    have e0 : (fr == 0) = false := beq_eq_false_iff_ne.2 a0
    obtain rfl : r = false := by rw [hr.out]; simp [*]
    clear hr
    go_wp2_with (first
     | fail
     | ((with_reducible refine Gd 20 ?_); ( refine OD 19 90 H1 0 g1 0 (.int .u8 1) Try.underlying90 ?_))
     | ((with_reducible refine Gd 24 ?_); ( refine OD 23 23 H1 0 g1 1 (.int .u64 fr) Try.underlying23 ?_))
     | ((with_reducible refine Gd 28 ?_); ( refine GD 27 23 H1 0 g1 2 (.int .u64 tt) Try.underlying23 ?_))
     | ((with_reducible refine Gd 33 ?_); ( refine GD 32 23 H1 0 g1 3 (.int .u64 am) Try.underlying23 ?_))
     | ((with_reducible refine Gd 42 ?_); ( refine OD 41 23 H1 0 g1 1 (.int .u64 fr) Try.underlying23 ?_))
     | ((with_reducible refine Gd 46 ?_); ( refine GD 45 23 H1 0 g1 2 (.int .u64 tt) Try.underlying23 ?_))
     | ((with_reducible refine Gd 52 ?_); ( refine OD 51 23 H1 0 g1 1 (.int .u64 fr) Try.underlying23 ?_))
     | ((with_reducible refine Gd 56 ?_); ( refine GD 55 23 H1 0 g1 3 (.int .u64 am) Try.underlying23 ?_))
     )
    go_ret
    exact ⟨by first | rfl | (simp [*]; done), H1.out.below⟩
  by_cases h2 : kd = 2
  ·subst h2
   by_cases a0 : fr < 32
   ·
    have e0 : decide (fr < 32) = true := decide_eq_true a0
    by_cases a1 : tt < 32
    ·
     have e1 : decide (tt < 32) = true := decide_eq_true a1
     obtain rfl : r = true := by rw [hr.out]; simp [*]
     clear hr
     go_wp2_with (first
      | fail
      | ((with_reducible refine Gd 20 ?_); ( refine OD 19 90 H1 0 g1 0 (.int .u8 2) Try.underlying90 ?_))
      | ((with_reducible refine Gd 24 ?_); ( refine OD 23 23 H1 0 g1 1 (.int .u64 fr) Try.underlying23 ?_))
      | ((with_reducible refine Gd 28 ?_); ( refine GD 27 23 H1 0 g1 2 (.int .u64 tt) Try.underlying23 ?_))
      | ((with_reducible refine Gd 33 ?_); ( refine GD 32 23 H1 0 g1 3 (.int .u64 am) Try.underlying23 ?_))
      | ((with_reducible refine Gd 42 ?_); ( refine OD 41 23 H1 0 g1 1 (.int .u64 fr) Try.underlying23 ?_))
      | ((with_reducible refine Gd 46 ?_); ( refine GD 45 23 H1 0 g1 2 (.int .u64 tt) Try.underlying23 ?_))
      | ((with_reducible refine Gd 52 ?_); ( refine OD 51 23 H1 0 g1 1 (.int .u64 fr) Try.underlying23 ?_))
      | ((with_reducible refine Gd 56 ?_); ( refine GD 55 23 H1 0 g1 3 (.int .u64 am) Try.underlying23 ?_))
      )
     go_ret
     exact ⟨by first | rfl | (simp [*]; done), H1.out.below⟩
    ·
     have e1 : decide (tt < 32) = false := decide_eq_false a1
     obtain rfl : r = false := by rw [hr.out]; simp [*]
     clear hr
     go_wp2_with (first
      | fail
      | ((with_reducible refine Gd 20 ?_); ( refine OD 19 90 H1 0 g1 0 (.int .u8 2) Try.underlying90 ?_))
      | ((with_reducible refine Gd 24 ?_); ( refine OD 23 23 H1 0 g1 1 (.int .u64 fr) Try.underlying23 ?_))
      | ((with_reducible refine Gd 28 ?_); ( refine GD 27 23 H1 0 g1 2 (.int .u64 tt) Try.underlying23 ?_))
      | ((with_reducible refine Gd 33 ?_); ( refine GD 32 23 H1 0 g1 3 (.int .u64 am) Try.underlying23 ?_))
      | ((with_reducible refine Gd 42 ?_); ( refine OD 41 23 H1 0 g1 1 (.int .u64 fr) Try.underlying23 ?_))
      | ((with_reducible refine Gd 46 ?_); ( refine GD 45 23 H1 0 g1 2 (.int .u64 tt) Try.underlying23 ?_))
      | ((with_reducible refine Gd 52 ?_); ( refine OD 51 23 H1 0 g1 1 (.int .u64 fr) Try.underlying23 ?_))
      | ((with_reducible refine Gd 56 ?_); ( refine GD 55 23 H1 0 g1 3 (.int .u64 am) Try.underlying23 ?_))
      )
     go_ret
     exact ⟨by first | rfl | (simp [*]; done), H1.out.below⟩
   ·
    have e0 : decide (fr < 32) = false := decide_eq_false a0
    obtain rfl : r = false := by rw [hr.out]; simp [*]
    clear hr
    go_wp2_with (first
     | fail
     | ((with_reducible refine Gd 20 ?_); ( refine OD 19 90 H1 0 g1 0 (.int .u8 2) Try.underlying90 ?_))
     | ((with_reducible refine Gd 24 ?_); ( refine OD 23 23 H1 0 g1 1 (.int .u64 fr) Try.underlying23 ?_))
     | ((with_reducible refine Gd 28 ?_); ( refine GD 27 23 H1 0 g1 2 (.int .u64 tt) Try.underlying23 ?_))
     | ((with_reducible refine Gd 33 ?_); ( refine GD 32 23 H1 0 g1 3 (.int .u64 am) Try.underlying23 ?_))
     | ((with_reducible refine Gd 42 ?_); ( refine OD 41 23 H1 0 g1 1 (.int .u64 fr) Try.underlying23 ?_))
     | ((with_reducible refine Gd 46 ?_); ( refine GD 45 23 H1 0 g1 2 (.int .u64 tt) Try.underlying23 ?_))
     | ((with_reducible refine Gd 52 ?_); ( refine OD 51 23 H1 0 g1 1 (.int .u64 fr) Try.underlying23 ?_))
     | ((with_reducible refine Gd 56 ?_); ( refine GD 55 23 H1 0 g1 3 (.int .u64 am) Try.underlying23 ?_))
     )
    go_ret
    exact ⟨by first | rfl | (simp [*]; done), H1.out.below⟩
  by_cases h3 : kd = 3
  ·subst h3
   by_cases a0 : fr < 32
   ·
    have e0 : decide (fr < 32) = true := decide_eq_true a0
    by_cases a1 : 0 < am
    ·
     have e1 : decide (0 < am) = true := decide_eq_true a1
     obtain rfl : r = true := by rw [hr.out]; simp [*]
     clear hr
     go_wp2_with (first
      | fail
      | ((with_reducible refine Gd 20 ?_); ( refine OD 19 90 H1 0 g1 0 (.int .u8 3) Try.underlying90 ?_))
      | ((with_reducible refine Gd 24 ?_); ( refine OD 23 23 H1 0 g1 1 (.int .u64 fr) Try.underlying23 ?_))
      | ((with_reducible refine Gd 28 ?_); ( refine GD 27 23 H1 0 g1 2 (.int .u64 tt) Try.underlying23 ?_))
      | ((with_reducible refine Gd 33 ?_); ( refine GD 32 23 H1 0 g1 3 (.int .u64 am) Try.underlying23 ?_))
      | ((with_reducible refine Gd 42 ?_); ( refine OD 41 23 H1 0 g1 1 (.int .u64 fr) Try.underlying23 ?_))
      | ((with_reducible refine Gd 46 ?_); ( refine GD 45 23 H1 0 g1 2 (.int .u64 tt) Try.underlying23 ?_))
      | ((with_reducible refine Gd 52 ?_); ( refine OD 51 23 H1 0 g1 1 (.int .u64 fr) Try.underlying23 ?_))
      | ((with_reducible refine Gd 56 ?_); ( refine GD 55 23 H1 0 g1 3 (.int .u64 am) Try.underlying23 ?_))
      )
     go_ret
     exact ⟨by first | rfl | (simp [*]; done), H1.out.below⟩
    ·
     have e1 : decide (0 < am) = false := decide_eq_false a1
     obtain rfl : r = false := by rw [hr.out]; simp [*]
     clear hr
     go_wp2_with (first
      | fail
      | ((with_reducible refine Gd 20 ?_); ( refine OD 19 90 H1 0 g1 0 (.int .u8 3) Try.underlying90 ?_))
      | ((with_reducible refine Gd 24 ?_); ( refine OD 23 23 H1 0 g1 1 (.int .u64 fr) Try.underlying23 ?_))
      | ((with_reducible refine Gd 28 ?_); ( refine GD 27 23 H1 0 g1 2 (.int .u64 tt) Try.underlying23 ?_))
      | ((with_reducible refine Gd 33 ?_); ( refine GD 32 23 H1 0 g1 3 (.int .u64 am) Try.underlying23 ?_))
      | ((with_reducible refine Gd 42 ?_); ( refine OD 41 23 H1 0 g1 1 (.int .u64 fr) Try.underlying23 ?_))
      | ((with_reducible refine Gd 46 ?_); ( refine GD 45 23 H1 0 g1 2 (.int .u64 tt) Try.underlying23 ?_))
      | ((with_reducible refine Gd 52 ?_); ( refine OD 51 23 H1 0 g1 1 (.int .u64 fr) Try.underlying23 ?_))
      | ((with_reducible refine Gd 56 ?_); ( refine GD 55 23 H1 0 g1 3 (.int .u64 am) Try.underlying23 ?_))
      )
     go_ret
     exact ⟨by first | rfl | (simp [*]; done), H1.out.below⟩
   ·
    have e0 : decide (fr < 32) = false := decide_eq_false a0
    obtain rfl : r = false := by rw [hr.out]; simp [*]
    clear hr
    go_wp2_with (first
     | fail
     | ((with_reducible refine Gd 20 ?_); ( refine OD 19 90 H1 0 g1 0 (.int .u8 3) Try.underlying90 ?_))
     | ((with_reducible refine Gd 24 ?_); ( refine OD 23 23 H1 0 g1 1 (.int .u64 fr) Try.underlying23 ?_))
     | ((with_reducible refine Gd 28 ?_); ( refine GD 27 23 H1 0 g1 2 (.int .u64 tt) Try.underlying23 ?_))
     | ((with_reducible refine Gd 33 ?_); ( refine GD 32 23 H1 0 g1 3 (.int .u64 am) Try.underlying23 ?_))
     | ((with_reducible refine Gd 42 ?_); ( refine OD 41 23 H1 0 g1 1 (.int .u64 fr) Try.underlying23 ?_))
     | ((with_reducible refine Gd 46 ?_); ( refine GD 45 23 H1 0 g1 2 (.int .u64 tt) Try.underlying23 ?_))
     | ((with_reducible refine Gd 52 ?_); ( refine OD 51 23 H1 0 g1 1 (.int .u64 fr) Try.underlying23 ?_))
     | ((with_reducible refine Gd 56 ?_); ( refine GD 55 23 H1 0 g1 3 (.int .u64 am) Try.underlying23 ?_))
     )
    go_ret
    exact ⟨by first | rfl | (simp [*]; done), H1.out.below⟩
  have e1 : (kd == 1) = false := beq_eq_false_iff_ne.2 h1
  have e2 : (kd == 2) = false := beq_eq_false_iff_ne.2 h2
  have e3 : (kd == 3) = false := beq_eq_false_iff_ne.2 h3
  obtain rfl : r = false := by rw [hr.out]; simp [*]
  clear hr
  go_wp2_with (first
   | fail
   | ((with_reducible refine Gd 20 ?_); ( refine OD 19 90 H1 0 g1 0 (.int .u8 kd) Try.underlying90 ?_))
   | ((with_reducible refine Gd 24 ?_); ( refine OD 23 23 H1 0 g1 1 (.int .u64 fr) Try.underlying23 ?_))
   | ((with_reducible refine Gd 28 ?_); ( refine GD 27 23 H1 0 g1 2 (.int .u64 tt) Try.underlying23 ?_))
   | ((with_reducible refine Gd 33 ?_); ( refine GD 32 23 H1 0 g1 3 (.int .u64 am) Try.underlying23 ?_))
   | ((with_reducible refine Gd 42 ?_); ( refine OD 41 23 H1 0 g1 1 (.int .u64 fr) Try.underlying23 ?_))
   | ((with_reducible refine Gd 46 ?_); ( refine GD 45 23 H1 0 g1 2 (.int .u64 tt) Try.underlying23 ?_))
   | ((with_reducible refine Gd 52 ?_); ( refine OD 51 23 H1 0 g1 1 (.int .u64 fr) Try.underlying23 ?_))
   | ((with_reducible refine Gd 56 ?_); ( refine GD 55 23 H1 0 g1 3 (.int .u64 am) Try.underlying23 ?_))
   )
  go_ret
  exact ⟨by first | rfl | (simp [*]; done), H1.out.below⟩
end Go.Proofs.Ytocphkfkdadhaaa.H

namespace Go.Proofs.Ytocphkfkdadhaaa.H
open Go.RowKit Go.Proofs.YtocphkfkdadhaaaW.PrintWords Go.Proofs.YtocphkfkdadhaaaW.PrintLast Go.Proofs.YtocphkfkdadhaaaW.PrintMore
set_option linter.unusedVariables false
set_option linter.unusedSimpArgs false
set_option maxHeartbeats 4000000 in
set_option maxRecDepth 100000 in
theorem rread7_any (b : List Int) (A : Option Addr) (c : Nat) (w : World) (hb : ∀ x ∈ b, 0 ≤ x ∧ x ≤ 255) (hC : Kd.C kB w A b.length b) (hc : b.length ≤ c) :
 Calls Try.prog 86 #[.slice A b.length c] w fun e w' => e = .returned (.tuple #[.agg (msgA (readM b).1), .int .i64 (readM b).2]) ∧ Below w.heap.size w w' := by
 have H0 := Aside0.mk (Own.start w)
 have R13 : Aside0 (Arr 13 (cellsN z13)) := ⟨cellsN_arr rfl⟩
 have RZ : Aside0 (Arr 69 (msgA zeroM)) := ⟨msgA_arr rfl rfl⟩
 have HWD := Aside0.mk (fun W (h : Below w.heap.size w W) => rwords_any b A c W hb (Kd.C_below hC h) hc)
 obtain ⟨r, hr⟩ : ∃ r, r = readM b := ⟨_, rfl⟩
 rw [← hr]
 by_cases h1 : b.length = 104
 case neg =>
  have hz : ∃ e : Int, wordsM b = (z13, e) ∧ r = (zeroM, e) ∧ (e == 0) = false := by
   rw [hr]
   unfold wordsM readM
   by_cases h2 : b.length < 104
   ·exact ⟨7, by rw [if_pos h2], by rw [if_pos h2], rfl⟩
   ·exact ⟨8, by rw [if_neg h2, if_pos (by omega)], by rw [if_neg h2, if_pos (by omega)], rfl⟩
  obtain ⟨e, hw, rfl, he⟩ := hz
  rw [hw] at HWD
  clear hr hw h1 hC hc hb
  generalize b.length = n at *
  have hbn : (e != 0) = true := by simp [bne, he]
  go_enter Try.func86, Try.ntmps86
  go_upto_if 13 with (first
   | fail
   | ((with_reducible refine Gd 2 ?_); ( refine OA H0 92 (msgA zeroM) 69 ?_; intro g2 w1 H1 B1))
   | (go_at_call 131; refine (HWD.out _ H1.out.below).mono ?_; rintro e w3 ⟨rfl, hB3⟩; have H3 := Aside0.mk (H1.out.step hB3); clear hB3)
   | ((with_reducible refine Gd 4 ?_); ( refine OA H3 194 (cellsN z13) 13 ?_; intro g4 w4 H4 B4))
   | ((with_reducible refine Gs 194 4 ?_); ( refine OS 4 10 H4 0 g4 194 (cellsN z13) 13 R13 R13 ?_; intro w5 H5))
   )
  go_wp2_with (first
   | fail
   | ((with_reducible refine Gd 14 ?_); ( refine OU 92 [] (msgA zeroM) rfl (builtM0) ?_))
   | ((with_reducible refine Gs 92 2 ?_); ( refine OS 2 14 H5 1 g2 92 (msgA zeroM) 69 RZ RZ ?_; intro w6 H6))
   )
  refine bodyPost_ret (own_resultV_t rfl _ H6.out 1 g2 _ rfl rfl _ Try.underlying92 rfl (sizeM_of (msgA_size rfl rfl)) _ rfl) rfl ?_
  exact ⟨rfl, H6.out.below⟩
 have HLN := Aside0.mk h1
 have HOK := Aside0.mk (fieldsOfM_ok hb h1)
 have HKY := Aside0.mk (bytes_key hb h1)
 have HWL := Aside0.mk (wordsAll_lt 13 b hb)
 have HFM : Aside0 (fieldsOfM b = ⟨((wordsAll 13 b).getD 0 0 : Nat), ((wordsAll 13 b).getD 1 0 : Nat), ((wordsAll 13 b).getD 2 0 : Nat), ((wordsAll 13 b).getD 3 0 : Nat), ((wordsAll 13 b).getD 4 0 : Nat), (b.drop 40).take 32, (b.drop 72).take 32⟩) := ⟨rfl⟩
 unfold readM at hr
 rw [if_neg (by omega), if_neg (by omega)] at hr
 rw [readM_len h1, h1] at HWD
 rw [h1]
 have HR := Aside0.mk hr
 have hwl : (wordsAll 13 b).length = 13 := by simp [wordsAll]
 clear hr hC hc hb h1
 generalize fieldsOfM b = m at *
 generalize (b.drop 40).take 32 = ky at *
 generalize (b.drop 72).take 32 = nx at *
 generalize wordsAll 13 b = ws at *
 obtain ⟨a0, a1, a2, a3, a4, a5, a6, a7, a8, a9, a10, a11, a12, rfl⟩ := thirteen hwl
 clear hwl HLN
 replace HFM : Aside0 (m = ⟨(a0 : Int), (a1 : Int), (a2 : Int), (a3 : Int), (a4 : Int), ky, nx⟩) := HFM
 replace HKY : Aside0 (bytesOf [a5, a6, a7, a8] = ky ∧ bytesOf [a9, a10, a11, a12] = nx) := HKY
 obtain rfl := HFM.out
 clear HFM
 have RW : Aside0 (Arr 13 (cellsN [a0, a1, a2, a3, a4, a5, a6, a7, a8, a9, a10, a11, a12])) := ⟨cellsN_arr rfl⟩
 have hu (x : Nat) (h : x ∈ [a0, a1, a2, a3, a4, a5, a6, a7, a8, a9, a10, a11, a12]) := HWL.out x h
 have HF1 : Aside0 (∀ W, Calls Try.prog 132 #[.agg #[.int .u64 (a5 : Int), .int .u64 (a6 : Int), .int .u64 (a7 : Int), .int .u64 (a8 : Int)]] W fun e w' => e = .returned (.agg (cellsB ky)) ∧ Below W.heap.size W w') := ⟨fun W => by
  have h := rfrom_any [a5, a6, a7, a8] rfl (fun x hx => hu x (by simp only [List.mem_cons, List.not_mem_nil, or_false] at hx ⊢; omega)) W
  rw [HKY.out.1] at h
  exact h⟩
 have HF2 : Aside0 (∀ W, Calls Try.prog 132 #[.agg #[.int .u64 (a9 : Int), .int .u64 (a10 : Int), .int .u64 (a11 : Int), .int .u64 (a12 : Int)]] W fun e w' => e = .returned (.agg (cellsB nx)) ∧ Below W.heap.size W w') := ⟨fun W => by
  have h := rfrom_any [a9, a10, a11, a12] rfl (fun x hx => hu x (by simp only [List.mem_cons, List.not_mem_nil, or_false] at hx ⊢; omega)) W
  rw [HKY.out.2] at h
  exact h⟩
 have ha0 := hu a0 (by simp)
 have HKY0 := HKY
 clear HWL HKY hu
 have hkl : ky.length = 32 := by rw [← HKY0.out.1, bytesOf_len]; rfl
 have hnl : nx.length = 32 := by rw [← HKY0.out.2, bytesOf_len]; rfl
 have RK : Aside0 (ky.length = 32) := ⟨hkl⟩
 have RN : Aside0 (nx.length = 32) := ⟨hnl⟩
 obtain ⟨kq, hkq⟩ : ∃ kq, kq = IntKind.u8.wrap (a0 : Int) := ⟨_, rfl⟩
 have HKQ := Aside0.mk hkq
 have hcv : IntKind.u8.wrap (a0 : Int) = kq := hkq.symm
 clear hkq
 have RM : Aside0 (Arr 69 (msgA ⟨kq, (a1 : Int), (a2 : Int), (a3 : Int), (a4 : Int), ky, nx⟩)) := ⟨msgA_arr hkl hnl⟩
 have RM1 : Aside0 (∀ v ∈ (msgA ⟨kq, (a1 : Int), (a2 : Int), (a3 : Int), (a4 : Int), ky, nx⟩).toList, v.oneCell' = true) := ⟨fun v hv => Array.all_eq_true_iff_forall_mem.1 RM.out.2 v (by simpa using hv)⟩
 clear hkl hnl HKY0
 go_enter Try.func86, Try.ntmps86
 go_upto_if 13 with (first
  | fail
  | ((with_reducible refine Gd 2 ?_); ( refine OA H0 92 (msgA zeroM) 69 ?_; intro g2 w1 H1 B1))
  | (go_at_call 131; refine (HWD.out _ H1.out.below).mono ?_; rintro e w3 ⟨rfl, hB3⟩; have H3 := Aside0.mk (H1.out.step hB3); clear hB3)
  | ((with_reducible refine Gd 4 ?_); ( refine OA H3 194 (cellsN z13) 13 ?_; intro g4 w4 H4 B4))
  | ((with_reducible refine Gs 194 4 ?_); ( refine OS 4 10 H4 0 g4 194 (cellsN [a0, a1, a2, a3, a4, a5, a6, a7, a8, a9, a10, a11, a12]) 13 R13 RW ?_; intro w5 H5))
  )
 go_upto_region 4 with fail
 clear H0 H1 H3 H4 HWD B1 B4
 go_cut [6] (fun v6 wc => ∃ g6 : Nat, v6 = .pointer (some ⟨g6, 0, none⟩) ∧ Aside0 (Own w.heap.size w wc [.blk g6 (msgA ⟨kq, (a1 : Int), (a2 : Int), (a3 : Int), (a4 : Int), ky, nx⟩) 92, .blk g4 (cellsN [a0, a1, a2, a3, a4, a5, a6, a7, a8, a9, a10, a11, a12]) 194, .blk g2 (msgA zeroM) 92]))
 case first =>
  refine St (fun W => W.cell? ⟨g4, 0, none⟩ = some (.int .u64 (a0 : Int)) ∧ W.cell? ⟨g4, 1, none⟩ = some (.int .u64 (a1 : Int)) ∧ W.cell? ⟨g4, 2, none⟩ = some (.int .u64 (a2 : Int)) ∧ W.cell? ⟨g4, 3, none⟩ = some (.int .u64 (a3 : Int)) ∧ W.cell? ⟨g4, 4, none⟩ = some (.int .u64 (a4 : Int)) ∧ W.cell? ⟨g4, 5, none⟩ = some (.int .u64 (a5 : Int)) ∧ W.cell? ⟨g4, 6, none⟩ = some (.int .u64 (a6 : Int)) ∧ W.cell? ⟨g4, 7, none⟩ = some (.int .u64 (a7 : Int)) ∧ W.cell? ⟨g4, 8, none⟩ = some (.int .u64 (a8 : Int)) ∧ W.cell? ⟨g4, 9, none⟩ = some (.int .u64 (a9 : Int)) ∧ W.cell? ⟨g4, 10, none⟩ = some (.int .u64 (a10 : Int)) ∧ W.cell? ⟨g4, 11, none⟩ = some (.int .u64 (a11 : Int)) ∧ W.cell? ⟨g4, 12, none⟩ = some (.int .u64 (a12 : Int))) (fun hHeld => ?_) (by exact ⟨H5.out.drew.cell 0 rfl 0 rfl, H5.out.drew.cell 0 rfl 1 rfl, H5.out.drew.cell 0 rfl 2 rfl, H5.out.drew.cell 0 rfl 3 rfl, H5.out.drew.cell 0 rfl 4 rfl, H5.out.drew.cell 0 rfl 5 rfl, H5.out.drew.cell 0 rfl 6 rfl, H5.out.drew.cell 0 rfl 7 rfl, H5.out.drew.cell 0 rfl 8 rfl, H5.out.drew.cell 0 rfl 9 rfl, H5.out.drew.cell 0 rfl 10 rfl, H5.out.drew.cell 0 rfl 11 rfl, H5.out.drew.cell 0 rfl 12 rfl⟩)
  refine Tk 0 ?_
  refine Tk 1 ?_
  refine Tk 2 ?_
  refine Tk 3 ?_
  refine Tk 4 ?_
  refine Tk 5 ?_
  refine Tk 6 ?_
  refine Tk 7 ?_
  refine Tk 8 ?_
  refine Tk 9 ?_
  refine Tk 10 ?_
  refine Tk 11 ?_
  refine Tk 12 ?_
  refine Tk 13 ?_
  refine Tk 14 ?_
  refine Tk 15 ?_
  refine Tk 16 ?_
  refine Tk 17 ?_
  refine Tk 18 ?_
  refine Tk 19 ?_
  refine Tk 21 ?_
  refine Tk 22 ?_
  refine Tk 23 ?_
  refine Tk 24 ?_
  refine Tk 25 ?_
  refine Tk 26 ?_
  refine Tk 27 ?_
  refine Tk 28 ?_
  refine Tk 29 ?_
  have H6 := Aside0.mk H5.out.drew
  generalize w5.drew = wd at *
  refine Rd2 20 32 (fun K hK => ?_) fun K hK => ?_
  ·
   go_simp
   refine (HF1.out _).mono ?_
   rintro e w7 ⟨rfl, hBx⟩
   have H7 := Aside0.mk (H6.out.step hBx)
   clear hBx
   go_wp2_with fail
   refine Ag hK (fun hHeld => ?_) (by exact ⟨H7.out.cell 0 rfl 0 rfl, H7.out.cell 0 rfl 1 rfl, H7.out.cell 0 rfl 2 rfl, H7.out.cell 0 rfl 3 rfl, H7.out.cell 0 rfl 4 rfl, H7.out.cell 0 rfl 5 rfl, H7.out.cell 0 rfl 6 rfl, H7.out.cell 0 rfl 7 rfl, H7.out.cell 0 rfl 8 rfl, H7.out.cell 0 rfl 9 rfl, H7.out.cell 0 rfl 10 rfl, H7.out.cell 0 rfl 11 rfl, H7.out.cell 0 rfl 12 rfl⟩)
   clear hK K
   refine Rd2 30 32 (fun K hK => ?_) fun K hK => ?_
   ·
    go_simp
    refine (HF2.out _).mono ?_
    rintro e w8 ⟨rfl, hBx⟩
    have H8 := Aside0.mk (H7.out.step hBx)
    clear hBx
    go_wp2_with fail
    refine Ag hK (fun hHeld => ?_) (by exact ⟨H8.out.cell 0 rfl 0 rfl, H8.out.cell 0 rfl 1 rfl, H8.out.cell 0 rfl 2 rfl, H8.out.cell 0 rfl 3 rfl, H8.out.cell 0 rfl 4 rfl, H8.out.cell 0 rfl 5 rfl, H8.out.cell 0 rfl 6 rfl, H8.out.cell 0 rfl 7 rfl, H8.out.cell 0 rfl 8 rfl, H8.out.cell 0 rfl 9 rfl, H8.out.cell 0 rfl 10 rfl, H8.out.cell 0 rfl 11 rfl, H8.out.cell 0 rfl 12 rfl⟩)
    clear hK K
    refine Ty 31 (.agg (msgA ⟨kq, (a1 : Int), (a2 : Int), (a3 : Int), (a4 : Int), ky, nx⟩)) ?_ ?_
    ·exact yields_build (by rfl) 92 [(0, .tmp 18), (1, .tmp 20), (2, .tmp 22), (3, .tmp 24), (4, .tmp 26), (5, .tmp 36), (6, .tmp 46)] (by rfl) _ (by rfl) _ (builtM kq (a1 : Int) (a2 : Int) (a3 : Int) (a4 : Int) ky nx RK.out RN.out)
    refine Rd 32 fun K hK => ?_
    refine own_alloc_step H8.out (by rfl) (N := 6) rfl (t := 92) rfl (msgA zeroM) 69 (by kernel_rfl) ?_; intro g6 w9 H9; replace H9 := Aside0.mk H9
    refine Ag hK (fun hHeld => ?_) (by exact ⟨H9.out.cell 1 rfl 0 rfl, H9.out.cell 1 rfl 1 rfl, H9.out.cell 1 rfl 2 rfl, H9.out.cell 1 rfl 3 rfl, H9.out.cell 1 rfl 4 rfl, H9.out.cell 1 rfl 5 rfl, H9.out.cell 1 rfl 6 rfl, H9.out.cell 1 rfl 7 rfl, H9.out.cell 1 rfl 8 rfl, H9.out.cell 1 rfl 9 rfl, H9.out.cell 1 rfl 10 rfl, H9.out.cell 1 rfl 11 rfl, H9.out.cell 1 rfl 12 rfl⟩)
    clear hK K
    refine Rd 33 fun K hK => ?_
    refine own_st_step H9.out 0 g6 _ (msgA ⟨kq, (a1 : Int), (a2 : Int), (a3 : Int), (a4 : Int), ky, nx⟩) 92 (by rfl) (by rfl) 92 (.tmp 6) _ rfl 0 ((msgA ⟨kq, (a1 : Int), (a2 : Int), (a3 : Int), (a4 : Int), ky, nx⟩).toList) (.agg (msgA ⟨kq, (a1 : Int), (a2 : Int), (a3 : Int), (a4 : Int), ky, nx⟩)) (by rfl) (by rfl) (by rfl) (by rw [Array.length_toList, RM.out.1, RZ.out.1]; decide) (by rw [Array.length_toList, RM.out.1]; exact sizeM) (by exact RM1.out) (by exact spl_all (by rw [Array.length_toList, Array.length_toList, RM.out.1, RZ.out.1])) ?_; intro wz HZ; replace HZ := Aside0.mk HZ
    refine Ag hK (fun hHeld => ?_) (by exact ⟨HZ.out.cell 1 rfl 0 rfl, HZ.out.cell 1 rfl 1 rfl, HZ.out.cell 1 rfl 2 rfl, HZ.out.cell 1 rfl 3 rfl, HZ.out.cell 1 rfl 4 rfl, HZ.out.cell 1 rfl 5 rfl, HZ.out.cell 1 rfl 6 rfl, HZ.out.cell 1 rfl 7 rfl, HZ.out.cell 1 rfl 8 rfl, HZ.out.cell 1 rfl 9 rfl, HZ.out.cell 1 rfl 10 rfl, HZ.out.cell 1 rfl 11 rfl, HZ.out.cell 1 rfl 12 rfl⟩)
    clear hK K
    refine Dn ?_
    go_wp2_with fail
    go_meet
    exact ⟨g6, rfl, HZ⟩
   ·
    refine own_alloc_step H7.out (by rfl) (N := 6) rfl (t := 92) rfl (msgA zeroM) 69 (by kernel_rfl) ?_; intro g6 w8 H8; replace H8 := Aside0.mk H8
    refine Ag hK (fun hHeld => ?_) (by exact ⟨H8.out.cell 1 rfl 0 rfl, H8.out.cell 1 rfl 1 rfl, H8.out.cell 1 rfl 2 rfl, H8.out.cell 1 rfl 3 rfl, H8.out.cell 1 rfl 4 rfl, H8.out.cell 1 rfl 5 rfl, H8.out.cell 1 rfl 6 rfl, H8.out.cell 1 rfl 7 rfl, H8.out.cell 1 rfl 8 rfl, H8.out.cell 1 rfl 9 rfl, H8.out.cell 1 rfl 10 rfl, H8.out.cell 1 rfl 11 rfl, H8.out.cell 1 rfl 12 rfl⟩)
    clear hK K
    refine Rd 30 fun K hK => ?_
    go_simp
    refine (HF2.out _).mono ?_
    rintro e w9 ⟨rfl, hBx⟩
    have H9 := Aside0.mk (H8.out.step hBx)
    clear hBx
    go_wp2_with fail
    refine Ag hK (fun hHeld => ?_) (by exact ⟨H9.out.cell 1 rfl 0 rfl, H9.out.cell 1 rfl 1 rfl, H9.out.cell 1 rfl 2 rfl, H9.out.cell 1 rfl 3 rfl, H9.out.cell 1 rfl 4 rfl, H9.out.cell 1 rfl 5 rfl, H9.out.cell 1 rfl 6 rfl, H9.out.cell 1 rfl 7 rfl, H9.out.cell 1 rfl 8 rfl, H9.out.cell 1 rfl 9 rfl, H9.out.cell 1 rfl 10 rfl, H9.out.cell 1 rfl 11 rfl, H9.out.cell 1 rfl 12 rfl⟩)
    clear hK K
    refine Ty 31 (.agg (msgA ⟨kq, (a1 : Int), (a2 : Int), (a3 : Int), (a4 : Int), ky, nx⟩)) ?_ ?_
    ·exact yields_build (by rfl) 92 [(0, .tmp 18), (1, .tmp 20), (2, .tmp 22), (3, .tmp 24), (4, .tmp 26), (5, .tmp 36), (6, .tmp 46)] (by rfl) _ (by rfl) _ (builtM kq (a1 : Int) (a2 : Int) (a3 : Int) (a4 : Int) ky nx RK.out RN.out)
    refine Rd 33 fun K hK => ?_
    refine own_st_step H9.out 0 g6 _ (msgA ⟨kq, (a1 : Int), (a2 : Int), (a3 : Int), (a4 : Int), ky, nx⟩) 92 (by rfl) (by rfl) 92 (.tmp 6) _ rfl 0 ((msgA ⟨kq, (a1 : Int), (a2 : Int), (a3 : Int), (a4 : Int), ky, nx⟩).toList) (.agg (msgA ⟨kq, (a1 : Int), (a2 : Int), (a3 : Int), (a4 : Int), ky, nx⟩)) (by rfl) (by rfl) (by rfl) (by rw [Array.length_toList, RM.out.1, RZ.out.1]; decide) (by rw [Array.length_toList, RM.out.1]; exact sizeM) (by exact RM1.out) (by exact spl_all (by rw [Array.length_toList, Array.length_toList, RM.out.1, RZ.out.1])) ?_; intro wz HZ; replace HZ := Aside0.mk HZ
    refine Ag hK (fun hHeld => ?_) (by exact ⟨HZ.out.cell 1 rfl 0 rfl, HZ.out.cell 1 rfl 1 rfl, HZ.out.cell 1 rfl 2 rfl, HZ.out.cell 1 rfl 3 rfl, HZ.out.cell 1 rfl 4 rfl, HZ.out.cell 1 rfl 5 rfl, HZ.out.cell 1 rfl 6 rfl, HZ.out.cell 1 rfl 7 rfl, HZ.out.cell 1 rfl 8 rfl, HZ.out.cell 1 rfl 9 rfl, HZ.out.cell 1 rfl 10 rfl, HZ.out.cell 1 rfl 11 rfl, HZ.out.cell 1 rfl 12 rfl⟩)
    clear hK K
    refine Dn ?_
    go_wp2_with fail
    go_meet
    exact ⟨g6, rfl, HZ⟩
  ·
   refine own_alloc_step H6.out (by rfl) (N := 6) rfl (t := 92) rfl (msgA zeroM) 69 (by kernel_rfl) ?_; intro g6 w7 H7; replace H7 := Aside0.mk H7
   refine Ag hK (fun hHeld => ?_) (by exact ⟨H7.out.cell 1 rfl 0 rfl, H7.out.cell 1 rfl 1 rfl, H7.out.cell 1 rfl 2 rfl, H7.out.cell 1 rfl 3 rfl, H7.out.cell 1 rfl 4 rfl, H7.out.cell 1 rfl 5 rfl, H7.out.cell 1 rfl 6 rfl, H7.out.cell 1 rfl 7 rfl, H7.out.cell 1 rfl 8 rfl, H7.out.cell 1 rfl 9 rfl, H7.out.cell 1 rfl 10 rfl, H7.out.cell 1 rfl 11 rfl, H7.out.cell 1 rfl 12 rfl⟩)
   clear hK K
   refine Rd 20 fun K hK => ?_
   go_simp
   refine (HF1.out _).mono ?_
   rintro e w8 ⟨rfl, hBx⟩
   have H8 := Aside0.mk (H7.out.step hBx)
   clear hBx
   go_wp2_with fail
   refine Ag hK (fun hHeld => ?_) (by exact ⟨H8.out.cell 1 rfl 0 rfl, H8.out.cell 1 rfl 1 rfl, H8.out.cell 1 rfl 2 rfl, H8.out.cell 1 rfl 3 rfl, H8.out.cell 1 rfl 4 rfl, H8.out.cell 1 rfl 5 rfl, H8.out.cell 1 rfl 6 rfl, H8.out.cell 1 rfl 7 rfl, H8.out.cell 1 rfl 8 rfl, H8.out.cell 1 rfl 9 rfl, H8.out.cell 1 rfl 10 rfl, H8.out.cell 1 rfl 11 rfl, H8.out.cell 1 rfl 12 rfl⟩)
   clear hK K
   refine Rd 30 fun K hK => ?_
   go_simp
   refine (HF2.out _).mono ?_
   rintro e w9 ⟨rfl, hBx⟩
   have H9 := Aside0.mk (H8.out.step hBx)
   clear hBx
   go_wp2_with fail
   refine Ag hK (fun hHeld => ?_) (by exact ⟨H9.out.cell 1 rfl 0 rfl, H9.out.cell 1 rfl 1 rfl, H9.out.cell 1 rfl 2 rfl, H9.out.cell 1 rfl 3 rfl, H9.out.cell 1 rfl 4 rfl, H9.out.cell 1 rfl 5 rfl, H9.out.cell 1 rfl 6 rfl, H9.out.cell 1 rfl 7 rfl, H9.out.cell 1 rfl 8 rfl, H9.out.cell 1 rfl 9 rfl, H9.out.cell 1 rfl 10 rfl, H9.out.cell 1 rfl 11 rfl, H9.out.cell 1 rfl 12 rfl⟩)
   clear hK K
   refine Ty 31 (.agg (msgA ⟨kq, (a1 : Int), (a2 : Int), (a3 : Int), (a4 : Int), ky, nx⟩)) ?_ ?_
   ·exact yields_build (by rfl) 92 [(0, .tmp 18), (1, .tmp 20), (2, .tmp 22), (3, .tmp 24), (4, .tmp 26), (5, .tmp 36), (6, .tmp 46)] (by rfl) _ (by rfl) _ (builtM kq (a1 : Int) (a2 : Int) (a3 : Int) (a4 : Int) ky nx RK.out RN.out)
   refine Rd 33 fun K hK => ?_
   refine own_st_step H9.out 0 g6 _ (msgA ⟨kq, (a1 : Int), (a2 : Int), (a3 : Int), (a4 : Int), ky, nx⟩) 92 (by rfl) (by rfl) 92 (.tmp 6) _ rfl 0 ((msgA ⟨kq, (a1 : Int), (a2 : Int), (a3 : Int), (a4 : Int), ky, nx⟩).toList) (.agg (msgA ⟨kq, (a1 : Int), (a2 : Int), (a3 : Int), (a4 : Int), ky, nx⟩)) (by rfl) (by rfl) (by rfl) (by rw [Array.length_toList, RM.out.1, RZ.out.1]; decide) (by rw [Array.length_toList, RM.out.1]; exact sizeM) (by exact RM1.out) (by exact spl_all (by rw [Array.length_toList, Array.length_toList, RM.out.1, RZ.out.1])) ?_; intro wz HZ; replace HZ := Aside0.mk HZ
   refine Ag hK (fun hHeld => ?_) (by exact ⟨HZ.out.cell 1 rfl 0 rfl, HZ.out.cell 1 rfl 1 rfl, HZ.out.cell 1 rfl 2 rfl, HZ.out.cell 1 rfl 3 rfl, HZ.out.cell 1 rfl 4 rfl, HZ.out.cell 1 rfl 5 rfl, HZ.out.cell 1 rfl 6 rfl, HZ.out.cell 1 rfl 7 rfl, HZ.out.cell 1 rfl 8 rfl, HZ.out.cell 1 rfl 9 rfl, HZ.out.cell 1 rfl 10 rfl, HZ.out.cell 1 rfl 11 rfl, HZ.out.cell 1 rfl 12 rfl⟩)
   clear hK K
   refine Dn ?_
   go_wp2_with fail
   go_meet
   exact ⟨g6, rfl, HZ⟩
 case rest =>
  obtain ⟨g6, rfl, HC0⟩ := hcut
  have k0 : ∀ W, Own w.heap.size w W [.blk g6 (msgA ⟨kq, (a1 : Int), (a2 : Int), (a3 : Int), (a4 : Int), ky, nx⟩) 92, .blk g4 (cellsN [a0, a1, a2, a3, a4, a5, a6, a7, a8, a9, a10, a11, a12]) 194, .blk g2 (msgA zeroM) 92] → W.cell? ⟨g4, 0, none⟩ = some (.int .u64 (a0 : Int)) := fun W h => h.cell 1 rfl 0 rfl
  replace k0 := k0 _ HC0.out
  clear H5 HF1 HF2 RK RN RM1 hcv
  by_cases h3 : 3 < a0
  ·have hd : decide (3 < (a0 : Int)) = true := decide_eq_true (by omega)
   obtain rfl : r = (zeroM, 8) := by rw [HR.out, if_pos (show (3 : Int) < (a0 : Int) by omega)]
   clear HR HOK
   go_wp2_with (first
    | fail
    | ((with_reducible refine Gd 56 ?_); ( refine OU 92 [] (msgA zeroM) rfl (builtM0) ?_))
    | ((with_reducible refine Gs 92 2 ?_); ( refine OS 2 56 HC0 2 g2 92 (msgA zeroM) 69 RZ RZ ?_; intro w9 H9))
    )
   refine bodyPost_ret (own_resultV_t rfl _ H9.out 2 g2 _ rfl rfl _ Try.underlying92 rfl (sizeM_of (msgA_size rfl rfl)) _ rfl) rfl ?_
   exact ⟨rfl, H9.out.below⟩
  have hd : decide (3 < (a0 : Int)) = false := decide_eq_false (by omega)
  have hok := HOK.out (by omega)
  rw [if_neg (show ¬ (3 : Int) < (a0 : Int) by omega)] at HR
  obtain rfl : kq = (a0 : Int) := by rw [HKQ.out, IntKind.wrap_u8]; omega
  clear HOK HKQ
  have HMY := Aside0.mk (fun W => rmay_any ⟨(a0 : Int), (a1 : Int), (a2 : Int), (a3 : Int), (a4 : Int), ky, nx⟩ hok W)
  clear hok
  cases hmay : mayM ⟨(a0 : Int), (a1 : Int), (a2 : Int), (a3 : Int), (a4 : Int), ky, nx⟩
  ·obtain rfl : r = (zeroM, 8) := by rw [HR.out, hmay]; rfl
   clear HR
   rw [hmay] at HMY
   clear hmay
   go_wp2_with (first
    | fail
    | ((with_reducible refine Gd 52 ?_); ( refine GV 6 HC0 0 g6 92 rfl Try.underlying92 (sizeM_of RM.out.1) ?_))
    | (go_at_call 91; refine (HMY.out _).mono ?_; rintro e w8 ⟨rfl, hB8⟩; have H8 := Aside0.mk (HC0.out.step hB8); clear hB8)
    | ((with_reducible refine Gd 56 ?_); ( refine OU 92 [] (msgA zeroM) rfl (builtM0) ?_))
    | ((with_reducible refine Gs 92 2 ?_); ( refine OS 2 56 H8 2 g2 92 (msgA zeroM) 69 RZ RZ ?_; intro w9 H9))
    )
   refine bodyPost_ret (own_resultV_t rfl _ H9.out 2 g2 _ rfl rfl _ Try.underlying92 rfl (sizeM_of (msgA_size rfl rfl)) _ rfl) rfl ?_
   exact ⟨rfl, H9.out.below⟩
  ·obtain rfl : r = (⟨(a0 : Int), (a1 : Int), (a2 : Int), (a3 : Int), (a4 : Int), ky, nx⟩, 0) := by rw [HR.out, hmay]; rfl
   clear HR
   rw [hmay] at HMY
   clear hmay
   go_wp2_with (first
    | fail
    | ((with_reducible refine Gd 52 ?_); ( refine GV 6 HC0 0 g6 92 rfl Try.underlying92 (sizeM_of RM.out.1) ?_))
    | (go_at_call 91; refine (HMY.out _).mono ?_; rintro e w8 ⟨rfl, hB8⟩; have H8 := Aside0.mk (HC0.out.step hB8); clear hB8)
    | ((with_reducible refine Gd 57 ?_); ( refine OV 6 H8 0 g6 92 rfl Try.underlying92 (sizeM_of RM.out.1) ?_))
    | ((with_reducible refine Gs 92 2 ?_); ( refine OS 2 57 H8 2 g2 92 (msgA ⟨(a0 : Int), (a1 : Int), (a2 : Int), (a3 : Int), (a4 : Int), ky, nx⟩) 69 RZ RM ?_; intro w9 H9))
    )
   refine bodyPost_ret (own_resultV_t rfl _ H9.out 2 g2 _ rfl rfl _ Try.underlying92 rfl (sizeM_of RM.out.1) _ rfl) rfl ?_
   exact ⟨rfl, H9.out.below⟩
set_option maxHeartbeats 4000000 in
set_option maxRecDepth 100000 in
theorem brings_any (b : List Int) (A : Option Addr) (c : Nat) (w : World) (hb : ∀ x ∈ b, 0 ≤ x ∧ x ≤ 255) (hC : Kd.C kB w A b.length b) (hc : b.length ≤ c) :
 Calls Try.prog 36 #[.slice A b.length c] w fun e w' => e = .returned (.bool (depB b)) ∧ Below w.heap.size w w' := by
 have H0 := Aside0.mk (Own.start w)
 have RZ : Aside0 (Arr 69 (msgA zeroM)) := ⟨msgA_arr rfl rfl⟩
 have HRD := Aside0.mk (fun W (h : Below w.heap.size w W) => rread7_any b A c W hb (Kd.C_below hC h) hc)
 have hsz := readM_size b hb
 have RM : Aside0 (Arr 69 (msgA (readM b).1)) := ⟨msgA_arr hsz.1 hsz.2⟩
 obtain ⟨r, hr⟩ : ∃ r, r = depB b := ⟨_, rfl⟩
 rw [← hr]
 unfold depB at hr
 clear hC hc hb hsz
 generalize b.length = n at *
 generalize (readM b).2 = er at *
 generalize (readM b).1 = m at *
 obtain ⟨kd, fr, tt, am, no, ky, nx⟩ := m
 dsimp only at hr
 by_cases h0 : er = 0
 ·subst h0
  rw [decide_eq_true rfl, Bool.true_and] at hr
  have hk : (kd == 1) = r := by rw [hr]; rfl
  clear hr
  go_enter Try.func36, Try.ntmps36
  go_wp2_with (first
   | fail
   | (go_at_call 86; refine (HRD.out _ H0.out.below).mono ?_; rintro e w1 ⟨rfl, hB1⟩; have H1 := Aside0.mk (H0.out.step hB1); clear hB1)
   | ((with_reducible refine Gd 3 ?_); ( refine OA H1 92 (msgA zeroM) 69 ?_; intro g3 w2 H2 B2))
   | ((with_reducible refine Gs 92 3 ?_); ( refine OS 3 8 H2 0 g3 92 (msgA ⟨kd, fr, tt, am, no, ky, nx⟩) 69 RZ RM ?_; intro w3 H3))
   | ((with_reducible refine Gd 14 ?_); ( refine GD 13 90 H3 0 g3 0 (.int .u8 kd) Try.underlying90 ?_))
   )
  go_ret
  exact ⟨rfl, H3.out.below⟩
 ·have he : (er == 0) = false := beq_eq_false_iff_ne.2 h0
  obtain rfl : r = false := by rw [hr, decide_eq_false h0]; rfl
  clear hr h0
  go_enter Try.func36, Try.ntmps36
  go_wp2_with (first
   | fail
   | (go_at_call 86; refine (HRD.out _ H0.out.below).mono ?_; rintro e w1 ⟨rfl, hB1⟩; have H1 := Aside0.mk (H0.out.step hB1); clear hB1)
   | ((with_reducible refine Gd 3 ?_); ( refine OA H1 92 (msgA zeroM) 69 ?_; intro g3 w2 H2 B2))
   | ((with_reducible refine Gs 92 3 ?_); ( refine OS 3 8 H2 0 g3 92 (msgA ⟨kd, fr, tt, am, no, ky, nx⟩) 69 RZ RM ?_; intro w3 H3))
   )
  go_ret
  exact ⟨rfl, H3.out.below⟩
end Go.Proofs.Ytocphkfkdadhaaa.H

namespace Go.Proofs.Ytocphkfkdadhaaa.H
open Go.RowKit Go.Proofs.YtocphkfkdadhaaaW.PrintWords Go.Proofs.YtocphkfkdadhaaaW.PrintLast Go.Proofs.YtocphkfkdadhaaaW.PrintMore
attribute [local go_sem] max2_int min2_int
set_option linter.unusedVariables false
set_option linter.unusedSimpArgs false
set_option maxHeartbeats 8000000 in
set_option maxRecDepth 100000 in
theorem iopen_law (x : Box) (ab ato aam : Int) (m : List Int) (ls : List (List Int)) (A1 A2 Am Al : Option Addr) (c1 c2 cm cl : Nat) (w : World)
 (hC1 : Kd.C kQ w A1 x.q.length x.q) (hc1 : x.q.length ≤ c1) (hC2 : Kd.C kL w A2 x.l.length x.l) (hc2 : x.l.length ≤ c2) (hCm : Kd.C kB w Am m.length m) (hcm : m.length ≤ cm) (hCl : Kd.C kL w Al ls.length ls) (hcl : ls.length ≤ cl)
 (hx : BytB x) (hm : ∀ z ∈ m, 0 ≤ z ∧ z ≤ 255) (hls : ∀ b ∈ ls, ∀ z ∈ b, 0 ≤ z ∧ z ≤ 255) (hab : (Lit.int .i64 ab).wf = true) (hq64 : ∀ d ∈ x.q, -9223372036854775808 ≤ d.f0 ∧ d.f0 ≤ 9223372036854775807) :
 Calls Try.prog 9 #[.agg #[.slice A1 x.q.length c1, .int .i64 x.tk, .slice A2 x.l.length c2, .int .u64 x.nx], .agg #[.int .i64 ab, .slice Am m.length cm, .int .u64 ato, .int .u64 aam], .slice Al ls.length cl] w fun e w' => e = .returned (.bool true) ∧ Below w.heap.size w w' := by
 have H0 := Aside0.mk (Own.start w)
 have HAN := Aside0.mk anchored20_any
 have HEQ := Aside0.mk (fun (blk : Int) W (h : Below w.heap.size w W) => enqueue_any x blk m A1 A2 Am c1 c2 cm W (Kd.C_below hC1 h) hc1 (Kd.C_below hC2 h) hc2 (Kd.C_below hCm h) hcm hm)
 obtain ⟨km, hkm⟩ := may20_ev x.q x.tk x.l x.nx (Kd.C_max hC1) (Kd.C_max hC2)
 have HRM := Aside0.mk (fun W (h : Below w.heap.size w W) => PRF.proctorref20_May.calls km A1 c1 x.q x.tk A2 c2 x.l x.nx _ W (Kd.C_below hC1 h) hc1 (Kd.C_below hC2 h) hc2 hkm)
 have HBR := Aside0.mk (fun W (h : Below w.heap.size w W) => brings_any m Am cm W hm (Kd.C_below hCm h) hcm)
 have HERR := Aside0.mk (fun (blk : Int) h => enq_err x blk m h)
 have HL64 : Aside0 (0 < x.q.length → -9223372036854775808 ≤ lastB x.q) := ⟨fun h => by
  unfold lastB
  rw [show ((x.q.length : Int) - 1) = ((x.q.length - 1 : Nat) : Int) by omega, rdQ x.q _ (by omega)]
  exact (hq64 _ (List.getElem_mem _)).1⟩
 have HQ64 := Aside0.mk hq64
 have HXL := Aside0.mk hx.2
 clear hq64
 have HMB := Aside0.mk hm
 have HLSB := Aside0.mk hls
 have HRUN := Aside0.mk (fun (blk : Int) h => open_run x blk m ls hx hm hls h)
 obtain ⟨my, hmy⟩ : ∃ my, my = mayI x.q x.tk x.l := ⟨_, rfl⟩
 rw [← hmy] at HRM HERR
 clear hmy hkm
 obtain ⟨dp, hdp⟩ : ∃ dp, dp = depB m := ⟨_, rfl⟩
 rw [← hdp] at HBR HERR
 clear hdp
 obtain ⟨q, tk, l, nx⟩ := x
 dsimp only at *
 generalize hnq : q.length = nq at *
 have HN := Aside0.mk hnq
 clear hnq
 generalize hnm : m.length = nm at *
 have HNM := Aside0.mk hnm
 clear hnm
 generalize hnl : l.length = nl at *
 have HNL := Aside0.mk hnl
 clear hnl
 generalize hns : ls.length = ns at *
 have HNS := Aside0.mk hns
 clear hns
 have HX := Aside0.mk hx
 clear hx hm hls
 have hnq4 : (nq : Int) ≤ 9223372036854775807 := by have := Kd.C_max hC1; have := HN.out; omega
 have hlb : ∀ h : 0 < nq, ∃ ad, A1 = some ad ∧ w.cell? (ad.add ((nq - 1) * 2)) = some (.int .i64 (lastB q)) := by
  intro h
  obtain ⟨ad, A0, c0, rfl, hcA, hcB, _, _⟩ := PRF.at_T78 (HN.out ▸ hC1) ((q.length : Int) - 1) (by have := HN.out; omega) (by omega)
  refine ⟨ad, rfl, ?_⟩
  rw [show ((q.length : Int) - 1).toNat = nq - 1 by have := HN.out; omega] at hcA
  exact hcA
 have HC1 := Aside0.mk hC1
 have HC2 := Aside0.mk hC2
 have HCM := Aside0.mk hCm
 have HCL := Aside0.mk hCl
 clear hC1 hC2 hCm hCl
 go_enter Try.func9, Try.ntmps9
 go_upto_region 1 with (first
  | fail
  | ((with_reducible refine Gd 3 ?_); ( refine OB H0 73 #[.slice A1 nq c1, .int .i64 tk, .slice A2 nl c2, .int .u64 nx] ?_; intro g3 w1 H1 B1))
  | ((with_reducible refine Gd 4 ?_); ( refine OB H1 76 #[.int .i64 ab, .slice Am nm cm, .int .u64 ato, .int .u64 aam] ?_; intro g4 w2 H2 B2))
  )
 have HD := Aside0.mk H2.out.drew
 have kD : w2.drew.cell? ⟨g4, 0, none⟩ = some (.int .i64 ab) ∧ w2.drew.cell? ⟨g4, 1, none⟩ = some (.slice Am nm cm) := ⟨HD.out.cell 0 rfl 0 rfl, HD.out.cell 0 rfl 1 rfl⟩
 refine St (fun W => W.cell? ⟨g4, 0, none⟩ = some (.int .i64 ab) ∧ W.cell? ⟨g4, 1, none⟩ = some (.slice Am nm cm)) (fun hHeld => ?_) (by exact kD)
 refine Tk 0 ?_
 refine Tk 1 ?_
 refine Tk 2 ?_
 refine Tk 3 ?_
 refine Tk 4 ?_
 refine Tk 5 ?_
 refine Tk 6 ?_
 refine Tk 7 ?_
 refine Dn ?_
 generalize w2.drew = w3 at *
 clear kD H0 H1 H2 B1 B2 hHeld
 obtain ⟨b0, hb0⟩ : ∃ b0, b0 = max 0 (min ab 1000) := ⟨_, rfl⟩
 have hbr : 0 ≤ b0 ∧ b0 ≤ 1000 := by omega
 rw [← hb0]
 clear hb0
 have H3 : Aside0 (Own w.heap.size w w3 [.blk g4 #[.int .i64 ab, .slice Am nm cm, .int .u64 ato, .int .u64 aam] 76, .blk g3 #[.slice A1 nq c1, .int .i64 tk, .slice A2 nl c2, .int .u64 nx] 73]) := ⟨HD.out⟩
 clear HD
 have k0 : w3.cell? ⟨g3, 0, none⟩ = some (.slice A1 nq c1) := H3.out.cell 1 rfl 0 rfl
 obtain ⟨lb, hlbe⟩ : ∃ lb, lb = lastB q := ⟨_, rfl⟩
 rw [← hlbe] at hlb HL64
 have HLB := Aside0.mk hlbe
 clear hlbe
 go_upto_region 2 with fail
 go_cut [38] (fun v38 wc => v38 = .bool (decide (0 < nq) && decide (1099511627776 < lb)) ∧ w3 = wc)
 case first =>
  by_cases hz : nq = 0
  ·have hd : decide ((nq : Int) > 0) = false := decide_eq_false (by omega)
   have hd2 : decide (0 < nq) = false := decide_eq_false (by omega)
   clear hz
   go_wp2_with fail
   go_meet
   exact ⟨by rw [hd2]; rfl, rfl⟩
  ·obtain ⟨ad, rfl, hcA⟩ := hlb (by omega)
   have hk := pw_cell_below H3.out.below hcA
   have hd : decide ((nq : Int) > 0) = true := decide_eq_true (by omega)
   have hd2 : decide (0 < nq) = true := decide_eq_true (by omega)
   have hwn : IntKind.i64.wrap ((nq : Int) - 1) = ((nq - 1 : Nat) : Int) := by rw [IntWalk.i64_in _ (by omega)]; omega
   have hib : (0 : Int) ≤ ((nq - 1 : Nat) : Int) ∧ ((nq - 1 : Nat) : Int) < (nq : Int) := by omega
   clear hcA hz
   go_wp2_with fail
   go_meet
   exact ⟨by rw [hd2]; rfl, rfl⟩
 case rest =>
 obtain ⟨rfl, rfl⟩ := hcut
 cases hbb : (decide (0 < nq) && decide (1099511627776 < lb)) with
 | true =>
  go_wp2_with (go_at_call 33; refine (HAN.out _).mono ?_; rintro e w4 ⟨rfl, hB4⟩; have H4 := Aside0.mk (H3.out.step hB4); clear hB4)
  go_ret
  exact ⟨rfl, H4.out.below⟩
 | false =>
 have hle : nq = 0 ∨ lb ≤ 1099511627776 := by
  rw [Bool.and_eq_false_iff, decide_eq_false_iff_not, decide_eq_false_iff_not] at hbb
  omega
 have HBB := Aside0.mk hbb
 clear hbb
 obtain ⟨blk, hblk⟩ : ∃ blk, blk = if 0 < nq then b0 + lb else b0 := ⟨_, rfl⟩
 have hnn : nq = 0 ∨ lb ≤ blk := by
  rw [hblk]
  by_cases h : 0 < nq
  ·rw [if_pos h]; omega
  ·omega
 have hbu : blk ≤ 1099511628776 := by
  rw [hblk]
  by_cases h : 0 < nq
  ·rw [if_pos h]; omega
  ·rw [if_neg h]; omega
 go_upto_if 43 with fail
 go_cut [7] (fun v7 wc => v7 = .int .i64 blk ∧ w3 = wc)
 case first =>
  by_cases hz : nq = 0
  ·have hd : decide ((nq : Int) > 0) = false := decide_eq_false (by omega)
   have hd2 : decide (0 < nq) = false := decide_eq_false (by omega)
   have hb : b0 = blk := by rw [hblk, if_neg (by omega)]
   clear hz hblk hle hnn
   simp only [hd2]
   go_wp2_with fail
   go_meet
   exact ⟨by rw [hb], rfl⟩
  ·obtain ⟨ad, rfl, hcA⟩ := hlb (by omega)
   have hk := pw_cell_below H3.out.below hcA
   have hd : decide ((nq : Int) > 0) = true := decide_eq_true (by omega)
   have hd2 : decide (0 < nq) = true := decide_eq_true (by omega)
   have hwn : IntKind.i64.wrap ((nq : Int) - 1) = ((nq - 1 : Nat) : Int) := by rw [IntWalk.i64_in _ (by omega)]; omega
   have hib : (0 : Int) ≤ ((nq - 1 : Nat) : Int) ∧ ((nq - 1 : Nat) : Int) < (nq : Int) := by omega
   have hwb : IntKind.i64.wrap (b0 + lb) = blk := by
    have := HL64.out (by omega)
    rw [hblk, if_pos (by omega)]
    exact IntWalk.i64_in _ (by omega)
   clear hcA hz hblk hle hnn
   simp only [hd2]
   go_wp2_with fail
   go_meet
   exact ⟨rfl, rfl⟩
 case rest =>
 obtain ⟨rfl, rfl⟩ := hcut
 clear hlb hblk hle k0 hbr HBB
 have HZ : Aside0 (Arr 4 #[.slice none 0 0, .int .i64 0, .slice none 0 0, .int .u64 0]) := ⟨rfl, by simp [Value.oneCell']⟩
 replace HERR := Aside0.mk (HERR.out blk (by rw [← HLB.out]; exact hnn))
 replace HRUN := Aside0.mk (HRUN.out blk)
 replace HEQ := Aside0.mk (HEQ.out blk)
 obtain ⟨r, hr⟩ : ∃ r, r = enqI ⟨q, tk, l, nx⟩ blk m := ⟨_, rfl⟩
 rw [← hr] at HEQ HERR HRUN
 clear hr HLB hnn
 obtain ⟨⟨yq, ytk, yl, ynx⟩, ye⟩ := r
 dsimp only at HEQ HERR HRUN
 have k0 : w3.cell? ⟨g3, 0, none⟩ = some (.slice A1 nq c1) := H3.out.cell 1 rfl 0 rfl
 go_upto_region 7 with (first
  | fail
  | ((with_reducible refine Gd 56 ?_); ( refine OV 3 H3 1 g3 73 rfl Try.underlying73 (by kernel_rfl) ?_))
  | (go_at_call 34; ( refine (HEQ.out _ H3.out.below).mono ?_; rintro e w4 ⟨v1, v2, rfl, hO4⟩; have H4 := Aside0.mk (H3.out.call hO4); obtain ⟨A3, c3, rfl, hc3, _⟩ := hO4.reads 0 rfl; obtain ⟨A4, c4, rfl, hc4, _⟩ := hO4.reads 1 rfl; have HX4 : Aside0 (Arr 4 #[.slice A3 yq.length c3, .int .i64 ytk, .slice A4 yl.length c4, .int .u64 ynx]) := ⟨rfl, by simp [Value.oneCell']⟩; clear hO4))
  | ((with_reducible refine Gd 9 ?_); ( refine OA H4 73 #[.slice none 0 0, .int .i64 0, .slice none 0 0, .int .u64 0] 4 ?_; intro g9 w5 H5 B5))
  | ((with_reducible refine Gs 73 9 ?_); ( refine OS 9 60 H5 0 g9 73 #[.slice A3 yq.length c3, .int .i64 ytk, .slice A4 yl.length c4, .int .u64 ynx] 4 HZ HX4 ?_; intro w6 H6))
  )
 have H7 : Aside0 (Own w.heap.size w w6 [.blk g9 #[.slice A3 yq.length c3, .int .i64 ytk, .slice A4 yl.length c4, .int .u64 ynx] 73, .row kQ 78 (.slice A3 yq.length c3) yq, .row kL 74 (.slice A4 yl.length c4) yl, .blk g4 #[.int .i64 ab, .slice Am nm cm, .int .u64 ato, .int .u64 aam] 76, .blk g3 #[.slice A1 nq c1, .int .i64 tk, .slice A2 nl c2, .int .u64 nx] 73]) := ⟨H6.out⟩
 clear H3 H4 H5 H6 B5 k0 HEQ
 by_cases he : ye = 0
 case neg =>
  have hne : (ye != 0) = true := by simpa using he
  have hER := HERR.out he
  clear HERR HRUN
  cases my
  ·clear hER
   go_wp2_with (first
    | fail
    | (go_at_call 33; refine (HAN.out _).mono ?_; rintro e w7 ⟨rfl, hB7⟩; have H8 := Aside0.mk (H7.out.step hB7); clear hB7)
    | ((with_reducible refine Gd 66 ?_); ( refine GV 3 H8 4 g3 73 rfl Try.underlying73 (by kernel_rfl) ?_))
    | (go_at_call 35; refine (HRM.out _ H8.out.below).mono ?_; rintro e w8 ⟨rfl, hB8⟩; have H9 := Aside0.mk (H8.out.step hB8); clear hB8)
    | (go_at_call 36; refine (HBR.out _ H9.out.below).mono ?_; rintro e w9 ⟨rfl, hB9⟩; have H10 := Aside0.mk (H9.out.step hB9); clear hB9)
    | ((with_reducible refine Gd 80 ?_); ( refine GD 79 70 H10 4 g3 0 (.slice A1 nq c1) Try.underlying70 ?_))
    )
   go_ret
   exact ⟨rfl, H9.out.below⟩
  cases dp
  case true =>
   clear hER
   go_wp2_with (first
    | fail
    | (go_at_call 33; refine (HAN.out _).mono ?_; rintro e w7 ⟨rfl, hB7⟩; have H8 := Aside0.mk (H7.out.step hB7); clear hB7)
    | ((with_reducible refine Gd 66 ?_); ( refine GV 3 H8 4 g3 73 rfl Try.underlying73 (by kernel_rfl) ?_))
    | (go_at_call 35; refine (HRM.out _ H8.out.below).mono ?_; rintro e w8 ⟨rfl, hB8⟩; have H9 := Aside0.mk (H8.out.step hB8); clear hB8)
    | (go_at_call 36; refine (HBR.out _ H9.out.below).mono ?_; rintro e w9 ⟨rfl, hB9⟩; have H10 := Aside0.mk (H9.out.step hB9); clear hB9)
    | ((with_reducible refine Gd 80 ?_); ( refine GD 79 70 H10 4 g3 0 (.slice A1 nq c1) Try.underlying70 ?_))
    )
   go_ret
   exact ⟨rfl, H10.out.below⟩
  by_cases hl6 : 65536 < nm
  ·have hd1 : decide ((65536 : Int) < (nm : Int)) = true := decide_eq_true (by omega)
   have hd2 : decide (65536 < nm) = true := decide_eq_true (by omega)
   clear hER
   go_wp2_with (first
    | fail
    | (go_at_call 33; refine (HAN.out _).mono ?_; rintro e w7 ⟨rfl, hB7⟩; have H8 := Aside0.mk (H7.out.step hB7); clear hB7)
    | ((with_reducible refine Gd 66 ?_); ( refine GV 3 H8 4 g3 73 rfl Try.underlying73 (by kernel_rfl) ?_))
    | (go_at_call 35; refine (HRM.out _ H8.out.below).mono ?_; rintro e w8 ⟨rfl, hB8⟩; have H9 := Aside0.mk (H8.out.step hB8); clear hB8)
    | (go_at_call 36; refine (HBR.out _ H9.out.below).mono ?_; rintro e w9 ⟨rfl, hB9⟩; have H10 := Aside0.mk (H9.out.step hB9); clear hB9)
    | ((with_reducible refine Gd 80 ?_); ( refine GD 79 70 H10 4 g3 0 (.slice A1 nq c1) Try.underlying70 ?_))
    )
   go_ret
   exact ⟨rfl, H10.out.below⟩
  have hd1 : decide ((65536 : Int) < (nm : Int)) = false := decide_eq_false (by omega)
  have hd2 : decide (65536 < nm) = false := decide_eq_false (by omega)
  by_cases h4 : nq = 4096
  ·have hd3 : ((nq : Int) == 4096) = true := by rw [beq_iff_eq]; omega
   clear hER h4
   go_wp2_with (first
    | fail
    | (go_at_call 33; refine (HAN.out _).mono ?_; rintro e w7 ⟨rfl, hB7⟩; have H8 := Aside0.mk (H7.out.step hB7); clear hB7)
    | ((with_reducible refine Gd 66 ?_); ( refine GV 3 H8 4 g3 73 rfl Try.underlying73 (by kernel_rfl) ?_))
    | (go_at_call 35; refine (HRM.out _ H8.out.below).mono ?_; rintro e w8 ⟨rfl, hB8⟩; have H9 := Aside0.mk (H8.out.step hB8); clear hB8)
    | (go_at_call 36; refine (HBR.out _ H9.out.below).mono ?_; rintro e w9 ⟨rfl, hB9⟩; have H10 := Aside0.mk (H9.out.step hB9); clear hB9)
    | ((with_reducible refine Gd 80 ?_); ( refine GD 79 70 H10 4 g3 0 (.slice A1 nq c1) Try.underlying70 ?_))
    )
   go_ret
   exact ⟨rfl, H10.out.below⟩
  have hd3 : ((nq : Int) == 4096) = false := by rw [beq_eq_false_iff_ne]; omega
  have hd4 : decide (blk < 0) = true := by
   rcases hER with h | h | h | h | h
   ·cases h
   ·cases h
   ·exact absurd h hl6
   ·exact absurd h h4
   ·exact decide_eq_true h
  clear hER h4 hl6
  go_wp2_with (first
   | fail
   | (go_at_call 33; refine (HAN.out _).mono ?_; rintro e w7 ⟨rfl, hB7⟩; have H8 := Aside0.mk (H7.out.step hB7); clear hB7)
   | ((with_reducible refine Gd 66 ?_); ( refine GV 3 H8 4 g3 73 rfl Try.underlying73 (by kernel_rfl) ?_))
   | (go_at_call 35; refine (HRM.out _ H8.out.below).mono ?_; rintro e w8 ⟨rfl, hB8⟩; have H9 := Aside0.mk (H8.out.step hB8); clear hB8)
   | (go_at_call 36; refine (HBR.out _ H9.out.below).mono ?_; rintro e w9 ⟨rfl, hB9⟩; have H10 := Aside0.mk (H9.out.step hB9); clear hB9)
   | ((with_reducible refine Gd 80 ?_); ( refine GD 79 70 H10 4 g3 0 (.slice A1 nq c1) Try.underlying70 ?_))
   )
  go_ret
  exact ⟨rfl, H10.out.below⟩
 case pos =>
 subst he
 obtain ⟨hbk0, hyl, z, hz1, hz2, ⟨more, hz3⟩, hz4, hz5⟩ := HRUN.out rfl
 have HYB : Aside0 (∀ d ∈ yq, d.f0 ≤ 9223372036854775807) := ⟨fun d hd => by
  rw [hyl] at hd
  rcases List.mem_append.1 hd with hd | hd
  ·exact (HQ64.out d hd).2
  ·rw [List.mem_singleton.1 hd]; show blk ≤ _; omega⟩
 have HYL : Aside0 (yq.length = nq + 1) := ⟨by rw [hyl, List.length_append, HN.out]; rfl⟩
 have HZ2 := Aside0.mk hz2
 have HZ3 := Aside0.mk hz3
 have HZ4 := Aside0.mk hz4
 have HZ5 := Aside0.mk hz5
 clear hyl hz2 hz3 hz4 hz5 HQ64
 have HRZ := Aside0.mk hz1
 clear HRUN HERR hz1
 go_upto_region 9 with fail
 have k9 : w6.cell? ⟨g9, 0, none⟩ = some (.slice A3 yq.length c3) := H7.out.cell 0 rfl 0 rfl
 go_upto_region 10 with fail
 go_wp2_with fail
 go_loopw [12] (fun v12 wr => ∃ (i : Nat) (y : Box) (A5 : Option Addr) (c5 : Nat) (A6 : Option Addr) (c6 : Nat), i ≤ ns ∧ v12 = .int .i64 (i : Int) ∧ y.q.length ≤ c5 ∧ y.l.length ≤ c6 ∧ Aside0 (∀ d ∈ y.q, d.f0 ≤ 9223372036854775807) ∧ Aside0 (tickI (postsI y (ls.drop i)) (blk + 8) = (z, 0)) ∧ Aside0 (Own w.heap.size w wr [.blk g9 #[.slice A5 y.q.length c5, .int .i64 y.tk, .slice A6 y.l.length c6, .int .u64 y.nx] 73, .row kQ 78 (.slice A5 y.q.length c5) y.q, .row kL 74 (.slice A6 y.l.length c6) y.l, .blk g4 #[.int .i64 ab, .slice Am nm cm, .int .u64 ato, .int .u64 aam] 76, .blk g3 #[.slice A1 nq c1, .int .i64 tk, .slice A2 nl c2, .int .u64 nx] 73])) (fun v12 _ => ns - (intOf v12).toNat)
 case atStart => exact ⟨0, ⟨yq, ytk, yl, ynx⟩, A3, c3, A4, c4, Nat.zero_le _, rfl, hc3, hc4, HYB, HRZ, H7⟩
 case round =>
  clear H7 k9 HRZ HX4 HYB
  obtain ⟨i, y, A5, c5, A6, c6, hi, rfl, hc5, hc6, HQB, HRZ, HI⟩ := hrel
  by_cases hlt : i < ns
  ·have hdl : decide ((i : Int) < (ns : Int)) = true := decide_eq_true (by omega)
   have hiq : i < ls.length := by rw [HNS.out]; exact hlt
   have hib : (0 : Int) ≤ (i : Int) ∧ (i : Int) < (ns : Int) := by omega
   have hnm : (ns : Int) ≤ 9223372036854775807 := by have := Kd.C_max HCL.out; omega
   have hwi : IntKind.i64.wrap ((i : Int) + 1) = ((i + 1 : Nat) : Int) := by rw [IntWalk.i64_in _ (by omega)]; omega
   obtain ⟨ad, Ab, cb, rfl, hcell, hcb, hCb⟩ := PRF.at_L2 HCL.out (i : Int) hib.1 hib.2
   rw [rdL ls i hiq] at hcell hcb hCb
   rw [Int.toNat_natCast] at hcell
   obtain ⟨b, hbe⟩ : ∃ b, b = ls[i] := ⟨_, rfl⟩
   rw [← hbe] at hcell hcb hCb
   have HBY : Aside0 (∀ z ∈ b, 0 ≤ z ∧ z ≤ 255) := ⟨by rw [hbe]; exact HLSB.out _ (List.getElem_mem hiq)⟩
   have hdr : postsI y (ls.drop i) = postsI (if (postI y b).2 = 0 then (postI y b).1 else y) (ls.drop (i + 1)) := by
    rw [List.drop_eq_getElem_cons hiq, ← hbe]; rfl
   replace HRZ : Aside0 (tickI (postsI (if (postI y b).2 = 0 then (postI y b).1 else y) (ls.drop (i + 1))) (blk + 8) = (z, 0)) := ⟨by rw [← hdr]; exact HRZ.out⟩
   have HPO := Aside0.mk (fun W (h1 : Kd.C kQ W A5 y.q.length y.q) (h2 : Kd.C kL W A6 y.l.length y.l) (h : Below w.heap.size w W) => post_any y b A5 A6 Ab c5 c6 cb W h1 hc5 h2 hc6 (Kd.C_below hCb h) hcb HBY.out)
   have HCE := Aside0.mk hcell
   clear hbe hdr hCb hcell HBY
   have hpq := postI_q y b
   generalize postI y b = pz at *
   obtain ⟨⟨pq, ptk, pl, pnx⟩, pe⟩ := pz
   obtain ⟨yq', ytk', yl', ynx'⟩ := y
   dsimp only at HI HPO HRZ hc5 hc6 HQB hpq
   have HPQ := Aside0.mk hpq
   clear hpq
   generalize b.length = nb at *
   generalize hn5 : yq'.length = n5 at *
   have HN5 := Aside0.mk hn5
   clear hn5
   generalize hn6 : yl'.length = n6 at *
   have HN6 := Aside0.mk hn6
   clear hn6
   go_upto_region 13 with fail
   go_cut [13, 14] (fun v13 v14 wc => ∃ (g13 : Nat) (A7 : Option Addr) (c7 : Nat) (A8 : Option Addr) (c8 : Nat), v13 = .pointer (some ⟨g13, 0, none⟩) ∧ v14 = .int .i64 pe ∧ pq.length ≤ c7 ∧ pl.length ≤ c8 ∧ Aside0 (Own w.heap.size w wc [.blk g13 #[.slice A7 pq.length c7, .int .i64 ptk, .slice A8 pl.length c8, .int .u64 pnx] 73, .row kQ 78 (.slice A7 pq.length c7) pq, .row kL 74 (.slice A8 pl.length c8) pl, .blk g9 #[.slice A5 n5 c5, .int .i64 ytk', .slice A6 n6 c6, .int .u64 ynx'] 73, .row kQ 78 (.slice A5 n5 c5) yq', .row kL 74 (.slice A6 n6 c6) yl', .blk g4 #[.int .i64 ab, .slice Am nm cm, .int .u64 ato, .int .u64 aam] 76, .blk g3 #[.slice A1 nq c1, .int .i64 tk, .slice A2 nl c2, .int .u64 nx] 73]))
   case first =>
    have HD := Aside0.mk HI.out.drew
    have hkS : wr.drew.heap[g9]? = some (.cells #[.slice A5 n5 c5, .int .i64 ytk', .slice A6 n6 c6, .int .u64 ynx'] 73 (0, 0)) ∧ wr.drew.cell? (ad.add i) = some (.slice Ab nb cb) := ⟨HD.out.get 0 rfl, pw_cell_below HD.out.below HCE.out⟩
    clear HI
    refine St (fun W => W.heap[g9]? = some (.cells #[.slice A5 n5 c5, .int .i64 ytk', .slice A6 n6 c6, .int .u64 ynx'] 73 (0, 0)) ∧ W.cell? (ad.add i) = some (.slice Ab nb cb)) (fun hHeld => ?_) (by exact hkS)
    refine Ty 0 (.agg #[.slice A5 n5 c5, .int .i64 ytk', .slice A6 n6 c6, .int .u64 ynx']) ?_ ?_
    ·exact yif_loadV (by rfl) 73 (.tmp 9) rfl g9 _ rfl (fun W h => h.1) _ Try.underlying73 rfl (by kernel_rfl)
    refine Tk 1 ?_
    refine Tk 2 ?_
    refine Tk 3 ?_
    refine Tk 4 ?_
    clear hkS hHeld
    generalize wr.drew = wd at *
    refine Rd2 5 9 (fun K hK => ?_) fun K hK => ?_
    ·
     go_simp
     refine (HPO.out _ (HD.out.C_of 1 rfl) (HD.out.C_of 2 rfl) HD.out.below).mono ?_
     rintro e w7 ⟨v1, v2, rfl, hO7⟩
     obtain ⟨A7, c7, rfl, hc7, _⟩ := hO7.reads 0 rfl
     obtain ⟨A8, c8, rfl, hc8, _⟩ := hO7.reads 1 rfl
     have H7 := Aside0.mk (HD.out.call hO7)
     clear hO7
     go_wp2_with fail
     refine Ag hK (fun hHeld => ?_) (by exact ⟨H7.out.get 2 rfl, pw_cell_below H7.out.below HCE.out⟩)
     clear hK K
     refine Tk 6 ?_
     refine Tk 7 ?_
     refine Tk 8 ?_
     refine Rd 9 fun K hK => ?_
     refine own_alloc_step H7.out (by rfl) (N := 13) rfl (t := 73) rfl #[.slice none 0 0, .int .i64 0, .slice none 0 0, .int .u64 0] 4 (by kernel_rfl) ?_; intro g13 w8 H8; replace H8 := Aside0.mk H8
     refine Ag hK (fun hHeld => ?_) (by exact ⟨H8.out.get 3 rfl, pw_cell_below H8.out.below HCE.out⟩)
     clear hK K
     refine Rd 10 fun K hK => ?_
     refine own_st_step H8.out 0 g13 _ #[.slice A7 pq.length c7, .int .i64 ptk, .slice A8 pl.length c8, .int .u64 pnx] 73 (by rfl) (by rfl) 73 (.tmp 13) _ rfl 0 ([.slice A7 pq.length c7, .int .i64 ptk, .slice A8 pl.length c8, .int .u64 pnx]) (.agg #[.slice A7 pq.length c7, .int .i64 ptk, .slice A8 pl.length c8, .int .u64 pnx]) (by rfl) (by rfl) (by rfl) (by simp) (by kernel_rfl) (by simp [Value.oneCell']) (by rfl) ?_; intro w9 H9; replace H9 := Aside0.mk H9
     refine Ag hK (fun hHeld => ?_) (by exact ⟨H9.out.get 3 rfl, pw_cell_below H9.out.below HCE.out⟩)
     clear hK K
     refine Tk 11 ?_
     refine Dn ?_
     go_wp2_with fail
     go_meet
     exact ⟨g13, A7, c7, A8, c8, rfl, rfl, hc7, hc8, ⟨H9.out⟩⟩
    ·
     refine own_alloc_step HD.out (by rfl) (N := 13) rfl (t := 73) rfl #[.slice none 0 0, .int .i64 0, .slice none 0 0, .int .u64 0] 4 (by kernel_rfl) ?_; intro g13 w7 H7; replace H7 := Aside0.mk H7
     refine Ag hK (fun hHeld => ?_) (by exact ⟨H7.out.get 1 rfl, pw_cell_below H7.out.below HCE.out⟩)
     clear hK K
     refine Rd 5 fun K hK => ?_
     go_simp
     refine (HPO.out _ (H7.out.C_of 2 rfl) (H7.out.C_of 3 rfl) H7.out.below).mono ?_
     rintro e w8 ⟨v1, v2, rfl, hO7⟩
     obtain ⟨A7, c7, rfl, hc7, _⟩ := hO7.reads 0 rfl
     obtain ⟨A8, c8, rfl, hc8, _⟩ := hO7.reads 1 rfl
     have H8 := Aside0.mk (H7.out.call hO7)
     clear hO7
     go_wp2_with fail
     refine Ag hK (fun hHeld => ?_) (by exact ⟨H8.out.get 3 rfl, pw_cell_below H8.out.below HCE.out⟩)
     clear hK K
     refine Tk 6 ?_
     refine Tk 7 ?_
     refine Tk 8 ?_
     refine Rd 10 fun K hK => ?_
     refine own_st_step H8.out 2 g13 _ #[.slice A7 pq.length c7, .int .i64 ptk, .slice A8 pl.length c8, .int .u64 pnx] 73 (by rfl) (by rfl) 73 (.tmp 13) _ rfl 0 ([.slice A7 pq.length c7, .int .i64 ptk, .slice A8 pl.length c8, .int .u64 pnx]) (.agg #[.slice A7 pq.length c7, .int .i64 ptk, .slice A8 pl.length c8, .int .u64 pnx]) (by rfl) (by rfl) (by rfl) (by simp) (by kernel_rfl) (by simp [Value.oneCell']) (by rfl) ?_; intro w9 H9; replace H9 := Aside0.mk H9
     refine Ag hK (fun hHeld => ?_) (by exact ⟨H9.out.get 3 rfl, pw_cell_below H9.out.below HCE.out⟩)
     clear hK K
     refine Tk 11 ?_
     refine Dn ?_
     go_wp2_with fail
     go_meet
     exact ⟨g13, A7, c7, A8, c8, rfl, rfl, hc7, hc8, ⟨H9.out.bring 2 rfl⟩⟩
   case rest =>
   obtain ⟨g13, A7, c7, A8, c8, rfl, rfl, hc7, hc8, HJ⟩ := hcut
   clear HI HPO
   by_cases hpe : pe = 0
   ·subst hpe
    have HE9 : Aside0 (Arr 4 #[.slice A5 n5 c5, .int .i64 ytk', .slice A6 n6 c6, .int .u64 ynx']) := ⟨rfl, by simp [Value.oneCell']⟩
    have HEN : Aside0 (Arr 4 #[.slice A7 pq.length c7, .int .i64 ptk, .slice A8 pl.length c8, .int .u64 pnx]) := ⟨rfl, by simp [Value.oneCell']⟩
    replace HRZ : Aside0 (tickI (postsI ⟨pq, ptk, pl, pnx⟩ (ls.drop (i + 1))) (blk + 8) = (z, 0)) := ⟨HRZ.out⟩
    go_wp2_with (first
     | fail
     | ((with_reducible refine Gd 109 ?_); ( refine OV 13 HJ 0 g13 73 rfl Try.underlying73 (by kernel_rfl) ?_))
     | ((with_reducible refine Gs 73 9 ?_); ( refine OS 9 109 HJ 3 g9 73 #[.slice A7 pq.length c7, .int .i64 ptk, .slice A8 pl.length c8, .int .u64 pnx] 4 HE9 HEN ?_; intro w9 HK))
     )
    go_roundw
    case rel =>
     exact ⟨i + 1, ⟨pq, ptk, pl, pnx⟩, A7, c7, A8, c8, hlt, rfl, hc7, hc8, ⟨by rw [show pq = yq' from HPQ.out rfl]; exact HQB.out⟩, HRZ, ⟨((((HK.out.erase 5).erase 4).erase 0).bring 2 rfl)⟩⟩
    case measure => simp [intOf]; omega
   ·have hpf : (pe == 0) = false := beq_eq_false_iff_ne.2 hpe
    replace HRZ : Aside0 (tickI (postsI ⟨yq', ytk', yl', ynx'⟩ (ls.drop (i + 1))) (blk + 8) = (z, 0)) := ⟨by have := HRZ.out; rwa [if_neg hpe] at this⟩
    go_wp2_with fail
    go_roundw
    case rel => exact ⟨i + 1, ⟨yq', ytk', yl', ynx'⟩, A5, c5, A6, c6, hlt, rfl, by rw [← HN5.out] at hc5; exact hc5, by rw [← HN6.out] at hc6; exact hc6, HQB, HRZ, ⟨by have h := (((HJ.out.erase 0).erase 0).erase 0); rw [← HN5.out, ← HN6.out] at h; exact h⟩⟩
    case measure => simp [intOf]; omega
  ·have hdl : decide ((i : Int) < (ns : Int)) = false := decide_eq_false (by omega)
   replace HRZ : Aside0 (tickI y (blk + 8) = (z, 0)) := ⟨by
    have := HRZ.out
    rw [List.drop_of_length_le (by rw [HNS.out]; omega)] at this
    exact this⟩
   have hw8 : IntKind.i64.wrap (blk + 8) = blk + 8 := IntWalk.i64_in _ (by omega)
   have HTK := Aside0.mk (fun W (h1 : Kd.C kQ W A5 y.q.length y.q) (h2 : Kd.C kL W A6 y.l.length y.l) => tick_any y (blk + 8) A5 A6 c5 c6 W h1 hc5 h2 hc6 (by omega) HQB.out)
   rw [HRZ.out] at HTK
   clear HRZ HQB
   obtain ⟨yq', ytk', yl', ynx'⟩ := y
   obtain ⟨zq, ztk, zl, znx⟩ := z
   dsimp only at HI HTK hc5 hc6 HZ2 HZ3 HZ4 HZ5
   generalize yq'.length = n5 at *
   generalize yl'.length = n6 at *
   have k9 : wr.cell? ⟨g9, 0, none⟩ = some (.slice A5 n5 c5) := HI.out.cell 0 rfl 0 rfl
   go_upto_region 17 with (first
    | fail
    | ((with_reducible refine Gd 111 ?_); ( refine OV 9 HI 0 g9 73 rfl Try.underlying73 (by kernel_rfl) ?_))
    | (go_at_call 38; ( refine (HTK.out _ (HI.out.C_of 1 rfl) (HI.out.C_of 2 rfl)).mono ?_; rintro e w7 ⟨v1, v2, rfl, hO7⟩; have H8 := Aside0.mk (HI.out.call hO7); obtain ⟨A9, c9, rfl, hc9, _⟩ := hO7.reads 0 rfl; obtain ⟨Aa, ca, rfl, hca, _⟩ := hO7.reads 1 rfl; have HX8 : Aside0 (Arr 4 #[.slice A9 zq.length c9, .int .i64 ztk, .slice Aa zl.length ca, .int .u64 znx]) := ⟨rfl, by simp [Value.oneCell']⟩; clear hO7))
    | ((with_reducible refine Gd 15 ?_); ( refine OA H8 73 #[.slice none 0 0, .int .i64 0, .slice none 0 0, .int .u64 0] 4 ?_; intro g15 w8 H9 B9))
    | ((with_reducible refine Gs 73 15 ?_); ( refine OS 15 115 H9 0 g15 73 #[.slice A9 zq.length c9, .int .i64 ztk, .slice Aa zl.length ca, .int .u64 znx] 4 HZ HX8 ?_; intro w9 H10))
    )
   have hmz := mayI_iff.1 HZ2.out
   obtain ⟨kz, hkz⟩ := may20_ev zq ztk zl znx (by omega) (by omega)
   rw [HZ2.out] at hkz
   have HRMZ := Aside0.mk (fun W (h1 : Kd.C kQ W A9 zq.length zq) (h2 : Kd.C kL W Aa zl.length zl) => PRF.proctorref20_May.calls kz A9 c9 zq ztk Aa ca zl znx true W h1 hc9 h2 hca hkz)
   have hll : l.length ≤ zl.length := by rw [HZ3.out]; simp
   have HLS : Aside0 (∀ W, Kd.C kL W Aa zl.length zl → Below w.heap.size w W → Calls Try.prog 39 #[.slice Aa nl ca, .slice A2 nl c2] W fun e w' => e = .returned (.bool true) ∧ Below W.heap.size W w') := ⟨fun W h1 h => by
    have h3 : Kd.C kL W Aa l.length l := by
     have h4 := Kd.C_take h1 (m := l.length) hll
     rwa [show zl.take l.length = l by rw [HZ3.out]; simp] at h4
    have hf := lists_ev l l (by omega) HXL.out HXL.out (l.length + 1) (Nat.le_refl _)
    rw [eqL_refl eqB_rfl] at hf
    have h5 := Kd.C_below HC2.out h
    rw [← HNL.out] at h5 hc2 ⊢
    exact (PRF.proctorref20_Lists.calls _ Aa ca l A2 c2 l true W h3 (by omega) h5 hc2 hf).mono fun e w' ⟨h1, h2⟩ => ⟨h1, h2.below⟩⟩
   have HHS := Aside0.mk (fun W (h1 : Kd.C kL W Aa zl.length zl) (hb : Below w.heap.size w W) (hmem : m ∈ zl) => PRF.proctorlaw20_has.calls (zl.length + 1) Aa ca zl Am cm m true W h1 hca (by rw [HNM.out]; exact Kd.C_below HCM.out hb) (by rw [HNM.out]; exact hcm) (has_ev zl m (by omega) HZ5.out HMB.out hmem (zl.length + 1) (Nat.le_refl _)))
   rw [HNM.out] at HHS
   rw [HNL.out] at hll
   have H11 := Aside0.mk H10.out.drew
   have kS : w9.drew.heap[g15]? = some (.cells #[.slice A9 zq.length c9, .int .i64 ztk, .slice Aa zl.length ca, .int .u64 znx] 73 (0, 0)) ∧ w9.drew.cell? ⟨g15, 2, none⟩ = some (.slice Aa zl.length ca) ∧ w9.drew.cell? ⟨g3, 2, none⟩ = some (.slice A2 nl c2) := ⟨H11.out.get 0 rfl, H11.out.cell 0 rfl 2 rfl, H11.out.cell 7 rfl 2 rfl⟩
   have hz4l : zl.length ≤ 4096 := hmz.2.1
   clear H8 H9 H10 B9 HX8 HI HTK hkz hmz
   generalize zq.length = nzq at *
   generalize hzl : zl.length = nzl at *
   replace hzl := Aside0.mk hzl
   have hb1 : decide ((nzl : Int) < (nl : Int)) = false := decide_eq_false (by omega)
   have hb2 : decide (nzl < nl) = false := decide_eq_false (by omega)
   have hb3 : (0 : Int) ≤ (nl : Int) ∧ (nl : Int) ≤ (ca : Int) := by omega
   refine St (fun W => W.heap[g15]? = some (.cells #[.slice A9 nzq c9, .int .i64 ztk, .slice Aa nzl ca, .int .u64 znx] 73 (0, 0)) ∧ W.cell? ⟨g15, 2, none⟩ = some (.slice Aa nzl ca) ∧ W.cell? ⟨g3, 2, none⟩ = some (.slice A2 nl c2)) (fun hHeld => ?_) (by exact kS)
   refine Tk 0 ?_
   refine Tk 1 ?_
   refine Tk 2 ?_
   refine Ty 3 (.agg #[.slice A9 nzq c9, .int .i64 ztk, .slice Aa nzl ca, .int .u64 znx]) ?_ ?_
   ·exact yif_loadV (by rfl) 73 (.tmp 15) rfl g15 _ rfl (fun W h => h.1) _ Try.underlying73 rfl (by kernel_rfl)
   clear kS hHeld
   generalize w9.drew = wd at *
   refine Rd 4 fun K hK => ?_
   go_simp
   refine (HRMZ.out _ (H11.out.C_of 1 rfl) (H11.out.C_of 2 rfl)).mono ?_
   rintro e w10 ⟨rfl, hBx⟩
   have H12 := Aside0.mk (H11.out.step hBx)
   clear hBx
   go_wp2_with fail
   refine Ag hK (fun hHeld => ?_) (by exact ⟨H12.out.get 0 rfl, H12.out.cell 0 rfl 2 rfl, H12.out.cell 7 rfl 2 rfl⟩)
   clear hK K
   refine Tk 5 ?_
   refine Tk 6 ?_
   refine Tk 7 ?_
   refine Tk 8 ?_
   refine Tk 9 ?_
   refine Tk 10 ?_
   refine Tk 11 ?_
   refine Tk 12 ?_
   refine Tk 13 ?_
   refine Tk 14 ?_
   refine Tk 15 ?_
   refine Tk 16 ?_
   refine Tk 17 ?_
   refine Tk 18 ?_
   refine Tk 19 ?_
   refine Tk 20 ?_
   refine Tk 21 ?_
   refine Tk 22 ?_
   refine Tk 23 ?_
   refine Tk 24 ?_
   refine Rd 25 fun K hK => ?_
   go_simp
   refine (HLS.out _ (H12.out.C_of 2 rfl) H12.out.below).mono ?_
   rintro e w11 ⟨rfl, hBx⟩
   have H13 := Aside0.mk (H12.out.step hBx)
   clear hBx
   go_wp2_with fail
   refine Ag hK (fun hHeld => ?_) (by exact ⟨H13.out.get 0 rfl, H13.out.cell 0 rfl 2 rfl, H13.out.cell 7 rfl 2 rfl⟩)
   clear hK K
   refine Tk 26 ?_
   refine Tk 27 ?_
   refine Dn ?_
   clear hHeld hb1 hb2 hb3
   have HHS2 := Aside0.mk (fun W (h : Own w.heap.size w W [.blk g15 #[.slice A9 nzq c9, .int .i64 ztk, .slice Aa nzl ca, .int .u64 znx] 73, .row kQ 78 (.slice A9 nzq c9) zq, .row kL 74 (.slice Aa nzl ca) zl, .blk g9 #[.slice A5 n5 c5, .int .i64 ytk', .slice A6 n6 c6, .int .u64 ynx'] 73, .row kQ 78 (.slice A5 n5 c5) yq', .row kL 74 (.slice A6 n6 c6) yl', .blk g4 #[.int .i64 ab, .slice Am nm cm, .int .u64 ato, .int .u64 aam] 76, .blk g3 #[.slice A1 nq c1, .int .i64 tk, .slice A2 nl c2, .int .u64 nx] 73]) hm => HHS.out W (h.C_of 2 rfl) h.below hm)
   by_cases h4 : nzl = 4096
   ·have hd1 : ((nzl : Int) == 4096) = true := by rw [beq_iff_eq]; omega
    have hd2 : (nzl == 4096) = true := by rw [beq_iff_eq]; omega
    clear h4
    go_wp2_with (first
     | fail
     | (go_at_call 33; refine (HAN.out _).mono ?_; rintro e w12 ⟨rfl, hB7⟩; have H14 := Aside0.mk (H13.out.step hB7); clear hB7)
     | ((with_reducible refine Gd 148 ?_); ( refine GD 147 71 H14 0 g15 2 (.slice Aa nzl ca) Try.underlying71 ?_))
     )
    go_ret
    exact ⟨rfl, H14.out.below⟩
   ·have hd1 : ((nzl : Int) == 4096) = false := by rw [beq_eq_false_iff_ne]; omega
    have hd2 : (nzl == 4096) = false := by rw [beq_eq_false_iff_ne]; omega
    have h5 : ((nq + 1 : Nat) : Int) ≤ ztk ∧ m ∈ zl := by
     rcases HZ4.out with h | h
     ·exact absurd h h4
     ·exact h
    have hmm := Aside0.mk h5.2
    have h6 : (yq.length : Int) ≤ ztk := by rw [HYL.out]; exact h5.1
    have hd3 : decide ((yq.length : Int) ≤ ztk) = true := decide_eq_true h6
    have hd4 : decide (ztk ≥ (yq.length : Int)) = true := decide_eq_true h6
    clear h4 h5 h6
    go_wp2_with (first
     | fail
     | (go_at_call 33; refine (HAN.out _).mono ?_; rintro e w12 ⟨rfl, hB7⟩; have H14 := Aside0.mk (H13.out.step hB7); clear hB7)
     | ((with_reducible refine Gd 148 ?_); ( refine GD 147 71 H14 0 g15 2 (.slice Aa nzl ca) Try.underlying71 ?_))
     | ((with_reducible refine Gd 153 ?_); ( refine GD 152 3 H14 0 g15 1 (.int .i64 ztk) Try.underlying3 ?_))
     | ((with_reducible refine Gd 158 ?_); ( refine GD 157 71 H14 0 g15 2 (.slice Aa nzl ca) Try.underlying71 ?_))
     | (go_at_call 40; refine (HHS2.out _ H14.out hmm.out).mono ?_; rintro e w13 ⟨rfl, hB8⟩; have H15 := Aside0.mk (H14.out.step hB8.below); clear hB8)
     )
    go_ret
    exact ⟨rfl, H15.out.below⟩
end Go.Proofs.Ytocphkfkdadhaaa.H

namespace Go.Proofs.Ytocphkfkdadhaaa.H
open Go.RowKit
set_option linter.unusedVariables false
set_option linter.unusedSimpArgs false
theorem o_byte : Opens 5 kB (fun n => (Lit.int .u8 n).wf = true) := opens_int Try.underlying5
theorem wf8 {z : Int} (h : (Lit.int .u8 z).wf = true) : 0 ≤ z ∧ z ≤ 255 := by
 simp [Lit.wf, IntKind.min, IntKind.max, IntKind.signed, IntKind.bits] at h
 omega
theorem OkInb.ll {y : List (Int × List Int) × Int × List (List Int) × Int} (h : OkInb y) : (boxOf y).l.length ≤ 5864062014800 := by
 have := h.2.2.1.2
 have e : (boxOf y).l.length = y.2.2.1.length := rfl
 omega
theorem OkInb.lm {y : List (Int × List Int) × Int × List (List Int) × Int} (h : OkInb y) : ∀ m ∈ (boxOf y).l, m.length ≤ 140737488351232 := fun m hm => by
 have := (h.2.2.1.1 m hm).2
 omega
end Go.Proofs.Ytocphkfkdadhaaa.H

namespace Go.Proofs.Ytocphkfkdadhaaa.H
open Go.RowKit Go.Proofs.YtocphkfkdadhaaaW.PrintWords Go.Proofs.YtocphkfkdadhaaaW.PrintLast Go.Proofs.YtocphkfkdadhaaaW.PrintMore
set_option linter.unusedVariables false
set_option linter.unusedSimpArgs false
abbrev kAq : Kd (Int × List Int × Int × Int) := Kd.pair (Kd.int .i64) (Kd.pair (Kd.slice 5 kB) (Kd.pair (Kd.int .u64) (Kd.int .u64)))
def OkAq (y : Int × List Int × Int × Int) : Prop := (Lit.int .i64 y.1).wf = true ∧ OkM y.2.1 ∧ (Lit.int .u64 y.2.2.1).wf = true ∧ (Lit.int .u64 y.2.2.2).wf = true
theorem oz_aq : OpensZ 76 kAq OkAq :=
 @fun H enc W fuel cs x hx hw => opensZ_struct Try.underlying76 (manyZ_cons oz_int (by kernel_rfl) (manyZ_cons oz_bytes (by kernel_rfl) (manyZ_cons oz_u64 (by kernel_rfl) (manyZ_one oz_u64 (by kernel_rfl))))) (by kernel_rfl) (by kernel_rfl) hx hw
theorem kAq_open {w : World} {cs : Array Value} {y : Int × List Int × Int × Int} (h : kAq.K w y cs.toList) :
 ∃ A c, cs = #[.int .i64 y.1, .slice A y.2.1.length c, .int .u64 y.2.2.1, .int .u64 y.2.2.2] ∧ y.2.1.length ≤ c ∧ Kd.C kB w A y.2.1.length y.2.1 := by
 obtain ⟨a1, r1, e1, h1, a2, r2, rfl, ⟨A, c, rfl, g, k⟩, a3, a4, rfl, h3, h4⟩ := h
 have h1 : a1 = [.int .i64 y.1] := h1
 have h3 : a3 = [.int .u64 y.2.2.1] := h3
 have h4 : a4 = [.int .u64 y.2.2.2] := h4
 subst h1 h3 h4
 refine ⟨A, c, ?_, g, k⟩
 apply Array.toList_inj.1
 rw [e1]
 rfl
theorem o_bytes : Opens 74 (Kd.slice 5 kB) (fun m => ∀ y ∈ m, (Lit.int .u8 y).wf = true) := opens_slice Try.underlying74 (by kernel_rfl) o_byte
theorem OkInb.q64 {y : List (Int × List Int) × Int × List (List Int) × Int} (h : OkInb y) : ∀ d ∈ (boxOf y).q, -9223372036854775808 ≤ d.f0 ∧ d.f0 ≤ 9223372036854775807 := fun d hd => by
 obtain ⟨p, hp, rfl⟩ := List.mem_map.1 hd
 have := (h.1.1 p hp).1
 simp [Lit.wf, IntKind.min, IntKind.max, IntKind.signed, IntKind.bits] at this
 exact ⟨by dsimp only; omega, by dsimp only; omega⟩
end Go.Proofs.Ytocphkfkdadhaaa.H

