import Derived.Test.YtocphkfkdadhaaaZPk16
import Derived.Test.YtocphkfkdadhaaaZPk12
import Derived.Test.YtocphkfkdadhaaaZPk2
namespace Go.Proofs.Ytocphkfkdadhaaa.H
open Go.RowKit Go.Proofs.YtocphkfkdadhaaaW.PrintWords Go.Proofs.YtocphkfkdadhaaaW.PrintLast Go.Proofs.YtocphkfkdadhaaaW.PrintMore
set_option linter.unusedVariables false
set_option linter.unusedSimpArgs false
set_option maxHeartbeats 8000000 in
set_option maxRecDepth 100000 in
theorem rreadbatch_any (b : List Int) (A : Option Addr) (c : Nat) (w : World) (hB : ∀ x ∈ b, 0 ≤ x ∧ x ≤ 255) (hC : Kd.C kB w A b.length b) (hc : b.length ≤ c) :
 Calls Try.prog 56 #[.slice A b.length c] w (BatchPost w (rbatchP b)) := by
 have H0 := Aside0.mk (Own.start w)
 have HD := Aside0.mk (fun W (h : Below w.heap.size w W) => K.rdecode_any A c b W (Kd.C_below hC h) hc hB)
 have HSB := Aside0.mk (fun (W : World) (a : List Int) (A1 : Option Addr) (c1 : Nat) (h : Below w.heap.size w W) (ha : ∀ z ∈ a, 0 ≤ z ∧ z ≤ 255) (h1 : Kd.C kB W A1 a.length a) (k1 : a.length ≤ c1) => same01_any a b ha hB A1 A c1 c W h1 k1 (Kd.C_below hC h) hc)
 obtain ⟨r, hr⟩ : ∃ r, r = rbatchP b := ⟨_, rfl⟩
 rw [← hr]
 unfold rbatchP at hr
 have HBI := fun (x : SI) (h : K.decodeP b = .ok x) => decodeP_byt hB h
 have HER := fun (e : Int) (h : K.decodeP b = .error e) => decodeP_err h
 have HLB := fun (x : SI) (h : K.decodeP b = .ok x) => decodeP_len hB h
 clear hC hc hB
 generalize K.decodeP b = dec at *
 generalize b.length = nb at *
 have HZ3 := z3_one
 have HZB := zB_one
 cases dec with
 | error e =>
  obtain rfl : r = (zeroBt, e) := hr
  have he : (e != 0) = true := by have := HER e rfl; simpa using this
  clear HBI HER HLB
  go_enter Try.func56, Try.ntmps56
  go_wp2_with (first
   | fail
   | ((with_reducible refine gate_dst (N := 2) rfl ?_); refine own_alloc H0.out rfl (N := 2) rfl (t := 108) rfl (#[.int .u64 0, .int .u64 0, .slice none 0 0]) 3 (by kernel_rfl) ?_; intro g2 w1 H1 B1; replace H1 := Aside0.mk H1; replace B1 := Aside0.mk B1)
   | (go_at_call 109; ( refine (HD.out _ H1.out.below).mono ?_; rintro e' w3 ⟨hB3, rfl⟩; have H3 := Aside0.mk (H1.out.step hB3); clear hB3))
   | ((with_reducible refine gate_dst (N := 4) rfl ?_); refine own_alloc H3.out rfl (N := 4) rfl (t := 159) rfl (#[.bool false, .slice none 0 0, .slice none 0 0]) 3 (by kernel_rfl) ?_; intro g4 w4 H4 B4; replace H4 := Aside0.mk H4; replace B4 := Aside0.mk B4)
   | ((with_reducible refine own_store H4.out 0 g4 _ 159 rfl rfl (.tmp 4) (.tmp 16) rfl (#[.bool false, .slice none 0 0, .slice none 0 0]) ?_ ?_ 3 HZ3.out HZ3.out (by kernel_rfl) ?_); (case _ => rfl); (case _ => rfl); intro w5 H5; replace H5 := Aside0.mk H5)
   | ((with_reducible refine own_store H5.out 1 g2 _ 108 rfl rfl (.tmp 2) (.tmp 20) rfl (#[.int .u64 0, .int .u64 0, .slice none 0 0]) ?_ ?_ 3 HZB.out HZB.out (by kernel_rfl) ?_); (case _ => rfl); (case _ => rfl); intro w6 H6; replace H6 := Aside0.mk H6)
   )
  refine bodyPost_ret (own_resultV_t rfl _ H6.out 1 g2 _ rfl rfl _ Try.underlying108 rfl (by kernel_rfl) _ rfl) rfl ?_
  exact ⟨_, rfl, ((H6.out.erase 0).erase 0).null kL _⟩
 | ok x =>
 obtain ⟨f0, f1, f2⟩ := x
 have hbi := HBI _ rfl
 have hlb := HLB _ rfl
 clear HBI HER HLB
 replace HD : Aside0 (∀ W, Below w.heap.size w W → Calls Try.prog 109 #[.slice A nb c] W fun e w' => ∃ v1 v2, e = .returned (.tuple #[.agg #[.bool f0, v1, v2], .int .i64 0]) ∧ Below W.heap.size W w' ∧ v1.oneCell' = true ∧ ∃ A2 c2, v2 = .slice A2 f2.length c2 ∧ f2.length ≤ c2 ∧ Kd.R kI 159 w' W.heap.size (fun _ => True) (.slice A2 f2.length c2) f2) := ⟨fun W h => (HD.out W h).mono fun e w' hp => by
  obtain ⟨hb, v1, v2, he, hr1, hr2⟩ := hp
  obtain ⟨A2, c2, rfl, hc2, _⟩ := Kd.R_reads hr2
  exact ⟨v1, _, he, hb, R_one hr1, A2, c2, rfl, hc2, hr2⟩⟩
 have HR : Aside0 (r = rshapeB b f0 f2) := ⟨hr⟩
 clear hr
 by_cases hl : f2.length = 3
 case neg =>
  have hl3 : ((f2.length : Int) != 3) = true := by simp; omega
  obtain ⟨n2, hn2⟩ : ∃ n2, n2 = f2.length := ⟨_, rfl⟩
  rw [← hn2] at HD hl3
  clear hn2 hlb
  cases f0
  ·
   obtain rfl : r = (zeroBt, 8) := HR.out.trans (rshapeB_bad (by first | exact Or.inl rfl | exact Or.inr hl))
   clear HR hbi
   go_enter Try.func56, Try.ntmps56
   go_upto_region 4 with (first
    | fail
    | ((with_reducible refine gate_dst (N := 2) rfl ?_); refine own_alloc H0.out rfl (N := 2) rfl (t := 108) rfl (#[.int .u64 0, .int .u64 0, .slice none 0 0]) 3 (by kernel_rfl) ?_; intro g2 w1 H1 B1; replace H1 := Aside0.mk H1; replace B1 := Aside0.mk B1)
    | (go_at_call 109; ( refine (HD.out _ H1.out.below).mono ?_; rintro e' wd ⟨v1, v2, rfl, hB3, hv1, A2, c2, rfl, hc2, hR2⟩; have HBD := Aside0.mk hB3; have H3 := Aside0.mk (Own.start wd); replace hR2 := Aside0.mk hR2; clear hB3))
    | ((with_reducible refine gate_dst (N := 4) rfl ?_); refine own_alloc H3.out rfl (N := 4) rfl (t := 159) rfl (#[.bool false, .slice none 0 0, .slice none 0 0]) 3 (by kernel_rfl) ?_; intro g4 w4 H4 B4; replace H4 := Aside0.mk H4; replace B4 := Aside0.mk B4)
    | ((with_reducible refine gate_store (t := 159) (p := 4) rfl ?_); ( have HX3 : Aside0 (Arr 3 #[.bool false, v1, .slice A2 n2 c2]) := ⟨arr3_ hv1⟩; refine own_store H4.out 0 g4 _ 159 rfl rfl (.tmp 4) (.tmp 16) rfl #[.bool false, v1, .slice A2 n2 c2] (by rfl) (by rfl) 3 HZ3.out HX3.out (by kernel_rfl) ?_; intro w5 H5; replace H5 := Aside0.mk H5))
    )
   have H8 := Aside0.mk (H1.out.step (below_step HBD.out H5.out.below))
   go_wp2_with (first
    | fail
    | ((with_reducible refine gate_dst (N := 23) rfl ?_); ( refine own_ld1 H5.out 0 g4 _ _ rfl rfl 4 (.tmp 22) rfl 0 (.bool false) _ rfl rfl Try.underlying4 rfl ?_))
    | ((with_reducible refine gate_dst (N := 27) rfl ?_); (refine gate_guard (by rfl) ?_); ( refine own_ld1 H5.out 0 g4 _ _ rfl rfl 157 (.tmp 26) rfl 2 (.slice A2 n2 c2) _ rfl rfl Try.underlying157 rfl ?_))
    | ((with_reducible refine own_store H8.out 0 g2 _ 108 rfl rfl (.tmp 2) (.tmp 31) rfl (#[.int .u64 0, .int .u64 0, .slice none 0 0]) ?_ ?_ 3 HZB.out HZB.out (by kernel_rfl) ?_); (case _ => rfl); (case _ => rfl); intro w9 H9; replace H9 := Aside0.mk H9)
    )
   refine bodyPost_ret (own_resultV_t rfl _ H9.out 0 g2 _ rfl rfl _ Try.underlying108 rfl (by kernel_rfl) _ rfl) rfl ?_
   exact ⟨_, rfl, (H9.out.erase 0).null kL _⟩
  ·
   obtain rfl : r = (zeroBt, 8) := HR.out.trans (rshapeB_bad (by first | exact Or.inl rfl | exact Or.inr hl))
   clear HR hbi
   go_enter Try.func56, Try.ntmps56
   go_upto_region 4 with (first
    | fail
    | ((with_reducible refine gate_dst (N := 2) rfl ?_); refine own_alloc H0.out rfl (N := 2) rfl (t := 108) rfl (#[.int .u64 0, .int .u64 0, .slice none 0 0]) 3 (by kernel_rfl) ?_; intro g2 w1 H1 B1; replace H1 := Aside0.mk H1; replace B1 := Aside0.mk B1)
    | (go_at_call 109; ( refine (HD.out _ H1.out.below).mono ?_; rintro e' wd ⟨v1, v2, rfl, hB3, hv1, A2, c2, rfl, hc2, hR2⟩; have HBD := Aside0.mk hB3; have H3 := Aside0.mk (Own.start wd); replace hR2 := Aside0.mk hR2; clear hB3))
    | ((with_reducible refine gate_dst (N := 4) rfl ?_); refine own_alloc H3.out rfl (N := 4) rfl (t := 159) rfl (#[.bool false, .slice none 0 0, .slice none 0 0]) 3 (by kernel_rfl) ?_; intro g4 w4 H4 B4; replace H4 := Aside0.mk H4; replace B4 := Aside0.mk B4)
    | ((with_reducible refine gate_store (t := 159) (p := 4) rfl ?_); ( have HX3 : Aside0 (Arr 3 #[.bool true, v1, .slice A2 n2 c2]) := ⟨arr3_ hv1⟩; refine own_store H4.out 0 g4 _ 159 rfl rfl (.tmp 4) (.tmp 16) rfl #[.bool true, v1, .slice A2 n2 c2] (by rfl) (by rfl) 3 HZ3.out HX3.out (by kernel_rfl) ?_; intro w5 H5; replace H5 := Aside0.mk H5))
    )
   have H8 := Aside0.mk (H1.out.step (below_step HBD.out H5.out.below))
   go_wp2_with (first
    | fail
    | ((with_reducible refine gate_dst (N := 23) rfl ?_); ( refine own_ld1 H5.out 0 g4 _ _ rfl rfl 4 (.tmp 22) rfl 0 (.bool true) _ rfl rfl Try.underlying4 rfl ?_))
    | ((with_reducible refine gate_dst (N := 27) rfl ?_); (refine gate_guard (by rfl) ?_); ( refine own_ld1 H5.out 0 g4 _ _ rfl rfl 157 (.tmp 26) rfl 2 (.slice A2 n2 c2) _ rfl rfl Try.underlying157 rfl ?_))
    | ((with_reducible refine own_store H8.out 0 g2 _ 108 rfl rfl (.tmp 2) (.tmp 31) rfl (#[.int .u64 0, .int .u64 0, .slice none 0 0]) ?_ ?_ 3 HZB.out HZB.out (by kernel_rfl) ?_); (case _ => rfl); (case _ => rfl); intro w9 H9; replace H9 := Aside0.mk H9)
    )
   refine bodyPost_ret (own_resultV_t rfl _ H9.out 0 g2 _ rfl rfl _ Try.underlying108 rfl (by kernel_rfl) _ rfl) rfl ?_
   exact ⟨_, rfl, (H9.out.erase 0).null kL _⟩
 cases f0
 ·
  rw [hl] at HD
  clear hlb
  obtain rfl : r = (zeroBt, 8) := HR.out.trans (rshapeB_bad (by first | exact Or.inl rfl | exact Or.inr hl))
  clear HR hbi
  go_enter Try.func56, Try.ntmps56
  go_upto_region 4 with (first
   | fail
   | ((with_reducible refine gate_dst (N := 2) rfl ?_); refine own_alloc H0.out rfl (N := 2) rfl (t := 108) rfl (#[.int .u64 0, .int .u64 0, .slice none 0 0]) 3 (by kernel_rfl) ?_; intro g2 w1 H1 B1; replace H1 := Aside0.mk H1; replace B1 := Aside0.mk B1)
   | (go_at_call 109; ( refine (HD.out _ H1.out.below).mono ?_; rintro e' wd ⟨v1, v2, rfl, hB3, hv1, A2, c2, rfl, hc2, hR2⟩; have HBD := Aside0.mk hB3; have H3 := Aside0.mk (Own.start wd); replace hR2 := Aside0.mk hR2; clear hB3))
   | ((with_reducible refine gate_dst (N := 4) rfl ?_); refine own_alloc H3.out rfl (N := 4) rfl (t := 159) rfl (#[.bool false, .slice none 0 0, .slice none 0 0]) 3 (by kernel_rfl) ?_; intro g4 w4 H4 B4; replace H4 := Aside0.mk H4; replace B4 := Aside0.mk B4)
   | ((with_reducible refine gate_store (t := 159) (p := 4) rfl ?_); ( have HX3 : Aside0 (Arr 3 #[.bool false, v1, .slice A2 3 c2]) := ⟨arr3_ hv1⟩; refine own_store H4.out 0 g4 _ 159 rfl rfl (.tmp 4) (.tmp 16) rfl #[.bool false, v1, .slice A2 3 c2] (by rfl) (by rfl) 3 HZ3.out HX3.out (by kernel_rfl) ?_; intro w5 H5; replace H5 := Aside0.mk H5))
   )
  have H8 := Aside0.mk (H1.out.step (below_step HBD.out H5.out.below))
  go_wp2_with (first
   | fail
   | ((with_reducible refine gate_dst (N := 23) rfl ?_); ( refine own_ld1 H5.out 0 g4 _ _ rfl rfl 4 (.tmp 22) rfl 0 (.bool false) _ rfl rfl Try.underlying4 rfl ?_))
   | ((with_reducible refine gate_dst (N := 27) rfl ?_); (refine gate_guard (by rfl) ?_); ( refine own_ld1 H5.out 0 g4 _ _ rfl rfl 157 (.tmp 26) rfl 2 (.slice A2 3 c2) _ rfl rfl Try.underlying157 rfl ?_))
   | ((with_reducible refine own_store H8.out 0 g2 _ 108 rfl rfl (.tmp 2) (.tmp 31) rfl (#[.int .u64 0, .int .u64 0, .slice none 0 0]) ?_ ?_ 3 HZB.out HZB.out (by kernel_rfl) ?_); (case _ => rfl); (case _ => rfl); intro w9 H9; replace H9 := Aside0.mk H9)
   )
  refine bodyPost_ret (own_resultV_t rfl _ H9.out 0 g2 _ rfl rfl _ Try.underlying108 rfl (by kernel_rfl) _ rfl) rfl ?_
  exact ⟨_, rfl, (H9.out.erase 0).null kL _⟩
 obtain ⟨y0, y1, y2, rfl⟩ : ∃ y0 y1 y2, f2 = [y0, y1, y2] := by
  match f2, hl with
  | [a, b, c], _ => exact ⟨a, b, c, rfl⟩
 replace HR : Aside0 (r = ritemsB b y0 y1 y2) := ⟨HR.out⟩
 have hb0 := BytI_f1 (BytI_f2 hbi y0 (by simp))
 have hb1 := BytI_f1 (BytI_f2 hbi y1 (by simp))
 have HMB : Aside0 (∀ m ∈ y2.f2.map (fun y => y.f1), ∀ z ∈ m, 0 ≤ z ∧ z ≤ 255) := ⟨fun m hm => by
  obtain ⟨y, hy, rfl⟩ := List.mem_map.1 hm
  exact BytI_f1 (BytI_f2 (BytI_f2 hbi y2 (by simp)) y hy)⟩
 have hly : y2.f2.length ≤ 65536 := hlb y2 (by simp)
 clear hbi hl hlb
 go_enter Try.func56, Try.ntmps56
 go_upto_region 4 with (first
  | fail
  | ((with_reducible refine gate_dst (N := 2) rfl ?_); refine own_alloc H0.out rfl (N := 2) rfl (t := 108) rfl (#[.int .u64 0, .int .u64 0, .slice none 0 0]) 3 (by kernel_rfl) ?_; intro g2 w1 H1 B1; replace H1 := Aside0.mk H1; replace B1 := Aside0.mk B1)
  | (go_at_call 109; ( refine (HD.out _ H1.out.below).mono ?_; rintro e' wd ⟨v1, v2, rfl, hB3, hv1, A2, c2, rfl, hc2, hR2⟩; have HBD := Aside0.mk hB3; have H3 := Aside0.mk (Own.start wd); replace hR2 := Aside0.mk hR2; clear hB3))
  | ((with_reducible refine gate_dst (N := 4) rfl ?_); refine own_alloc H3.out rfl (N := 4) rfl (t := 159) rfl (#[.bool false, .slice none 0 0, .slice none 0 0]) 3 (by kernel_rfl) ?_; intro g4 w4 H4 B4; replace H4 := Aside0.mk H4; replace B4 := Aside0.mk B4)
  | ((with_reducible refine gate_store (t := 159) (p := 4) rfl ?_); ( have HX3 : Aside0 (Arr 3 #[.bool true, v1, .slice A2 3 c2]) := ⟨arr3_ hv1⟩; refine own_store H4.out 0 g4 _ 159 rfl rfl (.tmp 4) (.tmp 16) rfl #[.bool true, v1, .slice A2 3 c2] (by rfl) (by rfl) 3 HZ3.out HX3.out (by kernel_rfl) ?_; intro w5 H5; replace H5 := Aside0.mk H5))
  )
 obtain ⟨gI, cap, a1, d1, a2, d2, he, hcap, q1, q2, q3, q4, hcl0⟩ := R_item hR2.out 0 (by simp)
 injection he with he1 he2 he3
 subst he1 he3
 obtain ⟨_, _, b1, e1, b2, e2, he, _, p1, p2, p3, p4, hcl1⟩ := R_item hR2.out 1 (by simp)
 injection he with he1 he2 he3
 injection he1 with he1
 injection he1 with he1
 subst he1 he3
 obtain ⟨_, _, f1', g1', f2', g2', he, _, s1, s2, s3, s4, hcl2⟩ := R_item hR2.out 2 (by simp)
 injection he with he1 he2 he3
 injection he1 with he1
 injection he1 with he1
 subst he1 he3
 simp only [List.getElem_cons_zero, List.getElem_cons_succ, Nat.zero_mul, Nat.one_mul, Nat.zero_add] at *
 have HCL0 : Aside0 (∀ W, Below wd.heap.size wd W → ∀ (j : Nat) (u : Value), [Value.bool y0.f0, .slice a1 y0.f1.length d1, .slice a2 y0.f2.length d2][j]? = some u → W.cell? ((⟨gI, 0, none⟩ : Addr).add j) = some u) := ⟨fun W hb j u hj => by rw [Addr.add_mid, Nat.zero_add]; exact pw_cell_below hb (hcl0 j u hj)⟩
 have HCL1 : Aside0 (∀ W, Below wd.heap.size wd W → ∀ (j : Nat) (u : Value), [Value.bool y1.f0, .slice b1 y1.f1.length e1, .slice b2 y1.f2.length e2][j]? = some u → W.cell? ((⟨gI, 3, none⟩ : Addr).add j) = some u) := ⟨fun W hb j u hj => by rw [Addr.add_mid]; exact pw_cell_below hb (hcl1 j u hj)⟩
 have HCL2 : Aside0 (∀ W, Below wd.heap.size wd W → W.cell? ⟨gI, 8, none⟩ = some (.slice f2' y2.f2.length g2')) := ⟨fun W hb => pw_cell_below hb (hcl2 2 _ rfl)⟩
 have HN0 : Aside0 (∀ W, Below wd.heap.size wd W → Calls Try.prog 110 #[.agg #[.bool y0.f0, .slice a1 y0.f1.length d1, .slice a2 y0.f2.length d2]] W fun e w' => e = .returned (.tuple #[.int .u64 (K.rnumP y0).1, .int .i64 (K.rnumP y0).2]) ∧ Below W.heap.size W w') := ⟨fun W h => by
  obtain ⟨_, _, x1, _, x3⟩ := Kd.R_reads q1
  injection x1 with x1 _ _
  subst x1
  obtain ⟨_, _, x1, _, x4⟩ := Kd.R_reads q2
  injection x1 with x1 _ _
  subst x1
  exact rreadnum_any y0 hb0 _ d1 _ d2 W (Kd.C_below x3 h) q3 (Kd.C_below x4 h) q4⟩
 have HN1 : Aside0 (∀ W, Below wd.heap.size wd W → Calls Try.prog 110 #[.agg #[.bool y1.f0, .slice b1 y1.f1.length e1, .slice b2 y1.f2.length e2]] W fun e w' => e = .returned (.tuple #[.int .u64 (K.rnumP y1).1, .int .i64 (K.rnumP y1).2]) ∧ Below W.heap.size W w') := ⟨fun W h => by
  obtain ⟨_, _, x1, _, x3⟩ := Kd.R_reads p1
  injection x1 with x1 _ _
  subst x1
  obtain ⟨_, _, x1, _, x4⟩ := Kd.R_reads p2
  injection x1 with x1 _ _
  subst x1
  exact rreadnum_any y1 hb1 _ e1 _ e2 W (Kd.C_below x3 h) p3 (Kd.C_below x4 h) p4⟩
 have HV0 := Aside0.mk (rnumP_nat y0 hb0)
 have HV1 := Aside0.mk (rnumP_nat y1 hb1)
 have HS2 := Aside0.mk s2
 unfold ritemsB at HR
 clear hb0 hb1 hcl0 hcl1 hcl2 q1 q2 q3 q4 p1 p2 p3 p4 s1 s2 s3 hR2 HD B4 H3 H4
 generalize y0.f1.length = x1 at *
 generalize y0.f2.length = x2 at *
 generalize y1.f1.length = x3 at *
 generalize y1.f2.length = x4 at *
 generalize y0.f0 = k0 at *
 generalize y1.f0 = k1 at *
 generalize K.rnumP y0 = rn0 at *
 generalize K.rnumP y1 = rn1 at *
 obtain ⟨n0, er0⟩ := rn0
 obtain ⟨n1, er1⟩ := rn1
 dsimp only at HR HN0 HN1 HV0 HV1
 obtain ⟨n5, hn5⟩ : ∃ n5, n5 = y2.f2.length := ⟨_, rfl⟩
 have HN5 := Aside0.mk hn5
 rw [← hn5] at HCL2 HS2 hly s4
 clear hn5
 go_upto_region 10 with (first
  | fail
  | ((with_reducible refine gate_dst (N := 23) rfl ?_); ( refine own_ld1 H5.out 0 g4 _ _ rfl rfl 4 (.tmp 22) rfl 0 (.bool true) _ rfl rfl Try.underlying4 rfl ?_))
  | ((with_reducible refine gate_dst (N := 27) rfl ?_); (refine gate_guard (by rfl) ?_); ( refine own_ld1 H5.out 0 g4 _ _ rfl rfl 157 (.tmp 26) rfl 2 (.slice (some ⟨gI, 0, none⟩) 3 c2) _ rfl rfl Try.underlying157 rfl ?_))
  | ((with_reducible refine gate_dst (N := 34) rfl ?_); ( refine own_ld1 H5.out 0 g4 _ _ rfl rfl 157 (.tmp 33) rfl 2 (.slice (some ⟨gI, 0, none⟩) 3 c2) _ rfl rfl Try.underlying157 rfl ?_))
  | ((with_reducible refine gate_dst (N := 36) rfl ?_); ( refine ld_at rfl 159 (.tmp 35) rfl (⟨gI, 0, none⟩) ([.bool k0, .slice a1 x1 d1, .slice a2 x2 d2]) _ rfl (HCL0.out _ H5.out.below) Try.underlying159 rfl (by kernel_rfl) ?_))
  )
 refine (HN0.out _ H5.out.below).mono ?_
 rintro e w6 ⟨rfl, hB6⟩
 have H6 := Aside0.mk (H5.out.step hB6)
 clear hB6
 go_upto_region 10 with (first
  | fail
  | ((with_reducible refine gate_dst (N := 42) rfl ?_); ( refine own_ld1 H6.out 0 g4 _ _ rfl rfl 157 (.tmp 41) rfl 2 (.slice (some ⟨gI, 0, none⟩) 3 c2) _ rfl rfl Try.underlying157 rfl ?_))
  | ((with_reducible refine gate_dst (N := 44) rfl ?_); ( refine ld_at rfl 159 (.tmp 43) rfl (⟨gI, 3, none⟩) ([.bool k1, .slice b1 x3 e1, .slice b2 x4 e2]) _ rfl (HCL1.out _ H6.out.below) Try.underlying159 rfl (by kernel_rfl) ?_))
  )
 refine (HN1.out _ H6.out.below).mono ?_
 rintro e w7 ⟨rfl, hB7⟩
 have H7 := Aside0.mk (H6.out.step hB7)
 clear hB7 H6 HN0 HN1 HCL0 HCL1 H5
 by_cases hz0 : er0 = 0
 case neg =>
  have hzb : (er0 != 0) = true := by simpa using hz0
  obtain rfl : r = (zeroBt, 8) := by rw [HR.out, if_neg (by rintro ⟨h1, h2⟩; exact hz0 h1)]
  clear HR
  have H8 := Aside0.mk (H1.out.step (below_step HBD.out H7.out.below))
  go_wp2_with (first
   | fail
   | ((with_reducible refine own_store H8.out 0 g2 _ 108 rfl rfl (.tmp 2) (.tmp 54) rfl (#[.int .u64 0, .int .u64 0, .slice none 0 0]) ?_ ?_ 3 HZB.out HZB.out (by kernel_rfl) ?_); (case _ => rfl); (case _ => rfl); intro w9 H9; replace H9 := Aside0.mk H9)
   )
  refine bodyPost_ret (own_resultV_t rfl _ H9.out 0 g2 _ rfl rfl _ Try.underlying108 rfl (by kernel_rfl) _ rfl) rfl ?_
  exact ⟨_, rfl, (H9.out.erase 0).null kL _⟩
 by_cases hz1 : er1 = 0
 case neg =>
  have hzb : (er0 != 0) = false := by simp [hz0]
  have hzc : (er1 != 0) = true := by simpa using hz1
  obtain rfl : r = (zeroBt, 8) := by rw [HR.out, if_neg (by rintro ⟨h1, h2⟩; exact hz1 h2)]
  clear HR
  replace hz0 := Aside0.mk hz0
  have H8 := Aside0.mk (H1.out.step (below_step HBD.out H7.out.below))
  go_wp2_with (first
   | fail
   | ((with_reducible refine own_store H8.out 0 g2 _ 108 rfl rfl (.tmp 2) (.tmp 54) rfl (#[.int .u64 0, .int .u64 0, .slice none 0 0]) ?_ ?_ 3 HZB.out HZB.out (by kernel_rfl) ?_); (case _ => rfl); (case _ => rfl); intro w9 H9; replace H9 := Aside0.mk H9)
   )
  refine bodyPost_ret (own_resultV_t rfl _ H9.out 0 g2 _ rfl rfl _ Try.underlying108 rfl (by kernel_rfl) _ rfl) rfl ?_
  exact ⟨_, rfl, (H9.out.erase 0).null kL _⟩
 subst hz0 hz1
 obtain ⟨m0, hm0⟩ : ∃ m0 : Nat, (m0 : Int) = n0 := ⟨_, HV0.out.1⟩
 obtain ⟨m1, hm1⟩ : ∃ m1 : Nat, (m1 : Int) = n1 := ⟨_, HV1.out.1⟩
 subst hm0 hm1
 replace HV0 : Aside0 (m0 ≤ 18446744073709551615) := ⟨by have := HV0.out.2; simpa using this⟩
 replace HV1 : Aside0 (m1 ≤ 18446744073709551615) := ⟨by have := HV1.out.2; simpa using this⟩
 replace HR : Aside0 (r = if (rwbP m0 m1 (y2.f2.map fun y => y.f1)).2 = 0 ∧ (rwbP m0 m1 (y2.f2.map fun y => y.f1)).1 = b then (⟨(m0 : Int), (m1 : Int), y2.f2.map fun y => y.f1⟩, 0) else (zeroBt, 8)) := ⟨by rw [HR.out, if_pos ⟨rfl, rfl⟩]; simp only [Int.toNat_natCast]⟩
 have HXM : Aside0 (Arr 3 #[.int .u64 (m0 : Int), .int .u64 (m1 : Int), .slice none 0 0]) := ⟨rfl, by simp [Value.oneCell']⟩
 go_wp2_with (first
  | fail
  | ((with_reducible refine gate_dst (N := 9) rfl ?_); refine own_alloc H7.out rfl (N := 9) rfl (t := 108) rfl (#[.int .u64 0, .int .u64 0, .slice none 0 0]) 3 (by kernel_rfl) ?_; intro g9 w8 H8 B8; replace H8 := Aside0.mk H8; replace B8 := Aside0.mk B8)
  | ((with_reducible refine own_store H8.out 0 g9 _ 108 rfl rfl (.tmp 9) (.tmp 57) rfl (#[.int .u64 (m0 : Int), .int .u64 (m1 : Int), .slice none 0 0]) ?_ ?_ 3 HZB.out HXM.out (by kernel_rfl) ?_); (case _ => rfl); (case _ => rfl); intro w9 H9; replace H9 := Aside0.mk H9)
  )
 replace H9 : Aside0 (Own wd.heap.size wd w9 [.row (shM kL wd (fun k => w1.heap.size ≤ k)) 74 (.slice none 0 0) ((y2.f2.take 0).map fun y => y.f1), .blk g9 #[.int .u64 (m0 : Int), .int .u64 (m1 : Int), .slice none 0 0] 108, .blk g4 #[.bool true, v1, .slice (some ⟨gI, 0, none⟩) 3 c2] 159]) := ⟨H9.out.null _ _⟩
 clear H7 H8 B8 H0
 go_loopw [10] (fun v10 wr => ∃ (j : Nat) (vm : Value), j ≤ n5 ∧ v10 = .int .i64 (j : Int) ∧ Aside0 (Own wd.heap.size wd wr [.row (shM kL wd (fun k => w1.heap.size ≤ k)) 74 vm ((y2.f2.take j).map fun y => y.f1), .blk g9 #[.int .u64 (m0 : Int), .int .u64 (m1 : Int), vm] 108, .blk g4 #[.bool true, v1, .slice (some ⟨gI, 0, none⟩) 3 c2] 159])) (fun v10 _ => n5 - (intOf v10).toNat)
 case atStart => exact ⟨0, _, Nat.zero_le _, rfl, H9⟩
 case round =>
  clear H9
  obtain ⟨j, vm, hj, rfl, HI⟩ := hrel
  obtain ⟨A5, c5, hv5, hc5, _⟩ := HI.out.reads 0 rfl
  have hlen : ((y2.f2.take j).map fun y => y.f1).length = j := by rw [List.length_map, List.length_take, ← HN5.out]; omega
  rw [hlen] at hv5 hc5
  subst hv5
  have kz := HCL2.out wr HI.out.below
  have kx : wr.cell? ⟨g4, 2, none⟩ = some (.slice (some ⟨gI, 0, none⟩) 3 c2) := HI.out.cell 2 rfl 2 rfl
  by_cases hlt : j < n5
  ·have hdl : decide (j < n5) = true := decide_eq_true hlt
   have hib : (0 : Int) ≤ (j : Int) ∧ (j : Int) < (n5 : Int) := by omega
   have hjl : j < y2.f2.length := by rw [← HN5.out]; exact hlt
   obtain ⟨gL, cap, m1', k1', m2, k2, he, hcap, hr1, hr2, hm1, hm2, hcl⟩ := R_item HS2.out j hjl
   injection he with he he2 he3
   subst he he3
   clear he2
   have HMS := Aside0.mk (f1s_snoc y2.f2 j hjl)
   have HP : Aside0 (∀ w : World, (shM kL wd (fun k => w1.heap.size ≤ k)).M w 0 (fun _ => False) y2.f2[j].f1 [.slice m1' y2.f2[j].f1.length k1']) := ⟨fun _ => ⟨_, rfl, Kd.R_lower (Kd.R_mono (Kd.R_bound hr1) fun k hk => hk.2.1) (Nat.zero_le _)⟩⟩
   have HKJ : Aside0 (∀ W, Below wd.heap.size wd W → W.cell? ⟨gL, j * 3 + 1, none⟩ = some (.slice m1' y2.f2[j].f1.length k1')) := ⟨fun W h => pw_cell_below h (hcl 1 _ rfl)⟩
   have kj : wr.cell? ⟨gL, j * 3 + 1, none⟩ = some (.slice m1' y2.f2[j].f1.length k1') := pw_cell_below HI.out.below (hcl 1 _ rfl)
   have km : wr.cell? ⟨g9, 2, none⟩ = some (.slice A5 j c5) := HI.out.cell 1 rfl 2 rfl
   have HL1 : Aside0 (((y2.f2.take j).map (fun y => y.f1) ++ [y2.f2[j].f1]).length = j + 1) := ⟨by rw [List.length_append, hlen]; rfl⟩
   clear hr1 hr2 hm1 hm2 hcl hcap
   generalize y2.f2[j].f1.length = l1 at *
   generalize y2.f2[j].f1 = msg at *
   go_wp2_with fail
   have HD := Aside0.mk HI.out.drew
   refine StS ((fun W => W.cell? ⟨g4, 2, none⟩ = some (.slice (some ⟨gI, 0, none⟩) 3 c2) ∧ W.cell? ⟨gI, 8, none⟩ = some (.slice (some ⟨gL, 0, none⟩) n5 g2') ∧ W.cell? ⟨gL, j * 3 + 1, none⟩ = some (.slice m1' l1 k1'))) ((fun W => W.cell? ⟨g9, 2, none⟩ = some (.slice A5 j c5))) [14] (by exact ⟨kx, kz, kj⟩) (by exact km) fun hHeld => ?_
   refine TkS 0 ?_
   refine TtS 1 [12, 13, 14] ?_
   refine TkS 2 ?_
   refine TkS 3 ?_
   refine TkS 4 ?_
   refine TkS 5 ?_
   refine TkS 6 ?_
   refine TkS 7 ?_
   refine TkS 8 ?_
   refine TkS 9 ?_
   refine TkS 10 ?_
   have HCZ : Aside0 (∀ W, Below wd.heap.size wd W → W.cell? ⟨gI, 8, none⟩ = some (.slice (some ⟨gL, 0, none⟩) n5 g2') ∧ W.cell? ⟨gL, j * 3 + 1, none⟩ = some (.slice m1' l1 k1')) := ⟨fun W h => ⟨HCL2.out W h, HKJ.out W h⟩⟩
   clear kx kz kj km HI
   generalize wr.drew = wq at *
   refine RdS 11 fun K hK => ?_
   have HX := Aside0.mk (HD.out.new #[.slice m1' l1 k1'] 74)
   refine step_of_run (W1 := wq.alloc (.cells #[.slice m1' l1 k1'] 74)) (v := .slice (some ⟨wq.heap.size, 0, none⟩) 1 1) (by rfl) (by first | (go_simp; done) | (go_simp; rfl)) ?_
   refine AgS hK (HoldS.now (⟨HX.out.cell 3 rfl 2 rfl, HCZ.out _ HX.out.below⟩) (HX.out.cell 2 rfl 2 rfl)) fun hHeld => ?_
   clear hK K
   refine RdS 12 fun K hK => ?_
   refine own_append_any_step (shM kL wd (fun k => w1.heap.size ≤ k)) HD.out 0 rfl (by rfl) (.tmp 69) (.tmp 79) 71 (.slice none 0 0) 24 rfl Try.underlying71 PRF.info74 rfl (show 0 < 1 by decide) (by decide) msg [.slice m1' l1 k1'] HP.out (by rfl) (by rfl) (by rw [hlen]; omega) ?_
   intro v8 w8 H8
   obtain ⟨A8, c8, hv8, _, _⟩ := H8.reads 0 rfl
   rw [HL1.out] at hv8
   subst hv8
   replace H8 := Aside0.mk H8
   have k8 : w8.cell? ⟨g9, 2, none⟩ = some (.slice A5 j c5) ∧ w8.frozen? ⟨g9, 2, none⟩ = false := ⟨H8.out.cell 1 rfl 2 rfl, H8.out.fz 1 rfl 2⟩
   refine AgS hK (HoldS.now (⟨H8.out.cell 2 rfl 2 rfl, HCZ.out _ H8.out.below⟩) (k8.1)) fun hHeld => ?_
   clear hK K
   have H9 := Aside0.mk (H8.out.put 1 rfl 2 (.slice A8 (j + 1) c8) rfl)
   refine TkS 13 ?_
   refine RdS 14 fun K hK => ?_
   go_simp
   refine AgS hK (Pst (⟨H9.out.cell 2 rfl 2 rfl, HCZ.out _ H9.out.below⟩)) fun hHeld => ?_
   clear hK K
   refine DnS ?_
   go_wp2_with fail
   go_roundw
   case rel => exact ⟨j + 1, _, hlt, by go_num, ⟨by rw [HMS.out]; exact H9.out⟩⟩
   case measure => simp [intOf]; omega
  ·have hdl : decide (j < n5) = false := decide_eq_false hlt
   obtain rfl : n5 = j := by omega
   have HI2 : Aside0 (Own wd.heap.size wd wr [.row (shM kL wd (fun k => w1.heap.size ≤ k)) 74 (.slice A5 n5 c5) (y2.f2.map fun y => y.f1), .blk g9 #[.int .u64 (m0 : Int), .int .u64 (m1 : Int), .slice A5 n5 c5] 108, .blk g4 #[.bool true, v1, .slice (some ⟨gI, 0, none⟩) 3 c2] 159]) := ⟨by
    have h := HI.out
    rwa [List.take_of_length_le (by rw [← HN5.out]; exact Nat.le_refl _)] at h⟩
   clear HI hlen HS2
   generalize hms : (y2.f2.map fun y => y.f1) = ms at *
   have hml : ms.length = n5 := by rw [← hms, List.length_map, HN5.out]
   have HWB : Aside0 (Calls Try.prog 54 #[.agg #[.int .u64 (m0 : Int), .int .u64 (m1 : Int), .slice A5 n5 c5]] wr fun e w' => ∃ v, e = .returned (.tuple #[v, .int .i64 (rwbP m0 m1 ms).2]) ∧ Own wr.heap.size wr w' [.row kB 5 v (rwbP m0 m1 ms).1]) := ⟨by
    obtain ⟨Az, cz, hz, hz2, hz3⟩ := HI2.out.reads 0 rfl
    injection hz with hz0 hz1 hz4
    subst hz0 hz4
    have h := rwritebatch_any m0 m1 ms HV0.out HV1.out A5 c5 wr (C_shM hz3 HI2.out.below) (by omega)
    rw [hml] at h
    exact h⟩
   have HBY := Aside0.mk (rwbP_byt m0 m1 ms HMB.out)
   have HXB : Aside0 (Arr 3 #[.int .u64 (m0 : Int), .int .u64 (m1 : Int), .slice A5 n5 c5]) := ⟨rfl, by simp [Value.oneCell']⟩
   clear hms HMB HN5 hml
   generalize rwbP m0 m1 ms = re at *
   obtain ⟨again, er⟩ := re
   dsimp only at HR HWB HBY
   go_upto_region 16 with (first
    | fail
    | ((with_reducible refine gate_dst (N := 83) rfl ?_); ( refine own_loadV HI2.out 1 g9 _ 108 rfl rfl (.tmp 9) rfl _ rfl Try.underlying108 rfl (by kernel_rfl) ?_))
    | (go_at_call 54; ( refine HWB.out.mono ?_; rintro e w8 ⟨v8, rfl, hO8⟩; obtain ⟨A8, c8, rfl, hc8, hC8⟩ := hO8.reads 0 rfl; have H8 := Aside0.mk (HI2.out.call hO8); have HSA := Aside0.mk (HSB.out w8 again A8 c8 (below_step H1.out.below (below_step HBD.out H8.out.below)) HBY.out hC8 hc8); clear hO8 hC8))
    )
   clear HWB HI2 HBY
   generalize again.length = la at *
   by_cases hz : er = 0
   case neg =>
    have hzb : (er != 0) = true := by simpa using hz
    obtain rfl : r = (zeroBt, 8) := by rw [HR.out, if_neg (by rintro ⟨h, _⟩; exact hz h)]
    clear HR
    have HG8 := Aside0.mk (H1.out.step (below_step HBD.out H8.out.below))
    go_wp2_with (first
     | fail
     | (go_at_call 47; ( refine HSA.out.mono ?_; rintro e w9 ⟨rfl, hB9⟩; have H9 := Aside0.mk (H8.out.step hB9); have HG9 := Aside0.mk (H1.out.step (below_step HBD.out H9.out.below)); have HF := Aside0.mk (H1.out.call ((H9.out.bring 1 rfl).shM_up HBD.out (fun k hk => hk))); clear hB9))
     | ((with_reducible refine own_store HG8.out 0 g2 _ 108 rfl rfl (.tmp 2) (.tmp 95) rfl (#[.int .u64 0, .int .u64 0, .slice none 0 0]) ?_ ?_ 3 HZB.out HZB.out (by kernel_rfl) ?_); (case _ => rfl); (case _ => rfl); intro w10 H10; replace H10 := Aside0.mk H10)
     | ((with_reducible refine gate_dst (N := 96) rfl ?_); ( refine own_loadV H9.out 2 g9 _ 108 rfl rfl (.tmp 9) rfl _ rfl Try.underlying108 rfl (by kernel_rfl) ?_))
     | ((with_reducible refine own_store HF.out 4 g2 _ 108 rfl rfl (.tmp 2) (.tmp 96) rfl (#[.int .u64 (m0 : Int), .int .u64 (m1 : Int), .slice A5 n5 c5]) ?_ ?_ 3 HZB.out HXB.out (by kernel_rfl) ?_); (case _ => rfl); (case _ => rfl); intro w10 H10; replace H10 := Aside0.mk H10)
     )
    refine bodyPost_ret (own_resultV_t rfl _ H10.out 0 g2 _ rfl rfl _ Try.underlying108 rfl (by kernel_rfl) _ rfl) rfl ?_
    exact ⟨_, rfl, (H10.out.erase 0).null kL _⟩
   subst hz
   by_cases heq : again = b
   ·have hdq : decide (again = b) = true := decide_eq_true heq
    rw [hdq] at HSA
    obtain rfl : r = (⟨(m0 : Int), (m1 : Int), ms⟩, 0) := by rw [HR.out, if_pos ⟨rfl, heq⟩]
    clear HR heq hdq
    go_wp2_with (first
     | fail
     | (go_at_call 47; ( refine HSA.out.mono ?_; rintro e w9 ⟨rfl, hB9⟩; have H9 := Aside0.mk (H8.out.step hB9); have HG9 := Aside0.mk (H1.out.step (below_step HBD.out H9.out.below)); have HF := Aside0.mk (H1.out.call ((H9.out.bring 1 rfl).shM_up HBD.out (fun k hk => hk))); clear hB9))
     | ((with_reducible refine own_store HG9.out 0 g2 _ 108 rfl rfl (.tmp 2) (.tmp 95) rfl (#[.int .u64 0, .int .u64 0, .slice none 0 0]) ?_ ?_ 3 HZB.out HZB.out (by kernel_rfl) ?_); (case _ => rfl); (case _ => rfl); intro w10 H10; replace H10 := Aside0.mk H10)
     | ((with_reducible refine gate_dst (N := 96) rfl ?_); ( refine own_loadV H9.out 2 g9 _ 108 rfl rfl (.tmp 9) rfl _ rfl Try.underlying108 rfl (by kernel_rfl) ?_))
     | ((with_reducible refine own_store HF.out 4 g2 _ 108 rfl rfl (.tmp 2) (.tmp 96) rfl (#[.int .u64 (m0 : Int), .int .u64 (m1 : Int), .slice A5 n5 c5]) ?_ ?_ 3 HZB.out HXB.out (by kernel_rfl) ?_); (case _ => rfl); (case _ => rfl); intro w10 H10; replace H10 := Aside0.mk H10)
     )
    refine bodyPost_ret (own_resultV_t rfl _ H10.out 4 g2 _ rfl rfl _ Try.underlying108 rfl (by kernel_rfl) _ rfl) rfl ?_
    exact ⟨_, rfl, ((((H10.out.erase 1).erase 1).erase 1).erase 1)⟩
   ·have hdq : decide (again = b) = false := decide_eq_false heq
    rw [hdq] at HSA
    obtain rfl : r = (zeroBt, 8) := by rw [HR.out, if_neg (by rintro ⟨_, h⟩; exact heq h)]
    clear HR heq hdq
    go_wp2_with (first
     | fail
     | (go_at_call 47; ( refine HSA.out.mono ?_; rintro e w9 ⟨rfl, hB9⟩; have H9 := Aside0.mk (H8.out.step hB9); have HG9 := Aside0.mk (H1.out.step (below_step HBD.out H9.out.below)); have HF := Aside0.mk (H1.out.call ((H9.out.bring 1 rfl).shM_up HBD.out (fun k hk => hk))); clear hB9))
     | ((with_reducible refine own_store HG9.out 0 g2 _ 108 rfl rfl (.tmp 2) (.tmp 95) rfl (#[.int .u64 0, .int .u64 0, .slice none 0 0]) ?_ ?_ 3 HZB.out HZB.out (by kernel_rfl) ?_); (case _ => rfl); (case _ => rfl); intro w10 H10; replace H10 := Aside0.mk H10)
     | ((with_reducible refine gate_dst (N := 96) rfl ?_); ( refine own_loadV H9.out 2 g9 _ 108 rfl rfl (.tmp 9) rfl _ rfl Try.underlying108 rfl (by kernel_rfl) ?_))
     | ((with_reducible refine own_store HF.out 4 g2 _ 108 rfl rfl (.tmp 2) (.tmp 96) rfl (#[.int .u64 (m0 : Int), .int .u64 (m1 : Int), .slice A5 n5 c5]) ?_ ?_ 3 HZB.out HXB.out (by kernel_rfl) ?_); (case _ => rfl); (case _ => rfl); intro w10 H10; replace H10 := Aside0.mk H10)
     )
    refine bodyPost_ret (own_resultV_t rfl _ H10.out 0 g2 _ rfl rfl _ Try.underlying108 rfl (by kernel_rfl) _ rfl) rfl ?_
    exact ⟨_, rfl, (H10.out.erase 0).null kL _⟩
end Go.Proofs.Ytocphkfkdadhaaa.H

namespace Go.Proofs.Ytocphkfkdadhaaa.H
open Go.RowKit Go.Proofs.YtocphkfkdadhaaaW.PrintWords Go.Proofs.YtocphkfkdadhaaaW.PrintLast Go.Proofs.YtocphkfkdadhaaaW.PrintMore
set_option linter.unusedVariables false
set_option linter.unusedSimpArgs false
theorem rnumP_num {y : SI} (hb : K.Byt y.f1) (h : (K.rnumP y).2 = 0) : y = K.numI (K.rnumP y).1.toNat := by
 unfold K.rnumP at h ⊢
 split at h
 ·cases h
 ·rename_i hc
  rw [if_neg hc]
  obtain ⟨f0, f1, f2⟩ := y
  dsimp only at *
  have h0 : f0 = false := by cases f0 with | false => rfl | true => exact absurd (Or.inl rfl) hc
  have h2 : f2 = [] := List.length_eq_zero_iff.1 (by omega)
  subst h0 h2
  have hbig := K.bigP_of_num f1 hb (by omega) (fun hne => by
   intro hh
   cases f1 with
   | nil => exact hne rfl
   | cons a l =>
    refine hc (.inr (.inr (.inr ⟨by simp, ?_⟩)))
    simp only [List.headD_cons] at hh
    rw [hh]; rfl)
  unfold K.numI
  simp only [Int.toNat_natCast]
  rw [hbig]
theorem msgI_eq {y : SI} {d : Nat} (hw : K.wfP d y = true) (h : y.f0 = false) : y = msgI y.f1 := by
 rw [K.wfP_str _ _ h, List.isEmpty_iff] at hw
 obtain ⟨f0, f1, f2⟩ := y
 dsimp only at h hw
 subst h hw
 rfl
theorem map_msgI : ∀ {l : List SI}, (∀ y ∈ l, y = msgI y.f1) → l = (l.map fun y => y.f1).map msgI
 | [], _ => rfl
 | y :: l, h => by
  rw [List.map_cons, List.map_cons, ← h y (by simp), ← map_msgI (fun z hz => h z (List.mem_cons_of_mem _ hz))]
theorem enc_inj {x y : SI} {b : List Int} (hx : K.BytI x) (hy : K.BytI y) (hvy : K.vP 16 65536 y = true) (hf : K.formP y = b) (h1 : (K.encP x).2 = 0) (h2 : (K.encP x).1 = b) : x = y := by
 unfold K.encP at h1 h2
 split at h1
 ·rename_i hvx
  rw [if_pos hvx] at h2
  exact K.form_inj x y hx hy hvx hvy (h2.trans hf.symm)
 ·cases h1
theorem rbatchP_eq (b : List Int) (hb : K.Byt b) : rbatchP b = batchP b := by
 unfold rbatchP batchP
 cases hd : K.decodeP b with
 | error e => rfl
 | ok x =>
  show rshapeB b x.f0 x.f2 = shapeB x.f0 x.f2
  obtain ⟨hf, hv⟩ := K.decode_form b x hb hd
  have hbi := decodeP_byt hb hd
  by_cases hsh : x.f0 = false ∨ x.f2.length ≠ 3
  ·rw [rshapeB_bad hsh, shapeB_bad hsh]
  obtain ⟨f0, f1, f2⟩ := x
  dsimp only at hsh
  have h0 : f0 = true := by cases f0 with | true => rfl | false => exact absurd (Or.inl rfl) hsh
  have h3 : f2.length = 3 := by
   by_cases h : f2.length = 3
   ·exact h
   ·exact absurd (Or.inr h) hsh
  subst h0
  obtain ⟨y0, y1, y2, rfl⟩ : ∃ y0 y1 y2, f2 = [y0, y1, y2] := by
   match f2, h3 with
   | [a, b, c], _ => exact ⟨a, b, c, rfl⟩
  show ritemsB b y0 y1 y2 = itemsB y0 y1 y2
  have hv1 := hv
  unfold K.vP at hv1
  rw [Bool.and_eq_true] at hv1
  have hw := hv1.1
  rw [K.wfP_list 15 _ rfl, Bool.and_eq_true, List.isEmpty_iff] at hw
  obtain ⟨hw1, hw2⟩ := hw
  dsimp only at hw1 hw2
  subst hw1
  rw [List.all_eq_true] at hw2
  have hy2 := hw2 y2 (by simp)
  unfold ritemsB itemsB
  by_cases hn : (K.rnumP y0).2 = 0 ∧ (K.rnumP y1).2 = 0
  case neg =>
   rw [if_neg hn, if_neg (fun h => hn ⟨h.1, h.2.1⟩)]
  rw [if_pos hn]
  have e0 := rnumP_num (BytI_f1 (BytI_f2 hbi y0 (by simp))) hn.1
  have e1 := rnumP_num (BytI_f1 (BytI_f2 hbi y1 (by simp))) hn.2
  have hms : ∀ m ∈ y2.f2.map (fun y => y.f1), ∀ z ∈ m, 0 ≤ z ∧ z ≤ 255 := fun m hm => by
   obtain ⟨y, hy, rfl⟩ := List.mem_map.1 hm
   exact BytI_f1 (BytI_f2 (BytI_f2 hbi y2 (by simp)) y hy)
  generalize hn0 : (K.rnumP y0).1.toNat = m0 at *
  generalize hn1 : (K.rnumP y1).1.toNat = m1 at *
  by_cases hg : y2.f0 = true ∧ y2.f2.length ≤ 4096 ∧ (y2.f2.all fun y => !y.f0) = true
  ·have hy2l : y2 = ⟨true, [], (y2.f2.map fun y => y.f1).map msgI⟩ := by
    obtain ⟨g0, g1, g2⟩ := y2
    obtain ⟨q0, q1, q2⟩ := hg
    dsimp only at q0 q1 q2
    subst q0
    rw [K.wfP_list 14 _ rfl, Bool.and_eq_true, List.isEmpty_iff] at hy2
    obtain ⟨r1, r2⟩ := hy2
    dsimp only at r1 r2
    subst r1
    rw [List.all_eq_true] at r2 q2
    have := map_msgI (l := g2) (fun y hy => msgI_eq (r2 y hy) (by simpa using q2 y hy))
    show (⟨true, [], g2⟩ : SI) = ⟨true, [], (g2.map fun y => y.f1).map msgI⟩
    rw [← this]
   have hx : (⟨true, [], [y0, y1, y2]⟩ : SI) = batchItem m0 m1 (y2.f2.map fun y => y.f1) := by
    unfold batchItem
    rw [← e0, ← e1, ← hy2l]
   have hA : (rwbP m0 m1 (y2.f2.map fun y => y.f1)).2 = 0 ∧ (rwbP m0 m1 (y2.f2.map fun y => y.f1)).1 = b := by
    rw [rwbP_eq]
    unfold wbP
    rw [if_pos (by rw [List.length_map]; exact hg.2.1), ← hx]
    unfold K.encP
    rw [if_pos hv]
    exact ⟨rfl, hf⟩
   rw [if_pos hA, if_pos ⟨hn.1, hn.2, hg⟩]
  ·have hA : ¬ ((rwbP m0 m1 (y2.f2.map fun y => y.f1)).2 = 0 ∧ (rwbP m0 m1 (y2.f2.map fun y => y.f1)).1 = b) := by
    rintro ⟨h1, h2⟩
    apply hg
    rw [rwbP_eq] at h1 h2
    unfold wbP at h1 h2
    split at h1
    ·rename_i hlen
     rw [if_pos hlen] at h2
     have hinj := enc_inj (batchItem_bytI m0 m1 (y2.f2.map fun y => y.f1) hms) hbi hv hf h1 h2
     unfold batchItem at hinj
     injection hinj with _ _ hl
     injection hl with _ hl
     injection hl with _ hl
     injection hl with hl _
     rw [← hl]
     refine ⟨rfl, by simpa using hlen, ?_⟩
     rw [List.all_eq_true]
     intro y hy
     obtain ⟨m, _, rfl⟩ := List.mem_map.1 hy
     rfl
    ·cases h1
   rw [if_neg hA, if_neg (fun h => hg h.2.2)]
end Go.Proofs.Ytocphkfkdadhaaa.H

namespace Go.Proofs.Ytocphkfkdadhaaa.H
open Go.RowKit Go.Proofs.YtocphkfkdadhaaaW.PrintWords Go.Proofs.YtocphkfkdadhaaaW.PrintLast Go.Proofs.YtocphkfkdadhaaaW.PrintMore
set_option linter.unusedVariables false
set_option linter.unusedSimpArgs false
theorem rdQ (q : List SQ) (i : Nat) (h : i < q.length) : PRF.rd_T78 q (i : Int) = q[i] := by simp [PRF.rd_T78, List.getD_eq_getElem?_getD, h]
theorem rdL (l : List (List Int)) (i : Nat) (h : i < l.length) : PRF.rd_L2 l (i : Int) = l[i] := by simp [PRF.rd_L2, List.getD_eq_getElem?_getD, h]
theorem w1_ (i : Nat) (h : i < 9223372036854775807) : wrap64 ((i : Int) + 1) = ((i + 1 : Nat) : Int) := by rw [K.wrap64_in _ (by omega)]; omega
theorem short_ev (l : List (List Int)) (hl : l.length ≤ 9223372036854775807) : K.Ev (fun k => PRF.proctorref20_short.f k l) (!longP l) :=
 K.Ev.of_mono (fun k => PRF.proctorref20_short.mono l k) (short_f l hl)
theorem may20_ev (q : List SQ) (tk : Int) (l : List (List Int)) (nx : Int) (hq : q.length ≤ 9223372036854775807) (hl : l.length ≤ 9223372036854775807) : ∃ k, PRF.proctorref20_May.f k q tk l nx = some (mayI q tk l) := by
 obtain ⟨M, hM⟩ := short_ev l hl
 have key : ∀ (d i : Nat) (last : Int), i + d = q.length → ∀ k, d + 1 + M ≤ k → PRF.proctorref20_May.l0 k last (i : Int) q tk l nx = some (riseP last (q.drop i) && !longP l) := by
  intro d
  induction d with
  | zero =>
   intro i last h k hk
   obtain ⟨k, rfl⟩ : ∃ k', k = k' + 1 := ⟨k - 1, by omega⟩
   rw [PRF.proctorref20_May.l0, if_neg (by omega), show PRF.proctorref20_short.f k l = _ from hM k (by omega), List.drop_of_length_le (by omega)]
   rfl
  | succ d ih =>
   intro i last h k hk
   obtain ⟨k, rfl⟩ : ∃ k', k = k' + 1 := ⟨k - 1, by omega⟩
   have hi : i < q.length := by omega
   rw [PRF.proctorref20_May.l0, if_pos (by omega), if_pos (by omega), rdQ q i hi, List.drop_eq_getElem_cons hi]
   by_cases h1 : q[i].f0 < last
   ·rw [if_pos h1]
    have : decide (last ≤ q[i].f0) = false := decide_eq_false (by omega)
    simp only [riseP, this, Bool.false_and]
   ·rw [if_neg h1]
    have e1 : decide (last ≤ q[i].f0) = true := decide_eq_true (by omega)
    by_cases h2 : (q[i].f1.length : Int) > 65536
    ·rw [if_pos h2]
     have : decide (q[i].f1.length ≤ 65536) = false := decide_eq_false (by omega)
     simp only [riseP, this, Bool.and_false, Bool.false_and]
    ·rw [if_neg h2, w1_ i (by omega), ih (i + 1) _ (by omega) k (by omega)]
     have : decide (q[i].f1.length ≤ 65536) = true := decide_eq_true (by omega)
     simp only [riseP, this, e1, Bool.true_and]
 refine ⟨q.length + 2 + M, ?_⟩
 unfold PRF.proctorref20_May.f mayI
 by_cases h1 : (q.length : Int) > 4096
 ·rw [if_pos h1, show q.length + 2 + M = (q.length + 1 + M) + 1 by omega, PRF.proctorref20_May.j0, if_pos rfl]
  have : decide (q.length ≤ 4096) = false := decide_eq_false (by omega)
  rw [this]; rfl
 rw [if_neg h1]
 by_cases h2 : (l.length : Int) > 4096
 ·rw [if_pos h2, show q.length + 2 + M = (q.length + 1 + M) + 1 by omega, PRF.proctorref20_May.j0, if_pos rfl]
  have : decide (l.length ≤ 4096) = false := decide_eq_false (by omega)
  rw [this]; simp
 rw [if_neg h2]
 have e1 : decide (q.length ≤ 4096) = true := decide_eq_true (by omega)
 have e2 : decide (l.length ≤ 4096) = true := decide_eq_true (by omega)
 by_cases h3 : tk < 0
 ·rw [if_pos h3, show q.length + 2 + M = (q.length + 1 + M) + 1 by omega, PRF.proctorref20_May.j0, if_pos rfl]
  have : decide (0 ≤ tk) = false := decide_eq_false (by omega)
  rw [this]; simp
 rw [if_neg h3]
 have e3 : decide (0 ≤ tk) = true := decide_eq_true (by omega)
 by_cases h4 : tk > (q.length : Int)
 ·rw [decide_eq_true h4, show q.length + 2 + M = (q.length + 1 + M) + 1 by omega, PRF.proctorref20_May.j0, if_pos rfl]
  have : decide (tk ≤ (q.length : Int)) = false := decide_eq_false (by omega)
  rw [this]; simp
 have e4 : decide (tk ≤ (q.length : Int)) = true := decide_eq_true (by omega)
 rw [decide_eq_false h4, show q.length + 2 + M = (q.length + 1 + M) + 1 by omega, PRF.proctorref20_May.j0, if_neg (by decide), e1, e2, e3, e4]
 have := key q.length 0 0 (by omega) (q.length + 1 + M) (Nat.le_refl _)
 rw [List.drop_zero] at this
 rw [show ((0 : Nat) : Int) = 0 from rfl] at this
 rw [this]
 rfl
theorem copy01_f (m : List Int) (h : m.length ≤ 140737488351232) : PRF.proctorref01_Copy.f m = some m := by
 rw [PRF.proctorref01_Copy.f]
 simp only [Option.bind_some, List.nil_append]
 rw [if_pos (by simp; omega)]
theorem copylist_ev (l : List (List Int)) (hl : l.length ≤ 5864062014800) (hm : ∀ m ∈ l, m.length ≤ 140737488351232) : ∀ k, l.length + 1 ≤ k → PRF.proctorref20_CopyList.f k l = some l := by
 have key : ∀ (d i : Nat), i + d = l.length → ∀ k, d + 1 ≤ k → PRF.proctorref20_CopyList.l0 k l (l.take i) (i : Int) = some l := by
  intro d
  induction d with
  | zero =>
   intro i h k hk
   obtain ⟨k, rfl⟩ : ∃ k', k = k' + 1 := ⟨k - 1, by omega⟩
   rw [PRF.proctorref20_CopyList.l0, if_neg (by omega), List.take_of_length_le (by omega)]
  | succ d ih =>
   intro i h k hk
   obtain ⟨k, rfl⟩ : ∃ k', k = k' + 1 := ⟨k - 1, by omega⟩
   have hi : i < l.length := by omega
   rw [PRF.proctorref20_CopyList.l0, if_pos (by omega), if_pos (by omega), rdL l i hi, copy01_f _ (hm _ (List.getElem_mem hi)), Option.bind_some, if_pos (by rw [List.length_take]; omega), w1_ i (by omega), ← List.take_succ_eq_append_getElem hi]
   exact ih (i + 1) (by omega) k (by omega)
 intro k hk
 have := key l.length 0 (by omega) k hk
 rw [List.take_zero] at this
 exact this
theorem copy20_ev (x : Box) (hq : x.q.length ≤ 4398046511100) (hl : x.l.length ≤ 5864062014800) (hqm : ∀ d ∈ x.q, d.f1.length ≤ 140737488351232) (hm : ∀ m ∈ x.l, m.length ≤ 140737488351232) : ∃ k, PRF.proctorref20_Copy.f k x.q x.tk x.l x.nx = some (x.q, x.tk, x.l, x.nx) := by
 obtain ⟨q, tk, l, nx⟩ := x
 dsimp only at *
 have key : ∀ (d i : Nat), i + d = q.length → ∀ k, d + 1 + (l.length + 1) ≤ k → PRF.proctorref20_Copy.l0 k (q.take i) (i : Int) q tk l nx = some (q, tk, l, nx) := by
  intro d
  induction d with
  | zero =>
   intro i h k hk
   obtain ⟨k, rfl⟩ : ∃ k', k = k' + 1 := ⟨k - 1, by omega⟩
   rw [PRF.proctorref20_Copy.l0, if_neg (by omega), List.take_of_length_le (by omega), copylist_ev l hl hm k (by omega)]
   rfl
  | succ d ih =>
   intro i h k hk
   obtain ⟨k, rfl⟩ : ∃ k', k = k' + 1 := ⟨k - 1, by omega⟩
   have hi : i < q.length := by omega
   rw [PRF.proctorref20_Copy.l0, if_pos (by omega), if_pos (by omega), rdQ q i hi, copy01_f _ (hqm _ (List.getElem_mem hi)), Option.bind_some, if_pos (by rw [List.length_take]; omega), w1_ i (by omega)]
   have e : q.take i ++ [(⟨q[i].f0, q[i].f1⟩ : SQ)] = q.take (i + 1) := (List.take_succ_eq_append_getElem hi).symm
   rw [e]
   exact ih (i + 1) (by omega) k (by omega)
 refine ⟨q.length + 1 + (l.length + 1), ?_⟩
 have := key q.length 0 (by omega) _ (Nat.le_refl _)
 rw [List.take_zero] at this
 exact this
theorem lists_ev (a b : List (List Int)) (hl : a.length ≤ 1000000000) (ha : ∀ m ∈ a, K.Byt m) (hb : ∀ m ∈ b, K.Byt m) : ∀ k, a.length + 1 ≤ k → PRF.proctorref20_Lists.f k a b = some (eqL eqB a b) := by
 intro k hk
 unfold PRF.proctorref20_Lists.f
 by_cases h : (a.length : Int) = (b.length : Int)
 case neg => rw [if_neg h, eqL_len _ _ _ (by omega)]
 rw [if_pos h]
 have key : ∀ (d i : Nat), i + d = a.length → ∀ k, d + 1 ≤ k → PRF.proctorref20_Lists.l0 k a b (i : Int) = some (eqL eqB (a.drop i) (b.drop i)) := by
  intro d
  induction d with
  | zero =>
   intro i h k hk
   obtain ⟨k, rfl⟩ : ∃ k', k = k' + 1 := ⟨k - 1, by omega⟩
   rw [PRF.proctorref20_Lists.l0, if_neg (by omega), List.drop_of_length_le (by omega), List.drop_of_length_le (by omega)]
   rfl
  | succ d ih =>
   intro i h k hk
   obtain ⟨k, rfl⟩ : ∃ k', k = k' + 1 := ⟨k - 1, by omega⟩
   have hi : i < a.length := by omega
   have hi2 : i < b.length := by omega
   rw [PRF.proctorref20_Lists.l0, if_pos (by omega), if_pos (by omega), if_pos (by omega), rdL a i hi, rdL b i hi2, K.same01_f _ _ (ha _ (List.getElem_mem hi)) (hb _ (List.getElem_mem hi2)), Option.bind_some, eqL_drop _ _ _ _ hi hi2]
   by_cases he : a[i] = b[i]
   ·rw [decide_eq_true he, if_pos rfl, w1_ i (by omega), ih (i + 1) (by omega) k (by omega)]
    have : eqB a[i] b[i] = true := by rw [he]; exact beq_self_eq_true _
    rw [this]; rfl
   ·rw [decide_eq_false he, if_neg (by decide)]
    have : eqB a[i] b[i] = false := beq_eq_false_iff_ne.2 he
    rw [this]; rfl
 have := key a.length 0 (by omega) k hk
 exact this
end Go.Proofs.Ytocphkfkdadhaaa.H

namespace Go.Proofs.Ytocphkfkdadhaaa.H
open Go.RowKit Go.Proofs.YtocphkfkdadhaaaW.PrintWords Go.Proofs.YtocphkfkdadhaaaW.PrintLast Go.Proofs.YtocphkfkdadhaaaW.PrintMore
open Go.ChangeShapes Go.WideShapes Go.ChangeAt
set_option linter.unusedVariables false
set_option linter.unusedSimpArgs false
def Lt (ns : List Nat) : Prop := ∀ n ∈ ns, n ≤ 140737488351232
def OpensZ {α : Type} (T : TypeId) (d : Kd α) (ok : α → Prop) : Prop :=
 ∀ {H : Type} {enc : TypeId × Value → H} {W : World} {fuel : Nat} {cs : List Value} {x : DataW H × List MemPlace}, DataW.trod enc Try.prog W 0 (fun _ => true) true fuel T cs = some x → Lt (x.1.weights Try.prog T) → ∃ y, d.K W y cs ∧ ok y
theorem OpensZ.of {α : Type} {T : TypeId} {d : Kd α} {ok : α → Prop} (h : Opens T d ok) : OpensZ T d ok := fun hx _ => h hx
theorem weights_mem_all {H : Type} {P : Program} {e : TypeId} : ∀ {es : List (DataW H)} {i : Nat} {d : DataW H}, es[i]? = some d → ∀ n ∈ d.weights P e, n ∈ DataW.weightsAll P e es
 | [], i, d, h, _, _ => by simp at h
 | x :: es, 0, d, h, n, hn => by
  simp only [List.getElem?_cons_zero, Option.some.injEq] at h
  subst h
  simp only [DataW.weightsAll, List.mem_append]
  exact Or.inl hn
 | x :: es, i + 1, d, h, n, hn => by
  simp only [List.getElem?_cons_succ] at h
  simp only [DataW.weightsAll, List.mem_append]
  exact Or.inr (weights_mem_all h n hn)
theorem opensZ_slice {α : Type} {T e : TypeId} {d : Kd α} {ok : α → Prop} (hT : Try.prog.underlying T = some (.slice e)) (hs : Try.prog.cellsOf e = d.sz) (he : OpensZ e d ok) :
 OpensZ T (Kd.slice e d) (fun l => (∀ y ∈ l, ok y) ∧ l.length * Try.prog.bytesOf e ≤ 140737488351232) := by
 intro H enc W fuel cs x h hw
 rcases DataW.trod_slice hT h with ⟨hc2, hx⟩ | ⟨a, len, cap, elems, rest, m, hm, hc2, hx, _, hlc, hcm, hle, hel, _, _⟩
 ·exact ⟨[], ⟨none, 0, hc2, Nat.le_refl _, Kd.C_nil _ _⟩, by simp, by simp⟩
 ·rw [hs] at hel
  have hwx : x.1.weights Try.prog T = (((elems.map (·.1)).length + (rest.map (·.1)).length) * Try.prog.bytesOf e) :: (DataW.weightsAll Try.prog e (elems.map (·.1)) ++ DataW.weightsAll Try.prog e (rest.map (·.1))) := by
   rw [hx]
   simp only [DataW.weights, hT]
  rw [hwx] at hw
  have each : ∀ i, i < len → ∃ y : α, (∃ c, c.length = d.sz ∧ d.K W y c ∧ ∀ j u, c[j]? = some u → W.cell? (a.add (i * d.sz + j)) = some u) ∧ ok y := by
   intro i hi
   have h3 := hel i hi
   rw [List.getElem?_eq_getElem (by omega), Option.bind_eq_some_iff] at h3
   obtain ⟨c, hc, ht⟩ := h3
   obtain ⟨y, hK, hBy⟩ := he ht (fun n hn => hw n (List.mem_cons_of_mem _ (List.mem_append_left _ (weights_mem_all (i := i) (by rw [List.getElem?_map, List.getElem?_eq_getElem (by omega)]; rfl) n hn))))
   obtain ⟨_, hcl, hcc⟩ := World.cells?_some hc
   refine ⟨y, ⟨c, hcl, hK, fun j u hj => ?_⟩, hBy⟩
   have hj3 : j < d.sz := by have := (List.getElem?_eq_some_iff.1 hj).1; omega
   rw [← hj, ← hcc j hj3, Addr.add_add]
  obtain ⟨ys, hyl, hys⟩ := choose_list _ len each
  subst hyl
  refine ⟨ys, ⟨some a, cap, hc2, hlc, rfl, ?_, fun _ => ⟨a, rfl, fun j p hj => (hys j p hj).1⟩⟩, ?_, ?_⟩
  ·have : maxLen ≤ 9223372036854775807 := by decide
   show ys.length ≤ 9223372036854775807
   omega
  ·intro y hy
   obtain ⟨i, hi⟩ := List.getElem?_of_mem hy
   exact (hys i y hi).2
  ·have h1 := hw _ (List.mem_cons_self)
   rw [List.length_map, hle] at h1
   exact Nat.le_trans (Nat.mul_le_mul_right _ (Nat.le_add_right _ _)) h1
def ManyZ {α : Type} (ts : List TypeId) (d : Kd α) (ok : α → Prop) : Prop :=
 ∀ {H : Type} {enc : TypeId × Value → H} {W : World} {n : Nat} {cs : List Value}, cs.length = d.sz → (∀ i t, ts[i]? = some t → ∃ x : DataW H × List MemPlace, DataW.trod enc Try.prog W 0 (fun _ => true) true n t ((cs.drop (offs ts i)).take (Try.prog.cellsOf t)) = some x ∧ Lt (x.1.weights Try.prog t)) → ∃ y, d.K W y cs ∧ ok y
theorem manyZ_one {α : Type} {T : TypeId} {d : Kd α} {ok : α → Prop} (h : OpensZ T d ok) (hs : Try.prog.cellsOf T = d.sz) : ManyZ [T] d ok := by
 intro H enc W n cs hl hf
 obtain ⟨x, hx, hw⟩ := hf 0 T rfl
 rw [show offs [T] 0 = 0 from rfl, List.drop_zero, List.take_of_length_le (by omega)] at hx
 exact h hx hw
theorem manyZ_cons {α β : Type} {T : TypeId} {ts : List TypeId} {a : Kd α} {b : Kd β} {ok1 : α → Prop} {ok2 : β → Prop} (h : OpensZ T a ok1) (hs : Try.prog.cellsOf T = a.sz) (hm : ManyZ ts b ok2) : ManyZ (T :: ts) (Kd.pair a b) (fun y => ok1 y.1 ∧ ok2 y.2) := by
 intro H enc W n cs hl hf
 have hl' : cs.length = a.sz + b.sz := hl
 obtain ⟨x, hx, hw⟩ := hf 0 T rfl
 rw [show offs (T :: ts) 0 = 0 from rfl, List.drop_zero, hs] at hx
 obtain ⟨y1, hK1, ho1⟩ := h hx hw
 obtain ⟨y2, hK2, ho2⟩ := hm (cs := cs.drop a.sz) (by rw [List.length_drop]; omega) (fun i t ht => by
  obtain ⟨x, hx, hw⟩ := hf (i + 1) t (by simpa using ht)
  refine ⟨x, ?_, hw⟩
  rw [show offs (T :: ts) (i + 1) = Try.prog.cellsOf T + offs ts i from rfl, hs, ← List.drop_drop] at hx
  exact hx)
 exact ⟨(y1, y2), ⟨cs.take a.sz, cs.drop a.sz, (List.take_append_drop _ _).symm, hK1, hK2⟩, ho1, ho2⟩
theorem opensZ_struct {α : Type} {T : TypeId} {fs : Array Field} {ts : List TypeId} {d : Kd α} {ok : α → Prop} (hT : Try.prog.underlying T = some (.struct fs)) (hm : ManyZ ts d ok) (hsz : Try.prog.cellsOf T = d.sz)
 (hts : (List.range ts.length).map (fun i => (fs[i]?).map fun f => (f.type, f.offset)) = (List.range ts.length).map (fun i => (ts[i]?).map fun t => (t, offs ts i))) : OpensZ T d ok := by
 intro H enc W fuel cs x h hw
 obtain ⟨xs, n, hfu, hx, hl, hlen, hf⟩ := DataW.trod_struct hT h
 have hwx : x.1.weights Try.prog T = DataW.weightsEach Try.prog (fs.toList.map (·.type)) (xs.map (·.1)) := by
  rw [hx]
  simp only [DataW.weights, hT]
 rw [hwx] at hw
 refine hm (H := H) (enc := enc) (W := W) (n := n) (by rw [hl, hsz]) (fun i t ht => ?_)
 have hi := (List.getElem?_eq_some_iff.1 ht).1
 have h1 := congrArg (fun l => l[i]?) hts
 simp only [List.getElem?_map, List.getElem?_range hi, Option.map_some, ht] at h1
 have h2 := Option.some.inj h1
 obtain ⟨f, hfe, hfo⟩ := Option.map_eq_some_iff.1 h2
 simp only [Prod.mk.injEq] at hfo
 have h3 := hf i f hfe
 have hfi : i < fs.size := (Array.getElem?_eq_some_iff.1 hfe).1
 rw [List.getElem?_eq_getElem (by omega)] at h3
 rw [hfo.1, hfo.2] at h3
 refine ⟨_, h3, fun m hm' => hw m (DataW.weights_mem_each (j := i) (t := t) (d := (xs[i]'(by omega)).1) ?_ ?_ m hm')⟩
 ·rw [List.getElem?_map, Array.getElem?_toList, hfe, Option.map_some, hfo.1]
 ·rw [List.getElem?_map, List.getElem?_eq_getElem (by omega)]; rfl
set_option maxRecDepth 100000 in
theorem open_aggZ {α : Type} {T : TypeId} {fs : Array Field} {d : Kd α} {ok : α → Prop} (hT : Try.prog.underlying T = some (.struct fs)) (ho : OpensZ T d ok) {H : Type} {enc : TypeId × Value → H} {W : World} {r : Reach} {b0 : Nat} {v : Value} {x : DataW H} {p : List MemPlace}
 (hv : Value.okWide Try.prog W r b0 T v) (h : DataW.Trod enc Try.prog W 0 (fun _ => true) true T v x p) {ts : List TypeId} {ds : List (DataW H)} {j : Nat} (hsz : (DataW.weightsEach Try.prog ts ds).all (· ≤ reachBytes) = true) (ht : ts[j]? = some T) (hd : ds[j]? = some x) :
 ∃ (cs : Array Value) (y : α), v = .agg cs ∧ d.K W y cs.toList ∧ ok y := by
 obtain ⟨cs, rfl, hsz2⟩ := okWide_struct hT hv
 obtain ⟨fuel, hf⟩ := h
 obtain ⟨y, hK, hB⟩ := ho hf (fun n hn => by
  have := List.all_eq_true.1 hsz n (DataW.weights_mem_each ht hd n hn)
  have h6 : reachBytes = 140737488351232 := rfl
  rw [h6] at this
  simpa using this)
 exact ⟨cs, y, rfl, hK, hB⟩
end Go.Proofs.Ytocphkfkdadhaaa.H

namespace Go.Proofs.Ytocphkfkdadhaaa.H
open Go.RowKit Go.Proofs.YtocphkfkdadhaaaW.PrintWords Go.Proofs.YtocphkfkdadhaaaW.PrintLast Go.Proofs.YtocphkfkdadhaaaW.PrintMore
set_option linter.unusedVariables false
set_option linter.unusedSimpArgs false
theorem C_map {α β : Type} {d : Kd α} {d' : Kd β} {f : α → β} {w : World} {A : Option Addr} {n : Nat} {xs : List α} (hs : d.sz = d'.sz) (hK : ∀ x cs, d.K w x cs → d'.K w (f x) cs) (h : Kd.C d w A n xs) : Kd.C d' w A n (xs.map f) := by
 obtain ⟨h1, h2, h3⟩ := h
 refine ⟨by rw [List.length_map]; exact h1, h2, fun hp => ?_⟩
 obtain ⟨ad, e, hc⟩ := h3 hp
 refine ⟨ad, e, fun j p hj => ?_⟩
 rw [List.getElem?_map] at hj
 obtain ⟨x, hx, rfl⟩ := Option.map_eq_some_iff.1 hj
 obtain ⟨c, k1, k2, k3⟩ := hc j x hx
 exact ⟨c, by rw [← hs]; exact k1, hK _ _ k2, by rw [← hs]; exact k3⟩
theorem oz_u8 : OpensZ 5 kB (fun n => (Lit.int .u8 n).wf = true) := OpensZ.of (opens_int Try.underlying5)
theorem oz_u64 : OpensZ 23 (Kd.int .u64) (fun n => (Lit.int .u64 n).wf = true) := OpensZ.of (opens_int Try.underlying23)
theorem oz_int : OpensZ 3 (Kd.int .i64) (fun n => (Lit.int .i64 n).wf = true) := OpensZ.of (opens_int Try.underlying3)
def OkM (m : List Int) : Prop := (∀ y ∈ m, (Lit.int .u8 y).wf = true) ∧ m.length * 1 ≤ 140737488351232
theorem oz_bytes : OpensZ 74 (Kd.slice 5 kB) OkM := by
 intro H enc W fuel cs x hx hw
 obtain ⟨y, hK, h1, h2⟩ := opensZ_slice (T := 74) Try.underlying74 (by kernel_rfl) oz_u8 hx hw
 rw [show Try.prog.bytesOf _ = 1 from by kernel_rfl] at h2
 exact ⟨y, hK, h1, h2⟩
def OkL (l : List (List Int)) : Prop := (∀ m ∈ l, OkM m) ∧ l.length * 24 ≤ 140737488351232
theorem oz_list : OpensZ 71 (Kd.slice 74 (Kd.slice 5 kB)) OkL := by
 intro H enc W fuel cs x hx hw
 obtain ⟨y, hK, h1, h2⟩ := opensZ_slice (T := 71) Try.underlying71 (by kernel_rfl) oz_bytes hx hw
 rw [show Try.prog.bytesOf _ = 24 from by kernel_rfl] at h2
 exact ⟨y, hK, h1, h2⟩
abbrev kBt : Kd (Int × Int × List (List Int)) := Kd.pair (Kd.int .u64) (Kd.pair (Kd.int .u64) (Kd.slice 74 (Kd.slice 5 kB)))
theorem oz_batch : OpensZ 108 kBt (fun y => (Lit.int .u64 y.1).wf = true ∧ (Lit.int .u64 y.2.1).wf = true ∧ OkL y.2.2) :=
 @fun H enc W fuel cs x hx hw => opensZ_struct Try.underlying108 (manyZ_cons oz_u64 (by kernel_rfl) (manyZ_cons oz_u64 (by kernel_rfl) (manyZ_one oz_list (by kernel_rfl)))) (by kernel_rfl) (by kernel_rfl) hx hw
abbrev kDl : Kd (Int × List Int) := Kd.pair (Kd.int .i64) (Kd.slice 5 kB)
theorem oz_delayed : OpensZ 78 kDl (fun y => (Lit.int .i64 y.1).wf = true ∧ OkM y.2) :=
 @fun H enc W fuel cs x hx hw => opensZ_struct Try.underlying78 (manyZ_cons oz_int (by kernel_rfl) (manyZ_one oz_bytes (by kernel_rfl))) (by kernel_rfl) (by kernel_rfl) hx hw
def OkQ (l : List (Int × List Int)) : Prop := (∀ y ∈ l, (Lit.int .i64 y.1).wf = true ∧ OkM y.2) ∧ l.length * 32 ≤ 140737488351232
theorem oz_queue : OpensZ 70 (Kd.slice 78 kDl) OkQ := by
 intro H enc W fuel cs x hx hw
 obtain ⟨y, hK, h1, h2⟩ := opensZ_slice (T := 70) Try.underlying70 (by kernel_rfl) oz_delayed hx hw
 rw [show Try.prog.bytesOf _ = 32 from by kernel_rfl] at h2
 exact ⟨y, hK, h1, h2⟩
abbrev kInb : Kd (List (Int × List Int) × Int × List (List Int) × Int) := Kd.pair (Kd.slice 78 kDl) (Kd.pair (Kd.int .i64) (Kd.pair (Kd.slice 74 (Kd.slice 5 kB)) (Kd.int .u64)))
def OkInb (y : List (Int × List Int) × Int × List (List Int) × Int) : Prop := OkQ y.1 ∧ (Lit.int .i64 y.2.1).wf = true ∧ OkL y.2.2.1 ∧ (Lit.int .u64 y.2.2.2).wf = true
theorem oz_inbox : OpensZ 73 kInb OkInb :=
 @fun H enc W fuel cs x hx hw => opensZ_struct Try.underlying73 (manyZ_cons oz_queue (by kernel_rfl) (manyZ_cons oz_int (by kernel_rfl) (manyZ_cons oz_list (by kernel_rfl) (manyZ_one oz_u64 (by kernel_rfl))))) (by kernel_rfl) (by kernel_rfl) hx hw
theorem OkM.byt {m : List Int} (h : OkM m) : ∀ z ∈ m, 0 ≤ z ∧ z ≤ 255 := fun z hz => by
 have := h.1 z hz
 simp [Lit.wf, IntKind.min, IntKind.max, IntKind.signed, IntKind.bits] at this
 omega
def boxOf (y : List (Int × List Int) × Int × List (List Int) × Int) : Box := ⟨y.1.map fun p => ⟨p.1, p.2⟩, y.2.1, y.2.2.1, y.2.2.2⟩
theorem kInb_open {w : World} {cs : Array Value} {y : List (Int × List Int) × Int × List (List Int) × Int} (h : kInb.K w y cs.toList) :
 ∃ A1 c1 A2 c2, cs = #[.slice A1 (boxOf y).q.length c1, .int .i64 (boxOf y).tk, .slice A2 (boxOf y).l.length c2, .int .u64 (boxOf y).nx] ∧ (boxOf y).q.length ≤ c1 ∧ (boxOf y).l.length ≤ c2 ∧ Kd.C kQ w A1 (boxOf y).q.length (boxOf y).q ∧ Kd.C kL w A2 (boxOf y).l.length (boxOf y).l := by
 obtain ⟨a1, r1, e1, ⟨A1, c1, rfl, g1, k1⟩, a2, r2, rfl, h2, a3, a4, rfl, ⟨A2, c2, rfl, g2, k2⟩, h4⟩ := h
 have h2 : a2 = [.int .i64 y.2.1] := h2
 have h4 : a4 = [.int .u64 y.2.2.2] := h4
 subst h2 h4
 refine ⟨A1, c1, A2, c2, ?_, by simpa [boxOf] using g1, g2, ?_, k2⟩
 ·apply Array.toList_inj.1
  rw [e1]
  simp [boxOf]
 ·have hm := C_map (d := kDl) (d' := kQ) (f := fun p : Int × List Int => (⟨p.1, p.2⟩ : SQ)) rfl (fun x cs hx => by
   obtain ⟨u1, u2, rfl, hu1, A, c, rfl, hc, hC⟩ := hx
   have hu1 : u1 = [.int .i64 x.1] := hu1
   subst hu1
   exact PRF.k78_mk w ⟨x.1, x.2⟩ hc hC) k1
  rw [show (boxOf y).q.length = y.1.length by simp [boxOf]]
  exact hm
theorem kBt_open {w : World} {cs : Array Value} {y : Int × Int × List (List Int)} (h : kBt.K w y cs.toList) :
 ∃ A c, cs = #[.int .u64 y.1, .int .u64 y.2.1, .slice A y.2.2.length c] ∧ y.2.2.length ≤ c ∧ Kd.C kL w A y.2.2.length y.2.2 := by
 obtain ⟨a1, r1, e1, h1, a2, a3, rfl, h2, A, c, rfl, g, k⟩ := h
 have h1 : a1 = [.int .u64 y.1] := h1
 have h2 : a2 = [.int .u64 y.2.1] := h2
 subst h1 h2
 refine ⟨A, c, ?_, g, k⟩
 apply Array.toList_inj.1
 rw [e1]
 rfl
theorem OkInb.byt {y : List (Int × List Int) × Int × List (List Int) × Int} (h : OkInb y) : BytB (boxOf y) := by
 refine ⟨fun d hd => ?_, fun m hm => (h.2.2.1.1 m hm).byt⟩
 obtain ⟨p, hp, rfl⟩ := List.mem_map.1 hd
 exact (h.1.1 p hp).2.byt
end Go.Proofs.Ytocphkfkdadhaaa.H

namespace Go.Proofs.Ytocphkfkdadhaaa.H
open Go.RowKit Go.Proofs.YtocphkfkdadhaaaW.PrintWords Go.Proofs.YtocphkfkdadhaaaW.PrintLast Go.Proofs.YtocphkfkdadhaaaW.PrintMore
set_option linter.unusedVariables false
set_option linter.unusedSimpArgs false
theorem batchP_ms {b : List Int} (hb : K.Byt b) : (batchP b).1.ms.length ≤ 4096 ∧ ∀ m ∈ (batchP b).1.ms, K.Byt m := by
 unfold batchP
 cases hd : K.decodeP b with
 | error e => exact ⟨Nat.zero_le _, fun m hm => by cases hm⟩
 | ok x =>
  have hbi := decodeP_byt hb hd
  show (shapeB x.f0 x.f2).1.ms.length ≤ 4096 ∧ ∀ m ∈ (shapeB x.f0 x.f2).1.ms, K.Byt m
  obtain ⟨f0, f1, f2⟩ := x
  dsimp only
  unfold shapeB
  split
  ·rename_i y0 y1 y2
   unfold itemsB
   split
   ·rename_i h
    refine ⟨by simpa using h.2.2.2.1, fun m hm => ?_⟩
    obtain ⟨y, hy, rfl⟩ := List.mem_map.1 hm
    exact BytI_f1 (BytI_f2 (BytI_f2 hbi y2 (by simp)) y hy)
   ·exact ⟨Nat.zero_le _, fun m hm => by cases hm⟩
  ·exact ⟨Nat.zero_le _, fun m hm => by cases hm⟩
theorem wbP_byt {n t : Nat} {ms : List (List Int)} (h : ∀ m ∈ ms, ∀ z ∈ m, 0 ≤ z ∧ z ≤ 255) : K.Byt (wbP n t ms).1 := by
 rw [← rwbP_eq]; exact rwbP_byt n t ms h
theorem eqD_refl (d : SQ) : eqD d d = true := by simp [eqD]
theorem eqB_refl (d : List Int) : eqB d d = true := by simp [eqB]
theorem sameI_refl (x : Box) : sameI x x = true := by
 unfold sameI
 rw [eqL_refl eqD_refl, eqL_refl eqB_refl]; simp
set_option maxHeartbeats 8000000 in
set_option maxRecDepth 100000 in
theorem batches_law (n t : Nat) (ms : List (List Int)) (hn : n ≤ 18446744073709551615) (ht : t ≤ 18446744073709551615) (Am : Option Addr) (cm : Nat) (b : List Int) (Ab : Option Addr) (cb : Nat) (x : Box) (A1 A2 : Option Addr) (c1 c2 : Nat) (w : World)
 (hC : Kd.C kL w Am ms.length ms) (hc : ms.length ≤ cm) (hms : ∀ m ∈ ms, ∀ z ∈ m, 0 ≤ z ∧ z ≤ 255) (hCb : Kd.C kB w Ab b.length b) (hcb : b.length ≤ cb) (hB : ∀ z ∈ b, 0 ≤ z ∧ z ≤ 255)
 (hC1 : Kd.C kQ w A1 x.q.length x.q) (hc1 : x.q.length ≤ c1) (hC2 : Kd.C kL w A2 x.l.length x.l) (hc2 : x.l.length ≤ c2) (hx : BytB x)
 (hql : x.q.length ≤ 4398046511100) (hll : x.l.length ≤ 5864062014800) (hqm : ∀ d ∈ x.q, d.f1.length ≤ 140737488351232) (hlm : ∀ m ∈ x.l, m.length ≤ 140737488351232) :
 Calls Try.prog 13 #[.agg #[.int .u64 (n : Int), .int .u64 (t : Int), .slice Am ms.length cm], .slice Ab b.length cb, .agg #[.slice A1 x.q.length c1, .int .i64 x.tk, .slice A2 x.l.length c2, .int .u64 x.nx]] w fun e w' => e = .returned (.bool true) ∧ Below w.heap.size w w' := by
 have H0 := Aside0.mk (Own.start w)
 have HW := Aside0.mk (fun W (h : Below w.heap.size w W) => writebatch_any n t ms hn ht Am cm W (Kd.C_below hC h) hc)
 have HRW := Aside0.mk (fun W (h : Below w.heap.size w W) => rwritebatch_any n t ms hn ht Am cm W (Kd.C_below hC h) hc)
 have HRB := Aside0.mk (fun W (h : Below w.heap.size w W) => readbatch_any b Ab cb W hB (Kd.C_below hCb h) hcb)
 have HRR := Aside0.mk (fun W (h : Below w.heap.size w W) => rreadbatch_any b Ab cb W hB (Kd.C_below hCb h) hcb)
 rw [rwbP_eq] at HRW
 rw [rbatchP_eq b hB] at HRR
 have HWB := Aside0.mk (wbP_byt (n := n) (t := t) hms)
 have HBM := Aside0.mk (batchP_ms (b := b) hB)
 have HMY := Aside0.mk (fun W (h : Below w.heap.size w W) => imay_any x.q x.tk x.l x.nx A1 A2 c1 c2 W (Kd.C_below hC1 h) hc1 (Kd.C_below hC2 h) hc2)
 obtain ⟨km, hkm⟩ := may20_ev x.q x.tk x.l x.nx (Kd.C_max hC1) (Kd.C_max hC2)
 have HRM := Aside0.mk (fun W (h : Below w.heap.size w W) => PRF.proctorref20_May.calls km A1 c1 x.q x.tk A2 c2 x.l x.nx _ W (Kd.C_below hC1 h) hc1 (Kd.C_below hC2 h) hc2 hkm)
 have HAN := Aside0.mk anchored20_any
 obtain ⟨kc, hkc⟩ := copy20_ev x hql hll hqm hlm
 have HCP : Aside0 (∀ W, Below w.heap.size w W → Calls Try.prog 42 #[.agg #[.slice A1 x.q.length c1, .int .i64 x.tk, .slice A2 x.l.length c2, .int .u64 x.nx]] W fun e w' => ∃ A3 c3 A4 c4, e = .returned (.agg #[.slice A3 x.q.length c3, .int .i64 x.tk, .slice A4 x.l.length c4, .int .u64 x.nx]) ∧ Below W.heap.size W w' ∧ Kd.C kQ w' A3 x.q.length x.q ∧ Kd.C kL w' A4 x.l.length x.l) := ⟨fun W h => by
  refine (PRF.proctorref20_Copy.calls kc A1 c1 x.q x.tk A2 c2 x.l x.nx _ _ _ _ W (Kd.C_below hC1 h) hc1 (Kd.C_below hC2 h) hc2 hkc).mono ?_
  rintro e w' ⟨v0, v2, rfl, h1, h2, hb⟩
  obtain ⟨A3, c3, rfl, _, h3⟩ := Kd.R_reads (Kd.S_R h1)
  obtain ⟨A4, c4, rfl, _, h4⟩ := Kd.R_reads (Kd.S_R h2)
  exact ⟨A3, c3, A4, c4, rfl, hb, h3, h4⟩⟩
 have HSM : Aside0 (∀ W A3 c3 A4 c4, Below w.heap.size w W → Kd.C kQ W A3 x.q.length x.q → Kd.C kL W A4 x.l.length x.l → Calls Try.prog 52 #[.agg #[.slice A1 x.q.length c1, .int .i64 x.tk, .slice A2 x.l.length c2, .int .u64 x.nx], .agg #[.slice A3 x.q.length c3, .int .i64 x.tk, .slice A4 x.l.length c4, .int .u64 x.nx]] W fun e w' => e = .returned (.bool true) ∧ Below W.heap.size W w') := ⟨fun W A3 c3 A4 c4 h h3 h4 => by
  have := isame_any x x A1 A2 A3 A4 c1 c2 c3 c4 W (Kd.C_below hC1 h) (Kd.C_below hC2 h) h3 h4 hx hx
  rwa [sameI_refl] at this⟩
 clear hC hc hms hCb hcb hB hC1 hc1 hC2 hc2 hx hql hll hqm hlm hkm hkc
 generalize mayI x.q x.tk x.l = my at *
 generalize batchP b = bp at *
 generalize wbP n t ms = wb at *
 obtain ⟨q, tk, l, nx⟩ := x
 obtain ⟨wl, we⟩ := wb
 obtain ⟨⟨bn, bt, bms⟩, be⟩ := bp
 dsimp only at *
 generalize q.length = nq at *
 generalize l.length = nl at *
 generalize ms.length = nm at *
 generalize b.length = nb at *
 go_enter Try.func13, Try.ntmps13
 have HZB := zB_one
 go_upto_region 5 with (first
  | fail
  | ((with_reducible refine gate_dst (N := 3) rfl ?_); refine own_box H0.out rfl (N := 3) rfl (t := 108) rfl (.agg #[.int .u64 (n : Int), .int .u64 (t : Int), .slice Am nm cm]) rfl ?_; intro g3 w1 H1 B1; replace H1 := Aside0.mk H1; replace B1 := Aside0.mk B1)
  | ((with_reducible refine gate_dst (N := 5) rfl ?_); refine own_box H1.out rfl (N := 5) rfl (t := 73) rfl (.agg #[.slice A1 nq c1, .int .i64 tk, .slice A2 nl c2, .int .u64 nx]) rfl ?_; intro g5 w2 H2 B2; replace H2 := Aside0.mk H2; replace B2 := Aside0.mk B2)
  | ((with_reducible refine gate_dst (N := 16) rfl ?_); ( refine own_loadV H2.out 1 g3 _ 108 rfl rfl (.tmp 3) rfl _ rfl Try.underlying108 rfl (by kernel_rfl) ?_))
  | (go_at_call 53; ( refine (HW.out _ H2.out.below).mono ?_; rintro e w3 ⟨v3, rfl, hO3⟩; have H3 := Aside0.mk (H2.out.call hO3); clear hO3))
  | ((with_reducible refine gate_dst (N := 21) rfl ?_); ( refine own_loadV H3.out 2 g3 _ 108 rfl rfl (.tmp 3) rfl _ rfl Try.underlying108 rfl (by kernel_rfl) ?_))
  | (go_at_call 54; ( refine (HRW.out _ H3.out.below).mono ?_; rintro e w4 ⟨v4, rfl, hO4⟩; have H4 := Aside0.mk (H3.out.call hO4); clear hO4))
  | (go_at_call 55; ( refine (HRB.out _ H4.out.below).mono ?_; rintro e w5 ⟨v5, rfl, hO5⟩; have H5 := Aside0.mk (H4.out.call hO5); obtain ⟨Ac, cc, rfl, hcc, _⟩ := hO5.reads 0 rfl; have HXc : Aside0 (Arr 3 #[.int .u64 bn, .int .u64 bt, .slice Ac bms.length cc]) := ⟨rfl, by simp [Value.oneCell']⟩; clear hO5))
  | ((with_reducible refine gate_dst (N := 11) rfl ?_); refine own_alloc H5.out rfl (N := 11) rfl (t := 108) rfl (#[.int .u64 0, .int .u64 0, .slice none 0 0]) 3 (by kernel_rfl) ?_; intro g11 w6 H6 B6; replace H6 := Aside0.mk H6; replace B6 := Aside0.mk B6)
  | ((with_reducible refine own_store H6.out 0 g11 _ 108 rfl rfl (.tmp 11) (.tmp 28) rfl (#[.int .u64 bn, .int .u64 bt, .slice Ac bms.length cc]) ?_ ?_ 3 HZB.out HXc.out (by kernel_rfl) ?_); (case _ => rfl); (case _ => rfl); intro w7 H7; replace H7 := Aside0.mk H7)
  | (go_at_call 56; ( refine (HRR.out _ H7.out.below).mono ?_; rintro e w8 ⟨v8, rfl, hO8⟩; have H8 := Aside0.mk (H7.out.call hO8); obtain ⟨Ad, cd, rfl, hcd, _⟩ := hO8.reads 0 rfl; have HXd : Aside0 (Arr 3 #[.int .u64 bn, .int .u64 bt, .slice Ad bms.length cd]) := ⟨rfl, by simp [Value.oneCell']⟩; clear hO8))
  | ((with_reducible refine gate_dst (N := 13) rfl ?_); refine own_alloc H8.out rfl (N := 13) rfl (t := 108) rfl (#[.int .u64 0, .int .u64 0, .slice none 0 0]) 3 (by kernel_rfl) ?_; intro g13 w9 H9 B9; replace H9 := Aside0.mk H9; replace B9 := Aside0.mk B9)
  | ((with_reducible refine own_store H9.out 0 g13 _ 108 rfl rfl (.tmp 13) (.tmp 33) rfl (#[.int .u64 bn, .int .u64 bt, .slice Ad bms.length cd]) ?_ ?_ 3 HZB.out HXd.out (by kernel_rfl) ?_); (case _ => rfl); (case _ => rfl); intro w10 H10; replace H10 := Aside0.mk H10)
  )
 obtain ⟨Ap, cp, rfl, hcp, hCp⟩ := H10.out.reads 5 rfl
 obtain ⟨Aq, cq, rfl, hcq, hCq⟩ := H10.out.reads 4 rfl
 have HSA : Aside0 (∀ W, Below w10.heap.size w10 W → Calls Try.prog 47 #[.slice Ap wl.length cp, .slice Aq wl.length cq] W fun e w' => e = .returned (.bool true) ∧ Below W.heap.size W w') := ⟨fun W h => by
  have := same01_any wl wl HWB.out HWB.out Ap Aq cp cq W (Kd.C_below hCp h) hcp (Kd.C_below hCq h) hcq
  rwa [decide_eq_true rfl] at this⟩
 have HLS : Aside0 (∀ W, Below w10.heap.size w10 W → Calls Try.prog 39 #[.slice Ac bms.length cc, .slice Ad bms.length cd] W fun e w' => e = .returned (.bool true) ∧ Below W.heap.size W w') := ⟨fun W h => by
  have hf := lists_ev bms bms (by have := HBM.out.1; omega) HBM.out.2 HBM.out.2 (bms.length + 1) (Nat.le_refl _)
  rw [eqL_refl eqB_refl] at hf
  exact (PRF.proctorref20_Lists.calls _ Ac cc bms Ad cd bms true W (Kd.C_below (H10.out.C_of 3 rfl) h) hcc (Kd.C_below (H10.out.C_of 1 rfl) h) hcd hf).mono fun e w' ⟨h1, h2⟩ => ⟨h1, h2.below⟩⟩
 clear hCp hCq HW HRW HRB HRR H0 H1 H2 H3 H4 H5 H6 H7 H8 H9 B1 B2 B6 B9 HBM HWB
 obtain ⟨lc, hlc⟩ : ∃ lc, lc = bms.length := ⟨_, rfl⟩
 rw [← hlc] at HLS H10 hcc hcd HXc HXd ⊢
 clear hlc HXc HXd
 generalize wl.length = lw at *
 have HD := Aside0.mk H10.out.drew
 refine St (fun W => W.cell? ⟨g11, 0, none⟩ = some (.int .u64 bn) ∧ W.cell? ⟨g11, 1, none⟩ = some (.int .u64 bt) ∧ W.cell? ⟨g11, 2, none⟩ = some (.slice Ac lc cc) ∧ W.cell? ⟨g13, 0, none⟩ = some (.int .u64 bn) ∧ W.cell? ⟨g13, 1, none⟩ = some (.int .u64 bt) ∧ W.cell? ⟨g13, 2, none⟩ = some (.slice Ad lc cd) ∧ W.cell? ⟨g5, 0, none⟩ = some (.slice A1 nq c1) ∧ W.cell? ⟨g5, 1, none⟩ = some (.int .i64 tk) ∧ W.cell? ⟨g5, 2, none⟩ = some (.slice A2 nl c2) ∧ W.cell? ⟨g5, 3, none⟩ = some (.int .u64 nx)) (fun hHeld => ?_) (by exact ⟨HD.out.cell 2 rfl 0 rfl, HD.out.cell 2 rfl 1 rfl, HD.out.cell 2 rfl 2 rfl, HD.out.cell 0 rfl 0 rfl, HD.out.cell 0 rfl 1 rfl, HD.out.cell 0 rfl 2 rfl, HD.out.cell 6 rfl 0 rfl, HD.out.cell 6 rfl 1 rfl, HD.out.cell 6 rfl 2 rfl, HD.out.cell 6 rfl 3 rfl⟩)
 refine Tk 0 ?_
 refine Tk 1 ?_
 refine Rd 2 fun K hK => ?_
 go_simp
 refine (HSA.out _ (below_drew (Below.refl _ _))).mono ?_
 rintro e w11 ⟨rfl, hBx⟩
 have HX11 : Aside0 (Below w10.heap.size w10 w11) := ⟨(below_drew (Below.refl _ _)).trans hBx⟩
 have H11 := Aside0.mk (HD.out.step hBx)
 clear hBx
 go_wp2_with fail
 refine Ag hK (fun hHeld => ?_) (by exact ⟨H11.out.cell 2 rfl 0 rfl, H11.out.cell 2 rfl 1 rfl, H11.out.cell 2 rfl 2 rfl, H11.out.cell 0 rfl 0 rfl, H11.out.cell 0 rfl 1 rfl, H11.out.cell 0 rfl 2 rfl, H11.out.cell 6 rfl 0 rfl, H11.out.cell 6 rfl 1 rfl, H11.out.cell 6 rfl 2 rfl, H11.out.cell 6 rfl 3 rfl⟩)
 clear hK K
 refine Tk 3 ?_
 refine Tk 4 ?_
 refine Tk 5 ?_
 refine Tk 6 ?_
 refine Tk 7 ?_
 refine Tk 8 ?_
 refine Tk 9 ?_
 refine Tk 10 ?_
 refine Tk 11 ?_
 refine Tk 12 ?_
 refine Tk 13 ?_
 refine Tk 14 ?_
 refine Tk 15 ?_
 refine Tk 16 ?_
 refine Tk 17 ?_
 refine Tk 18 ?_
 refine Tk 19 ?_
 refine Tk 20 ?_
 refine Tk 21 ?_
 refine Tk 22 ?_
 refine Tk 23 ?_
 refine Tk 24 ?_
 refine Tk 25 ?_
 refine Tk 26 ?_
 refine Rd 27 fun K hK => ?_
 go_simp
 refine (HLS.out _ HX11.out).mono ?_
 rintro e w12 ⟨rfl, hBx⟩
 have H12 := Aside0.mk (H11.out.step hBx)
 clear hBx
 go_wp2_with fail
 refine Ag hK (fun hHeld => ?_) (by exact ⟨H12.out.cell 2 rfl 0 rfl, H12.out.cell 2 rfl 1 rfl, H12.out.cell 2 rfl 2 rfl, H12.out.cell 0 rfl 0 rfl, H12.out.cell 0 rfl 1 rfl, H12.out.cell 0 rfl 2 rfl, H12.out.cell 6 rfl 0 rfl, H12.out.cell 6 rfl 1 rfl, H12.out.cell 6 rfl 2 rfl, H12.out.cell 6 rfl 3 rfl⟩)
 clear hK K
 refine Tk 28 ?_
 refine Tk 29 ?_
 refine Tk 30 ?_
 refine Tk 31 ?_
 refine Tk 32 ?_
 refine Tk 33 ?_
 refine Tk 34 ?_
 refine Tk 35 ?_
 refine Tk 37 ?_
 refine Rd 36 fun K hK => ?_
 go_simp
 refine (HMY.out _ H12.out.below).mono ?_
 rintro e w13 ⟨rfl, hBx⟩
 have H13 := Aside0.mk (H12.out.step hBx)
 clear hBx
 go_wp2_with fail
 refine Ag hK (fun hHeld => ?_) (by exact ⟨H13.out.cell 2 rfl 0 rfl, H13.out.cell 2 rfl 1 rfl, H13.out.cell 2 rfl 2 rfl, H13.out.cell 0 rfl 0 rfl, H13.out.cell 0 rfl 1 rfl, H13.out.cell 0 rfl 2 rfl, H13.out.cell 6 rfl 0 rfl, H13.out.cell 6 rfl 1 rfl, H13.out.cell 6 rfl 2 rfl, H13.out.cell 6 rfl 3 rfl⟩)
 clear hK K
 refine Rd 38 fun K hK => ?_
 go_simp
 refine (HRM.out _ H13.out.below).mono ?_
 rintro e w14 ⟨rfl, hBx⟩
 have H14 := Aside0.mk (H13.out.step hBx)
 clear hBx
 go_wp2_with fail
 refine Ag hK (fun hHeld => ?_) (by exact ⟨H14.out.cell 2 rfl 0 rfl, H14.out.cell 2 rfl 1 rfl, H14.out.cell 2 rfl 2 rfl, H14.out.cell 0 rfl 0 rfl, H14.out.cell 0 rfl 1 rfl, H14.out.cell 0 rfl 2 rfl, H14.out.cell 6 rfl 0 rfl, H14.out.cell 6 rfl 1 rfl, H14.out.cell 6 rfl 2 rfl, H14.out.cell 6 rfl 3 rfl⟩)
 clear hK K
 refine Tk 39 ?_
 refine Tk 40 ?_
 refine Tk 41 ?_
 refine Tk 42 ?_
 refine Tk 43 ?_
 refine Rd 44 fun K hK => ?_
 go_simp
 refine (HCP.out _ H14.out.below).mono ?_
 rintro e w15 ⟨A3, c3, A4, c4, rfl, hBx, hC3, hC4⟩
 have H15 := Aside0.mk (H14.out.step hBx)
 clear hBx
 go_wp2_with fail
 refine Ag hK (fun hHeld => ?_) (by exact ⟨H15.out.cell 2 rfl 0 rfl, H15.out.cell 2 rfl 1 rfl, H15.out.cell 2 rfl 2 rfl, H15.out.cell 0 rfl 0 rfl, H15.out.cell 0 rfl 1 rfl, H15.out.cell 0 rfl 2 rfl, H15.out.cell 6 rfl 0 rfl, H15.out.cell 6 rfl 1 rfl, H15.out.cell 6 rfl 2 rfl, H15.out.cell 6 rfl 3 rfl⟩)
 clear hK K
 refine Rd 45 fun K hK => ?_
 go_simp
 refine (HSM.out _ A3 c3 A4 c4 H15.out.below hC3 hC4).mono ?_
 clear hC3 hC4
 rintro e w16 ⟨rfl, hBx⟩
 have H16 := Aside0.mk (H15.out.step hBx)
 clear hBx
 go_wp2_with fail
 refine Ag hK (fun hHeld => ?_) (by exact ⟨H16.out.cell 2 rfl 0 rfl, H16.out.cell 2 rfl 1 rfl, H16.out.cell 2 rfl 2 rfl, H16.out.cell 0 rfl 0 rfl, H16.out.cell 0 rfl 1 rfl, H16.out.cell 0 rfl 2 rfl, H16.out.cell 6 rfl 0 rfl, H16.out.cell 6 rfl 1 rfl, H16.out.cell 6 rfl 2 rfl, H16.out.cell 6 rfl 3 rfl⟩)
 clear hK K
 refine Tk 46 ?_
 refine Tk 47 ?_
 refine Rd 48 fun K hK => ?_
 go_simp
 refine (HAN.out _).mono ?_
 rintro e w17 ⟨rfl, hBx⟩
 have H17 := Aside0.mk (H16.out.step hBx)
 clear hBx
 go_wp2_with fail
 refine Ag hK (fun hHeld => ?_) (by exact ⟨H17.out.cell 2 rfl 0 rfl, H17.out.cell 2 rfl 1 rfl, H17.out.cell 2 rfl 2 rfl, H17.out.cell 0 rfl 0 rfl, H17.out.cell 0 rfl 1 rfl, H17.out.cell 0 rfl 2 rfl, H17.out.cell 6 rfl 0 rfl, H17.out.cell 6 rfl 1 rfl, H17.out.cell 6 rfl 2 rfl, H17.out.cell 6 rfl 3 rfl⟩)
 clear hK K
 refine Tk 49 ?_
 refine Tk 50 ?_
 refine Dn ?_
 go_wp2_with fail
 go_ret
 exact ⟨rfl, H17.out.below⟩
end Go.Proofs.Ytocphkfkdadhaaa.H

namespace Go.Proofs.Ytocphkfkdadhaaa.H
open Go.RowKit
set_option linter.unusedVariables false
set_option linter.unusedSimpArgs false
theorem o_byte : Opens 5 kB (fun n => (Lit.int .u8 n).wf = true) := opens_int Try.underlying5
theorem wf8 {z : Int} (h : (Lit.int .u8 z).wf = true) : 0 ≤ z ∧ z ≤ 255 := by
 simp [Lit.wf, IntKind.min, IntKind.max, IntKind.signed, IntKind.bits] at h
 omega
theorem wf64 {z : Int} (h : (Lit.int .u64 z).wf = true) : ∃ n : Nat, z = n ∧ n ≤ 18446744073709551615 := by
 simp [Lit.wf, IntKind.min, IntKind.max, IntKind.signed, IntKind.bits] at h
 exact ⟨z.toNat, by omega, by omega⟩
theorem OkInb.ql {y : List (Int × List Int) × Int × List (List Int) × Int} (h : OkInb y) : (boxOf y).q.length ≤ 4398046511100 := by
 have := h.1.2
 have e : (boxOf y).q.length = y.1.length := by simp [boxOf]
 omega
theorem OkInb.ll {y : List (Int × List Int) × Int × List (List Int) × Int} (h : OkInb y) : (boxOf y).l.length ≤ 5864062014800 := by
 have := h.2.2.1.2
 have e : (boxOf y).l.length = y.2.2.1.length := rfl
 omega
theorem OkInb.qm {y : List (Int × List Int) × Int × List (List Int) × Int} (h : OkInb y) : ∀ d ∈ (boxOf y).q, d.f1.length ≤ 140737488351232 := fun d hd => by
 obtain ⟨p, hp, rfl⟩ := List.mem_map.1 hd
 have := (h.1.1 p hp).2.2
 simpa using this
theorem OkInb.lm {y : List (Int × List Int) × Int × List (List Int) × Int} (h : OkInb y) : ∀ m ∈ (boxOf y).l, m.length ≤ 140737488351232 := fun m hm => by
 have := (h.2.2.1.1 m hm).2
 omega
end Go.Proofs.Ytocphkfkdadhaaa.H

