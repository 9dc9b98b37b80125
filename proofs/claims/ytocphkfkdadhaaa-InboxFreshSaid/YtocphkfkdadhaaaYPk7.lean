import Derived.Test.YtocphkfkdadhaaaYPk6
import Derived.Test.YtocphkfkdadhaaaYPk3
import Derived.Test.YtocphkfkdadhaaaYPk1
import Derived.Test.YtocphkfkdadhaaaYPk4
import Derived.Test.YtocphkfkdadhaaaYPk2
set_option maxHeartbeats 4000000
set_option linter.unusedVariables false
set_option linter.unusedSimpArgs false
set_option maxRecDepth 100000
namespace Go.Proofs.Ytocphkfkdadhaaa.H
open Go.RowKit Go.Proofs.YtocphkfkdadhaaaW.PrintWords Go.Proofs.YtocphkfkdadhaaaW.PrintLast Go.Proofs.YtocphkfkdadhaaaW.PrintMore
theorem z3_one : Aside0 (Arr 3 #[.bool false, .slice none 0 0, .slice none 0 0]) := ⟨rfl, by simp [Value.oneCell']⟩
theorem zB_one : Aside0 (Arr 3 #[.int .u64 0, .int .u64 0, .slice none 0 0]) := ⟨rfl, by simp [Value.oneCell']⟩
theorem arr3_ {b : Bool} {v : Value} {A : Option Addr} {n c : Nat} (h : v.oneCell' = true) : Arr 3 #[.bool b, v, .slice A n c] := ⟨rfl, by
 show (#[Value.bool b, v, .slice A n c].all (·.oneCell')) = true
 simp only [Array.all_eq_true_iff_forall_mem]
 intro x hx
 simp at hx
 rcases hx with rfl | rfl | rfl
 ·rfl
 ·exact h
 ·rfl⟩
theorem R_one {α : Type} {d : Kd α} {e : Nat} {w : World} {base : Nat} {ok : Nat → Prop} {v : Value} {xs : List α} (h : d.R e w base ok v xs) : v.oneCell' = true := by
 obtain ⟨A, c, rfl⟩ := Kd.R_slice h
 rfl
theorem run_index_ptr {P : Program} (t e u : TypeId) (n : Nat) (ht : P.underlying t = some (.array n e)) (he : P.underlying e = some (.pointer u)) (hs : (P.info? e).map (·.size) = some 1) (cs : Array Value) (i : Int) (hi : 0 ≤ i ∧ i < n) {v : Value} (hv : cs[i.toNat]? = some v) (w : World) :
 (Instr.index t (.agg cs) (.int .i64 i)).run P w = .ok v w := by
 obtain ⟨ti, hti, hsz⟩ := Option.map_eq_some_iff.1 hs
 have hag : (isAgg e).run P w = .ok false w := by
  unfold isAgg
  simp [run_underlying he, go_sem]
 simp only [Instr.index, asIntOf, Sem.run_bind, Sem.run_pure, Result.andThen_ok, run_underlying ht]
 rw [if_pos hi]
 simp [sizeOf, typeInfo, hti, hsz, part, hag, hv, go_sem]
def stB (n0 n1 : Int) : Nat → Array Value
 | 0 => #[.int .u64 0, .int .u64 0, .slice none 0 0]
 | 1 => #[.int .u64 n0, .int .u64 0, .slice none 0 0]
 | _ => #[.int .u64 n0, .int .u64 n1, .slice none 0 0]
theorem readnum_any (y : SI) (hb : K.Byt y.f1) (A1 : Option Addr) (c1 : Nat) (A2 : Option Addr) (c2 : Nat) (W : World) (h1 : Kd.C kB W A1 y.f1.length y.f1) (h2 : y.f1.length ≤ c1) (h3 : Kd.C kI W A2 y.f2.length y.f2) (h4 : y.f2.length ≤ c2) :
 Calls Try.prog 108 #[.agg #[.bool y.f0, .slice A1 y.f1.length c1, .slice A2 y.f2.length c2]] W fun e w' => e = .returned (.tuple #[.int .u64 (K.rnumP y).1, .int .i64 (K.rnumP y).2]) ∧ Below W.heap.size W w' := by
 obtain ⟨k, hk⟩ := K.readnum_f y hb
 exact PRF.rlp_ReadNum.calls k y.f0 A1 c1 y.f1 A2 c2 y.f2 _ _ W h1 h2 h3 h4 hk
theorem R_item {W : World} {base : Nat} {ok : Nat → Prop} {v : Value} {xs : List SI} {e : Nat} (h : Kd.R kI e W base ok v xs) (i : Nat) (hi : i < xs.length) :
 ∃ g cap A1 c1 A2 c2, v = .slice (some ⟨g, 0, none⟩) xs.length cap ∧ xs.length ≤ cap ∧ Kd.R kB 5 W base ok (.slice A1 xs[i].f1.length c1) xs[i].f1 ∧ Kd.R kI 159 W base ok (.slice A2 xs[i].f2.length c2) xs[i].f2 ∧ xs[i].f1.length ≤ c1 ∧ xs[i].f2.length ≤ c2 ∧
  ∀ (j : Nat) (u : Value), [Value.bool xs[i].f0, .slice A1 xs[i].f1.length c1, .slice A2 xs[i].f2.length c2][j]? = some u → W.cell? ⟨g, i * 3 + j, none⟩ = some u := by
 obtain ⟨g, cap, cs, h1, h2, hM, hcl⟩ := R_elem h i hi
 obtain ⟨v1, v2, rfl, hr1, hr2⟩ := PRF.k159_openM hM
 obtain ⟨A1, c1, rfl, hc1, _⟩ := Kd.R_reads hr1
 obtain ⟨A2, c2, rfl, hc2, _⟩ := Kd.R_reads hr2
 exact ⟨g, cap, A1, c1, A2, c2, h1, h2, hr1, hr2, hc1, hc2, hcl⟩
theorem all_snoc (l : List SI) (j : Nat) (h : j < l.length) : ((l.take (j + 1)).all fun y => !y.f0) = (((l.take j).all fun y => !y.f0) && !l[j].f0) := by
 rw [List.take_succ_eq_append_getElem h, List.all_append]; simp
theorem f1s_snoc (l : List SI) (j : Nat) (h : j < l.length) : (l.take (j + 1)).map (fun y => y.f1) = (l.take j).map (fun y => y.f1) ++ [l[j].f1] := by
 rw [List.take_succ_eq_append_getElem h, List.map_append]; rfl
theorem readbatch_any (b : List Int) (A : Option Addr) (c : Nat) (w : World) (hB : ∀ x ∈ b, 0 ≤ x ∧ x ≤ 255) (hC : Kd.C kB w A b.length b) (hc : b.length ≤ c) :
 Calls Try.prog 55 #[.slice A b.length c] w (BatchPost w (batchP b)) := by
 have H0 := Aside0.mk (Own.start w)
 have HD := Aside0.mk (fun W (h : Below w.heap.size w W) => K.decode_any A c b W (Kd.C_below hC h) hc hB)
 have hmf : ∀ (fn : Fn) (first cap : Array Value) (w : World), (Instr.makeFunc fn first cap).run Try.prog w = .ok (.func fn first cap) w := fun _ _ _ _ => rfl
 obtain ⟨r, hr⟩ : ∃ r, r = batchP b := ⟨_, rfl⟩
 rw [← hr]
 unfold batchP at hr
 have HBI := fun (x : SI) (h : K.decodeP b = .ok x) => decodeP_byt hB h
 have HER := fun (e : Int) (h : K.decodeP b = .error e) => decodeP_err h
 clear hC hc hB
 generalize K.decodeP b = dec at *
 generalize b.length = nb at *
 have HZ3 := z3_one
 have HZB := zB_one
 cases dec with
 | error e =>
  obtain rfl : r = (zeroBt, e) := hr
  have he : (e != 0) = true := by have := HER e rfl; simpa using this
  clear HBI HER
  go_enter Try.func55, Try.ntmps55
  go_wp2_with (first
   | fail
   | ((with_reducible refine Gd 2 ?_); refine OA H0 108 #[.int .u64 0, .int .u64 0, .slice none 0 0] 3 ?_; intro g2 w1 H1 B1)
   | (go_at_call 106; refine (HD.out _ H1.out.below).mono ?_; rintro e' w3 ⟨hB3, rfl⟩; have H3 := Aside0.mk (H1.out.step hB3); clear hB3)
   | ((with_reducible refine Gd 4 ?_); refine OA H3 159 #[.bool false, .slice none 0 0, .slice none 0 0] 3 ?_; intro g4 w4 H4 B4)
   | ((with_reducible refine Gs 159 4 ?_); refine OS 4 17 H4 0 g4 159 #[.bool false, .slice none 0 0, .slice none 0 0] 3 HZ3 HZ3 ?_; intro w5 H5)
   | ((with_reducible refine Gs 108 2 ?_); refine OS 2 21 H5 1 g2 108 #[.int .u64 0, .int .u64 0, .slice none 0 0] 3 HZB HZB ?_; intro w6 H6)
   )
  refine bodyPost_ret (own_resultV_t rfl _ H6.out 1 g2 _ rfl rfl _ Try.underlying108 rfl (by kernel_rfl) _ rfl) rfl ?_
  exact ⟨_, rfl, ((H6.out.erase 0).erase 0).null kL _⟩
 | ok x =>
 obtain ⟨f0, f1, f2⟩ := x
 have hbi := HBI _ rfl
 clear HBI HER
 replace HD : Aside0 (∀ W, Below w.heap.size w W → Calls Try.prog 106 #[.slice A nb c] W fun e w' => ∃ v1 v2, e = .returned (.tuple #[.agg #[.bool f0, v1, v2], .int .i64 0]) ∧ Below W.heap.size W w' ∧ v1.oneCell' = true ∧ ∃ A2 c2, v2 = .slice A2 f2.length c2 ∧ f2.length ≤ c2 ∧ Kd.R kI 159 w' W.heap.size (fun _ => True) (.slice A2 f2.length c2) f2) := ⟨fun W h => (HD.out W h).mono fun e w' hp => by
  obtain ⟨hb, v1, v2, he, hr1, hr2⟩ := hp
  obtain ⟨A2, c2, rfl, hc2, _⟩ := Kd.R_reads hr2
  exact ⟨v1, _, he, hb, R_one hr1, A2, c2, rfl, hc2, hr2⟩⟩
 have HR : Aside0 (r = shapeB f0 f2) := ⟨hr⟩
 clear hr
 by_cases hl : f2.length = 3
 case neg =>
  have hl3 : ((f2.length : Int) != 3) = true := by simp; omega
  obtain ⟨n2, hn2⟩ : ∃ n2, n2 = f2.length := ⟨_, rfl⟩
  rw [← hn2] at HD hl3
  clear hn2
  cases f0
  ·
   obtain rfl : r = (zeroBt, 8) := HR.out.trans (shapeB_bad (by first | exact Or.inl rfl | exact Or.inr hl))
   clear HR hbi
   go_enter Try.func55, Try.ntmps55
   go_upto_region 6 with (first
    | fail
    | ((with_reducible refine Gd 2 ?_); refine OA H0 108 #[.int .u64 0, .int .u64 0, .slice none 0 0] 3 ?_; intro g2 w1 H1 B1)
    | (go_at_call 106; refine (HD.out _ H1.out.below).mono ?_; rintro e' wd ⟨v1, v2, rfl, hB3, hv1, A2, c2, rfl, hc2, hR2⟩; have HBD := Aside0.mk hB3; have H3 := Aside0.mk (Own.start wd); replace hR2 := Aside0.mk hR2; clear hB3)
    | ((with_reducible refine Gd 4 ?_); refine OA H3 159 #[.bool false, .slice none 0 0, .slice none 0 0] 3 ?_; intro g4 w4 H4 B4)
    | ((with_reducible refine gate_store (t := 159) (p := 4) rfl ?_); have HX3 : Aside0 (Arr 3 #[.bool false, v1, .slice A2 n2 c2]) := ⟨arr3_ hv1⟩; refine own_store H4.out 0 g4 _ 159 rfl rfl (.tmp 4) (.tmp 17) rfl #[.bool false, v1, .slice A2 n2 c2] (by rfl) (by rfl) 3 HZ3.out HX3.out (by kernel_rfl) ?_; intro w5 H5; replace H5 := Aside0.mk H5)
    | ((with_reducible refine Gd 24 ?_); refine OD 23 157 H5 0 g4 2 (.slice A2 n2 c2) Try.underlying157 ?_)
    | ((with_reducible refine Gd 6 ?_); refine OA1 H5 157 (.slice none 0 0) ?_; intro g6 w6 H6 B6)
    | ((with_reducible refine Gs 157 6 ?_); refine OT1 6 157 H6 0 g6 157 0 (.slice A2 n2 c2) #[.slice A2 n2 c2] rfl (by simp) ?_; intro w7 H7)
    )
   have H8 := Aside0.mk (H1.out.step (below_step HBD.out H7.out.below))
   go_wp2_with (first
    | fail
    | ((with_reducible refine Gd 27 ?_); refine OD 26 4 H7 1 g4 0 (.bool false) Try.underlying4 ?_)
    | ((with_reducible refine Gd 30 ?_); refine GD 6 157 H7 0 g6 0 (.slice A2 n2 c2) Try.underlying157 ?_)
    | ((with_reducible refine Gs 108 2 ?_); refine OS 2 34 H8 0 g2 108 #[.int .u64 0, .int .u64 0, .slice none 0 0] 3 HZB HZB ?_; intro w9 H9)
    )
   refine bodyPost_ret (own_resultV_t rfl _ H9.out 0 g2 _ rfl rfl _ Try.underlying108 rfl (by kernel_rfl) _ rfl) rfl ?_
   exact ⟨_, rfl, (H9.out.erase 0).null kL _⟩
  ·
   obtain rfl : r = (zeroBt, 8) := HR.out.trans (shapeB_bad (by first | exact Or.inl rfl | exact Or.inr hl))
   clear HR hbi
   go_enter Try.func55, Try.ntmps55
   go_upto_region 6 with (first
    | fail
    | ((with_reducible refine Gd 2 ?_); refine OA H0 108 #[.int .u64 0, .int .u64 0, .slice none 0 0] 3 ?_; intro g2 w1 H1 B1)
    | (go_at_call 106; refine (HD.out _ H1.out.below).mono ?_; rintro e' wd ⟨v1, v2, rfl, hB3, hv1, A2, c2, rfl, hc2, hR2⟩; have HBD := Aside0.mk hB3; have H3 := Aside0.mk (Own.start wd); replace hR2 := Aside0.mk hR2; clear hB3)
    | ((with_reducible refine Gd 4 ?_); refine OA H3 159 #[.bool false, .slice none 0 0, .slice none 0 0] 3 ?_; intro g4 w4 H4 B4)
    | ((with_reducible refine gate_store (t := 159) (p := 4) rfl ?_); have HX3 : Aside0 (Arr 3 #[.bool true, v1, .slice A2 n2 c2]) := ⟨arr3_ hv1⟩; refine own_store H4.out 0 g4 _ 159 rfl rfl (.tmp 4) (.tmp 17) rfl #[.bool true, v1, .slice A2 n2 c2] (by rfl) (by rfl) 3 HZ3.out HX3.out (by kernel_rfl) ?_; intro w5 H5; replace H5 := Aside0.mk H5)
    | ((with_reducible refine Gd 24 ?_); refine OD 23 157 H5 0 g4 2 (.slice A2 n2 c2) Try.underlying157 ?_)
    | ((with_reducible refine Gd 6 ?_); refine OA1 H5 157 (.slice none 0 0) ?_; intro g6 w6 H6 B6)
    | ((with_reducible refine Gs 157 6 ?_); refine OT1 6 157 H6 0 g6 157 0 (.slice A2 n2 c2) #[.slice A2 n2 c2] rfl (by simp) ?_; intro w7 H7)
    )
   have H8 := Aside0.mk (H1.out.step (below_step HBD.out H7.out.below))
   go_wp2_with (first
    | fail
    | ((with_reducible refine Gd 27 ?_); refine OD 26 4 H7 1 g4 0 (.bool true) Try.underlying4 ?_)
    | ((with_reducible refine Gd 30 ?_); refine GD 6 157 H7 0 g6 0 (.slice A2 n2 c2) Try.underlying157 ?_)
    | ((with_reducible refine Gs 108 2 ?_); refine OS 2 34 H8 0 g2 108 #[.int .u64 0, .int .u64 0, .slice none 0 0] 3 HZB HZB ?_; intro w9 H9)
    )
   refine bodyPost_ret (own_resultV_t rfl _ H9.out 0 g2 _ rfl rfl _ Try.underlying108 rfl (by kernel_rfl) _ rfl) rfl ?_
   exact ⟨_, rfl, (H9.out.erase 0).null kL _⟩
 cases f0
 ·
  rw [hl] at HD
  obtain rfl : r = (zeroBt, 8) := HR.out.trans (shapeB_bad (by first | exact Or.inl rfl | exact Or.inr hl))
  clear HR hbi
  go_enter Try.func55, Try.ntmps55
  go_upto_region 6 with (first
   | fail
   | ((with_reducible refine Gd 2 ?_); refine OA H0 108 #[.int .u64 0, .int .u64 0, .slice none 0 0] 3 ?_; intro g2 w1 H1 B1)
   | (go_at_call 106; refine (HD.out _ H1.out.below).mono ?_; rintro e' wd ⟨v1, v2, rfl, hB3, hv1, A2, c2, rfl, hc2, hR2⟩; have HBD := Aside0.mk hB3; have H3 := Aside0.mk (Own.start wd); replace hR2 := Aside0.mk hR2; clear hB3)
   | ((with_reducible refine Gd 4 ?_); refine OA H3 159 #[.bool false, .slice none 0 0, .slice none 0 0] 3 ?_; intro g4 w4 H4 B4)
   | ((with_reducible refine gate_store (t := 159) (p := 4) rfl ?_); have HX3 : Aside0 (Arr 3 #[.bool false, v1, .slice A2 3 c2]) := ⟨arr3_ hv1⟩; refine own_store H4.out 0 g4 _ 159 rfl rfl (.tmp 4) (.tmp 17) rfl #[.bool false, v1, .slice A2 3 c2] (by rfl) (by rfl) 3 HZ3.out HX3.out (by kernel_rfl) ?_; intro w5 H5; replace H5 := Aside0.mk H5)
   | ((with_reducible refine Gd 24 ?_); refine OD 23 157 H5 0 g4 2 (.slice A2 3 c2) Try.underlying157 ?_)
   | ((with_reducible refine Gd 6 ?_); refine OA1 H5 157 (.slice none 0 0) ?_; intro g6 w6 H6 B6)
   | ((with_reducible refine Gs 157 6 ?_); refine OT1 6 157 H6 0 g6 157 0 (.slice A2 3 c2) #[.slice A2 3 c2] rfl (by simp) ?_; intro w7 H7)
   )
  have H8 := Aside0.mk (H1.out.step (below_step HBD.out H7.out.below))
  go_wp2_with (first
   | fail
   | ((with_reducible refine Gd 27 ?_); refine OD 26 4 H7 1 g4 0 (.bool false) Try.underlying4 ?_)
   | ((with_reducible refine Gd 30 ?_); refine GD 6 157 H7 0 g6 0 (.slice A2 3 c2) Try.underlying157 ?_)
   | ((with_reducible refine Gs 108 2 ?_); refine OS 2 34 H8 0 g2 108 #[.int .u64 0, .int .u64 0, .slice none 0 0] 3 HZB HZB ?_; intro w9 H9)
   )
  refine bodyPost_ret (own_resultV_t rfl _ H9.out 0 g2 _ rfl rfl _ Try.underlying108 rfl (by kernel_rfl) _ rfl) rfl ?_
  exact ⟨_, rfl, (H9.out.erase 0).null kL _⟩
 obtain ⟨y0, y1, y2, rfl⟩ : ∃ y0 y1 y2, f2 = [y0, y1, y2] := by
  match f2, hl with
  | [a, b, c], _ => exact ⟨a, b, c, rfl⟩
 replace HR : Aside0 (r = itemsB y0 y1 y2) := ⟨HR.out⟩
 have hb0 := BytI_f1 (BytI_f2 hbi y0 (by simp))
 have hb1 := BytI_f1 (BytI_f2 hbi y1 (by simp))
 clear hbi hl
 go_enter Try.func55, Try.ntmps55
 go_upto_region 6 with (first
  | fail
  | ((with_reducible refine Gd 2 ?_); refine OA H0 108 #[.int .u64 0, .int .u64 0, .slice none 0 0] 3 ?_; intro g2 w1 H1 B1)
  | (go_at_call 106; refine (HD.out _ H1.out.below).mono ?_; rintro e' wd ⟨v1, v2, rfl, hB3, hv1, A2, c2, rfl, hc2, hR2⟩; have HBD := Aside0.mk hB3; have H3 := Aside0.mk (Own.start wd); replace hR2 := Aside0.mk hR2; clear hB3)
  | ((with_reducible refine Gd 4 ?_); refine OA H3 159 #[.bool false, .slice none 0 0, .slice none 0 0] 3 ?_; intro g4 w4 H4 B4)
  | ((with_reducible refine gate_store (t := 159) (p := 4) rfl ?_); have HX3 : Aside0 (Arr 3 #[.bool true, v1, .slice A2 3 c2]) := ⟨arr3_ hv1⟩; refine own_store H4.out 0 g4 _ 159 rfl rfl (.tmp 4) (.tmp 17) rfl #[.bool true, v1, .slice A2 3 c2] (by rfl) (by rfl) 3 HZ3.out HX3.out (by kernel_rfl) ?_; intro w5 H5; replace H5 := Aside0.mk H5)
  | ((with_reducible refine Gd 24 ?_); refine OD 23 157 H5 0 g4 2 (.slice A2 3 c2) Try.underlying157 ?_)
  | ((with_reducible refine Gd 6 ?_); refine OA1 H5 157 (.slice none 0 0) ?_; intro g6 w6 H6 B6)
  | ((with_reducible refine Gs 157 6 ?_); refine OT1 6 157 H6 0 g6 157 0 (.slice A2 3 c2) #[.slice A2 3 c2] rfl (by simp) ?_; intro w7 H7)
  )
 obtain ⟨gI, cap, a1, d1, a2, d2, he, hcap, q1, q2, q3, q4, hcl0⟩ := R_item hR2.out 0 (by simp)
 injection he with he1 he2 he3
 subst he1 he3
 obtain ⟨_, _, b1, e1, b2, e2, he, _, p1, p2, p3, p4, hcl1⟩ := R_item hR2.out 1 (by simp)
 injection he with he1 he2 he3
 injection he1 with he1
 injection he1 with he1
 subst he1 he3
 obtain ⟨_, _, f1', g1', f2', g2', he, _, s1, s2, s3, s4, hcl2⟩ := R_item hR2.out 2 (by simp)
 injection he with he1 he2 he3
 injection he1 with he1
 injection he1 with he1
 subst he1 he3
 simp only [List.getElem_cons_zero, List.getElem_cons_succ, Nat.zero_mul, Nat.one_mul, Nat.zero_add] at *
 have HCL0 := Aside0.mk hcl0
 have HCL1 := Aside0.mk hcl1
 have HCL2 := Aside0.mk hcl2
 have HN0 : Aside0 (∀ W, Below wd.heap.size wd W → Calls Try.prog 108 #[.agg #[.bool y0.f0, .slice a1 y0.f1.length d1, .slice a2 y0.f2.length d2]] W fun e w' => e = .returned (.tuple #[.int .u64 (K.rnumP y0).1, .int .i64 (K.rnumP y0).2]) ∧ Below W.heap.size W w') := ⟨fun W h => by
  obtain ⟨_, _, x1, _, x3⟩ := Kd.R_reads q1
  injection x1 with x1 _ _
  subst x1
  obtain ⟨_, _, x1, _, x4⟩ := Kd.R_reads q2
  injection x1 with x1 _ _
  subst x1
  exact readnum_any y0 hb0 _ d1 _ d2 W (Kd.C_below x3 h) q3 (Kd.C_below x4 h) q4⟩
 have HN1 : Aside0 (∀ W, Below wd.heap.size wd W → Calls Try.prog 108 #[.agg #[.bool y1.f0, .slice b1 y1.f1.length e1, .slice b2 y1.f2.length e2]] W fun e w' => e = .returned (.tuple #[.int .u64 (K.rnumP y1).1, .int .i64 (K.rnumP y1).2]) ∧ Below W.heap.size W w') := ⟨fun W h => by
  obtain ⟨_, _, x1, _, x3⟩ := Kd.R_reads p1
  injection x1 with x1 _ _
  subst x1
  obtain ⟨_, _, x1, _, x4⟩ := Kd.R_reads p2
  injection x1 with x1 _ _
  subst x1
  exact readnum_any y1 hb1 _ e1 _ e2 W (Kd.C_below x3 h) p3 (Kd.C_below x4 h) p4⟩
 have HS2 := Aside0.mk s2
 unfold itemsB at HR
 clear hb0 hb1 hcl0 hcl1 hcl2 q1 q2 q3 q4 p1 p2 p3 p4 s1 s2 s3 hR2 HD B4 B6 H3 H4 H5 H6
 generalize y0.f1.length = x1 at *
 generalize y0.f2.length = x2 at *
 generalize y1.f1.length = x3 at *
 generalize y1.f2.length = x4 at *
 generalize y2.f1.length = x5 at *
 generalize K.rnumP y0 = rn0 at *
 generalize K.rnumP y1 = rn1 at *
 obtain ⟨n0, er0⟩ := rn0
 obtain ⟨n1, er1⟩ := rn1
 dsimp only at HR HN0 HN1
 go_wp2_with (first
  | fail
  | ((with_reducible refine Gd 27 ?_); refine OD 26 4 H7 1 g4 0 (.bool true) Try.underlying4 ?_)
  | ((with_reducible refine Gd 30 ?_); refine GD 6 157 H7 0 g6 0 (.slice (some ⟨gI, 0, none⟩) 3 c2) Try.underlying157 ?_)
  | ((with_reducible refine Gd 8 ?_); refine OA H7 108 #[.int .u64 0, .int .u64 0, .slice none 0 0] 3 ?_; intro g8 w8 H8 B8)
  )
 have hc0 : 3 ≤ c2 := hc2
 replace H8 : Aside0 (Own wd.heap.size wd w8 [.blk g8 (stB n0 n1 0) 108, .blk g6 #[.slice (some ⟨gI, 3 * 0, none⟩) (3 - 0) c2] 157, .blk g4 #[.bool true, v1, .slice (some ⟨gI, 0, none⟩) 3 c2] 159]) := ⟨H8.out⟩
 clear hc2 hcap H7 H0 B8
 go_loopw [38] (fun v38 wr => ∃ (i c' : Nat), i ≤ 2 ∧ v38 = .int .i64 (i : Int) ∧ 3 - i ≤ c' ∧ Aside0 ((1 ≤ i → er0 = 0) ∧ (2 ≤ i → er1 = 0)) ∧ Aside0 (Own wd.heap.size wd wr [.blk g8 (stB n0 n1 i) 108, .blk g6 #[.slice (some ⟨gI, 3 * i, none⟩) (3 - i) c'] 157, .blk g4 #[.bool true, v1, .slice (some ⟨gI, 0, none⟩) 3 c2] 159])) (fun v38 _ => 2 - (intOf v38).toNat)
 case atStart => exact ⟨0, c2, by decide, rfl, hc0, ⟨fun h => by omega, fun h => by omega⟩, H8⟩
 case round =>
  clear H8 hc0
  obtain ⟨i, c', hi, rfl, hc', HE, HI⟩ := hrel
  have hix0 : ∀ W : World, (Instr.index 169 (.agg #[.pointer (some ⟨g8, 0, none⟩), .pointer (some ⟨g8, 1, none⟩)]) (.int .i64 0)).run Try.prog W = .ok (.pointer (some ⟨g8, 0, none⟩)) W := fun W => run_index_ptr _ _ _ _ Try.underlying169 Try.underlying168 (by kernel_rfl) _ 0 (by decide) rfl W
  have hix1 : ∀ W : World, (Instr.index 169 (.agg #[.pointer (some ⟨g8, 0, none⟩), .pointer (some ⟨g8, 1, none⟩)]) (.int .i64 1)).run Try.prog W = .ok (.pointer (some ⟨g8, 1, none⟩)) W := fun W => run_index_ptr _ _ _ _ Try.underlying169 Try.underlying168 (by kernel_rfl) _ 1 (by decide) rfl W
  obtain rfl | rfl | rfl : i = 0 ∨ i = 1 ∨ i = 2 := by omega
  ·
   have HC := Aside0.mk (next_any y0.f0 (.slice a1 x1 d1) (.slice a2 x2 d2) rfl rfl gI 0 g6 3 c' (HI.out.bring 1 rfl) (fun j u hj => by have h := pw_cell_below HI.out.below (HCL0.out j u hj); first | exact h | (rw [Nat.zero_add]; exact h)) (by decide) hc')
   rw [if_neg (by omega)] at HC
   by_cases hz : er0 = 0
   ·have hzb : (er0 != 0) = false := by simp [hz]
    replace hz := Aside0.mk hz
    go_wp2_with (first
     | fail
     | (go_at_call 107; refine HC.out.mono ?_; rintro e w5 ⟨rfl, H5⟩; replace H5 := Aside0.mk H5)
     | (go_at_call 108; refine (HN0.out _ H5.out.below).mono ?_; rintro e w6 ⟨rfl, hB6⟩; have H6 := Aside0.mk (H5.out.step hB6); clear hB6)
     | ((with_reducible refine Gs 23 48 ?_); refine OT1 48 23 H6 1 g8 108 0 (.int .u64 n0) #[.int .u64 n0, .int .u64 0, .slice none 0 0] rfl (by simp [stB]) ?_; intro w7 H7)
     )
    go_roundw
    case rel => exact ⟨0 + 1, c' - 1, by decide, rfl, by omega, ⟨fun _ => hz.out, fun h => absurd h (by decide)⟩, ⟨H7.out.bring 1 rfl⟩⟩
    case measure => simp [intOf]
   ·have hzb : (er0 != 0) = true := by simpa using hz
    obtain rfl : r = (zeroBt, 8) := by rw [HR.out, if_neg (by rintro ⟨h1, h2, _⟩; first | exact hz h1 | exact hz h2)]
    clear HR
    go_upto_if 50 with (first
     | fail
     | (go_at_call 107; refine HC.out.mono ?_; rintro e w5 ⟨rfl, H5⟩; replace H5 := Aside0.mk H5)
     | (go_at_call 108; refine (HN0.out _ H5.out.below).mono ?_; rintro e w6 ⟨rfl, hB6⟩; have H6 := Aside0.mk (H5.out.step hB6); clear hB6)
     | ((with_reducible refine Gs 23 48 ?_); refine OT1 48 23 H6 1 g8 108 0 (.int .u64 n0) #[.int .u64 n0, .int .u64 0, .slice none 0 0] rfl (by simp [stB]) ?_; intro w7 H7)
     )
    have H8 := Aside0.mk (H1.out.step (below_step HBD.out H7.out.below))
    go_wp2_with (first
     | fail
     | ((with_reducible refine Gs 108 2 ?_); refine OS 2 51 H8 0 g2 108 #[.int .u64 0, .int .u64 0, .slice none 0 0] 3 HZB HZB ?_; intro w9 H9)
     )
    refine bodyPost_ret (own_resultV_t rfl _ H9.out 0 g2 _ rfl rfl _ Try.underlying108 rfl (by kernel_rfl) _ rfl) rfl ?_
    exact ⟨_, rfl, (H9.out.erase 0).null kL _⟩
  ·
   have HC := Aside0.mk (next_any y1.f0 (.slice b1 x3 e1) (.slice b2 x4 e2) rfl rfl gI 3 g6 2 c' (HI.out.bring 1 rfl) (fun j u hj => by have h := pw_cell_below HI.out.below (HCL1.out j u hj); first | exact h | (rw [Nat.zero_add]; exact h)) (by decide) hc')
   rw [if_neg (by omega)] at HC
   by_cases hz : er1 = 0
   ·have hzb : (er1 != 0) = false := by simp [hz]
    replace hz := Aside0.mk hz
    go_wp2_with (first
     | fail
     | (go_at_call 107; refine HC.out.mono ?_; rintro e w5 ⟨rfl, H5⟩; replace H5 := Aside0.mk H5)
     | (go_at_call 108; refine (HN1.out _ H5.out.below).mono ?_; rintro e w6 ⟨rfl, hB6⟩; have H6 := Aside0.mk (H5.out.step hB6); clear hB6)
     | ((with_reducible refine Gs 23 48 ?_); refine OT1 48 23 H6 1 g8 108 1 (.int .u64 n1) #[.int .u64 n0, .int .u64 n1, .slice none 0 0] rfl (by simp [stB]) ?_; intro w7 H7)
     )
    go_roundw
    case rel => exact ⟨1 + 1, c' - 1, by decide, rfl, by omega, ⟨fun _ => HE.out.1 (by decide), fun _ => hz.out⟩, ⟨H7.out.bring 1 rfl⟩⟩
    case measure => simp [intOf]
   ·have hzb : (er1 != 0) = true := by simpa using hz
    obtain rfl : r = (zeroBt, 8) := by rw [HR.out, if_neg (by rintro ⟨h1, h2, _⟩; first | exact hz h1 | exact hz h2)]
    clear HR
    go_upto_if 50 with (first
     | fail
     | (go_at_call 107; refine HC.out.mono ?_; rintro e w5 ⟨rfl, H5⟩; replace H5 := Aside0.mk H5)
     | (go_at_call 108; refine (HN1.out _ H5.out.below).mono ?_; rintro e w6 ⟨rfl, hB6⟩; have H6 := Aside0.mk (H5.out.step hB6); clear hB6)
     | ((with_reducible refine Gs 23 48 ?_); refine OT1 48 23 H6 1 g8 108 1 (.int .u64 n1) #[.int .u64 n0, .int .u64 n1, .slice none 0 0] rfl (by simp [stB]) ?_; intro w7 H7)
     )
    have H8 := Aside0.mk (H1.out.step (below_step HBD.out H7.out.below))
    go_wp2_with (first
     | fail
     | ((with_reducible refine Gs 108 2 ?_); refine OS 2 51 H8 0 g2 108 #[.int .u64 0, .int .u64 0, .slice none 0 0] 3 HZB HZB ?_; intro w9 H9)
     )
    refine bodyPost_ret (own_resultV_t rfl _ H9.out 0 g2 _ rfl rfl _ Try.underlying108 rfl (by kernel_rfl) _ rfl) rfl ?_
    exact ⟨_, rfl, (H9.out.erase 0).null kL _⟩
  have hN := Aside0.mk (next_any y2.f0 (.slice f1' x5 g1') (.slice f2' y2.f2.length g2') rfl rfl gI 6 g6 1 c' (HI.out.bring 1 rfl) (fun j u hj => pw_cell_below HI.out.below (HCL2.out j u hj)) (by decide) hc')
  obtain ⟨he0, he1⟩ := HE.out
  replace he0 : er0 = 0 := he0 (by decide)
  replace he1 : er1 = 0 := he1 (by decide)
  subst he0 he1
  obtain ⟨n5, hn5⟩ : ∃ n5, n5 = y2.f2.length := ⟨_, rfl⟩
  have HN5 := Aside0.mk hn5
  rw [← hn5] at hN HS2 s4
  rw [← hn5] at HCL2
  clear hn5 HE HI HCL0 HCL1 HN0 HN1 hix0 hix1
  have hdl2 : decide ((2 : Int) < 2) = false := by decide
  obtain ⟨Ax, hN⟩ : ∃ Ax, Aside0 (Calls Try.prog 107 #[.pointer (some ⟨g6, 0, none⟩)] wr fun e w' => e = .returned (.agg #[.bool y2.f0, .slice f1' x5 g1', .slice f2' n5 g2']) ∧ Own wd.heap.size wd w' [.blk g6 #[.slice Ax 0 (c' - 1)] 157, .blk g8 #[.int .u64 n0, .int .u64 n1, .slice none 0 0] 108, .blk g4 #[.bool true, v1, .slice (some ⟨gI, 0, none⟩) 3 c2] 159]) := ⟨_, hN⟩
  generalize y2.f0 = b2 at *
  have HX5 : Aside0 (Arr 3 #[.bool b2, .slice f1' x5 g1', .slice f2' n5 g2']) := ⟨arr3_ rfl⟩
  clear hc' hi
  cases b2
  ·
   obtain rfl : r = (zeroBt, 8) := by rw [HR.out, if_neg (by rintro ⟨_, _, h, _⟩; cases h)]
   clear HR
   go_upto_if 63 with (first
    | fail
    | (go_at_call 107; refine hN.out.mono ?_; rintro e w5 ⟨rfl, H5⟩; replace H5 := Aside0.mk H5)
    | ((with_reducible refine Gd 11 ?_); refine OA H5 159 #[.bool false, .slice none 0 0, .slice none 0 0] 3 ?_; intro g11 w6 H6 B6)
    | ((with_reducible refine Gs 159 11 ?_); refine OS 11 54 H6 0 g11 159 #[.bool false, .slice f1' x5 g1', .slice f2' n5 g2'] 3 HZ3 HX5 ?_; intro w7 H7)
    | ((with_reducible refine Gd 56 ?_); refine OD 55 4 H7 0 g11 0 (.bool false) Try.underlying4 ?_)
    | ((with_reducible refine Gd 60 ?_); refine GD 59 157 H7 0 g11 2 (.slice f2' n5 g2') Try.underlying157 ?_)
    | ((with_reducible refine Gd 66 ?_); refine OD 65 157 H7 0 g11 2 (.slice f2' n5 g2') Try.underlying157 ?_)
    )
   have H8 := Aside0.mk (H1.out.step (below_step HBD.out H7.out.below))
   go_wp2_with (first
    | fail
    | ((with_reducible refine Gs 108 2 ?_); refine OS 2 64 H8 0 g2 108 #[.int .u64 0, .int .u64 0, .slice none 0 0] 3 HZB HZB ?_; intro w9 H9)
    )
   refine bodyPost_ret (own_resultV_t rfl _ H9.out 0 g2 _ rfl rfl _ Try.underlying108 rfl (by kernel_rfl) _ rfl) rfl ?_
   exact ⟨_, rfl, (H9.out.erase 0).null kL _⟩
  by_cases hbig : n5 ≤ 4096
  case neg =>
   have hdb : decide (4096 < (n5 : Int)) = true := decide_eq_true (by omega)
   obtain rfl : r = (zeroBt, 8) := by rw [HR.out, if_neg (by rintro ⟨_, _, _, h, _⟩; rw [← HN5.out] at h; exact hbig h)]
   clear HR
   go_upto_if 63 with (first
    | fail
    | (go_at_call 107; refine hN.out.mono ?_; rintro e w5 ⟨rfl, H5⟩; replace H5 := Aside0.mk H5)
    | ((with_reducible refine Gd 11 ?_); refine OA H5 159 #[.bool false, .slice none 0 0, .slice none 0 0] 3 ?_; intro g11 w6 H6 B6)
    | ((with_reducible refine Gs 159 11 ?_); refine OS 11 54 H6 0 g11 159 #[.bool true, .slice f1' x5 g1', .slice f2' n5 g2'] 3 HZ3 HX5 ?_; intro w7 H7)
    | ((with_reducible refine Gd 56 ?_); refine OD 55 4 H7 0 g11 0 (.bool true) Try.underlying4 ?_)
    | ((with_reducible refine Gd 60 ?_); refine GD 59 157 H7 0 g11 2 (.slice f2' n5 g2') Try.underlying157 ?_)
    | ((with_reducible refine Gd 66 ?_); refine OD 65 157 H7 0 g11 2 (.slice f2' n5 g2') Try.underlying157 ?_)
    )
   have H8 := Aside0.mk (H1.out.step (below_step HBD.out H7.out.below))
   go_wp2_with (first
    | fail
    | ((with_reducible refine Gs 108 2 ?_); refine OS 2 64 H8 0 g2 108 #[.int .u64 0, .int .u64 0, .slice none 0 0] 3 HZB HZB ?_; intro w9 H9)
    )
   refine bodyPost_ret (own_resultV_t rfl _ H9.out 0 g2 _ rfl rfl _ Try.underlying108 rfl (by kernel_rfl) _ rfl) rfl ?_
   exact ⟨_, rfl, (H9.out.erase 0).null kL _⟩
  have hdb : decide (4096 < (n5 : Int)) = false := decide_eq_false (by omega)
  replace HR : Aside0 (r = if (y2.f2.all fun y => !y.f0) = true then (⟨n0, n1, y2.f2.map fun y => y.f1⟩, 0) else (zeroBt, 8)) := ⟨by
   rw [HR.out]
   by_cases h : (y2.f2.all fun y => !y.f0) = true
   ·rw [if_pos ⟨rfl, rfl, rfl, by rw [← HN5.out]; exact hbig, h⟩, if_pos h]
   ·rw [if_neg (by rintro ⟨_, _, _, _, h'⟩; exact h h'), if_neg h]⟩
  go_wp2_with (first
   | fail
   | (go_at_call 107; refine hN.out.mono ?_; rintro e w5 ⟨rfl, H5⟩; replace H5 := Aside0.mk H5)
   | ((with_reducible refine Gd 11 ?_); refine OA H5 159 #[.bool false, .slice none 0 0, .slice none 0 0] 3 ?_; intro g11 w6 H6 B6)
   | ((with_reducible refine Gs 159 11 ?_); refine OS 11 54 H6 0 g11 159 #[.bool true, .slice f1' x5 g1', .slice f2' n5 g2'] 3 HZ3 HX5 ?_; intro w7 H7)
   | ((with_reducible refine Gd 56 ?_); refine OD 55 4 H7 0 g11 0 (.bool true) Try.underlying4 ?_)
   | ((with_reducible refine Gd 60 ?_); refine GD 59 157 H7 0 g11 2 (.slice f2' n5 g2') Try.underlying157 ?_)
   | ((with_reducible refine Gd 66 ?_); refine OD 65 157 H7 0 g11 2 (.slice f2' n5 g2') Try.underlying157 ?_)
   )
  have H8 : Aside0 (Own wd.heap.size wd w7 [.row (shM kL wd (fun k => w1.heap.size ≤ k)) 74 (.slice none 0 0) ((y2.f2.take 0).map fun y => y.f1), .blk g8 #[.int .u64 n0, .int .u64 n1, .slice none 0 0] 108]) := ⟨((H7.out.erase 0).erase 0 |>.erase 1).null _ _⟩
  clear H5 H6 H7 B6 hN HCL2 HX5
  go_loopw [68] (fun v68 wr => ∃ (j : Nat) (vm : Value), j ≤ n5 ∧ v68 = .int .i64 (j : Int) ∧ Aside0 (((y2.f2.take j).all fun y => !y.f0) = true) ∧ Aside0 (Own wd.heap.size wd wr [.row (shM kL wd (fun k => w1.heap.size ≤ k)) 74 vm ((y2.f2.take j).map fun y => y.f1), .blk g8 #[.int .u64 n0, .int .u64 n1, vm] 108])) (fun v68 _ => n5 - (intOf v68).toNat)
  case atStart => exact ⟨0, _, Nat.zero_le _, rfl, ⟨rfl⟩, H8⟩
  case round =>
   clear H8
   obtain ⟨j, vm, hj, rfl, HA, HI⟩ := hrel
   by_cases hlt : j < n5
   ·have hdl : decide (j < n5) = true := decide_eq_true hlt
    have hib : (0 : Int) ≤ (j : Int) ∧ (j : Int) < (n5 : Int) := by omega
    have hjl : j < y2.f2.length := by rw [← HN5.out]; exact hlt
    obtain ⟨gL, cap, m1, k1, m2, k2, he, hcap, hr1, hr2, hm1, hm2, hcl⟩ := R_item HS2.out j hjl
    injection he with he he2 he3
    subst he he3
    clear he2
    have HAS := Aside0.mk (all_snoc y2.f2 j hjl)
    have HMS := Aside0.mk (f1s_snoc y2.f2 j hjl)
    obtain ⟨A5, c5, hv5, _, _⟩ := HI.out.reads 0 rfl
    have hlen : ((y2.f2.take j).map fun y => y.f1).length = j := by simp; omega
    rw [hlen] at hv5
    subst hv5
    have HP : Aside0 (∀ w : World, (shM kL wd (fun k => w1.heap.size ≤ k)).M w 0 (fun _ => False) y2.f2[j].f1 [.slice m1 y2.f2[j].f1.length k1]) := ⟨fun _ => ⟨_, rfl, Kd.R_lower (Kd.R_mono (Kd.R_bound hr1) fun k hk => hk.2.1) (Nat.zero_le _)⟩⟩
    have HCJ : Aside0 (∀ W, Below wd.heap.size wd W → ∀ (q : Nat) (u : Value), [Value.bool y2.f2[j].f0, .slice m1 y2.f2[j].f1.length k1, .slice m2 y2.f2[j].f2.length k2][q]? = some u → W.cell? ((⟨gL, j * 3, none⟩ : Addr).add q) = some u) := ⟨fun W hb q u hq => by
     rw [Addr.add_mid]; exact pw_cell_below hb (hcl q u hq)⟩
    have HX6 : Aside0 (Arr 3 #[.bool y2.f2[j].f0, .slice m1 y2.f2[j].f1.length k1, .slice m2 y2.f2[j].f2.length k2]) := ⟨arr3_ rfl⟩
    clear hr1 hr2 hm1 hm2 hcl hcap hlen
    generalize y2.f2[j].f1.length = l1 at *
    generalize y2.f2[j].f2.length = l2 at *
    generalize y2.f2[j].f1 = msg at *
    generalize y2.f2[j].f0 = bj at *
    have HL1 : Aside0 (((y2.f2.take j).map (fun y => y.f1) ++ [msg]).length = j + 1) := ⟨by simp; omega⟩
    cases bj
    ·
     rw [HA.out] at HAS
     go_wp2_with (first
      | fail
      | ((with_reducible refine gate_dst (N := 71) rfl ?_); refine ld_at rfl 159 (.tmp 70) rfl (⟨gL, j * 3, none⟩) ([.bool false, .slice m1 l1 k1, .slice m2 l2 k2]) _ rfl (HCJ.out _ HI.out.below) Try.underlying159 rfl (by kernel_rfl) ?_)
      | ((with_reducible refine Gd 13 ?_); refine OA HI 159 #[.bool false, .slice none 0 0, .slice none 0 0] 3 ?_; intro g13 w5 H5 B5)
      | ((with_reducible refine Gs 159 13 ?_); refine OS 13 71 H5 0 g13 159 #[.bool false, .slice m1 l1 k1, .slice m2 l2 k2] 3 HZ3 HX6 ?_; intro w6 H6)
      | ((with_reducible refine Gd 73 ?_); refine OD 72 4 H6 0 g13 0 (.bool false) Try.underlying4 ?_)
      | ((with_reducible refine Gd 76 ?_); refine OD 75 71 H6 2 g8 2 (.slice A5 j c5) Try.underlying71 ?_)
      | ((with_reducible refine Gd 78 ?_); refine OD 77 74 H6 0 g13 1 (.slice m1 l1 k1) Try.underlying74 ?_)
      | ((with_reducible refine gate_dst (N := 80) rfl ?_); (with_reducible refine gate_builtin (b := .append) (xs := #[.tmp 76, .tmp 79]) rfl ?_); refine own_append_any (shM kL wd (fun k => w1.heap.size ≤ k)) H6.out 1 rfl rfl (.tmp 76) (.tmp 79) 71 (.slice none 0 0) 24 rfl Try.underlying71 (PRF.info74) rfl (show 0 < 1 by decide) (by decide) (msg) ([.slice m1 l1 k1]) (HP.out) (by rfl) (by rfl) (by simp; omega) ?_; intro v8 w8 H8; (obtain ⟨A8, c8, hv8, _, _⟩ := H8.reads 1 rfl; rw [HL1.out] at hv8; subst hv8); replace H8 := Aside0.mk H8)
      | ((with_reducible refine Gs 71 81 ?_); refine OT1 81 71 H8 2 g8 108 2 (.slice A8 (j + 1) c8) (#[.int .u64 n0, .int .u64 n1, .slice A8 (j + 1) c8]) rfl (by simp) ?_; intro w9 H9)
      )
     go_roundw
     case rel => exact ⟨j + 1, _, hlt, by go_num, ⟨HAS.out⟩, ⟨by rw [HMS.out]; exact H9.out.erase 0⟩⟩
     case measure => simp [intOf]; omega
    ·
     have hrv : r = (zeroBt, 8) := by
      rw [HR.out, if_neg]
      intro h
      have h1 := HAS.out
      rw [HA.out] at h1
      rw [← List.take_append_drop (j + 1) y2.f2, List.all_append, h1] at h
      simp at h
     subst hrv
     clear HR
     go_upto_if 73 with (first
      | fail
      | ((with_reducible refine gate_dst (N := 71) rfl ?_); refine ld_at rfl 159 (.tmp 70) rfl (⟨gL, j * 3, none⟩) ([.bool true, .slice m1 l1 k1, .slice m2 l2 k2]) _ rfl (HCJ.out _ HI.out.below) Try.underlying159 rfl (by kernel_rfl) ?_)
      | ((with_reducible refine Gd 13 ?_); refine OA HI 159 #[.bool false, .slice none 0 0, .slice none 0 0] 3 ?_; intro g13 w5 H5 B5)
      | ((with_reducible refine Gs 159 13 ?_); refine OS 13 71 H5 0 g13 159 #[.bool true, .slice m1 l1 k1, .slice m2 l2 k2] 3 HZ3 HX6 ?_; intro w6 H6)
      | ((with_reducible refine Gd 73 ?_); refine OD 72 4 H6 0 g13 0 (.bool true) Try.underlying4 ?_)
      )
     have H8 := Aside0.mk (H1.out.step (below_step HBD.out H6.out.below))
     go_wp2_with (first
      | fail
      | ((with_reducible refine Gs 108 2 ?_); refine OS 2 74 H8 0 g2 108 #[.int .u64 0, .int .u64 0, .slice none 0 0] 3 HZB HZB ?_; intro w9 H9)
      )
     refine bodyPost_ret (own_resultV_t rfl _ H9.out 0 g2 _ rfl rfl _ Try.underlying108 rfl (by kernel_rfl) _ rfl) rfl ?_
     exact ⟨_, rfl, (H9.out.erase 0).null kL _⟩
   ·have hdl : decide (j < n5) = false := decide_eq_false hlt
    obtain rfl : n5 = j := by omega
    have hall : (y2.f2.all fun y => !y.f0) = true := by
     have h := HA.out
     rwa [List.take_of_length_le (by rw [← HN5.out]; exact Nat.le_refl _)] at h
    have hrv : r = (⟨n0, n1, y2.f2.map fun y => y.f1⟩, 0) := by rw [HR.out, if_pos hall]
    subst hrv
    have HI2 : Aside0 (Own wd.heap.size wd wr [.row (shM kL wd (fun k => w1.heap.size ≤ k)) 74 vm (y2.f2.map fun y => y.f1), .blk g8 #[.int .u64 n0, .int .u64 n1, vm] 108]) := ⟨by
     have h := HI.out
     rwa [List.take_of_length_le (by rw [← HN5.out]; exact Nat.le_refl _)] at h⟩
    have HF := Aside0.mk (H1.out.call (HI2.out.shM_up HBD.out (fun k hk => hk)))
    obtain ⟨A5, c5, rfl, _, _⟩ := HI2.out.reads 0 rfl
    have HXB : Aside0 (Arr 3 #[.int .u64 n0, .int .u64 n1, .slice A5 (y2.f2.map fun y => y.f1).length c5]) := ⟨rfl, by simp [Value.oneCell']⟩
    clear HI HR HA hall HS2
    generalize (y2.f2.map fun y => y.f1).length = ln at *
    go_wp2_with (first
     | fail
     | ((with_reducible refine Gd 83 ?_); refine OV 8 HI2 1 g8 108 rfl Try.underlying108 (by kernel_rfl) ?_)
     | ((with_reducible refine Gs 108 2 ?_); refine OS 2 83 HF 2 g2 108 #[.int .u64 n0, .int .u64 n1, .slice A5 ln c5] 3 HZB HXB ?_; intro w9 H9)
     )
    refine bodyPost_ret (own_resultV_t rfl _ H9.out 2 g2 _ rfl rfl _ Try.underlying108 rfl (by kernel_rfl) _ rfl) rfl ?_
    exact ⟨_, rfl, (H9.out.erase 1).erase 1⟩
structure MsgI where
 kd : Int
 fr : Int
 tt : Int
 am : Int
 no : Int
 ky : List Int
 nx : List Int
def z32 : List Int := List.replicate 32 0
def vB (l : List Int) : List Value := l.map (Value.int .u8)
theorem vB_len (l : List Int) : (vB l).length = l.length := by simp [vB]
theorem vB_one (l : List Int) : ∀ v ∈ vB l, v.oneCell' = true := by
 intro v hv
 obtain ⟨x, _, rfl⟩ := List.mem_map.1 hv
 rfl
def MsgI.cells (m : MsgI) : List Value := [Value.int .u8 m.kd, Value.int .u64 m.fr, Value.int .u64 m.tt, Value.int .u64 m.am, Value.int .u64 m.no] ++ (vB m.ky ++ vB m.nx)
def msgA (m : MsgI) : Array Value := ([Value.int .u8 m.kd, Value.int .u64 m.fr, Value.int .u64 m.tt, Value.int .u64 m.am, Value.int .u64 m.no] ++ (vB m.ky ++ vB m.nx)).toArray
def zeroM : MsgI := ⟨0, 0, 0, 0, 0, z32, z32⟩
structure MsgI.ok (m : MsgI) : Prop where
 kd : 0 ≤ m.kd ∧ m.kd ≤ 255
 fr : 0 ≤ m.fr ∧ m.fr ≤ 18446744073709551615
 tt : 0 ≤ m.tt ∧ m.tt ≤ 18446744073709551615
 am : 0 ≤ m.am ∧ m.am ≤ 18446744073709551615
 no : 0 ≤ m.no ∧ m.no ≤ 18446744073709551615
 ky : m.ky.length = 32 ∧ ∀ x ∈ m.ky, 0 ≤ x ∧ x ≤ 255
 nx : m.nx.length = 32 ∧ ∀ x ∈ m.nx, 0 ≤ x ∧ x ≤ 255
theorem msgA_size {m : MsgI} (h1 : m.ky.length = 32) (h2 : m.nx.length = 32) : (msgA m).size = 69 := by
 simp [msgA, vB, h1, h2]
theorem msgA_arr {m : MsgI} (h1 : m.ky.length = 32) (h2 : m.nx.length = 32) : Arr 69 (msgA m) := by
 refine ⟨msgA_size h1 h2, all_oneCell_toArray ?_⟩
 intro v hv
 simp only [List.mem_append, List.mem_cons, List.not_mem_nil, or_false] at hv
 rcases hv with (rfl | rfl | rfl | rfl | rfl) | hv | hv
 ·rfl
 ·rfl
 ·rfl
 ·rfl
 ·rfl
 ·exact vB_one _ v hv
 ·exact vB_one _ v hv
def mayM (m : MsgI) : Bool :=
 if m.kd = 1 then decide (m.fr = 0) && decide (m.tt < 32) && decide (0 < m.am) && (decide (m.no = 0) && (m.ky == z32) && (m.nx == z32))
 else if m.kd = 2 then decide (m.fr < 32) && decide (m.tt < 32)
 else if m.kd = 3 then decide (m.fr < 32) && decide (0 < m.am) else false
def eqM (m n : MsgI) : Bool := (m.kd == n.kd) && ((m.fr == n.fr) && ((m.tt == n.tt) && ((m.am == n.am) && ((m.no == n.no) && ((m.ky == n.ky) && (m.nx == n.nx))))))
theorem part_scalar {P : Program} (t : TypeId) (d : TypeDesc) (ht : P.underlying t = some d) (hd : d.isRow = false) (cs : Array Value) (off : Nat) (v : Value) (hv : cs[off]? = some v) (w : World) : (part t cs off).run P w = .ok v w := by
 have hag : (isAgg t).run P w = .ok false w := by
  unfold isAgg
  rw [Sem.run_bind, run_underlying ht w]
  cases d <;> simp_all [TypeDesc.isRow]
 simp [part, hag, hv, go_sem]
theorem part_agg {P : Program} (t : TypeId) (d : TypeDesc) (ht : P.underlying t = some d) (hd : d.isRow = true) (cs : Array Value) (off n : Nat) (hs : (P.info? t).map (·.size) = some n) (w : World) : (part t cs off).run P w = .ok (.agg (cs.extract off (off + n))) w := by
 have hag : (isAgg t).run P w = .ok true w := by
  unfold isAgg
  rw [Sem.run_bind, run_underlying ht w]
  cases d <;> simp_all [TypeDesc.isRow]
 obtain ⟨ti, hti, hsz⟩ := Option.map_eq_some_iff.1 hs
 simp [part, hag, sizeOf, typeInfo, hti, hsz, go_sem]
theorem extract_mid (a s b : List Value) (o n : Nat) (ho : a.length = o) (hn : s.length = n) : ((a ++ (s ++ b)).toArray).extract o (o + n) = s.toArray := by
 subst ho hn
 rw [← Array.toArray_toList (xs := Array.extract _ _ _)]
 congr 1
 simp
def fieldsM : List (TypeId × Nat) := [(90, 0), (23, 1), (23, 2), (23, 3), (23, 4), (25, 5), (25, 37)]
theorem fieldsM_eq : (Try.prog.fieldsOf 92).toList.map (fun f => (f.name == "_", f.type, f.offset)) = fieldsM.map (fun x => (false, x.1, x.2)) := by kernel_rfl
theorem eqFields_map {P : Program} (d : Nat) (xs ys : Array Value) (w : World) : ∀ (fs : List Field) (l : List (TypeId × Nat)), fs.map (fun f => (f.name == "_", f.type, f.offset)) = l.map (fun x => (false, x.1, x.2)) →
 (Op.eqFields d xs ys fs).run P w = (l.foldr (fun x (k : Sem Bool) => do
  let a ← part x.1 xs x.2
  let b ← part x.1 ys x.2
  let r ← Op.equalIn d x.1 a b
  if (!r) = true then pure false else k) (pure true)).run P w
 | [], [], _ => rfl
 | [], _ :: _, h => by simp at h
 | _ :: _, [], h => by simp at h
 | f :: fs, (t, o) :: l, h => by
  simp only [List.map_cons, List.cons.injEq, Prod.mk.injEq] at h
  obtain ⟨⟨h1, h2, h3⟩, h4⟩ := h
  subst h2 h3
  have hn : f.name ≠ "_" := by simpa using h1
  simp only [Op.eqFields, if_pos hn, List.foldr_cons, Sem.run_bind]
  cases hq : (part f.type xs f.offset).run P w with
  | halt x w1 => rfl
  | ok a w1 =>
   simp only [Result.andThen_ok]
   cases hq2 : (part f.type ys f.offset).run P w1 with
   | halt x w2 => rfl
   | ok b w2 =>
    simp only [Result.andThen_ok]
    cases hq3 : (Op.equalIn d f.type a b).run P w2 with
    | halt x w3 => rfl
    | ok r w3 =>
     simp only [Result.andThen_ok]
     cases r
     ·rfl
     ·simp only [Bool.not_true, Bool.false_eq_true, if_false]
      exact eqFields_map d xs ys w3 fs l h4
theorem undM : Try.prog.underlying 92 = some (.struct (Try.prog.fieldsOf 92)) := by kernel_rfl
theorem stoodM : Try.prog.stoodInHeld 92 = false := by kernel_rfl
theorem partM_ky (x : MsgI) (h1 : x.ky.length = 32) (w : World) : (part 25 (msgA x) 5).run Try.prog w = .ok (.agg (cellsB x.ky)) w := by
 rw [part_agg _ _ Try.underlying25 rfl _ _ 32 sizeH]
 unfold msgA
 rw [extract_mid _ _ _ 5 32 rfl (by rw [vB_len, h1])]
 rfl
theorem partM_nx (x : MsgI) (h1 : x.ky.length = 32) (h2 : x.nx.length = 32) (w : World) : (part 25 (msgA x) 37).run Try.prog w = .ok (.agg (cellsB x.nx)) w := by
 rw [part_agg _ _ Try.underlying25 rfl _ _ 32 sizeH]
 unfold msgA
 rw [show ∀ (a b c : List Value), a ++ (b ++ c) = (a ++ b) ++ (c ++ []) from fun a b c => by simp, extract_mid _ _ _ 37 32 (by rw [List.length_append, vB_len, h1]; rfl) (by rw [vB_len, h2])]
 rfl
theorem partM_sc (x : MsgI) (w : World) : (part 90 (msgA x) 0).run Try.prog w = .ok (.int .u8 x.kd) w ∧ (part 23 (msgA x) 1).run Try.prog w = .ok (.int .u64 x.fr) w ∧ (part 23 (msgA x) 2).run Try.prog w = .ok (.int .u64 x.tt) w ∧ (part 23 (msgA x) 3).run Try.prog w = .ok (.int .u64 x.am) w ∧ (part 23 (msgA x) 4).run Try.prog w = .ok (.int .u64 x.no) w :=
 ⟨part_scalar _ _ Try.underlying90 rfl _ _ _ (by simp [msgA]) w, part_scalar _ _ Try.underlying23 rfl _ _ _ (by simp [msgA]) w, part_scalar _ _ Try.underlying23 rfl _ _ _ (by simp [msgA]) w, part_scalar _ _ Try.underlying23 rfl _ _ _ (by simp [msgA]) w, part_scalar _ _ Try.underlying23 rfl _ _ _ (by simp [msgA]) w⟩
theorem step_eq {P : Program} (d : Nat) (t : TypeId) (xs ys : Array Value) (off : Nat) (a b : Value) (r r2 : Bool) (w : World) (k : Sem Bool) (h1 : (part t xs off).run P w = .ok a w) (h2 : (part t ys off).run P w = .ok b w) (h3 : (Op.equalIn d t a b).run P w = .ok r w) (h4 : k.run P w = .ok r2 w) :
 (do
  let a ← part t xs off
  let b ← part t ys off
  let r ← Op.equalIn d t a b
  if (!r) = true then pure false else k : Sem Bool).run P w = .ok (r && r2) w := by
 simp only [Sem.run_bind, h1, h2, h3, Result.andThen_ok]
 cases r
 ·rfl
 ·simp [h4]
theorem run_eqM (d : Nat) (m n : MsgI) (hm1 : m.ky.length = 32) (hm2 : m.nx.length = 32) (hn1 : n.ky.length = 32) (hn2 : n.nx.length = 32) (w : World) :
 (Op.equalIn (d + 3) 92 (.agg (msgA m)) (.agg (msgA n))).run Try.prog w = .ok (eqM m n) w := by
 rw [run_equalIn_struct w (d + 2) _ _ _ undM stoodM, eqFields_map (d + 2) _ _ w _ fieldsM fieldsM_eq]
 obtain ⟨a1, a2, a3, a4, a5⟩ := partM_sc m w
 obtain ⟨b1, b2, b3, b4, b5⟩ := partM_sc n w
 have he := fun (t : TypeId) (k : IntKind) (x y : Int) (ht : Try.prog.underlying t = some (.int k)) => run_equalIn_int (P := Try.prog) w (d + 1) t k k x y ht
 have heH := fun (x y : List Int) (hx : x.length = 32) (hy : y.length = 32) => run_equalIn_B (P := Try.prog) d 25 5 32 Try.underlying25 Try.underlying5 size1B x y hx hy w
 have e : eqM m n = ((m.kd == n.kd) && ((m.fr == n.fr) && ((m.tt == n.tt) && ((m.am == n.am) && ((m.no == n.no) && ((m.ky == n.ky) && ((m.nx == n.nx) && true))))))) := by simp [eqM]
 rw [e]
 exact step_eq _ _ _ _ _ _ _ _ _ w _ a1 b1 (he _ _ _ _ Try.underlying90) (step_eq _ _ _ _ _ _ _ _ _ w _ a2 b2 (he _ _ _ _ Try.underlying23) (step_eq _ _ _ _ _ _ _ _ _ w _ a3 b3 (he _ _ _ _ Try.underlying23) (step_eq _ _ _ _ _ _ _ _ _ w _ a4 b4 (he _ _ _ _ Try.underlying23) (step_eq _ _ _ _ _ _ _ _ _ w _ a5 b5 (he _ _ _ _ Try.underlying23)
  (step_eq _ _ _ _ _ _ _ _ _ w _ (partM_ky m hm1 w) (partM_ky n hn1 w) (heH _ _ hm1 hn1) (step_eq _ _ _ _ _ _ _ _ _ w _ (partM_nx m hm1 hm2 w) (partM_nx n hn1 hn2 w) (heH _ _ hm2 hn2) rfl))))))
theorem guardM : Try.prog.eqGuardType Try.prog.depth 92 = false := by kernel_rfl
theorem sizeM : (Try.prog.info? 92).map (·.size) = some 69 := by kernel_rfl
theorem builtM0 : Try.prog.built 92 [] = some (msgA zeroM) := by kernel_rfl
theorem builtH0 : Try.prog.built 25 [] = some (cellsB z32) := by kernel_rfl
section
variable {ops : Array Oper} {rest : List Oper} {o : Oper} {a : Act} {Q : Exit → Act → World → Prop} {W : World}
theorem eq_M (hgd : o.guard = none) (u : TypeId) (x y : Operand) (ho : o.op = .binOp .eql 92 x y u) (m n : MsgI) (hx : a.eval x = .agg (msgA m)) (hy : a.eval y = .agg (msgA n)) (hm1 : m.ky.length = 32) (hm2 : m.nx.length = 32) (hn1 : n.ky.length = 32) (hn2 : n.nx.length = 32)
 (h : wpList Try.prog ops Q rest (a.put o.dst (.bool (eqM m n))) W) : wpList Try.prog ops Q (o :: rest) a W :=
 wpList_plain hgd fun _ hK => by
  have h1 : (Op.equal 92 (.agg (msgA m)) (.agg (msgA n))).run Try.prog W = .ok (eqM m n) W := run_eqM 9997 m n hm1 hm2 hn1 hn2 W
  have h2 : (eqGuard .eql 92 x y (.agg (msgA m)) (.agg (msgA n))).run Try.prog W = .ok () W := by simp [eqGuard, guardM, go_sem]
  have h3 : (binOp .eql 92 (.agg (msgA m)) (.agg (msgA n))).run Try.prog W = .ok (.bool (eqM m n)) W := by simp only [binOp]; simp [h1, go_sem]
  unfold Oper.wp execOp
  simp only [ho, hx, hy, Sem.run_bind, Sem.run_pure, h2, h3, Result.andThen_ok]
  exact hK _ _ h
end
theorem sizeM_of {cs : Array Value} (h : cs.size = 69) : (Try.prog.info? 92).map (·.size) = some cs.size := by rw [h]; exact sizeM
theorem z32_len : z32.length = 32 := rfl
theorem spl5 {a b c d e : Value} {K K' N : List Value} (h : K.length = K'.length) : (splice (([a, b, c, d, e] ++ (K ++ N)).toArray.toList) 5 K').toArray = ([a, b, c, d, e] ++ (K' ++ N)).toArray := by
 have := splice_mid [a, b, c, d, e] K K' N h
 exact congrArg List.toArray this
theorem spl37 {a b c d e : Value} {K N N' : List Value} (hk : K.length = 32) (h : N.length = N'.length) : (splice (([a, b, c, d, e] ++ (K ++ N)).toArray.toList) 37 N').toArray = ([a, b, c, d, e] ++ (K ++ N')).toArray := by
 have := splice_mid ([a, b, c, d, e] ++ K) N N' [] h
 have hl : ([a, b, c, d, e] ++ K).length = 37 := by rw [List.length_append, hk]; rfl
 rw [hl] at this
 simp only [List.append_nil, List.append_assoc] at this
 exact congrArg List.toArray this
theorem mmay_any (m : MsgI) (hm : m.ok) (w : World) : Calls Try.prog 136 #[.agg (msgA m)] w fun e w' => e = .returned (.bool (mayM m)) ∧ Below w.heap.size w w' := by
 obtain ⟨_, hfr, htt, ham, hno, ⟨hky, _⟩, ⟨hnx, _⟩⟩ := hm
 obtain ⟨kd, fr, tt, am, no, ky, nx⟩ := m
 dsimp only at *
 have H0 := Aside0.mk (Own.start w)
 have HSZ := Aside0.mk (msgA_size (m := ⟨kd, fr, tt, am, no, ky, nx⟩) hky hnx)
 have HAR := Aside0.mk (msgA_arr (m := ⟨kd, fr, tt, am, no, ky, nx⟩) hky hnx)
 have HAZ : Aside0 (Arr 69 (msgA zeroM)) := ⟨msgA_arr rfl rfl⟩
 have HK := Aside0.mk hky
 have HN := Aside0.mk hnx
 clear hky hnx
 obtain ⟨r, hr⟩ : ∃ r, r = mayM ⟨kd, fr, tt, am, no, ky, nx⟩ := ⟨_, rfl⟩
 rw [← hr]
 by_cases h2 : kd = 2
 ·simp only [mayM] at hr
  rw [if_neg (by omega), if_pos h2] at hr
  subst h2
  by_cases h3 : fr < 32
  ·have e3 : decide (32 ≤ fr) = false := decide_eq_false (by omega)
   by_cases h4 : tt < 32
   ·have e4 : decide (32 ≤ tt) = false := decide_eq_false (by omega)
    obtain rfl : r = true := by rw [hr, decide_eq_true h3, decide_eq_true h4]; rfl
    clear hr
    go_enter Try.func136, Try.ntmps136
    go_wp2_with (first
     | fail
     | ((with_reducible refine Gd 1 ?_); refine OB H0 92 ((msgA ⟨2, fr, tt, am, no, ky, nx⟩)) ?_; intro g1 w1 H1 B1)
     | ((with_reducible refine Gd 4 ?_); refine OV 1 H1 0 g1 92 rfl Try.underlying92 (sizeM_of HSZ.out) ?_)
     | ((with_reducible refine Gd 3 ?_); refine OA H1 92 (msgA zeroM) 69 ?_; intro g3 w2 H2 B2)
     | ((with_reducible refine Gs 92 3 ?_); refine OS 3 4 H2 0 g3 92 (msgA ⟨2, fr, tt, am, no, ky, nx⟩) 69 HAZ HAR ?_; intro w3 H3)
     | ((with_reducible refine Gd 6 ?_); refine OD 5 90 H3 1 g1 0 (.int .u8 2) Try.underlying90 ?_)
     | ((with_reducible refine Gd 13 ?_); refine OD 12 23 H3 1 g1 1 (.int .u64 fr) Try.underlying23 ?_)
     | ((with_reducible refine Gd 15 ?_); refine OU 25 [] (cellsB z32) rfl (builtH0) ?_)
     | ((with_reducible refine Gd 16 ?_); refine OU 25 [] (cellsB z32) rfl (builtH0) ?_)
     | ((with_reducible refine Gs 23 17 ?_); refine OT1 17 23 H3 0 g3 92 1 (.int .u64 0) (msgA ⟨2, 0, tt, am, no, ky, nx⟩) rfl (by simp [msgA, vB]; try omega) ?_; intro w4 H4)
     | ((with_reducible refine Gs 23 18 ?_); refine OT1 18 23 H4 0 g3 92 4 (.int .u64 0) (msgA ⟨2, 0, tt, am, 0, ky, nx⟩) rfl (by simp [msgA, vB]; try omega) ?_; intro w5 H5)
     | ((with_reducible refine Gs 25 19 ?_); refine OT 19 25 H5 0 g3 92 5 (vB z32) (.agg (cellsB z32)) (msgA ⟨2, 0, tt, am, 0, z32, nx⟩) rfl (by rw [msgA_size HK.out HN.out]; decide) (by kernel_rfl) (by exact vB_one _) (by exact spl5 (by rw [vB_len, vB_len, HK.out]; rfl)) ?_; intro w6 H6)
     | ((with_reducible refine Gs 25 20 ?_); refine OT 20 25 H6 0 g3 92 37 (vB z32) (.agg (cellsB z32)) (msgA ⟨2, 0, tt, am, 0, z32, z32⟩) rfl (by rw [msgA_size z32_len HN.out]; decide) (by kernel_rfl) (by exact vB_one _) (by exact spl37 (by rw [vB_len]; rfl) (by rw [vB_len, vB_len, HN.out]; rfl)) ?_; intro w7 H7)
     | ((with_reducible refine Gd 22 ?_); refine OD 21 90 H7 1 g1 0 (.int .u8 2) Try.underlying90 ?_)
     | ((with_reducible refine Gd 26 ?_); refine GD 25 23 H7 1 g1 2 (.int .u64 tt) Try.underlying23 ?_)
     | ((with_reducible refine Gd 31 ?_); refine GD 30 90 H7 1 g1 0 (.int .u8 2) Try.underlying90 ?_)
     | ((with_reducible refine Gd 35 ?_); refine GD 34 23 H7 1 g1 3 (.int .u64 am) Try.underlying23 ?_)
     | ((with_reducible refine Gs 90 39 ?_); refine OT1 39 90 H7 0 g3 92 0 (.int .u8 0) (msgA ⟨0, 0, tt, am, 0, z32, z32⟩) rfl (by simp [msgA, vB]; try omega) ?_; intro w8 H8)
     | ((with_reducible refine Gs 23 40 ?_); refine OT1 40 23 H8 0 g3 92 2 (.int .u64 0) (msgA ⟨0, 0, 0, am, 0, z32, z32⟩) rfl (by simp [msgA, vB]; try omega) ?_; intro w9 H9)
     | ((with_reducible refine Gs 23 41 ?_); refine OT1 41 23 H9 0 g3 92 3 (.int .u64 0) (msgA ⟨0, 0, 0, 0, 0, z32, z32⟩) rfl (by simp [msgA, vB]; try omega) ?_; intro w10 H10)
     | ((with_reducible refine Gd 42 ?_); refine OV 3 H10 0 g3 92 rfl Try.underlying92 (sizeM_of (msgA_size rfl rfl)) ?_)
     | ((with_reducible refine Gd 43 ?_); refine OU 92 [] (msgA zeroM) rfl (builtM0) ?_)
     | ((with_reducible refine gate_dst (N := 44) rfl ?_); refine eq_M rfl _ (.tmp 42) (.tmp 43) rfl ⟨0, 0, 0, 0, 0, z32, z32⟩ zeroM rfl rfl rfl rfl rfl rfl ?_)
     )
    go_ret
    exact ⟨rfl, H10.out.below⟩
   ·have e4 : decide (32 ≤ tt) = true := decide_eq_true (by omega)
    obtain rfl : r = false := by rw [hr, decide_eq_false h4]; simp
    clear hr
    go_enter Try.func136, Try.ntmps136
    go_wp2_with (first
     | fail
     | ((with_reducible refine Gd 1 ?_); refine OB H0 92 ((msgA ⟨2, fr, tt, am, no, ky, nx⟩)) ?_; intro g1 w1 H1 B1)
     | ((with_reducible refine Gd 4 ?_); refine OV 1 H1 0 g1 92 rfl Try.underlying92 (sizeM_of HSZ.out) ?_)
     | ((with_reducible refine Gd 3 ?_); refine OA H1 92 (msgA zeroM) 69 ?_; intro g3 w2 H2 B2)
     | ((with_reducible refine Gs 92 3 ?_); refine OS 3 4 H2 0 g3 92 (msgA ⟨2, fr, tt, am, no, ky, nx⟩) 69 HAZ HAR ?_; intro w3 H3)
     | ((with_reducible refine Gd 6 ?_); refine OD 5 90 H3 1 g1 0 (.int .u8 2) Try.underlying90 ?_)
     | ((with_reducible refine Gd 13 ?_); refine OD 12 23 H3 1 g1 1 (.int .u64 fr) Try.underlying23 ?_)
     | ((with_reducible refine Gd 15 ?_); refine OU 25 [] (cellsB z32) rfl (builtH0) ?_)
     | ((with_reducible refine Gd 16 ?_); refine OU 25 [] (cellsB z32) rfl (builtH0) ?_)
     | ((with_reducible refine Gs 23 17 ?_); refine OT1 17 23 H3 0 g3 92 1 (.int .u64 0) (msgA ⟨2, 0, tt, am, no, ky, nx⟩) rfl (by simp [msgA, vB]; try omega) ?_; intro w4 H4)
     | ((with_reducible refine Gs 23 18 ?_); refine OT1 18 23 H4 0 g3 92 4 (.int .u64 0) (msgA ⟨2, 0, tt, am, 0, ky, nx⟩) rfl (by simp [msgA, vB]; try omega) ?_; intro w5 H5)
     | ((with_reducible refine Gs 25 19 ?_); refine OT 19 25 H5 0 g3 92 5 (vB z32) (.agg (cellsB z32)) (msgA ⟨2, 0, tt, am, 0, z32, nx⟩) rfl (by rw [msgA_size HK.out HN.out]; decide) (by kernel_rfl) (by exact vB_one _) (by exact spl5 (by rw [vB_len, vB_len, HK.out]; rfl)) ?_; intro w6 H6)
     | ((with_reducible refine Gs 25 20 ?_); refine OT 20 25 H6 0 g3 92 37 (vB z32) (.agg (cellsB z32)) (msgA ⟨2, 0, tt, am, 0, z32, z32⟩) rfl (by rw [msgA_size z32_len HN.out]; decide) (by kernel_rfl) (by exact vB_one _) (by exact spl37 (by rw [vB_len]; rfl) (by rw [vB_len, vB_len, HN.out]; rfl)) ?_; intro w7 H7)
     | ((with_reducible refine Gd 22 ?_); refine OD 21 90 H7 1 g1 0 (.int .u8 2) Try.underlying90 ?_)
     | ((with_reducible refine Gd 26 ?_); refine GD 25 23 H7 1 g1 2 (.int .u64 tt) Try.underlying23 ?_)
     | ((with_reducible refine Gd 31 ?_); refine GD 30 90 H7 1 g1 0 (.int .u8 2) Try.underlying90 ?_)
     | ((with_reducible refine Gd 35 ?_); refine GD 34 23 H7 1 g1 3 (.int .u64 am) Try.underlying23 ?_)
     | ((with_reducible refine Gs 90 39 ?_); refine OT1 39 90 H7 0 g3 92 0 (.int .u8 0) (msgA ⟨0, 0, tt, am, 0, z32, z32⟩) rfl (by simp [msgA, vB]; try omega) ?_; intro w8 H8)
     | ((with_reducible refine Gs 23 40 ?_); refine OT1 40 23 H8 0 g3 92 2 (.int .u64 0) (msgA ⟨0, 0, 0, am, 0, z32, z32⟩) rfl (by simp [msgA, vB]; try omega) ?_; intro w9 H9)
     | ((with_reducible refine Gs 23 41 ?_); refine OT1 41 23 H9 0 g3 92 3 (.int .u64 0) (msgA ⟨0, 0, 0, 0, 0, z32, z32⟩) rfl (by simp [msgA, vB]; try omega) ?_; intro w10 H10)
     | ((with_reducible refine Gd 42 ?_); refine OV 3 H10 0 g3 92 rfl Try.underlying92 (sizeM_of (msgA_size rfl rfl)) ?_)
     | ((with_reducible refine Gd 43 ?_); refine OU 92 [] (msgA zeroM) rfl (builtM0) ?_)
     | ((with_reducible refine gate_dst (N := 44) rfl ?_); refine eq_M rfl _ (.tmp 42) (.tmp 43) rfl ⟨0, 0, 0, 0, 0, z32, z32⟩ zeroM rfl rfl rfl rfl rfl rfl ?_)
     )
    go_ret
    exact ⟨rfl, H7.out.below⟩
  ·have e3 : decide (32 ≤ fr) = true := decide_eq_true (by omega)
   obtain rfl : r = false := by rw [hr, decide_eq_false h3]; rfl
   clear hr
   go_enter Try.func136, Try.ntmps136
   go_wp2_with (first
    | fail
    | ((with_reducible refine Gd 1 ?_); refine OB H0 92 ((msgA ⟨2, fr, tt, am, no, ky, nx⟩)) ?_; intro g1 w1 H1 B1)
    | ((with_reducible refine Gd 4 ?_); refine OV 1 H1 0 g1 92 rfl Try.underlying92 (sizeM_of HSZ.out) ?_)
    | ((with_reducible refine Gd 3 ?_); refine OA H1 92 (msgA zeroM) 69 ?_; intro g3 w2 H2 B2)
    | ((with_reducible refine Gs 92 3 ?_); refine OS 3 4 H2 0 g3 92 (msgA ⟨2, fr, tt, am, no, ky, nx⟩) 69 HAZ HAR ?_; intro w3 H3)
    | ((with_reducible refine Gd 6 ?_); refine OD 5 90 H3 1 g1 0 (.int .u8 2) Try.underlying90 ?_)
    | ((with_reducible refine Gd 13 ?_); refine OD 12 23 H3 1 g1 1 (.int .u64 fr) Try.underlying23 ?_)
    | ((with_reducible refine Gd 15 ?_); refine OU 25 [] (cellsB z32) rfl (builtH0) ?_)
    | ((with_reducible refine Gd 16 ?_); refine OU 25 [] (cellsB z32) rfl (builtH0) ?_)
    | ((with_reducible refine Gs 23 17 ?_); refine OT1 17 23 H3 0 g3 92 1 (.int .u64 0) (msgA ⟨2, 0, tt, am, no, ky, nx⟩) rfl (by simp [msgA, vB]; try omega) ?_; intro w4 H4)
    | ((with_reducible refine Gs 23 18 ?_); refine OT1 18 23 H4 0 g3 92 4 (.int .u64 0) (msgA ⟨2, 0, tt, am, 0, ky, nx⟩) rfl (by simp [msgA, vB]; try omega) ?_; intro w5 H5)
    | ((with_reducible refine Gs 25 19 ?_); refine OT 19 25 H5 0 g3 92 5 (vB z32) (.agg (cellsB z32)) (msgA ⟨2, 0, tt, am, 0, z32, nx⟩) rfl (by rw [msgA_size HK.out HN.out]; decide) (by kernel_rfl) (by exact vB_one _) (by exact spl5 (by rw [vB_len, vB_len, HK.out]; rfl)) ?_; intro w6 H6)
    | ((with_reducible refine Gs 25 20 ?_); refine OT 20 25 H6 0 g3 92 37 (vB z32) (.agg (cellsB z32)) (msgA ⟨2, 0, tt, am, 0, z32, z32⟩) rfl (by rw [msgA_size z32_len HN.out]; decide) (by kernel_rfl) (by exact vB_one _) (by exact spl37 (by rw [vB_len]; rfl) (by rw [vB_len, vB_len, HN.out]; rfl)) ?_; intro w7 H7)
    | ((with_reducible refine Gd 22 ?_); refine OD 21 90 H7 1 g1 0 (.int .u8 2) Try.underlying90 ?_)
    | ((with_reducible refine Gd 26 ?_); refine GD 25 23 H7 1 g1 2 (.int .u64 tt) Try.underlying23 ?_)
    | ((with_reducible refine Gd 31 ?_); refine GD 30 90 H7 1 g1 0 (.int .u8 2) Try.underlying90 ?_)
    | ((with_reducible refine Gd 35 ?_); refine GD 34 23 H7 1 g1 3 (.int .u64 am) Try.underlying23 ?_)
    | ((with_reducible refine Gs 90 39 ?_); refine OT1 39 90 H7 0 g3 92 0 (.int .u8 0) (msgA ⟨0, 0, tt, am, 0, z32, z32⟩) rfl (by simp [msgA, vB]; try omega) ?_; intro w8 H8)
    | ((with_reducible refine Gs 23 40 ?_); refine OT1 40 23 H8 0 g3 92 2 (.int .u64 0) (msgA ⟨0, 0, 0, am, 0, z32, z32⟩) rfl (by simp [msgA, vB]; try omega) ?_; intro w9 H9)
    | ((with_reducible refine Gs 23 41 ?_); refine OT1 41 23 H9 0 g3 92 3 (.int .u64 0) (msgA ⟨0, 0, 0, 0, 0, z32, z32⟩) rfl (by simp [msgA, vB]; try omega) ?_; intro w10 H10)
    | ((with_reducible refine Gd 42 ?_); refine OV 3 H10 0 g3 92 rfl Try.underlying92 (sizeM_of (msgA_size rfl rfl)) ?_)
    | ((with_reducible refine Gd 43 ?_); refine OU 92 [] (msgA zeroM) rfl (builtM0) ?_)
    | ((with_reducible refine gate_dst (N := 44) rfl ?_); refine eq_M rfl _ (.tmp 42) (.tmp 43) rfl ⟨0, 0, 0, 0, 0, z32, z32⟩ zeroM rfl rfl rfl rfl rfl rfl ?_)
    )
   go_ret
   exact ⟨rfl, H3.out.below⟩
 by_cases h3 : kd = 3
 ·simp only [mayM] at hr
  rw [if_neg (by omega), if_neg h2, if_pos h3] at hr
  subst h3
  clear h2
  by_cases h3 : fr < 32
  ·have e3 : decide (32 ≤ fr) = false := decide_eq_false (by omega)
   by_cases h4 : 0 < am
   ·have e4 : (am == 0) = false := beq_eq_false_iff_ne.2 (by omega)
    obtain rfl : r = true := by rw [hr, decide_eq_true h3, decide_eq_true h4]; rfl
    clear hr
    go_enter Try.func136, Try.ntmps136
    go_wp2_with (first
     | fail
     | ((with_reducible refine Gd 1 ?_); refine OB H0 92 ((msgA ⟨3, fr, tt, am, no, ky, nx⟩)) ?_; intro g1 w1 H1 B1)
     | ((with_reducible refine Gd 4 ?_); refine OV 1 H1 0 g1 92 rfl Try.underlying92 (sizeM_of HSZ.out) ?_)
     | ((with_reducible refine Gd 3 ?_); refine OA H1 92 (msgA zeroM) 69 ?_; intro g3 w2 H2 B2)
     | ((with_reducible refine Gs 92 3 ?_); refine OS 3 4 H2 0 g3 92 (msgA ⟨3, fr, tt, am, no, ky, nx⟩) 69 HAZ HAR ?_; intro w3 H3)
     | ((with_reducible refine Gd 6 ?_); refine OD 5 90 H3 1 g1 0 (.int .u8 3) Try.underlying90 ?_)
     | ((with_reducible refine Gd 13 ?_); refine OD 12 23 H3 1 g1 1 (.int .u64 fr) Try.underlying23 ?_)
     | ((with_reducible refine Gd 15 ?_); refine OU 25 [] (cellsB z32) rfl (builtH0) ?_)
     | ((with_reducible refine Gd 16 ?_); refine OU 25 [] (cellsB z32) rfl (builtH0) ?_)
     | ((with_reducible refine Gs 23 17 ?_); refine OT1 17 23 H3 0 g3 92 1 (.int .u64 0) (msgA ⟨3, 0, tt, am, no, ky, nx⟩) rfl (by simp [msgA, vB]; try omega) ?_; intro w4 H4)
     | ((with_reducible refine Gs 23 18 ?_); refine OT1 18 23 H4 0 g3 92 4 (.int .u64 0) (msgA ⟨3, 0, tt, am, 0, ky, nx⟩) rfl (by simp [msgA, vB]; try omega) ?_; intro w5 H5)
     | ((with_reducible refine Gs 25 19 ?_); refine OT 19 25 H5 0 g3 92 5 (vB z32) (.agg (cellsB z32)) (msgA ⟨3, 0, tt, am, 0, z32, nx⟩) rfl (by rw [msgA_size HK.out HN.out]; decide) (by kernel_rfl) (by exact vB_one _) (by exact spl5 (by rw [vB_len, vB_len, HK.out]; rfl)) ?_; intro w6 H6)
     | ((with_reducible refine Gs 25 20 ?_); refine OT 20 25 H6 0 g3 92 37 (vB z32) (.agg (cellsB z32)) (msgA ⟨3, 0, tt, am, 0, z32, z32⟩) rfl (by rw [msgA_size z32_len HN.out]; decide) (by kernel_rfl) (by exact vB_one _) (by exact spl37 (by rw [vB_len]; rfl) (by rw [vB_len, vB_len, HN.out]; rfl)) ?_; intro w7 H7)
     | ((with_reducible refine Gd 22 ?_); refine OD 21 90 H7 1 g1 0 (.int .u8 3) Try.underlying90 ?_)
     | ((with_reducible refine Gd 26 ?_); refine GD 25 23 H7 1 g1 2 (.int .u64 tt) Try.underlying23 ?_)
     | ((with_reducible refine Gd 31 ?_); refine GD 30 90 H7 1 g1 0 (.int .u8 3) Try.underlying90 ?_)
     | ((with_reducible refine Gd 35 ?_); refine GD 34 23 H7 1 g1 3 (.int .u64 am) Try.underlying23 ?_)
     | ((with_reducible refine Gs 90 39 ?_); refine OT1 39 90 H7 0 g3 92 0 (.int .u8 0) (msgA ⟨0, 0, tt, am, 0, z32, z32⟩) rfl (by simp [msgA, vB]; try omega) ?_; intro w8 H8)
     | ((with_reducible refine Gs 23 40 ?_); refine OT1 40 23 H8 0 g3 92 2 (.int .u64 0) (msgA ⟨0, 0, 0, am, 0, z32, z32⟩) rfl (by simp [msgA, vB]; try omega) ?_; intro w9 H9)
     | ((with_reducible refine Gs 23 41 ?_); refine OT1 41 23 H9 0 g3 92 3 (.int .u64 0) (msgA ⟨0, 0, 0, 0, 0, z32, z32⟩) rfl (by simp [msgA, vB]; try omega) ?_; intro w10 H10)
     | ((with_reducible refine Gd 42 ?_); refine OV 3 H10 0 g3 92 rfl Try.underlying92 (sizeM_of (msgA_size rfl rfl)) ?_)
     | ((with_reducible refine Gd 43 ?_); refine OU 92 [] (msgA zeroM) rfl (builtM0) ?_)
     | ((with_reducible refine gate_dst (N := 44) rfl ?_); refine eq_M rfl _ (.tmp 42) (.tmp 43) rfl ⟨0, 0, 0, 0, 0, z32, z32⟩ zeroM rfl rfl rfl rfl rfl rfl ?_)
     )
    go_ret
    exact ⟨rfl, H10.out.below⟩
   ·have e4 : (am == 0) = true := beq_iff_eq.2 (by omega)
    obtain rfl : r = false := by rw [hr, decide_eq_false h4]; simp
    clear hr
    go_enter Try.func136, Try.ntmps136
    go_wp2_with (first
     | fail
     | ((with_reducible refine Gd 1 ?_); refine OB H0 92 ((msgA ⟨3, fr, tt, am, no, ky, nx⟩)) ?_; intro g1 w1 H1 B1)
     | ((with_reducible refine Gd 4 ?_); refine OV 1 H1 0 g1 92 rfl Try.underlying92 (sizeM_of HSZ.out) ?_)
     | ((with_reducible refine Gd 3 ?_); refine OA H1 92 (msgA zeroM) 69 ?_; intro g3 w2 H2 B2)
     | ((with_reducible refine Gs 92 3 ?_); refine OS 3 4 H2 0 g3 92 (msgA ⟨3, fr, tt, am, no, ky, nx⟩) 69 HAZ HAR ?_; intro w3 H3)
     | ((with_reducible refine Gd 6 ?_); refine OD 5 90 H3 1 g1 0 (.int .u8 3) Try.underlying90 ?_)
     | ((with_reducible refine Gd 13 ?_); refine OD 12 23 H3 1 g1 1 (.int .u64 fr) Try.underlying23 ?_)
     | ((with_reducible refine Gd 15 ?_); refine OU 25 [] (cellsB z32) rfl (builtH0) ?_)
     | ((with_reducible refine Gd 16 ?_); refine OU 25 [] (cellsB z32) rfl (builtH0) ?_)
     | ((with_reducible refine Gs 23 17 ?_); refine OT1 17 23 H3 0 g3 92 1 (.int .u64 0) (msgA ⟨3, 0, tt, am, no, ky, nx⟩) rfl (by simp [msgA, vB]; try omega) ?_; intro w4 H4)
     | ((with_reducible refine Gs 23 18 ?_); refine OT1 18 23 H4 0 g3 92 4 (.int .u64 0) (msgA ⟨3, 0, tt, am, 0, ky, nx⟩) rfl (by simp [msgA, vB]; try omega) ?_; intro w5 H5)
     | ((with_reducible refine Gs 25 19 ?_); refine OT 19 25 H5 0 g3 92 5 (vB z32) (.agg (cellsB z32)) (msgA ⟨3, 0, tt, am, 0, z32, nx⟩) rfl (by rw [msgA_size HK.out HN.out]; decide) (by kernel_rfl) (by exact vB_one _) (by exact spl5 (by rw [vB_len, vB_len, HK.out]; rfl)) ?_; intro w6 H6)
     | ((with_reducible refine Gs 25 20 ?_); refine OT 20 25 H6 0 g3 92 37 (vB z32) (.agg (cellsB z32)) (msgA ⟨3, 0, tt, am, 0, z32, z32⟩) rfl (by rw [msgA_size z32_len HN.out]; decide) (by kernel_rfl) (by exact vB_one _) (by exact spl37 (by rw [vB_len]; rfl) (by rw [vB_len, vB_len, HN.out]; rfl)) ?_; intro w7 H7)
     | ((with_reducible refine Gd 22 ?_); refine OD 21 90 H7 1 g1 0 (.int .u8 3) Try.underlying90 ?_)
     | ((with_reducible refine Gd 26 ?_); refine GD 25 23 H7 1 g1 2 (.int .u64 tt) Try.underlying23 ?_)
     | ((with_reducible refine Gd 31 ?_); refine GD 30 90 H7 1 g1 0 (.int .u8 3) Try.underlying90 ?_)
     | ((with_reducible refine Gd 35 ?_); refine GD 34 23 H7 1 g1 3 (.int .u64 am) Try.underlying23 ?_)
     | ((with_reducible refine Gs 90 39 ?_); refine OT1 39 90 H7 0 g3 92 0 (.int .u8 0) (msgA ⟨0, 0, tt, am, 0, z32, z32⟩) rfl (by simp [msgA, vB]; try omega) ?_; intro w8 H8)
     | ((with_reducible refine Gs 23 40 ?_); refine OT1 40 23 H8 0 g3 92 2 (.int .u64 0) (msgA ⟨0, 0, 0, am, 0, z32, z32⟩) rfl (by simp [msgA, vB]; try omega) ?_; intro w9 H9)
     | ((with_reducible refine Gs 23 41 ?_); refine OT1 41 23 H9 0 g3 92 3 (.int .u64 0) (msgA ⟨0, 0, 0, 0, 0, z32, z32⟩) rfl (by simp [msgA, vB]; try omega) ?_; intro w10 H10)
     | ((with_reducible refine Gd 42 ?_); refine OV 3 H10 0 g3 92 rfl Try.underlying92 (sizeM_of (msgA_size rfl rfl)) ?_)
     | ((with_reducible refine Gd 43 ?_); refine OU 92 [] (msgA zeroM) rfl (builtM0) ?_)
     | ((with_reducible refine gate_dst (N := 44) rfl ?_); refine eq_M rfl _ (.tmp 42) (.tmp 43) rfl ⟨0, 0, 0, 0, 0, z32, z32⟩ zeroM rfl rfl rfl rfl rfl rfl ?_)
     )
    go_ret
    exact ⟨rfl, H7.out.below⟩
  ·have e3 : decide (32 ≤ fr) = true := decide_eq_true (by omega)
   obtain rfl : r = false := by rw [hr, decide_eq_false h3]; rfl
   clear hr
   go_enter Try.func136, Try.ntmps136
   go_wp2_with (first
    | fail
    | ((with_reducible refine Gd 1 ?_); refine OB H0 92 ((msgA ⟨3, fr, tt, am, no, ky, nx⟩)) ?_; intro g1 w1 H1 B1)
    | ((with_reducible refine Gd 4 ?_); refine OV 1 H1 0 g1 92 rfl Try.underlying92 (sizeM_of HSZ.out) ?_)
    | ((with_reducible refine Gd 3 ?_); refine OA H1 92 (msgA zeroM) 69 ?_; intro g3 w2 H2 B2)
    | ((with_reducible refine Gs 92 3 ?_); refine OS 3 4 H2 0 g3 92 (msgA ⟨3, fr, tt, am, no, ky, nx⟩) 69 HAZ HAR ?_; intro w3 H3)
    | ((with_reducible refine Gd 6 ?_); refine OD 5 90 H3 1 g1 0 (.int .u8 3) Try.underlying90 ?_)
    | ((with_reducible refine Gd 13 ?_); refine OD 12 23 H3 1 g1 1 (.int .u64 fr) Try.underlying23 ?_)
    | ((with_reducible refine Gd 15 ?_); refine OU 25 [] (cellsB z32) rfl (builtH0) ?_)
    | ((with_reducible refine Gd 16 ?_); refine OU 25 [] (cellsB z32) rfl (builtH0) ?_)
    | ((with_reducible refine Gs 23 17 ?_); refine OT1 17 23 H3 0 g3 92 1 (.int .u64 0) (msgA ⟨3, 0, tt, am, no, ky, nx⟩) rfl (by simp [msgA, vB]; try omega) ?_; intro w4 H4)
    | ((with_reducible refine Gs 23 18 ?_); refine OT1 18 23 H4 0 g3 92 4 (.int .u64 0) (msgA ⟨3, 0, tt, am, 0, ky, nx⟩) rfl (by simp [msgA, vB]; try omega) ?_; intro w5 H5)
    | ((with_reducible refine Gs 25 19 ?_); refine OT 19 25 H5 0 g3 92 5 (vB z32) (.agg (cellsB z32)) (msgA ⟨3, 0, tt, am, 0, z32, nx⟩) rfl (by rw [msgA_size HK.out HN.out]; decide) (by kernel_rfl) (by exact vB_one _) (by exact spl5 (by rw [vB_len, vB_len, HK.out]; rfl)) ?_; intro w6 H6)
    | ((with_reducible refine Gs 25 20 ?_); refine OT 20 25 H6 0 g3 92 37 (vB z32) (.agg (cellsB z32)) (msgA ⟨3, 0, tt, am, 0, z32, z32⟩) rfl (by rw [msgA_size z32_len HN.out]; decide) (by kernel_rfl) (by exact vB_one _) (by exact spl37 (by rw [vB_len]; rfl) (by rw [vB_len, vB_len, HN.out]; rfl)) ?_; intro w7 H7)
    | ((with_reducible refine Gd 22 ?_); refine OD 21 90 H7 1 g1 0 (.int .u8 3) Try.underlying90 ?_)
    | ((with_reducible refine Gd 26 ?_); refine GD 25 23 H7 1 g1 2 (.int .u64 tt) Try.underlying23 ?_)
    | ((with_reducible refine Gd 31 ?_); refine GD 30 90 H7 1 g1 0 (.int .u8 3) Try.underlying90 ?_)
    | ((with_reducible refine Gd 35 ?_); refine GD 34 23 H7 1 g1 3 (.int .u64 am) Try.underlying23 ?_)
    | ((with_reducible refine Gs 90 39 ?_); refine OT1 39 90 H7 0 g3 92 0 (.int .u8 0) (msgA ⟨0, 0, tt, am, 0, z32, z32⟩) rfl (by simp [msgA, vB]; try omega) ?_; intro w8 H8)
    | ((with_reducible refine Gs 23 40 ?_); refine OT1 40 23 H8 0 g3 92 2 (.int .u64 0) (msgA ⟨0, 0, 0, am, 0, z32, z32⟩) rfl (by simp [msgA, vB]; try omega) ?_; intro w9 H9)
    | ((with_reducible refine Gs 23 41 ?_); refine OT1 41 23 H9 0 g3 92 3 (.int .u64 0) (msgA ⟨0, 0, 0, 0, 0, z32, z32⟩) rfl (by simp [msgA, vB]; try omega) ?_; intro w10 H10)
    | ((with_reducible refine Gd 42 ?_); refine OV 3 H10 0 g3 92 rfl Try.underlying92 (sizeM_of (msgA_size rfl rfl)) ?_)
    | ((with_reducible refine Gd 43 ?_); refine OU 92 [] (msgA zeroM) rfl (builtM0) ?_)
    | ((with_reducible refine gate_dst (N := 44) rfl ?_); refine eq_M rfl _ (.tmp 42) (.tmp 43) rfl ⟨0, 0, 0, 0, 0, z32, z32⟩ zeroM rfl rfl rfl rfl rfl rfl ?_)
    )
   go_ret
   exact ⟨rfl, H3.out.below⟩
 by_cases h1 : kd = 1
 ·simp only [mayM] at hr
  rw [if_pos h1] at hr
  subst h1
  clear h2 h3
  by_cases h4 : tt < 32
  ·have e4 : decide (32 ≤ tt) = false := decide_eq_false (by omega)
   by_cases h5 : 0 < am
   ·have e5 : (am == 0) = false := beq_eq_false_iff_ne.2 (by omega)
    have HE : Aside0 (eqM ⟨0, fr, 0, 0, no, ky, nx⟩ zeroM = r) := ⟨by
     rw [hr, decide_eq_true h4, decide_eq_true h5]
     simp only [eqM, zeroM, Bool.and_true]
     rw [show (fr == 0) = decide (fr = 0) from rfl, show (no == 0) = decide (no = 0) from rfl]
     cases decide (fr = 0) <;> simp [Bool.and_assoc]⟩
    clear hr
    go_enter Try.func136, Try.ntmps136
    go_wp2_with (first
     | fail
     | ((with_reducible refine Gd 1 ?_); refine OB H0 92 ((msgA ⟨1, fr, tt, am, no, ky, nx⟩)) ?_; intro g1 w1 H1 B1)
     | ((with_reducible refine Gd 4 ?_); refine OV 1 H1 0 g1 92 rfl Try.underlying92 (sizeM_of HSZ.out) ?_)
     | ((with_reducible refine Gd 3 ?_); refine OA H1 92 (msgA zeroM) 69 ?_; intro g3 w2 H2 B2)
     | ((with_reducible refine Gs 92 3 ?_); refine OS 3 4 H2 0 g3 92 (msgA ⟨1, fr, tt, am, no, ky, nx⟩) 69 HAZ HAR ?_; intro w3 H3)
     | ((with_reducible refine Gd 6 ?_); refine OD 5 90 H3 1 g1 0 (.int .u8 1) Try.underlying90 ?_)
     | ((with_reducible refine Gd 13 ?_); refine OD 12 23 H3 1 g1 1 (.int .u64 fr) Try.underlying23 ?_)
     | ((with_reducible refine Gd 15 ?_); refine OU 25 [] (cellsB z32) rfl (builtH0) ?_)
     | ((with_reducible refine Gd 16 ?_); refine OU 25 [] (cellsB z32) rfl (builtH0) ?_)
     | ((with_reducible refine Gs 23 17 ?_); refine OT1 17 23 H3 0 g3 92 1 (.int .u64 0) (msgA ⟨1, 0, tt, am, no, ky, nx⟩) rfl (by simp [msgA, vB]; try omega) ?_; intro w4 H4)
     | ((with_reducible refine Gs 23 18 ?_); refine OT1 18 23 H4 0 g3 92 4 (.int .u64 0) (msgA ⟨1, 0, tt, am, 0, ky, nx⟩) rfl (by simp [msgA, vB]; try omega) ?_; intro w5 H5)
     | ((with_reducible refine Gs 25 19 ?_); refine OT 19 25 H5 0 g3 92 5 (vB z32) (.agg (cellsB z32)) (msgA ⟨1, 0, tt, am, 0, z32, nx⟩) rfl (by rw [msgA_size HK.out HN.out]; decide) (by kernel_rfl) (by exact vB_one _) (by exact spl5 (by rw [vB_len, vB_len, HK.out]; rfl)) ?_; intro w6 H6)
     | ((with_reducible refine Gs 25 20 ?_); refine OT 20 25 H6 0 g3 92 37 (vB z32) (.agg (cellsB z32)) (msgA ⟨1, 0, tt, am, 0, z32, z32⟩) rfl (by rw [msgA_size z32_len HN.out]; decide) (by kernel_rfl) (by exact vB_one _) (by exact spl37 (by rw [vB_len]; rfl) (by rw [vB_len, vB_len, HN.out]; rfl)) ?_; intro w7 H7)
     | ((with_reducible refine Gd 22 ?_); refine OD 21 90 H3 1 g1 0 (.int .u8 1) Try.underlying90 ?_)
     | ((with_reducible refine Gd 26 ?_); refine GD 25 23 H3 1 g1 2 (.int .u64 tt) Try.underlying23 ?_)
     | ((with_reducible refine Gd 31 ?_); refine GD 30 90 H3 1 g1 0 (.int .u8 1) Try.underlying90 ?_)
     | ((with_reducible refine Gd 35 ?_); refine GD 34 23 H3 1 g1 3 (.int .u64 am) Try.underlying23 ?_)
     | ((with_reducible refine Gs 90 39 ?_); refine OT1 39 90 H3 0 g3 92 0 (.int .u8 0) (msgA ⟨0, fr, tt, am, no, ky, nx⟩) rfl (by simp [msgA, vB]; try omega) ?_; intro w8 H8)
     | ((with_reducible refine Gs 23 40 ?_); refine OT1 40 23 H8 0 g3 92 2 (.int .u64 0) (msgA ⟨0, fr, 0, am, no, ky, nx⟩) rfl (by simp [msgA, vB]; try omega) ?_; intro w9 H9)
     | ((with_reducible refine Gs 23 41 ?_); refine OT1 41 23 H9 0 g3 92 3 (.int .u64 0) (msgA ⟨0, fr, 0, 0, no, ky, nx⟩) rfl (by simp [msgA, vB]; try omega) ?_; intro w10 H10)
     | ((with_reducible refine Gd 42 ?_); refine OV 3 H10 0 g3 92 rfl Try.underlying92 (sizeM_of (msgA_size HK.out HN.out)) ?_)
     | ((with_reducible refine Gd 43 ?_); refine OU 92 [] (msgA zeroM) rfl (builtM0) ?_)
     | ((with_reducible refine gate_dst (N := 44) rfl ?_); refine eq_M rfl _ (.tmp 42) (.tmp 43) rfl ⟨0, fr, 0, 0, no, ky, nx⟩ zeroM rfl rfl HK.out HN.out rfl rfl ?_)
     )
    go_ret
    exact ⟨by rw [HE.out]; rfl, H10.out.below⟩
   ·have e5 : (am == 0) = true := beq_iff_eq.2 (by omega)
    obtain rfl : r = false := by rw [hr, decide_eq_false h5]; simp
    clear hr
    go_enter Try.func136, Try.ntmps136
    go_wp2_with (first
     | fail
     | ((with_reducible refine Gd 1 ?_); refine OB H0 92 ((msgA ⟨1, fr, tt, am, no, ky, nx⟩)) ?_; intro g1 w1 H1 B1)
     | ((with_reducible refine Gd 4 ?_); refine OV 1 H1 0 g1 92 rfl Try.underlying92 (sizeM_of HSZ.out) ?_)
     | ((with_reducible refine Gd 3 ?_); refine OA H1 92 (msgA zeroM) 69 ?_; intro g3 w2 H2 B2)
     | ((with_reducible refine Gs 92 3 ?_); refine OS 3 4 H2 0 g3 92 (msgA ⟨1, fr, tt, am, no, ky, nx⟩) 69 HAZ HAR ?_; intro w3 H3)
     | ((with_reducible refine Gd 6 ?_); refine OD 5 90 H3 1 g1 0 (.int .u8 1) Try.underlying90 ?_)
     | ((with_reducible refine Gd 13 ?_); refine OD 12 23 H3 1 g1 1 (.int .u64 fr) Try.underlying23 ?_)
     | ((with_reducible refine Gd 15 ?_); refine OU 25 [] (cellsB z32) rfl (builtH0) ?_)
     | ((with_reducible refine Gd 16 ?_); refine OU 25 [] (cellsB z32) rfl (builtH0) ?_)
     | ((with_reducible refine Gs 23 17 ?_); refine OT1 17 23 H3 0 g3 92 1 (.int .u64 0) (msgA ⟨1, 0, tt, am, no, ky, nx⟩) rfl (by simp [msgA, vB]; try omega) ?_; intro w4 H4)
     | ((with_reducible refine Gs 23 18 ?_); refine OT1 18 23 H4 0 g3 92 4 (.int .u64 0) (msgA ⟨1, 0, tt, am, 0, ky, nx⟩) rfl (by simp [msgA, vB]; try omega) ?_; intro w5 H5)
     | ((with_reducible refine Gs 25 19 ?_); refine OT 19 25 H5 0 g3 92 5 (vB z32) (.agg (cellsB z32)) (msgA ⟨1, 0, tt, am, 0, z32, nx⟩) rfl (by rw [msgA_size HK.out HN.out]; decide) (by kernel_rfl) (by exact vB_one _) (by exact spl5 (by rw [vB_len, vB_len, HK.out]; rfl)) ?_; intro w6 H6)
     | ((with_reducible refine Gs 25 20 ?_); refine OT 20 25 H6 0 g3 92 37 (vB z32) (.agg (cellsB z32)) (msgA ⟨1, 0, tt, am, 0, z32, z32⟩) rfl (by rw [msgA_size z32_len HN.out]; decide) (by kernel_rfl) (by exact vB_one _) (by exact spl37 (by rw [vB_len]; rfl) (by rw [vB_len, vB_len, HN.out]; rfl)) ?_; intro w7 H7)
     | ((with_reducible refine Gd 22 ?_); refine OD 21 90 H3 1 g1 0 (.int .u8 1) Try.underlying90 ?_)
     | ((with_reducible refine Gd 26 ?_); refine GD 25 23 H3 1 g1 2 (.int .u64 tt) Try.underlying23 ?_)
     | ((with_reducible refine Gd 31 ?_); refine GD 30 90 H3 1 g1 0 (.int .u8 1) Try.underlying90 ?_)
     | ((with_reducible refine Gd 35 ?_); refine GD 34 23 H3 1 g1 3 (.int .u64 am) Try.underlying23 ?_)
     | ((with_reducible refine Gs 90 39 ?_); refine OT1 39 90 H3 0 g3 92 0 (.int .u8 0) (msgA ⟨0, fr, tt, am, no, ky, nx⟩) rfl (by simp [msgA, vB]; try omega) ?_; intro w8 H8)
     | ((with_reducible refine Gs 23 40 ?_); refine OT1 40 23 H8 0 g3 92 2 (.int .u64 0) (msgA ⟨0, fr, 0, am, no, ky, nx⟩) rfl (by simp [msgA, vB]; try omega) ?_; intro w9 H9)
     | ((with_reducible refine Gs 23 41 ?_); refine OT1 41 23 H9 0 g3 92 3 (.int .u64 0) (msgA ⟨0, fr, 0, 0, no, ky, nx⟩) rfl (by simp [msgA, vB]; try omega) ?_; intro w10 H10)
     | ((with_reducible refine Gd 42 ?_); refine OV 3 H10 0 g3 92 rfl Try.underlying92 (sizeM_of (msgA_size HK.out HN.out)) ?_)
     | ((with_reducible refine Gd 43 ?_); refine OU 92 [] (msgA zeroM) rfl (builtM0) ?_)
     | ((with_reducible refine gate_dst (N := 44) rfl ?_); refine eq_M rfl _ (.tmp 42) (.tmp 43) rfl ⟨0, fr, 0, 0, no, ky, nx⟩ zeroM rfl rfl HK.out HN.out rfl rfl ?_)
     )
    go_ret
    exact ⟨rfl, H3.out.below⟩
  ·have e4 : decide (32 ≤ tt) = true := decide_eq_true (by omega)
   obtain rfl : r = false := by rw [hr, decide_eq_false h4]; simp
   clear hr
   go_enter Try.func136, Try.ntmps136
   go_wp2_with (first
    | fail
    | ((with_reducible refine Gd 1 ?_); refine OB H0 92 ((msgA ⟨1, fr, tt, am, no, ky, nx⟩)) ?_; intro g1 w1 H1 B1)
    | ((with_reducible refine Gd 4 ?_); refine OV 1 H1 0 g1 92 rfl Try.underlying92 (sizeM_of HSZ.out) ?_)
    | ((with_reducible refine Gd 3 ?_); refine OA H1 92 (msgA zeroM) 69 ?_; intro g3 w2 H2 B2)
    | ((with_reducible refine Gs 92 3 ?_); refine OS 3 4 H2 0 g3 92 (msgA ⟨1, fr, tt, am, no, ky, nx⟩) 69 HAZ HAR ?_; intro w3 H3)
    | ((with_reducible refine Gd 6 ?_); refine OD 5 90 H3 1 g1 0 (.int .u8 1) Try.underlying90 ?_)
    | ((with_reducible refine Gd 13 ?_); refine OD 12 23 H3 1 g1 1 (.int .u64 fr) Try.underlying23 ?_)
    | ((with_reducible refine Gd 15 ?_); refine OU 25 [] (cellsB z32) rfl (builtH0) ?_)
    | ((with_reducible refine Gd 16 ?_); refine OU 25 [] (cellsB z32) rfl (builtH0) ?_)
    | ((with_reducible refine Gs 23 17 ?_); refine OT1 17 23 H3 0 g3 92 1 (.int .u64 0) (msgA ⟨1, 0, tt, am, no, ky, nx⟩) rfl (by simp [msgA, vB]; try omega) ?_; intro w4 H4)
    | ((with_reducible refine Gs 23 18 ?_); refine OT1 18 23 H4 0 g3 92 4 (.int .u64 0) (msgA ⟨1, 0, tt, am, 0, ky, nx⟩) rfl (by simp [msgA, vB]; try omega) ?_; intro w5 H5)
    | ((with_reducible refine Gs 25 19 ?_); refine OT 19 25 H5 0 g3 92 5 (vB z32) (.agg (cellsB z32)) (msgA ⟨1, 0, tt, am, 0, z32, nx⟩) rfl (by rw [msgA_size HK.out HN.out]; decide) (by kernel_rfl) (by exact vB_one _) (by exact spl5 (by rw [vB_len, vB_len, HK.out]; rfl)) ?_; intro w6 H6)
    | ((with_reducible refine Gs 25 20 ?_); refine OT 20 25 H6 0 g3 92 37 (vB z32) (.agg (cellsB z32)) (msgA ⟨1, 0, tt, am, 0, z32, z32⟩) rfl (by rw [msgA_size z32_len HN.out]; decide) (by kernel_rfl) (by exact vB_one _) (by exact spl37 (by rw [vB_len]; rfl) (by rw [vB_len, vB_len, HN.out]; rfl)) ?_; intro w7 H7)
    | ((with_reducible refine Gd 22 ?_); refine OD 21 90 H3 1 g1 0 (.int .u8 1) Try.underlying90 ?_)
    | ((with_reducible refine Gd 26 ?_); refine GD 25 23 H3 1 g1 2 (.int .u64 tt) Try.underlying23 ?_)
    | ((with_reducible refine Gd 31 ?_); refine GD 30 90 H3 1 g1 0 (.int .u8 1) Try.underlying90 ?_)
    | ((with_reducible refine Gd 35 ?_); refine GD 34 23 H3 1 g1 3 (.int .u64 am) Try.underlying23 ?_)
    | ((with_reducible refine Gs 90 39 ?_); refine OT1 39 90 H3 0 g3 92 0 (.int .u8 0) (msgA ⟨0, fr, tt, am, no, ky, nx⟩) rfl (by simp [msgA, vB]; try omega) ?_; intro w8 H8)
    | ((with_reducible refine Gs 23 40 ?_); refine OT1 40 23 H8 0 g3 92 2 (.int .u64 0) (msgA ⟨0, fr, 0, am, no, ky, nx⟩) rfl (by simp [msgA, vB]; try omega) ?_; intro w9 H9)
    | ((with_reducible refine Gs 23 41 ?_); refine OT1 41 23 H9 0 g3 92 3 (.int .u64 0) (msgA ⟨0, fr, 0, 0, no, ky, nx⟩) rfl (by simp [msgA, vB]; try omega) ?_; intro w10 H10)
    | ((with_reducible refine Gd 42 ?_); refine OV 3 H10 0 g3 92 rfl Try.underlying92 (sizeM_of (msgA_size HK.out HN.out)) ?_)
    | ((with_reducible refine Gd 43 ?_); refine OU 92 [] (msgA zeroM) rfl (builtM0) ?_)
    | ((with_reducible refine gate_dst (N := 44) rfl ?_); refine eq_M rfl _ (.tmp 42) (.tmp 43) rfl ⟨0, fr, 0, 0, no, ky, nx⟩ zeroM rfl rfl HK.out HN.out rfl rfl ?_)
    )
   go_ret
   exact ⟨rfl, H3.out.below⟩
 ·simp only [mayM] at hr
  rw [if_neg h1, if_neg h2, if_neg h3] at hr
  subst hr
  have e1 : (kd == 1) = false := beq_eq_false_iff_ne.2 h1
  have e2 : (kd == 2) = false := beq_eq_false_iff_ne.2 h2
  have e3 : (kd == 3) = false := beq_eq_false_iff_ne.2 h3
  clear h1 h2 h3
  go_enter Try.func136, Try.ntmps136
  go_wp2_with (first
   | fail
   | ((with_reducible refine Gd 1 ?_); refine OB H0 92 ((msgA ⟨kd, fr, tt, am, no, ky, nx⟩)) ?_; intro g1 w1 H1 B1)
   | ((with_reducible refine Gd 4 ?_); refine OV 1 H1 0 g1 92 rfl Try.underlying92 (sizeM_of HSZ.out) ?_)
   | ((with_reducible refine Gd 3 ?_); refine OA H1 92 (msgA zeroM) 69 ?_; intro g3 w2 H2 B2)
   | ((with_reducible refine Gs 92 3 ?_); refine OS 3 4 H2 0 g3 92 (msgA ⟨kd, fr, tt, am, no, ky, nx⟩) 69 HAZ HAR ?_; intro w3 H3)
   | ((with_reducible refine Gd 6 ?_); refine OD 5 90 H3 1 g1 0 (.int .u8 kd) Try.underlying90 ?_)
   | ((with_reducible refine Gd 13 ?_); refine OD 12 23 H3 1 g1 1 (.int .u64 fr) Try.underlying23 ?_)
   | ((with_reducible refine Gd 15 ?_); refine OU 25 [] (cellsB z32) rfl (builtH0) ?_)
   | ((with_reducible refine Gd 16 ?_); refine OU 25 [] (cellsB z32) rfl (builtH0) ?_)
   | ((with_reducible refine Gs 23 17 ?_); refine OT1 17 23 H3 0 g3 92 1 (.int .u64 0) (msgA ⟨kd, 0, tt, am, no, ky, nx⟩) rfl (by simp [msgA, vB]; try omega) ?_; intro w4 H4)
   | ((with_reducible refine Gs 23 18 ?_); refine OT1 18 23 H4 0 g3 92 4 (.int .u64 0) (msgA ⟨kd, 0, tt, am, 0, ky, nx⟩) rfl (by simp [msgA, vB]; try omega) ?_; intro w5 H5)
   | ((with_reducible refine Gs 25 19 ?_); refine OT 19 25 H5 0 g3 92 5 (vB z32) (.agg (cellsB z32)) (msgA ⟨kd, 0, tt, am, 0, z32, nx⟩) rfl (by rw [msgA_size HK.out HN.out]; decide) (by kernel_rfl) (by exact vB_one _) (by exact spl5 (by rw [vB_len, vB_len, HK.out]; rfl)) ?_; intro w6 H6)
   | ((with_reducible refine Gs 25 20 ?_); refine OT 20 25 H6 0 g3 92 37 (vB z32) (.agg (cellsB z32)) (msgA ⟨kd, 0, tt, am, 0, z32, z32⟩) rfl (by rw [msgA_size z32_len HN.out]; decide) (by kernel_rfl) (by exact vB_one _) (by exact spl37 (by rw [vB_len]; rfl) (by rw [vB_len, vB_len, HN.out]; rfl)) ?_; intro w7 H7)
   | ((with_reducible refine Gd 22 ?_); refine OD 21 90 H7 1 g1 0 (.int .u8 kd) Try.underlying90 ?_)
   | ((with_reducible refine Gd 26 ?_); refine GD 25 23 H7 1 g1 2 (.int .u64 tt) Try.underlying23 ?_)
   | ((with_reducible refine Gd 31 ?_); refine GD 30 90 H7 1 g1 0 (.int .u8 kd) Try.underlying90 ?_)
   | ((with_reducible refine Gd 35 ?_); refine GD 34 23 H7 1 g1 3 (.int .u64 am) Try.underlying23 ?_)
   | ((with_reducible refine Gs 90 39 ?_); refine OT1 39 90 H7 0 g3 92 0 (.int .u8 0) (msgA ⟨0, 0, tt, am, 0, z32, z32⟩) rfl (by simp [msgA, vB]; try omega) ?_; intro w8 H8)
   | ((with_reducible refine Gs 23 40 ?_); refine OT1 40 23 H8 0 g3 92 2 (.int .u64 0) (msgA ⟨0, 0, 0, am, 0, z32, z32⟩) rfl (by simp [msgA, vB]; try omega) ?_; intro w9 H9)
   | ((with_reducible refine Gs 23 41 ?_); refine OT1 41 23 H9 0 g3 92 3 (.int .u64 0) (msgA ⟨0, 0, 0, 0, 0, z32, z32⟩) rfl (by simp [msgA, vB]; try omega) ?_; intro w10 H10)
   | ((with_reducible refine Gd 42 ?_); refine OV 3 H10 0 g3 92 rfl Try.underlying92 (sizeM_of (msgA_size rfl rfl)) ?_)
   | ((with_reducible refine Gd 43 ?_); refine OU 92 [] (msgA zeroM) rfl (builtM0) ?_)
   | ((with_reducible refine gate_dst (N := 44) rfl ?_); refine eq_M rfl _ (.tmp 42) (.tmp 43) rfl ⟨0, 0, 0, 0, 0, z32, z32⟩ zeroM rfl rfl rfl rfl rfl rfl ?_)
   )
  go_ret
  exact ⟨rfl, H3.out.below⟩
end Go.Proofs.Ytocphkfkdadhaaa.H
