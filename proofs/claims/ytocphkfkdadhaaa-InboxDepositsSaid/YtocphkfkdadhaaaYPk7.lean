import Derived.Test.YtocphkfkdadhaaaYPk5
import Derived.Test.YtocphkfkdadhaaaYPk2
import Derived.Test.YtocphkfkdadhaaaYPk4
import Derived.Test.YtocphkfkdadhaaaYPk6
import Derived.Lib.Strings
import Derived.Lib.Slices
import Derived.Lib.Walk
import Derived.Lib.Bytes
import Derived.Test.YtocphkfkdadhaaaYPk3
namespace Go.Proofs.Ytocphkfkdadhaaa.H
open Go.RowKit Go.Proofs.YtocphkfkdadhaaaW.PrintWords Go.Proofs.YtocphkfkdadhaaaW.PrintLast Go.Proofs.YtocphkfkdadhaaaW.PrintMore
set_option linter.unusedVariables false
set_option linter.unusedSimpArgs false
theorem z3_one : Aside0 (Arr 3 #[.bool false, .slice none 0 0, .slice none 0 0]) := ⟨rfl, by simp [Value.oneCell']⟩
theorem zB_one : Aside0 (Arr 3 #[.int .u64 0, .int .u64 0, .slice none 0 0]) := ⟨rfl, by simp [Value.oneCell']⟩
theorem arr3_ {b : Bool} {v : Value} {A : Option Addr} {n c : Nat} (h : v.oneCell' = true) : Arr 3 #[.bool b, v, .slice A n c] := ⟨rfl, by
 show (#[Value.bool b, v, .slice A n c].all (·.oneCell')) = true
 simp only [Array.all_eq_true_iff_forall_mem]
 intro x hx
 simp at hx
 rcases hx with rfl | rfl | rfl
 ·rfl
 ·exact h
 ·rfl⟩
theorem R_one {α : Type} {d : Kd α} {e : Nat} {w : World} {base : Nat} {ok : Nat → Prop} {v : Value} {xs : List α} (h : d.R e w base ok v xs) : v.oneCell' = true := by
 obtain ⟨A, c, rfl⟩ := Kd.R_slice h
 rfl
theorem run_index_ptr {P : Program} (t e u : TypeId) (n : Nat) (ht : P.underlying t = some (.array n e)) (he : P.underlying e = some (.pointer u)) (hs : (P.info? e).map (·.size) = some 1) (cs : Array Value) (i : Int) (hi : 0 ≤ i ∧ i < n) {v : Value} (hv : cs[i.toNat]? = some v) (w : World) :
 (Instr.index t (.agg cs) (.int .i64 i)).run P w = .ok v w := by
 obtain ⟨ti, hti, hsz⟩ := Option.map_eq_some_iff.1 hs
 have hag : (isAgg e).run P w = .ok false w := by
  unfold isAgg
  simp [run_underlying he, go_sem]
 simp only [Instr.index, asIntOf, Sem.run_bind, Sem.run_pure, Result.andThen_ok, run_underlying ht]
 rw [if_pos hi]
 simp [sizeOf, typeInfo, hti, hsz, part, hag, hv, go_sem]
def stB (n0 n1 : Int) : Nat → Array Value
 | 0 => #[.int .u64 0, .int .u64 0, .slice none 0 0]
 | 1 => #[.int .u64 n0, .int .u64 0, .slice none 0 0]
 | _ => #[.int .u64 n0, .int .u64 n1, .slice none 0 0]
theorem readnum_any (y : SI) (hb : K.Byt y.f1) (A1 : Option Addr) (c1 : Nat) (A2 : Option Addr) (c2 : Nat) (W : World) (h1 : Kd.C kB W A1 y.f1.length y.f1) (h2 : y.f1.length ≤ c1) (h3 : Kd.C kI W A2 y.f2.length y.f2) (h4 : y.f2.length ≤ c2) :
 Calls Try.prog 108 #[.agg #[.bool y.f0, .slice A1 y.f1.length c1, .slice A2 y.f2.length c2]] W fun e w' => e = .returned (.tuple #[.int .u64 (K.rnumP y).1, .int .i64 (K.rnumP y).2]) ∧ Below W.heap.size W w' := by
 obtain ⟨k, hk⟩ := K.readnum_f y hb
 exact PRF.rlp_ReadNum.calls k y.f0 A1 c1 y.f1 A2 c2 y.f2 _ _ W h1 h2 h3 h4 hk
theorem R_item {W : World} {base : Nat} {ok : Nat → Prop} {v : Value} {xs : List SI} {e : Nat} (h : Kd.R kI e W base ok v xs) (i : Nat) (hi : i < xs.length) :
 ∃ g cap A1 c1 A2 c2, v = .slice (some ⟨g, 0, none⟩) xs.length cap ∧ xs.length ≤ cap ∧ Kd.R kB 5 W base ok (.slice A1 xs[i].f1.length c1) xs[i].f1 ∧ Kd.R kI 159 W base ok (.slice A2 xs[i].f2.length c2) xs[i].f2 ∧ xs[i].f1.length ≤ c1 ∧ xs[i].f2.length ≤ c2 ∧
  ∀ (j : Nat) (u : Value), [Value.bool xs[i].f0, .slice A1 xs[i].f1.length c1, .slice A2 xs[i].f2.length c2][j]? = some u → W.cell? ⟨g, i * 3 + j, none⟩ = some u := by
 obtain ⟨g, cap, cs, h1, h2, hM, hcl⟩ := R_elem h i hi
 obtain ⟨v1, v2, rfl, hr1, hr2⟩ := PRF.k159_openM hM
 obtain ⟨A1, c1, rfl, hc1, _⟩ := Kd.R_reads hr1
 obtain ⟨A2, c2, rfl, hc2, _⟩ := Kd.R_reads hr2
 exact ⟨g, cap, A1, c1, A2, c2, h1, h2, hr1, hr2, hc1, hc2, hcl⟩
theorem all_snoc (l : List SI) (j : Nat) (h : j < l.length) : ((l.take (j + 1)).all fun y => !y.f0) = (((l.take j).all fun y => !y.f0) && !l[j].f0) := by
 rw [List.take_succ_eq_append_getElem h, List.all_append]; simp
theorem f1s_snoc (l : List SI) (j : Nat) (h : j < l.length) : (l.take (j + 1)).map (fun y => y.f1) = (l.take j).map (fun y => y.f1) ++ [l[j].f1] := by
 rw [List.take_succ_eq_append_getElem h, List.map_append]; rfl
set_option maxHeartbeats 4000000 in
set_option maxRecDepth 100000 in
theorem readbatch_any (b : List Int) (A : Option Addr) (c : Nat) (w : World) (hB : ∀ x ∈ b, 0 ≤ x ∧ x ≤ 255) (hC : Kd.C kB w A b.length b) (hc : b.length ≤ c) :
 Calls Try.prog 55 #[.slice A b.length c] w (BatchPost w (batchP b)) := by
 have H0 := Aside0.mk (Own.start w)
 have HD := Aside0.mk (fun W (h : Below w.heap.size w W) => K.decode_any A c b W (Kd.C_below hC h) hc hB)
 have hmf : ∀ (fn : Fn) (first cap : Array Value) (w : World), (Instr.makeFunc fn first cap).run Try.prog w = .ok (.func fn first cap) w := fun _ _ _ _ => rfl
 obtain ⟨r, hr⟩ : ∃ r, r = batchP b := ⟨_, rfl⟩
 rw [← hr]
 unfold batchP at hr
 have HBI := fun (x : SI) (h : K.decodeP b = .ok x) => decodeP_byt hB h
 have HER := fun (e : Int) (h : K.decodeP b = .error e) => decodeP_err h
 clear hC hc hB
 generalize K.decodeP b = dec at *
 generalize b.length = nb at *
 have HZ3 := z3_one
 have HZB := zB_one
 cases dec with
 | error e =>
  obtain rfl : r = (zeroBt, e) := hr
  have he : (e != 0) = true := by have := HER e rfl; simpa using this
  clear HBI HER
  go_enter Try.func55, Try.ntmps55
  go_wp2_with (first
   | fail
   | ((with_reducible refine Gd 2 ?_); ( refine OA H0 108 #[.int .u64 0, .int .u64 0, .slice none 0 0] 3 ?_; intro g2 w1 H1 B1))
   | (go_at_call 106; ( refine (HD.out _ H1.out.below).mono ?_; rintro e' w3 ⟨hB3, rfl⟩; have H3 := Aside0.mk (H1.out.step hB3); clear hB3))
   | ((with_reducible refine Gd 4 ?_); ( refine OA H3 159 #[.bool false, .slice none 0 0, .slice none 0 0] 3 ?_; intro g4 w4 H4 B4))
   | ((with_reducible refine Gs 159 4 ?_); ( refine OS 4 17 H4 0 g4 159 #[.bool false, .slice none 0 0, .slice none 0 0] 3 HZ3 HZ3 ?_; intro w5 H5))
   | ((with_reducible refine Gs 108 2 ?_); ( refine OS 2 21 H5 1 g2 108 #[.int .u64 0, .int .u64 0, .slice none 0 0] 3 HZB HZB ?_; intro w6 H6))
   )
  refine bodyPost_ret (own_resultV_t rfl _ H6.out 1 g2 _ rfl rfl _ Try.underlying108 rfl (by kernel_rfl) _ rfl) rfl ?_
  exact ⟨_, rfl, ((H6.out.erase 0).erase 0).null kL _⟩
 | ok x =>
 obtain ⟨f0, f1, f2⟩ := x
 have hbi := HBI _ rfl
 clear HBI HER
 replace HD : Aside0 (∀ W, Below w.heap.size w W → Calls Try.prog 106 #[.slice A nb c] W fun e w' => ∃ v1 v2, e = .returned (.tuple #[.agg #[.bool f0, v1, v2], .int .i64 0]) ∧ Below W.heap.size W w' ∧ v1.oneCell' = true ∧ ∃ A2 c2, v2 = .slice A2 f2.length c2 ∧ f2.length ≤ c2 ∧ Kd.R kI 159 w' W.heap.size (fun _ => True) (.slice A2 f2.length c2) f2) := ⟨fun W h => (HD.out W h).mono fun e w' hp => by
  obtain ⟨hb, v1, v2, he, hr1, hr2⟩ := hp
  obtain ⟨A2, c2, rfl, hc2, _⟩ := Kd.R_reads hr2
  exact ⟨v1, _, he, hb, R_one hr1, A2, c2, rfl, hc2, hr2⟩⟩
 have HR : Aside0 (r = shapeB f0 f2) := ⟨hr⟩
 clear hr
 by_cases hl : f2.length = 3
 case neg =>
  have hl3 : ((f2.length : Int) != 3) = true := by simp; omega
  obtain ⟨n2, hn2⟩ : ∃ n2, n2 = f2.length := ⟨_, rfl⟩
  rw [← hn2] at HD hl3
  clear hn2
  cases f0
  ·
   obtain rfl : r = (zeroBt, 8) := HR.out.trans (shapeB_bad (by first | exact Or.inl rfl | exact Or.inr hl))
   clear HR hbi
   go_enter Try.func55, Try.ntmps55
   go_upto_region 6 with (first
    | fail
    | ((with_reducible refine Gd 2 ?_); ( refine OA H0 108 #[.int .u64 0, .int .u64 0, .slice none 0 0] 3 ?_; intro g2 w1 H1 B1))
    | (go_at_call 106; ( refine (HD.out _ H1.out.below).mono ?_; rintro e' wd ⟨v1, v2, rfl, hB3, hv1, A2, c2, rfl, hc2, hR2⟩; have HBD := Aside0.mk hB3; have H3 := Aside0.mk (Own.start wd); replace hR2 := Aside0.mk hR2; clear hB3))
    | ((with_reducible refine Gd 4 ?_); ( refine OA H3 159 #[.bool false, .slice none 0 0, .slice none 0 0] 3 ?_; intro g4 w4 H4 B4))
    | ((with_reducible refine gate_store (t := 159) (p := 4) rfl ?_); ( have HX3 : Aside0 (Arr 3 #[.bool false, v1, .slice A2 n2 c2]) := ⟨arr3_ hv1⟩; refine own_store H4.out 0 g4 _ 159 rfl rfl (.tmp 4) (.tmp 17) rfl #[.bool false, v1, .slice A2 n2 c2] (by rfl) (by rfl) 3 HZ3.out HX3.out (by kernel_rfl) ?_; intro w5 H5; replace H5 := Aside0.mk H5))
    | ((with_reducible refine Gd 24 ?_); ( refine OD 23 157 H5 0 g4 2 (.slice A2 n2 c2) Try.underlying157 ?_))
    | ((with_reducible refine Gd 6 ?_); ( refine OA1 H5 157 (.slice none 0 0) ?_; intro g6 w6 H6 B6))
    | ((with_reducible refine Gs 157 6 ?_); ( refine OT1 6 157 H6 0 g6 157 0 (.slice A2 n2 c2) #[.slice A2 n2 c2] rfl (by simp) ?_; intro w7 H7))
    )
   have H8 := Aside0.mk (H1.out.step (below_step HBD.out H7.out.below))
   go_wp2_with (first
    | fail
    | ((with_reducible refine Gd 27 ?_); ( refine OD 26 4 H7 1 g4 0 (.bool false) Try.underlying4 ?_))
    | ((with_reducible refine Gd 30 ?_); ( refine GD 6 157 H7 0 g6 0 (.slice A2 n2 c2) Try.underlying157 ?_))
    | ((with_reducible refine Gs 108 2 ?_); ( refine OS 2 34 H8 0 g2 108 #[.int .u64 0, .int .u64 0, .slice none 0 0] 3 HZB HZB ?_; intro w9 H9))
    )
   refine bodyPost_ret (own_resultV_t rfl _ H9.out 0 g2 _ rfl rfl _ Try.underlying108 rfl (by kernel_rfl) _ rfl) rfl ?_
   exact ⟨_, rfl, (H9.out.erase 0).null kL _⟩
  ·
   obtain rfl : r = (zeroBt, 8) := HR.out.trans (shapeB_bad (by first | exact Or.inl rfl | exact Or.inr hl))
   clear HR hbi
   go_enter Try.func55, Try.ntmps55
   go_upto_region 6 with (first
    | fail
    | ((with_reducible refine Gd 2 ?_); ( refine OA H0 108 #[.int .u64 0, .int .u64 0, .slice none 0 0] 3 ?_; intro g2 w1 H1 B1))
    | (go_at_call 106; ( refine (HD.out _ H1.out.below).mono ?_; rintro e' wd ⟨v1, v2, rfl, hB3, hv1, A2, c2, rfl, hc2, hR2⟩; have HBD := Aside0.mk hB3; have H3 := Aside0.mk (Own.start wd); replace hR2 := Aside0.mk hR2; clear hB3))
    | ((with_reducible refine Gd 4 ?_); ( refine OA H3 159 #[.bool false, .slice none 0 0, .slice none 0 0] 3 ?_; intro g4 w4 H4 B4))
    | ((with_reducible refine gate_store (t := 159) (p := 4) rfl ?_); ( have HX3 : Aside0 (Arr 3 #[.bool true, v1, .slice A2 n2 c2]) := ⟨arr3_ hv1⟩; refine own_store H4.out 0 g4 _ 159 rfl rfl (.tmp 4) (.tmp 17) rfl #[.bool true, v1, .slice A2 n2 c2] (by rfl) (by rfl) 3 HZ3.out HX3.out (by kernel_rfl) ?_; intro w5 H5; replace H5 := Aside0.mk H5))
    | ((with_reducible refine Gd 24 ?_); ( refine OD 23 157 H5 0 g4 2 (.slice A2 n2 c2) Try.underlying157 ?_))
    | ((with_reducible refine Gd 6 ?_); ( refine OA1 H5 157 (.slice none 0 0) ?_; intro g6 w6 H6 B6))
    | ((with_reducible refine Gs 157 6 ?_); ( refine OT1 6 157 H6 0 g6 157 0 (.slice A2 n2 c2) #[.slice A2 n2 c2] rfl (by simp) ?_; intro w7 H7))
    )
   have H8 := Aside0.mk (H1.out.step (below_step HBD.out H7.out.below))
   go_wp2_with (first
    | fail
    | ((with_reducible refine Gd 27 ?_); ( refine OD 26 4 H7 1 g4 0 (.bool true) Try.underlying4 ?_))
    | ((with_reducible refine Gd 30 ?_); ( refine GD 6 157 H7 0 g6 0 (.slice A2 n2 c2) Try.underlying157 ?_))
    | ((with_reducible refine Gs 108 2 ?_); ( refine OS 2 34 H8 0 g2 108 #[.int .u64 0, .int .u64 0, .slice none 0 0] 3 HZB HZB ?_; intro w9 H9))
    )
   refine bodyPost_ret (own_resultV_t rfl _ H9.out 0 g2 _ rfl rfl _ Try.underlying108 rfl (by kernel_rfl) _ rfl) rfl ?_
   exact ⟨_, rfl, (H9.out.erase 0).null kL _⟩
 cases f0
 ·
  rw [hl] at HD
  obtain rfl : r = (zeroBt, 8) := HR.out.trans (shapeB_bad (by first | exact Or.inl rfl | exact Or.inr hl))
  clear HR hbi
  go_enter Try.func55, Try.ntmps55
  go_upto_region 6 with (first
   | fail
   | ((with_reducible refine Gd 2 ?_); ( refine OA H0 108 #[.int .u64 0, .int .u64 0, .slice none 0 0] 3 ?_; intro g2 w1 H1 B1))
   | (go_at_call 106; ( refine (HD.out _ H1.out.below).mono ?_; rintro e' wd ⟨v1, v2, rfl, hB3, hv1, A2, c2, rfl, hc2, hR2⟩; have HBD := Aside0.mk hB3; have H3 := Aside0.mk (Own.start wd); replace hR2 := Aside0.mk hR2; clear hB3))
   | ((with_reducible refine Gd 4 ?_); ( refine OA H3 159 #[.bool false, .slice none 0 0, .slice none 0 0] 3 ?_; intro g4 w4 H4 B4))
   | ((with_reducible refine gate_store (t := 159) (p := 4) rfl ?_); ( have HX3 : Aside0 (Arr 3 #[.bool false, v1, .slice A2 3 c2]) := ⟨arr3_ hv1⟩; refine own_store H4.out 0 g4 _ 159 rfl rfl (.tmp 4) (.tmp 17) rfl #[.bool false, v1, .slice A2 3 c2] (by rfl) (by rfl) 3 HZ3.out HX3.out (by kernel_rfl) ?_; intro w5 H5; replace H5 := Aside0.mk H5))
   | ((with_reducible refine Gd 24 ?_); ( refine OD 23 157 H5 0 g4 2 (.slice A2 3 c2) Try.underlying157 ?_))
   | ((with_reducible refine Gd 6 ?_); ( refine OA1 H5 157 (.slice none 0 0) ?_; intro g6 w6 H6 B6))
   | ((with_reducible refine Gs 157 6 ?_); ( refine OT1 6 157 H6 0 g6 157 0 (.slice A2 3 c2) #[.slice A2 3 c2] rfl (by simp) ?_; intro w7 H7))
   )
  have H8 := Aside0.mk (H1.out.step (below_step HBD.out H7.out.below))
  go_wp2_with (first
   | fail
   | ((with_reducible refine Gd 27 ?_); ( refine OD 26 4 H7 1 g4 0 (.bool false) Try.underlying4 ?_))
   | ((with_reducible refine Gd 30 ?_); ( refine GD 6 157 H7 0 g6 0 (.slice A2 3 c2) Try.underlying157 ?_))
   | ((with_reducible refine Gs 108 2 ?_); ( refine OS 2 34 H8 0 g2 108 #[.int .u64 0, .int .u64 0, .slice none 0 0] 3 HZB HZB ?_; intro w9 H9))
   )
  refine bodyPost_ret (own_resultV_t rfl _ H9.out 0 g2 _ rfl rfl _ Try.underlying108 rfl (by kernel_rfl) _ rfl) rfl ?_
  exact ⟨_, rfl, (H9.out.erase 0).null kL _⟩
 obtain ⟨y0, y1, y2, rfl⟩ : ∃ y0 y1 y2, f2 = [y0, y1, y2] := by
  match f2, hl with
  | [a, b, c], _ => exact ⟨a, b, c, rfl⟩
 replace HR : Aside0 (r = itemsB y0 y1 y2) := ⟨HR.out⟩
 have hb0 := BytI_f1 (BytI_f2 hbi y0 (by simp))
 have hb1 := BytI_f1 (BytI_f2 hbi y1 (by simp))
 clear hbi hl
 go_enter Try.func55, Try.ntmps55
 go_upto_region 6 with (first
  | fail
  | ((with_reducible refine Gd 2 ?_); ( refine OA H0 108 #[.int .u64 0, .int .u64 0, .slice none 0 0] 3 ?_; intro g2 w1 H1 B1))
  | (go_at_call 106; ( refine (HD.out _ H1.out.below).mono ?_; rintro e' wd ⟨v1, v2, rfl, hB3, hv1, A2, c2, rfl, hc2, hR2⟩; have HBD := Aside0.mk hB3; have H3 := Aside0.mk (Own.start wd); replace hR2 := Aside0.mk hR2; clear hB3))
  | ((with_reducible refine Gd 4 ?_); ( refine OA H3 159 #[.bool false, .slice none 0 0, .slice none 0 0] 3 ?_; intro g4 w4 H4 B4))
  | ((with_reducible refine gate_store (t := 159) (p := 4) rfl ?_); ( have HX3 : Aside0 (Arr 3 #[.bool true, v1, .slice A2 3 c2]) := ⟨arr3_ hv1⟩; refine own_store H4.out 0 g4 _ 159 rfl rfl (.tmp 4) (.tmp 17) rfl #[.bool true, v1, .slice A2 3 c2] (by rfl) (by rfl) 3 HZ3.out HX3.out (by kernel_rfl) ?_; intro w5 H5; replace H5 := Aside0.mk H5))
  | ((with_reducible refine Gd 24 ?_); ( refine OD 23 157 H5 0 g4 2 (.slice A2 3 c2) Try.underlying157 ?_))
  | ((with_reducible refine Gd 6 ?_); ( refine OA1 H5 157 (.slice none 0 0) ?_; intro g6 w6 H6 B6))
  | ((with_reducible refine Gs 157 6 ?_); ( refine OT1 6 157 H6 0 g6 157 0 (.slice A2 3 c2) #[.slice A2 3 c2] rfl (by simp) ?_; intro w7 H7))
  )
 obtain ⟨gI, cap, a1, d1, a2, d2, he, hcap, q1, q2, q3, q4, hcl0⟩ := R_item hR2.out 0 (by simp)
 injection he with he1 he2 he3
 subst he1 he3
 obtain ⟨_, _, b1, e1, b2, e2, he, _, p1, p2, p3, p4, hcl1⟩ := R_item hR2.out 1 (by simp)
 injection he with he1 he2 he3
 injection he1 with he1
 injection he1 with he1
 subst he1 he3
 obtain ⟨_, _, f1', g1', f2', g2', he, _, s1, s2, s3, s4, hcl2⟩ := R_item hR2.out 2 (by simp)
 injection he with he1 he2 he3
 injection he1 with he1
 injection he1 with he1
 subst he1 he3
 simp only [List.getElem_cons_zero, List.getElem_cons_succ, Nat.zero_mul, Nat.one_mul, Nat.zero_add] at *
 have HCL0 := Aside0.mk hcl0
 have HCL1 := Aside0.mk hcl1
 have HCL2 := Aside0.mk hcl2
 have HN0 : Aside0 (∀ W, Below wd.heap.size wd W → Calls Try.prog 108 #[.agg #[.bool y0.f0, .slice a1 y0.f1.length d1, .slice a2 y0.f2.length d2]] W fun e w' => e = .returned (.tuple #[.int .u64 (K.rnumP y0).1, .int .i64 (K.rnumP y0).2]) ∧ Below W.heap.size W w') := ⟨fun W h => by
  obtain ⟨_, _, x1, _, x3⟩ := Kd.R_reads q1
  injection x1 with x1 _ _
  subst x1
  obtain ⟨_, _, x1, _, x4⟩ := Kd.R_reads q2
  injection x1 with x1 _ _
  subst x1
  exact readnum_any y0 hb0 _ d1 _ d2 W (Kd.C_below x3 h) q3 (Kd.C_below x4 h) q4⟩
 have HN1 : Aside0 (∀ W, Below wd.heap.size wd W → Calls Try.prog 108 #[.agg #[.bool y1.f0, .slice b1 y1.f1.length e1, .slice b2 y1.f2.length e2]] W fun e w' => e = .returned (.tuple #[.int .u64 (K.rnumP y1).1, .int .i64 (K.rnumP y1).2]) ∧ Below W.heap.size W w') := ⟨fun W h => by
  obtain ⟨_, _, x1, _, x3⟩ := Kd.R_reads p1
  injection x1 with x1 _ _
  subst x1
  obtain ⟨_, _, x1, _, x4⟩ := Kd.R_reads p2
  injection x1 with x1 _ _
  subst x1
  exact readnum_any y1 hb1 _ e1 _ e2 W (Kd.C_below x3 h) p3 (Kd.C_below x4 h) p4⟩
 have HS2 := Aside0.mk s2
 unfold itemsB at HR
 clear hb0 hb1 hcl0 hcl1 hcl2 q1 q2 q3 q4 p1 p2 p3 p4 s1 s2 s3 hR2 HD B4 B6 H3 H4 H5 H6
 generalize y0.f1.length = x1 at *
 generalize y0.f2.length = x2 at *
 generalize y1.f1.length = x3 at *
 generalize y1.f2.length = x4 at *
 generalize y2.f1.length = x5 at *
 generalize K.rnumP y0 = rn0 at *
 generalize K.rnumP y1 = rn1 at *
 obtain ⟨n0, er0⟩ := rn0
 obtain ⟨n1, er1⟩ := rn1
 dsimp only at HR HN0 HN1
 go_wp2_with (first
  | fail
  | ((with_reducible refine Gd 27 ?_); ( refine OD 26 4 H7 1 g4 0 (.bool true) Try.underlying4 ?_))
  | ((with_reducible refine Gd 30 ?_); ( refine GD 6 157 H7 0 g6 0 (.slice (some ⟨gI, 0, none⟩) 3 c2) Try.underlying157 ?_))
  | ((with_reducible refine Gd 8 ?_); ( refine OA H7 108 #[.int .u64 0, .int .u64 0, .slice none 0 0] 3 ?_; intro g8 w8 H8 B8))
  )
 have hc0 : 3 ≤ c2 := hc2
 replace H8 : Aside0 (Own wd.heap.size wd w8 [.blk g8 (stB n0 n1 0) 108, .blk g6 #[.slice (some ⟨gI, 3 * 0, none⟩) (3 - 0) c2] 157, .blk g4 #[.bool true, v1, .slice (some ⟨gI, 0, none⟩) 3 c2] 159]) := ⟨H8.out⟩
 clear hc2 hcap H7 H0 B8
 go_loopw [38] (fun v38 wr => ∃ (i c' : Nat), i ≤ 2 ∧ v38 = .int .i64 (i : Int) ∧ 3 - i ≤ c' ∧ Aside0 ((1 ≤ i → er0 = 0) ∧ (2 ≤ i → er1 = 0)) ∧ Aside0 (Own wd.heap.size wd wr [.blk g8 (stB n0 n1 i) 108, .blk g6 #[.slice (some ⟨gI, 3 * i, none⟩) (3 - i) c'] 157, .blk g4 #[.bool true, v1, .slice (some ⟨gI, 0, none⟩) 3 c2] 159])) (fun v38 _ => 2 - (intOf v38).toNat)
 case atStart => exact ⟨0, c2, by decide, rfl, hc0, ⟨fun h => by omega, fun h => by omega⟩, H8⟩
 case round =>
  clear H8 hc0
  obtain ⟨i, c', hi, rfl, hc', HE, HI⟩ := hrel
  have hix0 : ∀ W : World, (Instr.index 169 (.agg #[.pointer (some ⟨g8, 0, none⟩), .pointer (some ⟨g8, 1, none⟩)]) (.int .i64 0)).run Try.prog W = .ok (.pointer (some ⟨g8, 0, none⟩)) W := fun W => run_index_ptr _ _ _ _ Try.underlying169 Try.underlying168 (by kernel_rfl) _ 0 (by decide) rfl W
  have hix1 : ∀ W : World, (Instr.index 169 (.agg #[.pointer (some ⟨g8, 0, none⟩), .pointer (some ⟨g8, 1, none⟩)]) (.int .i64 1)).run Try.prog W = .ok (.pointer (some ⟨g8, 1, none⟩)) W := fun W => run_index_ptr _ _ _ _ Try.underlying169 Try.underlying168 (by kernel_rfl) _ 1 (by decide) rfl W
  obtain rfl | rfl | rfl : i = 0 ∨ i = 1 ∨ i = 2 := by omega
  ·
   have HC := Aside0.mk (next_any y0.f0 (.slice a1 x1 d1) (.slice a2 x2 d2) rfl rfl gI 0 g6 3 c' (HI.out.bring 1 rfl) (fun j u hj => by have h := pw_cell_below HI.out.below (HCL0.out j u hj); first | exact h | (rw [Nat.zero_add]; exact h)) (by decide) hc')
   rw [if_neg (by omega)] at HC
   by_cases hz : er0 = 0
   ·have hzb : (er0 != 0) = false := by simp [hz]
    replace hz := Aside0.mk hz
    go_wp2_with (first
     | fail
     | (go_at_call 107; ( refine HC.out.mono ?_; rintro e w5 ⟨rfl, H5⟩; replace H5 := Aside0.mk H5))
     | (go_at_call 108; ( refine (HN0.out _ H5.out.below).mono ?_; rintro e w6 ⟨rfl, hB6⟩; have H6 := Aside0.mk (H5.out.step hB6); clear hB6))
     | ((with_reducible refine Gs 23 48 ?_); ( refine OT1 48 23 H6 1 g8 108 0 (.int .u64 n0) #[.int .u64 n0, .int .u64 0, .slice none 0 0] rfl (by simp [stB]) ?_; intro w7 H7))
     )
    go_roundw
    case rel => exact ⟨0 + 1, c' - 1, by decide, rfl, by omega, ⟨fun _ => hz.out, fun h => absurd h (by decide)⟩, ⟨H7.out.bring 1 rfl⟩⟩
    case measure => simp [intOf]
   ·have hzb : (er0 != 0) = true := by simpa using hz
    obtain rfl : r = (zeroBt, 8) := by rw [HR.out, if_neg (by rintro ⟨h1, h2, _⟩; first | exact hz h1 | exact hz h2)]
    clear HR
    go_upto_if 50 with (first
     | fail
     | (go_at_call 107; ( refine HC.out.mono ?_; rintro e w5 ⟨rfl, H5⟩; replace H5 := Aside0.mk H5))
     | (go_at_call 108; ( refine (HN0.out _ H5.out.below).mono ?_; rintro e w6 ⟨rfl, hB6⟩; have H6 := Aside0.mk (H5.out.step hB6); clear hB6))
     | ((with_reducible refine Gs 23 48 ?_); ( refine OT1 48 23 H6 1 g8 108 0 (.int .u64 n0) #[.int .u64 n0, .int .u64 0, .slice none 0 0] rfl (by simp [stB]) ?_; intro w7 H7))
     )
    have H8 := Aside0.mk (H1.out.step (below_step HBD.out H7.out.below))
    go_wp2_with (first
     | fail
     | ((with_reducible refine Gs 108 2 ?_); ( refine OS 2 51 H8 0 g2 108 #[.int .u64 0, .int .u64 0, .slice none 0 0] 3 HZB HZB ?_; intro w9 H9))
     )
    refine bodyPost_ret (own_resultV_t rfl _ H9.out 0 g2 _ rfl rfl _ Try.underlying108 rfl (by kernel_rfl) _ rfl) rfl ?_
    exact ⟨_, rfl, (H9.out.erase 0).null kL _⟩
  ·
   have HC := Aside0.mk (next_any y1.f0 (.slice b1 x3 e1) (.slice b2 x4 e2) rfl rfl gI 3 g6 2 c' (HI.out.bring 1 rfl) (fun j u hj => by have h := pw_cell_below HI.out.below (HCL1.out j u hj); first | exact h | (rw [Nat.zero_add]; exact h)) (by decide) hc')
   rw [if_neg (by omega)] at HC
   by_cases hz : er1 = 0
   ·have hzb : (er1 != 0) = false := by simp [hz]
    replace hz := Aside0.mk hz
    go_wp2_with (first
     | fail
     | (go_at_call 107; ( refine HC.out.mono ?_; rintro e w5 ⟨rfl, H5⟩; replace H5 := Aside0.mk H5))
     | (go_at_call 108; ( refine (HN1.out _ H5.out.below).mono ?_; rintro e w6 ⟨rfl, hB6⟩; have H6 := Aside0.mk (H5.out.step hB6); clear hB6))
     | ((with_reducible refine Gs 23 48 ?_); ( refine OT1 48 23 H6 1 g8 108 1 (.int .u64 n1) #[.int .u64 n0, .int .u64 n1, .slice none 0 0] rfl (by simp [stB]) ?_; intro w7 H7))
     )
    go_roundw
    case rel => exact ⟨1 + 1, c' - 1, by decide, rfl, by omega, ⟨fun _ => HE.out.1 (by decide), fun _ => hz.out⟩, ⟨H7.out.bring 1 rfl⟩⟩
    case measure => simp [intOf]
   ·have hzb : (er1 != 0) = true := by simpa using hz
    obtain rfl : r = (zeroBt, 8) := by rw [HR.out, if_neg (by rintro ⟨h1, h2, _⟩; first | exact hz h1 | exact hz h2)]
    clear HR
    go_upto_if 50 with (first
     | fail
     | (go_at_call 107; ( refine HC.out.mono ?_; rintro e w5 ⟨rfl, H5⟩; replace H5 := Aside0.mk H5))
     | (go_at_call 108; ( refine (HN1.out _ H5.out.below).mono ?_; rintro e w6 ⟨rfl, hB6⟩; have H6 := Aside0.mk (H5.out.step hB6); clear hB6))
     | ((with_reducible refine Gs 23 48 ?_); ( refine OT1 48 23 H6 1 g8 108 1 (.int .u64 n1) #[.int .u64 n0, .int .u64 n1, .slice none 0 0] rfl (by simp [stB]) ?_; intro w7 H7))
     )
    have H8 := Aside0.mk (H1.out.step (below_step HBD.out H7.out.below))
    go_wp2_with (first
     | fail
     | ((with_reducible refine Gs 108 2 ?_); ( refine OS 2 51 H8 0 g2 108 #[.int .u64 0, .int .u64 0, .slice none 0 0] 3 HZB HZB ?_; intro w9 H9))
     )
    refine bodyPost_ret (own_resultV_t rfl _ H9.out 0 g2 _ rfl rfl _ Try.underlying108 rfl (by kernel_rfl) _ rfl) rfl ?_
    exact ⟨_, rfl, (H9.out.erase 0).null kL _⟩
  have hN := Aside0.mk (next_any y2.f0 (.slice f1' x5 g1') (.slice f2' y2.f2.length g2') rfl rfl gI 6 g6 1 c' (HI.out.bring 1 rfl) (fun j u hj => pw_cell_below HI.out.below (HCL2.out j u hj)) (by decide) hc')
  obtain ⟨he0, he1⟩ := HE.out
  replace he0 : er0 = 0 := he0 (by decide)
  replace he1 : er1 = 0 := he1 (by decide)
  subst he0 he1
  obtain ⟨n5, hn5⟩ : ∃ n5, n5 = y2.f2.length := ⟨_, rfl⟩
  have HN5 := Aside0.mk hn5
  rw [← hn5] at hN HS2 s4
  rw [← hn5] at HCL2
  clear hn5 HE HI HCL0 HCL1 HN0 HN1 hix0 hix1
  have hdl2 : decide ((2 : Int) < 2) = false := by decide
  obtain ⟨Ax, hN⟩ : ∃ Ax, Aside0 (Calls Try.prog 107 #[.pointer (some ⟨g6, 0, none⟩)] wr fun e w' => e = .returned (.agg #[.bool y2.f0, .slice f1' x5 g1', .slice f2' n5 g2']) ∧ Own wd.heap.size wd w' [.blk g6 #[.slice Ax 0 (c' - 1)] 157, .blk g8 #[.int .u64 n0, .int .u64 n1, .slice none 0 0] 108, .blk g4 #[.bool true, v1, .slice (some ⟨gI, 0, none⟩) 3 c2] 159]) := ⟨_, hN⟩
  generalize y2.f0 = b2 at *
  have HX5 : Aside0 (Arr 3 #[.bool b2, .slice f1' x5 g1', .slice f2' n5 g2']) := ⟨arr3_ rfl⟩
  clear hc' hi
  cases b2
  ·
   obtain rfl : r = (zeroBt, 8) := by rw [HR.out, if_neg (by rintro ⟨_, _, h, _⟩; cases h)]
   clear HR
   go_upto_if 63 with (first
    | fail
    | (go_at_call 107; ( refine hN.out.mono ?_; rintro e w5 ⟨rfl, H5⟩; replace H5 := Aside0.mk H5))
    | ((with_reducible refine Gd 11 ?_); ( refine OA H5 159 #[.bool false, .slice none 0 0, .slice none 0 0] 3 ?_; intro g11 w6 H6 B6))
    | ((with_reducible refine Gs 159 11 ?_); ( refine OS 11 54 H6 0 g11 159 #[.bool false, .slice f1' x5 g1', .slice f2' n5 g2'] 3 HZ3 HX5 ?_; intro w7 H7))
    | ((with_reducible refine Gd 56 ?_); ( refine OD 55 4 H7 0 g11 0 (.bool false) Try.underlying4 ?_))
    | ((with_reducible refine Gd 60 ?_); ( refine GD 59 157 H7 0 g11 2 (.slice f2' n5 g2') Try.underlying157 ?_))
    | ((with_reducible refine Gd 66 ?_); ( refine OD 65 157 H7 0 g11 2 (.slice f2' n5 g2') Try.underlying157 ?_))
    )
   have H8 := Aside0.mk (H1.out.step (below_step HBD.out H7.out.below))
   go_wp2_with (first
    | fail
    | ((with_reducible refine Gs 108 2 ?_); ( refine OS 2 64 H8 0 g2 108 #[.int .u64 0, .int .u64 0, .slice none 0 0] 3 HZB HZB ?_; intro w9 H9))
    )
   refine bodyPost_ret (own_resultV_t rfl _ H9.out 0 g2 _ rfl rfl _ Try.underlying108 rfl (by kernel_rfl) _ rfl) rfl ?_
   exact ⟨_, rfl, (H9.out.erase 0).null kL _⟩
  by_cases hbig : n5 ≤ 4096
  case neg =>
   have hdb : decide (4096 < (n5 : Int)) = true := decide_eq_true (by omega)
   obtain rfl : r = (zeroBt, 8) := by rw [HR.out, if_neg (by rintro ⟨_, _, _, h, _⟩; rw [← HN5.out] at h; exact hbig h)]
   clear HR
   go_upto_if 63 with (first
    | fail
    | (go_at_call 107; ( refine hN.out.mono ?_; rintro e w5 ⟨rfl, H5⟩; replace H5 := Aside0.mk H5))
    | ((with_reducible refine Gd 11 ?_); ( refine OA H5 159 #[.bool false, .slice none 0 0, .slice none 0 0] 3 ?_; intro g11 w6 H6 B6))
    | ((with_reducible refine Gs 159 11 ?_); ( refine OS 11 54 H6 0 g11 159 #[.bool true, .slice f1' x5 g1', .slice f2' n5 g2'] 3 HZ3 HX5 ?_; intro w7 H7))
    | ((with_reducible refine Gd 56 ?_); ( refine OD 55 4 H7 0 g11 0 (.bool true) Try.underlying4 ?_))
    | ((with_reducible refine Gd 60 ?_); ( refine GD 59 157 H7 0 g11 2 (.slice f2' n5 g2') Try.underlying157 ?_))
    | ((with_reducible refine Gd 66 ?_); ( refine OD 65 157 H7 0 g11 2 (.slice f2' n5 g2') Try.underlying157 ?_))
    )
   have H8 := Aside0.mk (H1.out.step (below_step HBD.out H7.out.below))
   go_wp2_with (first
    | fail
    | ((with_reducible refine Gs 108 2 ?_); ( refine OS 2 64 H8 0 g2 108 #[.int .u64 0, .int .u64 0, .slice none 0 0] 3 HZB HZB ?_; intro w9 H9))
    )
   refine bodyPost_ret (own_resultV_t rfl _ H9.out 0 g2 _ rfl rfl _ Try.underlying108 rfl (by kernel_rfl) _ rfl) rfl ?_
   exact ⟨_, rfl, (H9.out.erase 0).null kL _⟩
  have hdb : decide (4096 < (n5 : Int)) = false := decide_eq_false (by omega)
  replace HR : Aside0 (r = if (y2.f2.all fun y => !y.f0) = true then (⟨n0, n1, y2.f2.map fun y => y.f1⟩, 0) else (zeroBt, 8)) := ⟨by
   rw [HR.out]
   by_cases h : (y2.f2.all fun y => !y.f0) = true
   ·rw [if_pos ⟨rfl, rfl, rfl, by rw [← HN5.out]; exact hbig, h⟩, if_pos h]
   ·rw [if_neg (by rintro ⟨_, _, _, _, h'⟩; exact h h'), if_neg h]⟩
  go_wp2_with (first
   | fail
   | (go_at_call 107; ( refine hN.out.mono ?_; rintro e w5 ⟨rfl, H5⟩; replace H5 := Aside0.mk H5))
   | ((with_reducible refine Gd 11 ?_); ( refine OA H5 159 #[.bool false, .slice none 0 0, .slice none 0 0] 3 ?_; intro g11 w6 H6 B6))
   | ((with_reducible refine Gs 159 11 ?_); ( refine OS 11 54 H6 0 g11 159 #[.bool true, .slice f1' x5 g1', .slice f2' n5 g2'] 3 HZ3 HX5 ?_; intro w7 H7))
   | ((with_reducible refine Gd 56 ?_); ( refine OD 55 4 H7 0 g11 0 (.bool true) Try.underlying4 ?_))
   | ((with_reducible refine Gd 60 ?_); ( refine GD 59 157 H7 0 g11 2 (.slice f2' n5 g2') Try.underlying157 ?_))
   | ((with_reducible refine Gd 66 ?_); ( refine OD 65 157 H7 0 g11 2 (.slice f2' n5 g2') Try.underlying157 ?_))
   )
  have H8 : Aside0 (Own wd.heap.size wd w7 [.row (shM kL wd (fun k => w1.heap.size ≤ k)) 74 (.slice none 0 0) ((y2.f2.take 0).map fun y => y.f1), .blk g8 #[.int .u64 n0, .int .u64 n1, .slice none 0 0] 108]) := ⟨((H7.out.erase 0).erase 0 |>.erase 1).null _ _⟩
  clear H5 H6 H7 B6 hN HCL2 HX5
  go_loopw [68] (fun v68 wr => ∃ (j : Nat) (vm : Value), j ≤ n5 ∧ v68 = .int .i64 (j : Int) ∧ Aside0 (((y2.f2.take j).all fun y => !y.f0) = true) ∧ Aside0 (Own wd.heap.size wd wr [.row (shM kL wd (fun k => w1.heap.size ≤ k)) 74 vm ((y2.f2.take j).map fun y => y.f1), .blk g8 #[.int .u64 n0, .int .u64 n1, vm] 108])) (fun v68 _ => n5 - (intOf v68).toNat)
  case atStart => exact ⟨0, _, Nat.zero_le _, rfl, ⟨rfl⟩, H8⟩
  case round =>
   clear H8
   obtain ⟨j, vm, hj, rfl, HA, HI⟩ := hrel
   by_cases hlt : j < n5
   ·have hdl : decide (j < n5) = true := decide_eq_true hlt
    have hib : (0 : Int) ≤ (j : Int) ∧ (j : Int) < (n5 : Int) := by omega
    have hjl : j < y2.f2.length := by rw [← HN5.out]; exact hlt
    obtain ⟨gL, cap, m1, k1, m2, k2, he, hcap, hr1, hr2, hm1, hm2, hcl⟩ := R_item HS2.out j hjl
    injection he with he he2 he3
    subst he he3
    clear he2
    have HAS := Aside0.mk (all_snoc y2.f2 j hjl)
    have HMS := Aside0.mk (f1s_snoc y2.f2 j hjl)
    obtain ⟨A5, c5, hv5, _, _⟩ := HI.out.reads 0 rfl
    have hlen : ((y2.f2.take j).map fun y => y.f1).length = j := by simp; omega
    rw [hlen] at hv5
    subst hv5
    have HP : Aside0 (∀ w : World, (shM kL wd (fun k => w1.heap.size ≤ k)).M w 0 (fun _ => False) y2.f2[j].f1 [.slice m1 y2.f2[j].f1.length k1]) := ⟨fun _ => ⟨_, rfl, Kd.R_lower (Kd.R_mono (Kd.R_bound hr1) fun k hk => hk.2.1) (Nat.zero_le _)⟩⟩
    have HCJ : Aside0 (∀ W, Below wd.heap.size wd W → ∀ (q : Nat) (u : Value), [Value.bool y2.f2[j].f0, .slice m1 y2.f2[j].f1.length k1, .slice m2 y2.f2[j].f2.length k2][q]? = some u → W.cell? ((⟨gL, j * 3, none⟩ : Addr).add q) = some u) := ⟨fun W hb q u hq => by
     rw [Addr.add_mid]; exact pw_cell_below hb (hcl q u hq)⟩
    have HX6 : Aside0 (Arr 3 #[.bool y2.f2[j].f0, .slice m1 y2.f2[j].f1.length k1, .slice m2 y2.f2[j].f2.length k2]) := ⟨arr3_ rfl⟩
    clear hr1 hr2 hm1 hm2 hcl hcap hlen
    generalize y2.f2[j].f1.length = l1 at *
    generalize y2.f2[j].f2.length = l2 at *
    generalize y2.f2[j].f1 = msg at *
    generalize y2.f2[j].f0 = bj at *
    have HL1 : Aside0 (((y2.f2.take j).map (fun y => y.f1) ++ [msg]).length = j + 1) := ⟨by simp; omega⟩
    cases bj
    ·
     rw [HA.out] at HAS
     go_wp2_with (first
      | fail
      | ((with_reducible refine gate_dst (N := 71) rfl ?_); ( refine ld_at rfl 159 (.tmp 70) rfl (⟨gL, j * 3, none⟩) ([.bool false, .slice m1 l1 k1, .slice m2 l2 k2]) _ rfl (HCJ.out _ HI.out.below) Try.underlying159 rfl (by kernel_rfl) ?_))
      | ((with_reducible refine Gd 13 ?_); ( refine OA HI 159 #[.bool false, .slice none 0 0, .slice none 0 0] 3 ?_; intro g13 w5 H5 B5))
      | ((with_reducible refine Gs 159 13 ?_); ( refine OS 13 71 H5 0 g13 159 #[.bool false, .slice m1 l1 k1, .slice m2 l2 k2] 3 HZ3 HX6 ?_; intro w6 H6))
      | ((with_reducible refine Gd 73 ?_); ( refine OD 72 4 H6 0 g13 0 (.bool false) Try.underlying4 ?_))
      | ((with_reducible refine Gd 76 ?_); ( refine OD 75 71 H6 2 g8 2 (.slice A5 j c5) Try.underlying71 ?_))
      | ((with_reducible refine Gd 78 ?_); ( refine OD 77 74 H6 0 g13 1 (.slice m1 l1 k1) Try.underlying74 ?_))
      | ((with_reducible refine gate_dst (N := 80) rfl ?_); (with_reducible refine gate_builtin (b := .append) (xs := #[.tmp 76, .tmp 79]) rfl ?_); ( refine own_append_any (shM kL wd (fun k => w1.heap.size ≤ k)) H6.out 1 rfl rfl (.tmp 76) (.tmp 79) 71 (.slice none 0 0) 24 rfl Try.underlying71 (PRF.info74) rfl (show 0 < 1 by decide) (by decide) (msg) ([.slice m1 l1 k1]) (HP.out) (by rfl) (by rfl) (by simp; omega) ?_; intro v8 w8 H8; (obtain ⟨A8, c8, hv8, _, _⟩ := H8.reads 1 rfl; rw [HL1.out] at hv8; subst hv8); replace H8 := Aside0.mk H8))
      | ((with_reducible refine Gs 71 81 ?_); ( refine OT1 81 71 H8 2 g8 108 2 (.slice A8 (j + 1) c8) (#[.int .u64 n0, .int .u64 n1, .slice A8 (j + 1) c8]) rfl (by simp) ?_; intro w9 H9))
      )
     go_roundw
     case rel => exact ⟨j + 1, _, hlt, by go_num, ⟨HAS.out⟩, ⟨by rw [HMS.out]; exact H9.out.erase 0⟩⟩
     case measure => simp [intOf]; omega
    ·
     have hrv : r = (zeroBt, 8) := by
      rw [HR.out, if_neg]
      intro h
      have h1 := HAS.out
      rw [HA.out] at h1
      rw [← List.take_append_drop (j + 1) y2.f2, List.all_append, h1] at h
      simp at h
     subst hrv
     clear HR
     go_upto_if 73 with (first
      | fail
      | ((with_reducible refine gate_dst (N := 71) rfl ?_); ( refine ld_at rfl 159 (.tmp 70) rfl (⟨gL, j * 3, none⟩) ([.bool true, .slice m1 l1 k1, .slice m2 l2 k2]) _ rfl (HCJ.out _ HI.out.below) Try.underlying159 rfl (by kernel_rfl) ?_))
      | ((with_reducible refine Gd 13 ?_); ( refine OA HI 159 #[.bool false, .slice none 0 0, .slice none 0 0] 3 ?_; intro g13 w5 H5 B5))
      | ((with_reducible refine Gs 159 13 ?_); ( refine OS 13 71 H5 0 g13 159 #[.bool true, .slice m1 l1 k1, .slice m2 l2 k2] 3 HZ3 HX6 ?_; intro w6 H6))
      | ((with_reducible refine Gd 73 ?_); ( refine OD 72 4 H6 0 g13 0 (.bool true) Try.underlying4 ?_))
      )
     have H8 := Aside0.mk (H1.out.step (below_step HBD.out H6.out.below))
     go_wp2_with (first
      | fail
      | ((with_reducible refine Gs 108 2 ?_); ( refine OS 2 74 H8 0 g2 108 #[.int .u64 0, .int .u64 0, .slice none 0 0] 3 HZB HZB ?_; intro w9 H9))
      )
     refine bodyPost_ret (own_resultV_t rfl _ H9.out 0 g2 _ rfl rfl _ Try.underlying108 rfl (by kernel_rfl) _ rfl) rfl ?_
     exact ⟨_, rfl, (H9.out.erase 0).null kL _⟩
   ·have hdl : decide (j < n5) = false := decide_eq_false hlt
    obtain rfl : n5 = j := by omega
    have hall : (y2.f2.all fun y => !y.f0) = true := by
     have h := HA.out
     rwa [List.take_of_length_le (by rw [← HN5.out]; exact Nat.le_refl _)] at h
    have hrv : r = (⟨n0, n1, y2.f2.map fun y => y.f1⟩, 0) := by rw [HR.out, if_pos hall]
    subst hrv
    have HI2 : Aside0 (Own wd.heap.size wd wr [.row (shM kL wd (fun k => w1.heap.size ≤ k)) 74 vm (y2.f2.map fun y => y.f1), .blk g8 #[.int .u64 n0, .int .u64 n1, vm] 108]) := ⟨by
     have h := HI.out
     rwa [List.take_of_length_le (by rw [← HN5.out]; exact Nat.le_refl _)] at h⟩
    have HF := Aside0.mk (H1.out.call (HI2.out.shM_up HBD.out (fun k hk => hk)))
    obtain ⟨A5, c5, rfl, _, _⟩ := HI2.out.reads 0 rfl
    have HXB : Aside0 (Arr 3 #[.int .u64 n0, .int .u64 n1, .slice A5 (y2.f2.map fun y => y.f1).length c5]) := ⟨rfl, by simp [Value.oneCell']⟩
    clear HI HR HA hall HS2
    generalize (y2.f2.map fun y => y.f1).length = ln at *
    go_wp2_with (first
     | fail
     | ((with_reducible refine Gd 83 ?_); ( refine OV 8 HI2 1 g8 108 rfl Try.underlying108 (by kernel_rfl) ?_))
     | ((with_reducible refine Gs 108 2 ?_); ( refine OS 2 83 HF 2 g2 108 #[.int .u64 n0, .int .u64 n1, .slice A5 ln c5] 3 HZB HXB ?_; intro w9 H9))
     )
    refine bodyPost_ret (own_resultV_t rfl _ H9.out 2 g2 _ rfl rfl _ Try.underlying108 rfl (by kernel_rfl) _ rfl) rfl ?_
    exact ⟨_, rfl, (H9.out.erase 1).erase 1⟩
end Go.Proofs.Ytocphkfkdadhaaa.H

namespace Go.Proofs.Ytocphkfkdadhaaa.H
open Go.RowKit Go.Proofs.YtocphkfkdadhaaaW.PrintWords Go.Proofs.YtocphkfkdadhaaaW.PrintLast Go.Proofs.YtocphkfkdadhaaaW.PrintMore
set_option linter.unusedVariables false
set_option linter.unusedSimpArgs false
def enqI (x : Box) (block : Int) (m : List Int) : Box × Int := if sinceI x.q x.tk x.l block && decide (m.length ≤ 65536) && !depB m then queueI x block m else (zeroB, 2)
theorem sinceI_may {q : List SQ} {tk : Int} {l : List (List Int)} {block : Int} (h : sinceI q tk l block = true) : mayI q tk l = true ∧ 0 ≤ block := by
 unfold sinceI at h
 rw [Bool.and_eq_true, Bool.and_eq_true, decide_eq_true_eq] at h
 exact h.1
set_option maxHeartbeats 4000000 in
set_option maxRecDepth 100000 in
theorem enqueue_any (x : Box) (block : Int) (msg : List Int) (A1 A2 Am : Option Addr) (c1 c2 cm : Nat) (w : World) (hC1 : Kd.C kQ w A1 x.q.length x.q) (hc1 : x.q.length ≤ c1) (hC2 : Kd.C kL w A2 x.l.length x.l) (hc2 : x.l.length ≤ c2)
 (hC3 : Kd.C kB w Am msg.length msg) (hc3 : msg.length ≤ cm) (hb : ∀ y ∈ msg, 0 ≤ y ∧ y ≤ 255) :
 Calls Try.prog 34 #[.agg #[.slice A1 x.q.length c1, .int .i64 x.tk, .slice A2 x.l.length c2, .int .u64 x.nx], .int .i64 block, .slice Am msg.length cm] w (BoxPost w (enqI x block msg)) := by
 have HS := Aside0.mk (fun W (h : Below w.heap.size w W) => since_any x.q x.tk x.l x.nx block A1 A2 c1 c2 W (Kd.C_below hC1 h) hc1 (Kd.C_below hC2 h) hc2)
 have HSH := Aside0.mk (fun W (h : Below w.heap.size w W) => short_any msg Am cm W (Kd.C_below hC3 h) hc3)
 have HD := Aside0.mk (fun W (h : Below w.heap.size w W) => deposit_any msg Am cm W hb (Kd.C_below hC3 h) hc3)
 have HQ := Aside0.mk (fun (W : World) (h : Below w.heap.size w W) (h1 : mayI x.q x.tk x.l = true) (h2 : msg.length ≤ 65536) => queue_any x block msg A1 A2 Am c1 c2 cm W (Kd.C_below hC1 h) hc1 (Kd.C_below hC2 h) hc2 (Kd.C_below hC3 h) hc3 (by omega) (by have := (mayI_len h1).2.1; omega) (fun d hd => by have := ((mayI_all h1).1 d hd).2; omega) (fun m hm => by have := (mayI_all h1).2 m hm; omega))
 have HSM := Aside0.mk (fun h : sinceI x.q x.tk x.l block = true => (sinceI_may h).1)
 have H0 := Aside0.mk (Own.start w)
 obtain ⟨r, hr⟩ : ∃ r, r = enqI x block msg := ⟨_, rfl⟩
 rw [← hr]
 unfold enqI at hr
 have HR := Aside0.mk hr
 have HL : Aside0 (decide (msg.length ≤ 65536) = true → msg.length ≤ 65536) := ⟨of_decide_eq_true⟩
 clear hr hC1 hC2 hC3 hc1 hc2 hc3 hb
 generalize hs1 : sinceI x.q x.tk x.l block = s1 at *
 generalize hs2 : decide (msg.length ≤ 65536) = s2 at *
 generalize hs3 : depB msg = s3 at *
 clear hs1 hs2 hs3
 have HQ2 := Aside0.mk (fun (W : World) (h : Below w.heap.size w W) (h1 : s1 = true) (h2 : s2 = true) => HQ.out W h (HSM.out h1) (HL.out h2))
 clear HQ HSM HL
 generalize queueI x block msg = qr at *
 obtain ⟨q, tk, l, nx⟩ := x
 dsimp only at *
 generalize q.length = n at *
 generalize l.length = m at *
 generalize msg.length = k at *
 cases s1
 ·
  obtain rfl : r = (zeroB, 2) := by rw [HR.out]; rfl
  clear HR
  have HA0 : Aside0 (Arr 4 #[.slice none 0 0, .int .i64 0, .slice none 0 0, .int .u64 0]) := ⟨rfl, by simp [Value.oneCell']⟩
  go_enter Try.func34, Try.ntmps34
  go_wp2_with (first
   | fail
   | ((with_reducible refine Gd 3 ?_); ( refine OB H0 73 #[.slice A1 n c1, .int .i64 tk, .slice A2 m c2, .int .u64 nx] ?_; intro g3 w1 H1 B1))
   | ((with_reducible refine Gd 6 ?_); ( refine OA H1 73 #[.slice none 0 0, .int .i64 0, .slice none 0 0, .int .u64 0] 4 ?_; intro g6 w2 H2 B2))
   | ((with_reducible refine Gd 8 ?_); ( refine OV 3 H2 1 g3 73 rfl Try.underlying73 (by kernel_rfl) ?_))
   | (go_at_call 81; refine (HS.out _ H2.out.below).mono ?_; rintro e w3 ⟨rfl, hB3⟩; have H3 := Aside0.mk (H2.out.step hB3); clear hB3)
   | (go_at_call 82; refine (HSH.out _ H3.out.below).mono ?_; rintro e w4 ⟨rfl, hB4⟩; have H4 := Aside0.mk (H3.out.step hB4); clear hB4)
   | (go_at_call 83; refine (HD.out _ H4.out.below).mono ?_; rintro e w5 ⟨rfl, hB5⟩; have H5 := Aside0.mk (H4.out.step hB5); clear hB5)
   | ((with_reducible refine Gs 73 6 ?_); ( refine OS 6 21 H3 0 g6 73 #[.slice none 0 0, .int .i64 0, .slice none 0 0, .int .u64 0] 4 HA0 HA0 ?_; intro w7 HG))
   | ((with_reducible refine Gd 22 ?_); ( refine OV 3 H5 1 g3 73 rfl Try.underlying73 (by kernel_rfl) ?_))
   | (go_at_call 84; ( refine (HQ2.out _ H5.out.below (by first | rfl | trivial) (by first | rfl | trivial)).mono ?_; rintro e w8 ⟨v1, v2, rfl, hO8⟩; have H8 := Aside0.mk (H5.out.call hO8); have HA8 : Aside0 (Arr 4 #[v1, .int .i64 qr.1.tk, v2, .int .u64 qr.1.nx]) := ⟨rfl, by obtain ⟨A, c, rfl, _⟩ := hO8.reads 0 rfl; obtain ⟨A', c', rfl, _⟩ := hO8.reads 1 rfl; simp [Value.oneCell']⟩; clear hO8))
   | ((with_reducible refine Gs 73 6 ?_); ( refine OS 6 26 H8 2 g6 73 #[v1, .int .i64 qr.1.tk, v2, .int .u64 qr.1.nx] 4 HA0 HA8 ?_; intro w9 H9))
   )
  refine bodyPost_ret (own_resultV_t rfl _ HG.out 0 g6 _ rfl rfl _ Try.underlying73 rfl (by kernel_rfl) _ rfl) rfl ?_
  exact ⟨_, _, rfl, ((((HG.out.erase 0).erase 0).null kL _).null kQ _)⟩
 cases s2
 ·
  obtain rfl : r = (zeroB, 2) := by rw [HR.out]; rfl
  clear HR
  have HA0 : Aside0 (Arr 4 #[.slice none 0 0, .int .i64 0, .slice none 0 0, .int .u64 0]) := ⟨rfl, by simp [Value.oneCell']⟩
  go_enter Try.func34, Try.ntmps34
  go_wp2_with (first
   | fail
   | ((with_reducible refine Gd 3 ?_); ( refine OB H0 73 #[.slice A1 n c1, .int .i64 tk, .slice A2 m c2, .int .u64 nx] ?_; intro g3 w1 H1 B1))
   | ((with_reducible refine Gd 6 ?_); ( refine OA H1 73 #[.slice none 0 0, .int .i64 0, .slice none 0 0, .int .u64 0] 4 ?_; intro g6 w2 H2 B2))
   | ((with_reducible refine Gd 8 ?_); ( refine OV 3 H2 1 g3 73 rfl Try.underlying73 (by kernel_rfl) ?_))
   | (go_at_call 81; refine (HS.out _ H2.out.below).mono ?_; rintro e w3 ⟨rfl, hB3⟩; have H3 := Aside0.mk (H2.out.step hB3); clear hB3)
   | (go_at_call 82; refine (HSH.out _ H3.out.below).mono ?_; rintro e w4 ⟨rfl, hB4⟩; have H4 := Aside0.mk (H3.out.step hB4); clear hB4)
   | (go_at_call 83; refine (HD.out _ H4.out.below).mono ?_; rintro e w5 ⟨rfl, hB5⟩; have H5 := Aside0.mk (H4.out.step hB5); clear hB5)
   | ((with_reducible refine Gs 73 6 ?_); ( refine OS 6 21 H4 0 g6 73 #[.slice none 0 0, .int .i64 0, .slice none 0 0, .int .u64 0] 4 HA0 HA0 ?_; intro w7 HG))
   | ((with_reducible refine Gd 22 ?_); ( refine OV 3 H5 1 g3 73 rfl Try.underlying73 (by kernel_rfl) ?_))
   | (go_at_call 84; ( refine (HQ2.out _ H5.out.below (by first | rfl | trivial) (by first | rfl | trivial)).mono ?_; rintro e w8 ⟨v1, v2, rfl, hO8⟩; have H8 := Aside0.mk (H5.out.call hO8); have HA8 : Aside0 (Arr 4 #[v1, .int .i64 qr.1.tk, v2, .int .u64 qr.1.nx]) := ⟨rfl, by obtain ⟨A, c, rfl, _⟩ := hO8.reads 0 rfl; obtain ⟨A', c', rfl, _⟩ := hO8.reads 1 rfl; simp [Value.oneCell']⟩; clear hO8))
   | ((with_reducible refine Gs 73 6 ?_); ( refine OS 6 26 H8 2 g6 73 #[v1, .int .i64 qr.1.tk, v2, .int .u64 qr.1.nx] 4 HA0 HA8 ?_; intro w9 H9))
   )
  refine bodyPost_ret (own_resultV_t rfl _ HG.out 0 g6 _ rfl rfl _ Try.underlying73 rfl (by kernel_rfl) _ rfl) rfl ?_
  exact ⟨_, _, rfl, ((((HG.out.erase 0).erase 0).null kL _).null kQ _)⟩
 cases s3
 case true =>
  obtain rfl : r = (zeroB, 2) := by rw [HR.out]; rfl
  clear HR
  have HA0 : Aside0 (Arr 4 #[.slice none 0 0, .int .i64 0, .slice none 0 0, .int .u64 0]) := ⟨rfl, by simp [Value.oneCell']⟩
  go_enter Try.func34, Try.ntmps34
  go_wp2_with (first
   | fail
   | ((with_reducible refine Gd 3 ?_); ( refine OB H0 73 #[.slice A1 n c1, .int .i64 tk, .slice A2 m c2, .int .u64 nx] ?_; intro g3 w1 H1 B1))
   | ((with_reducible refine Gd 6 ?_); ( refine OA H1 73 #[.slice none 0 0, .int .i64 0, .slice none 0 0, .int .u64 0] 4 ?_; intro g6 w2 H2 B2))
   | ((with_reducible refine Gd 8 ?_); ( refine OV 3 H2 1 g3 73 rfl Try.underlying73 (by kernel_rfl) ?_))
   | (go_at_call 81; refine (HS.out _ H2.out.below).mono ?_; rintro e w3 ⟨rfl, hB3⟩; have H3 := Aside0.mk (H2.out.step hB3); clear hB3)
   | (go_at_call 82; refine (HSH.out _ H3.out.below).mono ?_; rintro e w4 ⟨rfl, hB4⟩; have H4 := Aside0.mk (H3.out.step hB4); clear hB4)
   | (go_at_call 83; refine (HD.out _ H4.out.below).mono ?_; rintro e w5 ⟨rfl, hB5⟩; have H5 := Aside0.mk (H4.out.step hB5); clear hB5)
   | ((with_reducible refine Gs 73 6 ?_); ( refine OS 6 21 H5 0 g6 73 #[.slice none 0 0, .int .i64 0, .slice none 0 0, .int .u64 0] 4 HA0 HA0 ?_; intro w7 HG))
   | ((with_reducible refine Gd 22 ?_); ( refine OV 3 H5 1 g3 73 rfl Try.underlying73 (by kernel_rfl) ?_))
   | (go_at_call 84; ( refine (HQ2.out _ H5.out.below (by first | rfl | trivial) (by first | rfl | trivial)).mono ?_; rintro e w8 ⟨v1, v2, rfl, hO8⟩; have H8 := Aside0.mk (H5.out.call hO8); have HA8 : Aside0 (Arr 4 #[v1, .int .i64 qr.1.tk, v2, .int .u64 qr.1.nx]) := ⟨rfl, by obtain ⟨A, c, rfl, _⟩ := hO8.reads 0 rfl; obtain ⟨A', c', rfl, _⟩ := hO8.reads 1 rfl; simp [Value.oneCell']⟩; clear hO8))
   | ((with_reducible refine Gs 73 6 ?_); ( refine OS 6 26 H8 2 g6 73 #[v1, .int .i64 qr.1.tk, v2, .int .u64 qr.1.nx] 4 HA0 HA8 ?_; intro w9 H9))
   )
  refine bodyPost_ret (own_resultV_t rfl _ HG.out 0 g6 _ rfl rfl _ Try.underlying73 rfl (by kernel_rfl) _ rfl) rfl ?_
  exact ⟨_, _, rfl, ((((HG.out.erase 0).erase 0).null kL _).null kQ _)⟩
 obtain rfl : r = qr := by rw [HR.out]; rfl
 clear HR
 have HA0 : Aside0 (Arr 4 #[.slice none 0 0, .int .i64 0, .slice none 0 0, .int .u64 0]) := ⟨rfl, by simp [Value.oneCell']⟩
 go_enter Try.func34, Try.ntmps34
 go_wp2_with (first
  | fail
  | ((with_reducible refine Gd 3 ?_); ( refine OB H0 73 #[.slice A1 n c1, .int .i64 tk, .slice A2 m c2, .int .u64 nx] ?_; intro g3 w1 H1 B1))
  | ((with_reducible refine Gd 6 ?_); ( refine OA H1 73 #[.slice none 0 0, .int .i64 0, .slice none 0 0, .int .u64 0] 4 ?_; intro g6 w2 H2 B2))
  | ((with_reducible refine Gd 8 ?_); ( refine OV 3 H2 1 g3 73 rfl Try.underlying73 (by kernel_rfl) ?_))
  | (go_at_call 81; refine (HS.out _ H2.out.below).mono ?_; rintro e w3 ⟨rfl, hB3⟩; have H3 := Aside0.mk (H2.out.step hB3); clear hB3)
  | (go_at_call 82; refine (HSH.out _ H3.out.below).mono ?_; rintro e w4 ⟨rfl, hB4⟩; have H4 := Aside0.mk (H3.out.step hB4); clear hB4)
  | (go_at_call 83; refine (HD.out _ H4.out.below).mono ?_; rintro e w5 ⟨rfl, hB5⟩; have H5 := Aside0.mk (H4.out.step hB5); clear hB5)
  | ((with_reducible refine Gs 73 6 ?_); ( refine OS 6 21 H5 0 g6 73 #[.slice none 0 0, .int .i64 0, .slice none 0 0, .int .u64 0] 4 HA0 HA0 ?_; intro w7 HG))
  | ((with_reducible refine Gd 22 ?_); ( refine OV 3 H5 1 g3 73 rfl Try.underlying73 (by kernel_rfl) ?_))
  | (go_at_call 84; ( refine (HQ2.out _ H5.out.below (by first | rfl | trivial) (by first | rfl | trivial)).mono ?_; rintro e w8 ⟨v1, v2, rfl, hO8⟩; have H8 := Aside0.mk (H5.out.call hO8); have HA8 : Aside0 (Arr 4 #[v1, .int .i64 r.1.tk, v2, .int .u64 r.1.nx]) := ⟨rfl, by obtain ⟨A, c, rfl, _⟩ := hO8.reads 0 rfl; obtain ⟨A', c', rfl, _⟩ := hO8.reads 1 rfl; simp [Value.oneCell']⟩; clear hO8))
  | ((with_reducible refine Gs 73 6 ?_); ( refine OS 6 26 H8 2 g6 73 #[v1, .int .i64 r.1.tk, v2, .int .u64 r.1.nx] 4 HA0 HA8 ?_; intro w9 H9))
  )
 refine bodyPost_ret (own_resultV_t rfl _ H9.out 2 g6 _ rfl rfl _ Try.underlying73 rfl (by kernel_rfl) _ rfl) rfl ?_
 exact ⟨_, _, rfl, (H9.out.erase 2).erase 2⟩
end Go.Proofs.Ytocphkfkdadhaaa.H

namespace Go.Proofs.Ytocphkfkdadhaaa.H
open Go.RowKit Go.Proofs.YtocphkfkdadhaaaW.PrintWords Go.Proofs.YtocphkfkdadhaaaW.PrintLast Go.Proofs.YtocphkfkdadhaaaW.PrintMore
set_option linter.unusedVariables false
set_option linter.unusedSimpArgs false
theorem arr4_ {v : Value} {k : IntKind} {n : Int} {A : Option Addr} {c m : Nat} {x : Int} (h : v.oneCell' = true) : Arr 4 #[v, .int .i64 x, .slice A m c, .int k n] := ⟨rfl, by
 simp only [Array.all_eq_true_iff_forall_mem]
 intro y hy
 simp at hy
 rcases hy with rfl | rfl | rfl | rfl
 ·exact h
 ·rfl
 ·rfl
 ·rfl⟩
theorem reps_one {α : Type} {d : Kd α} {W : World} {S : Nat → Prop} {x : α} {cs : List Value} (h : d.M W 0 S x cs) : Reps (d.M W 0 S) d.sz [x] cs := by
 have hl := d.K_len (d.K_of_M h)
 refine ⟨by simp [hl], fun j p hj => ?_⟩
 cases j with
 | zero =>
  obtain rfl : x = p := by simpa using hj
  rw [Nat.zero_mul, List.drop_zero, List.take_of_length_le (by omega)]
  exact h
 | succ j => simp at hj
def anc1 : Box := ⟨[⟨3, [7]⟩], 0, [], 0⟩
theorem anc_enq : enqI zeroB 3 [7] = (anc1, 0) := by
 have h : depB [7] = false := rfl
 have h2 : sinceI zeroB.q zeroB.tk zeroB.l 3 = true := by decide
 unfold enqI
 rw [h, h2]
 rfl
theorem anc_t10 : tickI anc1 10 = (anc1, 0) := by
 have h : mayI anc1.q anc1.tk anc1.l = true := by decide
 unfold tickI
 rw [h]
 rfl
theorem anc_t11 : tickI anc1 11 = (⟨[⟨3, [7]⟩], 1, [[7]], 0⟩, 0) := by
 have h : mayI anc1.q anc1.tk anc1.l = true := by decide
 unfold tickI
 rw [h]
 rfl
set_option maxHeartbeats 4000000 in
set_option maxRecDepth 100000 in
theorem anchored20_any (w : World) : Calls Try.prog 33 #[] w fun e w' => e = .returned (.bool true) ∧ Below w.heap.size w w' := by
 have H0 := Aside0.mk (Own.start w)
 have HE : Aside0 (∀ (W : World) (A : Option Addr) (c : Nat), 1 ≤ c → Kd.C kB W A 1 [7] → Calls Try.prog 34 #[.agg #[.slice none 0 0, .int .i64 0, .slice none 0 0, .int .u64 0], .int .i64 3, .slice A 1 c] W fun e w' => ∃ A1 c1 A2 c2, e = .returned (.tuple #[.agg #[.slice A1 1 c1, .int .i64 0, .slice A2 0 c2, .int .u64 0], .int .i64 0]) ∧ 1 ≤ c1 ∧ Own W.heap.size W w' [.row kQ 78 (.slice A1 1 c1) anc1.q, .row kL 74 (.slice A2 0 c2) []]) := ⟨fun W A c hc hC => by
  have h := enqueue_any zeroB 3 [7] none none A 0 0 c W (Kd.C_nil _ _) (Nat.zero_le _) (Kd.C_nil _ _) (Nat.zero_le _) hC hc (by decide)
  rw [anc_enq] at h
  refine h.mono ?_
  rintro e w' ⟨v1, v2, rfl, hO⟩
  obtain ⟨A1, c1, rfl, h1, _⟩ := hO.reads 0 rfl
  obtain ⟨A2, c2, rfl, h2, _⟩ := hO.reads 1 rfl
  exact ⟨A1, c1, A2, c2, rfl, h1, hO⟩⟩
 have HT1 : Aside0 (∀ (W : World) (A1 A2 : Option Addr) (c1 c2 : Nat), 1 ≤ c1 → Kd.C kQ W A1 1 anc1.q → Kd.C kL W A2 0 ([] : List (List Int)) → Calls Try.prog 38 #[.agg #[.slice A1 1 c1, .int .i64 0, .slice A2 0 c2, .int .u64 0], .int .i64 10] W fun e w' => ∃ v1 A3 c3, e = .returned (.tuple #[.agg #[v1, .int .i64 0, .slice A3 0 c3, .int .u64 0], .int .i64 0]) ∧ v1.oneCell' = true ∧ Below W.heap.size W w') := ⟨fun W A1 A2 c1 c2 hc h1 h2 => by
  have h := tick_any anc1 10 A1 A2 c1 c2 W h1 hc h2 (Nat.zero_le _) (by decide) (by decide)
  rw [anc_t10] at h
  refine h.mono ?_
  rintro e w' ⟨v1, v2, rfl, hO⟩
  obtain ⟨A1, c1, rfl, h1, _⟩ := hO.reads 0 rfl
  obtain ⟨A2, c2, rfl, h2, _⟩ := hO.reads 1 rfl
  exact ⟨_, A2, c2, rfl, rfl, hO.below⟩⟩
 have HT2 : Aside0 (∀ (W : World) (A1 A2 : Option Addr) (c1 c2 : Nat), 1 ≤ c1 → Kd.C kQ W A1 1 anc1.q → Kd.C kL W A2 0 ([] : List (List Int)) → Calls Try.prog 38 #[.agg #[.slice A1 1 c1, .int .i64 0, .slice A2 0 c2, .int .u64 0], .int .i64 11] W fun e w' => ∃ v1 A3 c3, e = .returned (.tuple #[.agg #[v1, .int .i64 1, .slice A3 1 c3, .int .u64 0], .int .i64 0]) ∧ v1.oneCell' = true ∧ 1 ≤ c3 ∧ Own W.heap.size W w' [.row kL 74 (.slice A3 1 c3) [[7]]]) := ⟨fun W A1 A2 c1 c2 hc h1 h2 => by
  have h := tick_any anc1 11 A1 A2 c1 c2 W h1 hc h2 (Nat.zero_le _) (by decide) (by decide)
  rw [anc_t11] at h
  refine h.mono ?_
  rintro e w' ⟨v1, v2, rfl, hO⟩
  obtain ⟨A1, c1, rfl, h1, _⟩ := hO.reads 0 rfl
  obtain ⟨A2, c2, rfl, h2, _⟩ := hO.reads 1 rfl
  exact ⟨_, A2, c2, rfl, rfl, h2, hO.erase 0⟩⟩
 have HLS : Aside0 (∀ (W : World) (A1 A2 : Option Addr) (c1 c2 : Nat), 1 ≤ c1 → 1 ≤ c2 → Kd.C kL W A1 1 [[7]] → Kd.C kL W A2 1 [[7]] → Calls Try.prog 39 #[.slice A1 1 c1, .slice A2 1 c2] W fun e w' => e = .returned (.bool true) ∧ Below W.heap.size W w') := ⟨fun W A1 A2 c1 c2 h1 h2 h3 h4 => (PRF.proctorref20_Lists.calls 5 A1 c1 [[7]] A2 c2 [[7]] true W h3 h1 h4 h2 (by decide +kernel)).mono fun e w' ⟨he, hd⟩ => ⟨he, hd.below⟩⟩
 have HZI : Aside0 (Arr 4 #[.slice none 0 0, .int .i64 0, .slice none 0 0, .int .u64 0]) := ⟨rfl, by simp [Value.oneCell']⟩
 go_enter Try.func33, Try.ntmps33
 go_upto_region 3 with (first
  | fail
  | ((with_reducible refine gate_dst (N := 9) rfl ?_); refine own_lit kB Flat_B H0.out 5 rfl (N := 9) rfl (xs := [7]) (inner := ([7]).map (Value.int .u8)) ?hr9 (Kd.reps_scalar _) (by simp) ?_; (case hr9 => first | (go_simp; done) | (go_simp; rfl)); intro A9 c9 w1 H1 B1; replace H1 := Aside0.mk H1; replace B1 := Aside0.mk B1)
  | (go_at_call 34; ( obtain ⟨A9', c9', he9, hc9, hC9⟩ := H1.out.reads 0 rfl; injection he9 with he1 he2 he3; subst he1 he3; refine (HE.out _ _ _ hc9 hC9).mono ?_; rintro e w3 ⟨A1, c1, A2, c2, rfl, hc1, hO3⟩; have H3 := Aside0.mk (H1.out.call hO3); have HAy : Aside0 (Arr 4 #[.slice A1 1 c1, .int .i64 0, .slice A2 0 c2, .int .u64 0]) := ⟨rfl, by simp [Value.oneCell']⟩; clear hO3))
  | ((with_reducible refine Gd 1 ?_); ( refine OA H3 73 #[.slice none 0 0, .int .i64 0, .slice none 0 0, .int .u64 0] 4 ?_; intro g1 w4 H4 B4))
  | ((with_reducible refine Gs 73 1 ?_); ( refine OS 1 11 H4 0 g1 73 #[.slice A1 1 c1, .int .i64 0, .slice A2 0 c2, .int .u64 0] 4 HZI HAy ?_; intro w5 H5))
  | ((with_reducible refine Gd 14 ?_); ( refine OV 1 H5 0 g1 73 rfl Try.underlying73 (by kernel_rfl) ?_))
  | (go_at_call 38; (refine (HT1.out _ A1 A2 c1 c2 hc1 (H5.out.C_of 1 rfl) (H5.out.C_of 2 rfl)).mono ?_); ( rintro e w6 ⟨v6, A6, c6, rfl, hv6, hB6⟩; have H6 := Aside0.mk (H5.out.step hB6); have HAz : Aside0 (Arr 4 #[v6, .int .i64 0, .slice A6 0 c6, .int .u64 0]) := ⟨arr4_ hv6⟩; clear hB6))
  | ((with_reducible refine Gd 3 ?_); ( refine OA H6 73 #[.slice none 0 0, .int .i64 0, .slice none 0 0, .int .u64 0] 4 ?_; intro g3 w7 H7 B7))
  | ((with_reducible refine Gs 73 3 ?_); ( refine OS 3 16 H7 0 g3 73 #[v6, .int .i64 0, .slice A6 0 c6, .int .u64 0] 4 HZI HAz ?_; intro w8 H8))
  )
 clear H0 H1 H3 H4 H6 H7 HT1 HE B1 B4 B7
 go_wp2_with (first
  | fail
  | ((with_reducible refine Gd 19 ?_); ( refine OV 1 H8 1 g1 73 rfl Try.underlying73 (by kernel_rfl) ?_))
  | (go_at_call 38; (refine (HT2.out _ A1 A2 c1 c2 hc1 (H8.out.C_of 2 rfl) (H8.out.C_of 3 rfl)).mono ?_); ( rintro e w9 ⟨v9, A9, c9', rfl, hv9, hc9', hO9⟩; have H9 := Aside0.mk (H8.out.call hO9); have HAw : Aside0 (Arr 4 #[v9, .int .i64 1, .slice A9 1 c9', .int .u64 0]) := ⟨arr4_ hv9⟩; clear hO9))
  | ((with_reducible refine Gd 5 ?_); ( refine OA H9 73 #[.slice none 0 0, .int .i64 0, .slice none 0 0, .int .u64 0] 4 ?_; intro g5 w10 H10 B10))
  | ((with_reducible refine Gs 73 5 ?_); ( refine OS 5 21 H10 0 g5 73 #[v9, .int .i64 1, .slice A9 1 c9', .int .u64 0] 4 HZI HAw ?_; intro w11 H11))
  | ((with_reducible refine Gd 35 ?_); ( refine GD 34 71 H11 2 g3 2 (.slice A6 0 c6) Try.underlying71 ?_))
  | ((with_reducible refine Gd 41 ?_); ( refine GD 40 71 H11 0 g5 2 (.slice A9 1 c9') Try.underlying71 ?_))
  | ((with_reducible refine gate_dst (N := 42) rfl ?_); (refine gate_guard (by rfl) ?_); ( refine own_lit kB Flat_B H11.out 5 rfl (N := 42) rfl (xs := [7]) (inner := ([7]).map (Value.int .u8)) ?hr42 (Kd.reps_scalar _) (by simp) ?_; (case hr42 => first | (go_simp; done) | (go_simp; rfl)); intro A42 c42 w12 H12 B12; replace H12 := Aside0.mk H12))
  | ((with_reducible refine gate_dst (N := 43) rfl ?_); (refine gate_guard (by rfl) ?_); ( refine own_litM kL H12.out 74 rfl (N := 43) rfl (xs := [[7]]) (inner := [.slice A42 1 c42]) ?hr43 (fun S hS => reps_one (d := kL) ⟨_, rfl, hS⟩) (by simp) ?_; (case hr43 => first | (go_simp; done) | (go_simp; rfl)); intro A43 c43 w13 hc43 H13 B13; replace H13 := Aside0.mk H13))
  | (go_at_call 39; ( refine (HLS.out _ _ _ _ _ hc9' hc43 (H13.out.C_of 2 rfl) (H13.out.C_of 0 rfl)).mono ?_; rintro e w14 ⟨rfl, hB14⟩; have H14 := Aside0.mk (H13.out.step hB14); clear hB14))
  | ((with_reducible refine Gd 48 ?_); ( refine GD 47 3 H14 1 g5 1 (.int .i64 1) Try.underlying3 ?_))
  )
 go_ret
 exact ⟨rfl, H14.out.below⟩
end Go.Proofs.Ytocphkfkdadhaaa.H

namespace Go.Proofs.Ytocphkfkdadhaaa.H
open Go.RowKit Go.Proofs.YtocphkfkdadhaaaW.PrintWords Go.Proofs.YtocphkfkdadhaaaW.PrintLast Go.Proofs.YtocphkfkdadhaaaW.PrintMore
set_option linter.unusedVariables false
set_option linter.unusedSimpArgs false
def BytB (x : Box) : Prop := (∀ d ∈ x.q, ∀ z ∈ d.f1, 0 ≤ z ∧ z ≤ 255) ∧ (∀ m ∈ x.l, ∀ z ∈ m, 0 ≤ z ∧ z ≤ 255)
end Go.Proofs.Ytocphkfkdadhaaa.H

namespace Go.Proofs.Ytocphkfkdadhaaa.H
open Go.RowKit Go.Proofs.YtocphkfkdadhaaaW.PrintWords Go.Proofs.YtocphkfkdadhaaaW.PrintLast Go.Proofs.YtocphkfkdadhaaaW.PrintMore
set_option linter.unusedVariables false
set_option linter.unusedSimpArgs false
theorem rnumP_nat (y : SI) (hb : K.Byt y.f1) : ((K.rnumP y).1.toNat : Int) = (K.rnumP y).1 ∧ (K.rnumP y).1.toNat ≤ 18446744073709551615 := by
 unfold K.rnumP
 split
 ·exact ⟨rfl, by decide⟩
 ·rename_i h
  have := K.num_small y.f1 hb (by omega)
  exact ⟨by simp, by simpa using this⟩
end Go.Proofs.Ytocphkfkdadhaaa.H

