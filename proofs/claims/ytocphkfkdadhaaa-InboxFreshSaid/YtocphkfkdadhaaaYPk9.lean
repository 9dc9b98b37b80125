import Derived.Test.YtocphkfkdadhaaaYPk8
import Derived.Test.YtocphkfkdadhaaaYPk3
import Derived.Test.YtocphkfkdadhaaaYPk5
import Derived.Test.YtocphkfkdadhaaaYPk1
import Derived.Test.YtocphkfkdadhaaaYPk0
import Derived.Test.YtocphkfkdadhaaaYPk6
import Derived.RangeFuncNested
import Derived.RangeFuncBound
import Derived.RangeFuncCalls
import Derived.RangeFuncLeaves
import Derived.RangeFuncWrites
import Derived.Shelf.Abstract
import Derived.Shelf.RegionOpen
import Derived.WalkKit
import Derived.OwnWalkIn
import Derived.TacticsInMore
import Derived.LoopNIn
import Derived.LoopIn
import Derived.Test.YtocphkfkdadhaaaYPk7
set_option maxHeartbeats 4000000
set_option linter.unusedVariables false
set_option linter.unusedSimpArgs false
set_option maxRecDepth 100000
namespace Go.Proofs.Ytocphkfkdadhaaa.H
open Go.RowKit Go.Proofs.YtocphkfkdadhaaaW.PrintWords Go.Proofs.YtocphkfkdadhaaaW.PrintLast Go.Proofs.YtocphkfkdadhaaaW.PrintMore
theorem lists_ev2 (a b : List (List Int)) (hl : a.length ≤ 4611686018427387904) (ha : ∀ m ∈ a, K.Byt m) (hb : ∀ m ∈ b, K.Byt m) : ∀ k, a.length + 1 ≤ k → PRF.proctorref20_Lists.f k a b = some (eqL eqB a b) := by
 intro k hk
 unfold PRF.proctorref20_Lists.f
 by_cases h : (a.length : Int) = (b.length : Int)
 case neg => rw [if_neg h, eqL_len _ _ _ (by omega)]
 rw [if_pos h]
 have key : ∀ (d i : Nat), i + d = a.length → ∀ k, d + 1 ≤ k → PRF.proctorref20_Lists.l0 k a b (i : Int) = some (eqL eqB (a.drop i) (b.drop i)) := by
  intro d
  induction d with
  | zero =>
   intro i h k hk
   obtain ⟨k, rfl⟩ : ∃ k', k = k' + 1 := ⟨k - 1, by omega⟩
   rw [PRF.proctorref20_Lists.l0, if_neg (by omega), List.drop_of_length_le (by omega), List.drop_of_length_le (by omega)]
   rfl
  | succ d ih =>
   intro i h k hk
   obtain ⟨k, rfl⟩ : ∃ k', k = k' + 1 := ⟨k - 1, by omega⟩
   have hi : i < a.length := by omega
   have hi2 : i < b.length := by omega
   rw [PRF.proctorref20_Lists.l0, if_pos (by omega), if_pos (by omega), if_pos (by omega), rdL a i hi, rdL b i hi2, K.same01_f _ _ (ha _ (List.getElem_mem hi)) (hb _ (List.getElem_mem hi2)), Option.bind_some, eqL_drop _ _ _ _ hi hi2]
   by_cases he : a[i] = b[i]
   ·rw [decide_eq_true he, if_pos rfl, w1_ i (by omega), ih (i + 1) (by omega) k (by omega)]
    have : eqB a[i] b[i] = true := by rw [he]; exact beq_self_eq_true _
    rw [this]; rfl
   ·rw [decide_eq_false he, if_neg (by decide)]
    have : eqB a[i] b[i] = false := beq_eq_false_iff_ne.2 he
    rw [this]; rfl
 exact key a.length 0 (by omega) k hk
theorem same20_ev (x y : Box) (hx : BytB x) (hy : BytB y) (hq : x.q.length ≤ 4611686018427387904) (hl : x.l.length ≤ 4611686018427387904) :
 PRF.proctorref20_Same.f (x.q.length + x.l.length + 4) x.q x.tk x.l x.nx y.q y.tk y.l y.nx = some (sameI x y) := by
 have hbad : ∀ k, PRF.proctorref20_Same.j0 (k + 1) true x.q x.tk x.l x.nx y.q y.tk y.l y.nx = some false := fun k => by rw [PRF.proctorref20_Same.j0, if_pos rfl]
 unfold PRF.proctorref20_Same.f sameI
 rw [show x.q.length + x.l.length + 4 = (x.q.length + x.l.length + 3) + 1 by omega]
 by_cases h1 : (x.q.length : Int) = (y.q.length : Int)
 case neg =>
  rw [if_neg h1, hbad, eqL_len eqD _ _ (by omega)]
  simp
 rw [if_pos h1]
 by_cases h2 : x.tk = y.tk
 case neg =>
  rw [if_neg h2, hbad, beq_eq_false_iff_ne.2 h2]
  rfl
 rw [if_pos h2, h2, beq_self_eq_true, Bool.true_and]
 by_cases h3 : x.nx = y.nx
 case neg =>
  rw [show (x.nx != y.nx) = true by simpa using h3]
  rw [h2] at hbad
  rw [hbad, beq_eq_false_iff_ne.2 h3]
  rfl
 rw [show (x.nx != y.nx) = false by simpa using h3, PRF.proctorref20_Same.j0, if_neg (by decide), h3, beq_self_eq_true, Bool.true_and]
 have key : ∀ (d i : Nat), i + d = x.q.length → ∀ k, d + 2 + x.l.length ≤ k → PRF.proctorref20_Same.l0 k (i : Int) x.q y.tk x.l y.nx y.q y.tk y.l y.nx = some (eqL eqD (x.q.drop i) (y.q.drop i) && eqL eqB x.l y.l) := by
  intro d
  induction d with
  | zero =>
   intro i h k hk
   obtain ⟨k, rfl⟩ : ∃ k', k = k' + 1 := ⟨k - 1, by omega⟩
   rw [PRF.proctorref20_Same.l0, if_neg (by omega), lists_ev2 x.l y.l hl hx.2 hy.2 k (by omega), List.drop_of_length_le (by omega), List.drop_of_length_le (by omega)]
   rfl
  | succ d ih =>
   intro i h k hk
   obtain ⟨k, rfl⟩ : ∃ k', k = k' + 1 := ⟨k - 1, by omega⟩
   have hi : i < x.q.length := by omega
   have hi2 : i < y.q.length := by omega
   rw [PRF.proctorref20_Same.l0, if_pos (by omega), if_pos (by omega), if_pos (by omega), rdQ x.q i hi, rdQ y.q i hi2, eqL_drop _ _ _ _ hi hi2]
   by_cases hf : x.q[i].f0 = y.q[i].f0
   ·rw [if_pos hf, K.same01_f _ _ (hx.1 _ (List.getElem_mem hi)) (hy.1 _ (List.getElem_mem hi2)), Option.bind_some]
    by_cases he : x.q[i].f1 = y.q[i].f1
    ·rw [decide_eq_true he, if_pos rfl, w1_ i (by omega), ih (i + 1) (by omega) k (by omega)]
     have : eqD x.q[i] y.q[i] = true := by unfold eqD; rw [hf, he, beq_self_eq_true, beq_self_eq_true]; rfl
     rw [this]; rfl
    ·rw [decide_eq_false he, if_neg (by decide)]
     have : eqD x.q[i] y.q[i] = false := by unfold eqD; rw [beq_eq_false_iff_ne.2 he, Bool.and_false]
     rw [this]; rfl
   ·rw [if_neg hf]
    have : eqD x.q[i] y.q[i] = false := by unfold eqD; rw [beq_eq_false_iff_ne.2 hf, Bool.false_and]
    rw [this]; rfl
 exact key x.q.length 0 (by omega) _ (by omega)
theorem rsame_any (x y : Box) (A1 A2 A3 A4 : Option Addr) (c1 c2 c3 c4 : Nat) (w : World) (h1 : Kd.C kQ w A1 x.q.length x.q) (h2 : Kd.C kL w A2 x.l.length x.l) (h3 : Kd.C kQ w A3 y.q.length y.q) (h4 : Kd.C kL w A4 y.l.length y.l)
 (k1 : x.q.length ≤ c1) (k2 : x.l.length ≤ c2) (k3 : y.q.length ≤ c3) (k4 : y.l.length ≤ c4) (hx : BytB x) (hy : BytB y) (hq : x.q.length ≤ 4611686018427387904) (hl : x.l.length ≤ 4611686018427387904) :
 Calls Try.prog 46 #[.agg #[.slice A1 x.q.length c1, .int .i64 x.tk, .slice A2 x.l.length c2, .int .u64 x.nx], .agg #[.slice A3 y.q.length c3, .int .i64 y.tk, .slice A4 y.l.length c4, .int .u64 y.nx]] w fun e w' => e = .returned (.bool (sameI x y)) ∧ Below w.heap.size w w' :=
 PRF.proctorref20_Same.calls _ A1 c1 x.q x.tk A2 c2 x.l x.nx A3 c3 y.q y.tk A4 c4 y.l y.nx _ w h1 k1 h2 k2 h3 k3 h4 k4 (same20_ev x y hx hy hq hl)
theorem sameI_refl (x : Box) : sameI x x = true := by
 unfold sameI
 rw [eqL_refl (fun d => by unfold eqD; rw [beq_self_eq_true, beq_self_eq_true]; rfl), eqL_refl (fun d => show eqB d d = true by simp [eqB]), beq_self_eq_true, beq_self_eq_true]
 rfl
section
variable {P : Program} {ops : Array Oper} {rest : List Oper} {o : Oper} {a : Act} {Q : Exit → Act → World → Prop} {B : Nat} {w0 W : World} {L : List Item}
theorem own_storeA_step {Kc : Act → World → Prop} (H : Own B w0 W L) (k : Nat) (g : Nat) (cs : Array Value) (ty : TypeId) (hk : L[k]? = some (.blk g cs ty)) (hw : Region.wanted o (yielded ops a.tmps) = true) (x y : Operand) (ho : o.op = .store ty x y) (cells : Array Value)
 (hx : a.eval x = .pointer (some ⟨g, 0, none⟩)) (hy : a.eval y = .agg cells) (n : Nat) (hn : Arr n cs) (h1 : Arr n cells) (hi : (P.info? ty).map (·.size) = some n)
 (h : ∀ w1, Own B w0 w1 (L.set k (.blk g cells ty)) → Kc (a.put o.dst undef) w1) :
 if Region.wanted o (yielded ops a.tmps) = true then Oper.wp P o a W Kc Q else Kc (a.put o.dst undef) W := by
 refine own_st_step H k g cs cells ty hk hw ty x y ho 0 cells.toList (.agg cells) hx hy (by simp [Value.cells]) (by rw [Array.length_toList, h1.1, hn.1]; omega) (by rw [Array.length_toList, h1.1]; exact hi) (fun v hv => ?_) ?_ h
 ·have := h1.2
  rw [Array.all_eq_true_iff_forall_mem] at this
  exact this v (by simpa using hv)
 ·have := spl_all (cs := cs) (seg := cells) (by rw [Array.length_toList, Array.length_toList, hn.1, h1.1])
  simpa using this
theorem SA (X Y : Nat) {Kc : Act → World → Prop} (H : Aside0 (Own B w0 W L)) (k g : Nat) {cs : Array Value} {ty : TypeId} (cells : Array Value) {n : Nat} (hn : Aside0 (Arr n cs)) (h1 : Aside0 (Arr n cells))
 (h : ∀ w1, Aside0 (Own B w0 w1 (L.set k (.blk g cells ty))) → Kc (a.put o.dst undef) w1) (hk : L[k]? = some (.blk g cs ty) := by rfl) (hw : Region.wanted o (yielded ops a.tmps) = true := by rfl) (ho : o.op = .store ty (.tmp X) (.tmp Y) := by exact rfl)
 (hx : a.eval (.tmp X) = .pointer (some ⟨g, 0, none⟩) := by rfl) (hy : a.eval (.tmp Y) = .agg cells := by rfl) (hi : (P.info? ty).map (·.size) = some n := by kernel_rfl) :
 if Region.wanted o (yielded ops a.tmps) = true then Oper.wp P o a W Kc Q else Kc (a.put o.dst undef) W :=
 own_storeA_step H.out k g cs ty hk hw _ _ ho cells hx hy n hn.out h1.out hi fun w1 h2 => h w1 ⟨h2⟩
end
theorem Own.of_R {α : Type} {d : Kd α} {e : Nat} {w w' : World} {v : Value} {xs : List α} (h : Kd.R d e w' w.heap.size (fun _ => True) v xs) (hb : Below w.heap.size w w') : Own w.heap.size w w' [.row d e v xs] :=
 (Own.start w).fresh hb (.row d e v xs) (Kd.R_lower (Kd.R_mono (Kd.R_bound h) fun k hk => ⟨hk.2.1, hk.2.2.1⟩) (Nat.zero_le _))
theorem rcopyB_any (m : List Int) (A : Option Addr) (c : Nat) (W : World) (hC : Kd.C kB W A m.length m) (hc : m.length ≤ c) (hm : m.length ≤ 140737488351232) :
 Calls Try.prog 43 #[.slice A m.length c] W fun e w' => ∃ A1 c1, e = .returned (.slice A1 m.length c1) ∧ m.length ≤ c1 ∧ Own W.heap.size W w' [.row kB 5 (.slice A1 m.length c1) m] :=
 (PRF.proctorref01_Copy.calls A c m m W hC hc (copy01_f m hm)).mono fun e w' ⟨v, he, hR, hb⟩ => by
  obtain ⟨A1, c1, rfl, hc1, _⟩ := Kd.R_reads hR
  exact ⟨A1, c1, he, hc1, Own.of_R hR hb⟩
theorem rclist_any (l : List (List Int)) (A : Option Addr) (c : Nat) (W : World) (hC : Kd.C kL W A l.length l) (hc : l.length ≤ c) (hl : l.length ≤ 5864062014800) (hm : ∀ m ∈ l, m.length ≤ 140737488351232) :
 Calls Try.prog 92 #[.slice A l.length c] W fun e w' => ∃ A1 c1, e = .returned (.slice A1 l.length c1) ∧ l.length ≤ c1 ∧ Own W.heap.size W w' [.row kL 74 (.slice A1 l.length c1) l] :=
 (PRF.proctorref20_CopyList.calls (l.length + 1) A c l l W hC hc (copylist_ev l hl hm _ (Nat.le_refl _))).mono fun e w' ⟨v, he, hS, hb⟩ => by
  have hR := Kd.S_R hS
  obtain ⟨A1, c1, rfl, hc1, _⟩ := Kd.R_reads hR
  exact ⟨A1, c1, he, hc1, Own.of_R hR hb⟩
theorem rcopy_any (q : List SQ) (tk : Int) (l : List (List Int)) (nx : Int) (A1 A2 : Option Addr) (c1 c2 : Nat) (w : World) (hC1 : Kd.C kQ w A1 q.length q) (hc1 : q.length ≤ c1) (hC2 : Kd.C kL w A2 l.length l) (hc2 : l.length ≤ c2)
 (hq : q.length ≤ 4398046511100) (hl : l.length ≤ 5864062014800) (hqm : ∀ d ∈ q, d.f1.length ≤ 140737488351232) (hlm : ∀ m ∈ l, m.length ≤ 140737488351232) :
 Calls Try.prog 42 #[.agg #[.slice A1 q.length c1, .int .i64 tk, .slice A2 l.length c2, .int .u64 nx]] w fun e w' => ∃ A3 c3 A4 c4, e = .returned (.agg #[.slice A3 q.length c3, .int .i64 tk, .slice A4 l.length c4, .int .u64 nx]) ∧ q.length ≤ c3 ∧ l.length ≤ c4 ∧ Own w.heap.size w w' [.row kQ 78 (.slice A3 q.length c3) q, .row kL 74 (.slice A4 l.length c4) l] := by
 have H0 := Aside0.mk (Own.start w)
 have HCL := Aside0.mk (fun W (h : Below w.heap.size w W) => rclist_any l A2 c2 W (Kd.C_below hC2 h) hc2 hl hlm)
 have HC1 := Aside0.mk hC1
 have HQM := Aside0.mk (fun (i : Nat) (h : i < q.length) => hqm q[i] (List.getElem_mem h))
 clear hC1 hC2 hqm hlm hc2
 generalize l.length = m at *
 obtain ⟨n, hn⟩ : ∃ n, n = q.length := ⟨_, rfl⟩
 rw [← hn] at HC1 hc1 hq ⊢
 have HN := Aside0.mk hn
 clear hn
 go_enter Try.func42, Try.ntmps42
 go_upto_region 2 with (first
  | fail
  | ((with_reducible refine Gd 1 ?_); go_loud ( refine OB H0 73 #[.slice A1 n c1, .int .i64 tk, .slice A2 m c2, .int .u64 nx] ?_; intro g1 w1 H1 B1))
  | ((with_reducible refine Gd 2 ?_); go_loud ( refine OA H1 73 #[.slice none 0 0, .int .i64 0, .slice none 0 0, .int .u64 0] 4 ?_; intro g2 w2 H2 B2))
  )
 have H3 : Aside0 (Own w.heap.size w w2 [.row kQ 78 (.slice none 0 0) (q.take 0), .blk g2 #[.slice none 0 0, .int .i64 0, .slice none 0 0, .int .u64 0] 73, .blk g1 #[.slice A1 n c1, .int .i64 tk, .slice A2 m c2, .int .u64 nx] 73]) := ⟨H2.out.null kQ _⟩
 clear H0 H1 H2 B1 B2
 go_wp2_with fail
 go_loopw [3, 4] (fun v3 v4 wr => ∃ (i : Nat) (A : Option Addr) (c : Nat), i ≤ n ∧ v4 = .int .i64 (i : Int) ∧ v3 = .slice A i c ∧ i ≤ c ∧ Aside0 (Own w.heap.size w wr [.row kQ 78 (.slice A i c) (q.take i), .blk g2 #[.slice none 0 0, .int .i64 0, .slice none 0 0, .int .u64 0] 73, .blk g1 #[.slice A1 n c1, .int .i64 tk, .slice A2 m c2, .int .u64 nx] 73])) (fun v3 v4 _ => n - (intOf v4).toNat)
 case atStart => exact ⟨0, none, 0, Nat.zero_le _, rfl, rfl, Nat.le_refl _, H3⟩
 case round =>
  clear H3
  obtain ⟨i, A, c, hin, rfl, rfl, hic, HI⟩ := hrel
  by_cases hlt : i < n
  ·have hdl : decide ((i : Int) < (n : Int)) = true := decide_eq_true (by omega)
   have hwi : IntKind.i64.wrap ((i : Int) + 1) = ((i + 1 : Nat) : Int) := by rw [IntWalk.i64_in _ (by omega)]; omega
   have hib : (0 : Int) ≤ (i : Int) ∧ (i : Int) < (n : Int) := by omega
   have hiq : i < q.length := by rw [← HN.out]; exact hlt
   obtain ⟨ad, Ab, cb, rfl, hcA, hcB, hcb, hCb⟩ := PRF.at_T78 HC1.out (i : Int) hib.1 hib.2
   rw [rdQ q i hiq] at hcA hcB hcb hCb
   rw [Int.toNat_natCast] at hcA hcB
   have HTK : Aside0 (q.take (i + 1) = q.take i ++ [⟨q[i].f0, q[i].f1⟩]) := ⟨List.take_succ_eq_append_getElem hiq⟩
   have HTL : Aside0 ((q.take i).length = i) := ⟨by rw [List.length_take]; omega⟩
   have HCB := Aside0.mk (fun W (h : Below w.heap.size w W) => rcopyB_any q[i].f1 Ab cb W (Kd.C_below hCb h) hcb (HQM.out i hiq))
   have HCA := Aside0.mk hcA
   have HCBe := Aside0.mk hcB
   clear hcA hcB hCb hcb
   generalize q[i].f0 = b at *
   generalize q[i].f1 = msg at *
   generalize hnb : msg.length = nb at *
   clear hnb
   have k0 : wr.cell? ⟨g1, 0, none⟩ = some (.slice (some ad) n c1) := HI.out.cell 2 rfl 0 rfl
   go_upto_region 5 with fail
   clear k0
   have HD := Aside0.mk HI.out.drew
   have hkS : wr.drew.cell? ⟨g1, 0, none⟩ = some (.slice (some ad) n c1) ∧ wr.drew.cell? (ad.add (i * 2)) = some (.int .i64 b) ∧ wr.drew.cell? ⟨(ad.add (i * 2)).block, (ad.add (i * 2)).off + 1, none⟩ = some (.slice Ab nb cb) := ⟨HD.out.cell 2 rfl 0 rfl, pw_cell_below HD.out.below HCA.out, pw_cell_below HD.out.below HCBe.out⟩
   clear HI
   refine St (fun W => W.cell? ⟨g1, 0, none⟩ = some (.slice (some ad) n c1) ∧ W.cell? (ad.add (i * 2)) = some (.int .i64 b) ∧ W.cell? ⟨(ad.add (i * 2)).block, (ad.add (i * 2)).off + 1, none⟩ = some (.slice Ab nb cb)) (fun hHeld => ?_) (by exact hkS)
   refine Tk 0 ?_
   refine Tk 1 ?_
   refine Tk 2 ?_
   refine Tk 3 ?_
   refine Tk 4 ?_
   refine Tk 5 ?_
   refine Tk 6 ?_
   refine Tk 7 ?_
   refine Tk 8 ?_
   refine Tk 9 ?_
   refine Tk 10 ?_
   refine Tk 11 ?_
   refine Tk 12 ?_
   clear hkS hHeld
   generalize wr.drew = wd at *
   refine Rd 13 fun K hK => ?_
   go_simp
   refine (HCB.out _ HD.out.below).mono ?_
   rintro e w5 ⟨A6, c6, rfl, hc6, hO5⟩
   have H5 := Aside0.mk (HD.out.call hO5)
   clear hO5
   go_wp2_with fail
   refine Ag hK (fun hHeld => ?_) (by exact ⟨H5.out.cell 3 rfl 0 rfl, pw_cell_below H5.out.below HCA.out, pw_cell_below H5.out.below HCBe.out⟩)
   clear hK K
   refine Tk 14 ?_
   refine Rd 15 fun K hK => ?_
   have kA : (w5.alloc (.cells #[.int .i64 b, .slice A6 nb c6] 78)).cell? ⟨g1, 0, none⟩ = some (.slice (some ad) n c1) := (H5.out.alloc _).cell 3 rfl 0 rfl
   have kB := pw_cell_below (H5.out.alloc (.cells #[.int .i64 b, .slice A6 nb c6] 78)).below HCA.out
   have kC := pw_cell_below (H5.out.alloc (.cells #[.int .i64 b, .slice A6 nb c6] 78)).below HCBe.out
   refine step_of_run (W1 := w5.alloc (.cells #[.int .i64 b, .slice A6 nb c6] 78)) (v := .slice (some ⟨w5.heap.size, 0, none⟩) 1 1) (by rfl) (by first | (go_simp; done) | (go_simp; rfl)) ?_
   refine Ag hK (fun hHeld => ?_) (by exact ⟨kA, kB, kC⟩)
   clear hK K
   clear kA kB kC
   refine Rd 16 fun K hK => ?_
   refine own_appendM_step kQ kB (H5.out.bring 1 rfl) (by rfl) (.tmp 12) (.tmp 27) 70 (.agg #[.int .i64 0, .slice none 0 0]) 32 rfl Try.underlying70 PRF.info78 rfl (show 0 < 2 by decide) (by decide) ⟨b, msg⟩ [.int .i64 b, .slice A6 nb c6] rfl rfl (fun W ok h => PRF.k78_mkM W 0 ok ⟨b, msg⟩ h) (by rw [HTL.out]; omega) ?_
   intro v8 w8 H8
   obtain ⟨A8, c8, rfl, hc8, _⟩ := H8.reads 0 rfl
   rw [show (q.take i ++ [(⟨b, msg⟩ : SQ)]).length = i + 1 by rw [List.length_append, HTL.out]; rfl] at H8 hc8
   rw [show (q.take i ++ [(⟨b, msg⟩ : SQ)]).length = i + 1 by rw [List.length_append, HTL.out]; rfl]
   rw [← HTK.out] at H8
   replace H8 := Aside0.mk H8
   refine Ag hK (fun hHeld => ?_) (by exact ⟨H8.out.cell 2 rfl 0 rfl, pw_cell_below H8.out.below HCA.out, pw_cell_below H8.out.below HCBe.out⟩)
   clear hK K
   refine Tk 17 ?_
   refine Dn ?_
   go_wp2_with fail
   go_roundw
   case rel => exact ⟨i + 1, A8, c8, hlt, by go_num, rfl, hc8, H8⟩
   case measure => simp [intOf]; omega
  ·have hdl : decide ((i : Int) < (n : Int)) = false := decide_eq_false (by omega)
   obtain rfl : i = n := by omega
   have k0 : wr.cell? ⟨g1, 0, none⟩ = some (.slice A1 i c1) ∧ wr.cell? ⟨g1, 2, none⟩ = some (.slice A2 m c2) := ⟨HI.out.cell 2 rfl 0 rfl, HI.out.cell 2 rfl 2 rfl⟩
   rw [List.take_of_length_le (by rw [← HN.out]; exact Nat.le_refl _)] at HI
   have HA0 : Aside0 (Arr 4 #[.slice none 0 0, .int .i64 0, .slice none 0 0, .int .u64 0]) := ⟨rfl, by simp [Value.oneCell']⟩
   go_wp2_with (first
    | fail
    | (go_at_call 92; go_loud ( refine (HCL.out _ HI.out.below).mono ?_; rintro e w5 ⟨A4, c4, rfl, hc4, hO5⟩; have H5 := Aside0.mk (HI.out.call hO5); have HA1 : Aside0 (Arr 4 #[.slice A i c, .int .i64 tk, .slice A4 m c4, .int .u64 nx]) := ⟨rfl, by simp [Value.oneCell']⟩; clear hO5))
    | ((with_reducible refine Gs 70 33 ?_); go_loud ( refine OT1 33 70 H5 3 g1 73 0 (.slice A i c) #[.slice A i c, .int .i64 tk, .slice A2 m c2, .int .u64 nx] rfl (by simp) ?_; intro w6 H6))
    | ((with_reducible refine Gs 71 34 ?_); go_loud ( refine OT1 34 71 H6 3 g1 73 2 (.slice A4 m c4) #[.slice A i c, .int .i64 tk, .slice A4 m c4, .int .u64 nx] rfl (by simp) ?_; intro w7 H7))
    | ((with_reducible refine Gd 35 ?_); go_loud ( refine OV 1 H7 3 g1 73 rfl Try.underlying73 (by kernel_rfl) ?_))
    | ((with_reducible refine Gs 73 2 ?_); go_loud ( refine OS 2 35 H7 2 g2 73 #[.slice A i c, .int .i64 tk, .slice A4 m c4, .int .u64 nx] 4 HA0 HA1 ?_; intro w8 H8))
    )
   refine bodyPost_ret (own_resultV rfl _ H8.out 2 g2 _ rfl rfl _ Try.underlying73 rfl (by kernel_rfl)) rfl ?_
   exact ⟨A, c, A4, c4, rfl, hic, hc4, ((H8.out.bring 1 rfl).erase 2).erase 2⟩
theorem rtake_any (q : List SQ) (tk : Nat) (l : List (List Int)) (nx : Int) (g gq cq : Nat) (vl : Value) {B : Nat} {w0 w : World} {L : List Item}
 (H : Own B w0 w (.blk g #[.slice (some ⟨gq, 0, none⟩) q.length cq, .int .i64 (tk : Int), vl, .int .u64 nx] 73 :: .row kQ 78 (.slice (some ⟨gq, 0, none⟩) q.length cq) q :: .row kL 74 vl l :: L))
 (hcq : q.length ≤ cq) (hn : tk < q.length) (hq : q.length ≤ 1000000) (hl : l.length ≤ 1000000) (hqm : ∀ d ∈ q, d.f1.length ≤ 1099511627776) :
 Calls Try.prog 93 #[.pointer (some ⟨g, 0, none⟩)] w fun e w' => e = .returned (.tuple #[]) ∧ ∃ vl', Own B w0 w' (.blk g #[.slice (some ⟨gq, 0, none⟩) q.length cq, .int .i64 ((tk + 1 : Nat) : Int), vl', .int .u64 nx] 73 :: .row kQ 78 (.slice (some ⟨gq, 0, none⟩) q.length cq) q :: .row kL 74 vl' (l ++ [q[tk].f1]) :: L) := by
 obtain ⟨A4, c4, rfl, hcl4, _⟩ := H.reads 2 rfl
 obtain ⟨cs, hK, hcell⟩ := H.cells_at 1 rfl tk (List.getElem?_eq_getElem hn)
 obtain ⟨Am, cm, rfl, hcm, hCm⟩ := PRF.k78_open hK
 have kM0 : w.cell? ⟨gq, tk * 2 + 1, none⟩ = some (.slice Am q[tk].f1.length cm) := hcell 1 _ rfl
 have HCB := Aside0.mk (fun W (hb : Below w.heap.size w W) => rcopyB_any q[tk].f1 Am cm W (Kd.C_below hCm hb) hcm (by have := hqm q[tk] (List.getElem_mem hn); omega))
 have hib : (0 : Int) ≤ (tk : Int) ∧ (tk : Int) < (q.length : Int) := by omega
 have hwt : IntKind.i64.wrap ((tk : Int) + 1) = ((tk + 1 : Nat) : Int) := by rw [IntWalk.i64_in _ (by omega)]; omega
 clear hK hcell hCm hqm hcm
 generalize q[tk].f1 = msg at *
 generalize hnm : msg.length = nm at *
 clear hnm
 generalize hll : l.length = n4 at *
 have HLL := Aside0.mk hll
 clear hll
 generalize q.length = nq at *
 have H0 := Aside0.mk H
 have k0 : w.cell? ⟨g, 0, none⟩ = some (.slice (some ⟨gq, 0, none⟩) nq cq) := H.cell 0 rfl 0 rfl
 have k1 : w.cell? ⟨g, 1, none⟩ = some (.int .i64 (tk : Int)) := H.cell 0 rfl 1 rfl
 have k2 : w.cell? ⟨g, 2, none⟩ = some (.slice A4 n4 c4) := H.cell 0 rfl 2 rfl
 have HKM := Aside0.mk (fun W (hb : Below w.heap.size w W) => pw_cell_below hb kM0)
 clear H
 go_enter Try.func93, Try.ntmps93
 go_upto_region 0 with fail
 have HD := Aside0.mk H0.out.drew
 refine StS ((fun W => W.cell? ⟨g, 0, none⟩ = some (.slice (some ⟨gq, 0, none⟩) nq cq) ∧ W.cell? ⟨g, 1, none⟩ = some (.int .i64 (tk : Int)))) ((fun W => W.cell? ⟨g, 2, none⟩ = some (.slice A4 n4 c4) ∧ W.cell? ⟨gq, tk * 2 + 1, none⟩ = some (.slice Am nm cm))) [18] (by exact ⟨k0, k1⟩) (by exact ⟨k2, kM0⟩) fun hHeld => ?_
 refine TkS 0 ?_
 refine TkS 1 ?_
 refine TkS 2 ?_
 refine TkS 3 ?_
 refine TtS 4 [18, 19, 20, 21] ?_
 refine TkS 5 ?_
 refine TkS 6 ?_
 refine TkS 7 ?_
 refine TkS 8 ?_
 refine TkS 9 ?_
 refine TkS 10 ?_
 refine TkS 11 ?_
 refine TkS 12 ?_
 refine TkS 13 ?_
 refine TkS 14 ?_
 refine TtS 15 [16, 17, 18, 19, 20, 21] ?_
 have hBd : Below w.heap.size w w.drew := below_drew (Below.refl _ _)
 clear k0 k1 k2 kM0 H0
 generalize w.drew = wd at *
 refine RdS 16 fun K hK => ?_
 go_simp
 refine (HCB.out _ hBd).mono ?_
 rintro e w5 ⟨A6, c6, rfl, hc6, hO5⟩
 have hB5 := below_step hBd hO5.below
 have H5 := Aside0.mk (HD.out.call hO5)
 clear hO5 HD
 go_wp2_with fail
 refine AgS hK (HoldS.now (⟨H5.out.cell 1 rfl 0 rfl, H5.out.cell 1 rfl 1 rfl⟩) (⟨H5.out.cell 1 rfl 2 rfl, HKM.out _ hB5⟩)) fun hHeld => ?_
 clear hK K
 refine RdS 17 fun K hK => ?_
 have kA := HKM.out _ (below_alloc hB5 (.cells #[.slice A6 nm c6] 74))
 have kC : (w5.alloc (.cells #[.slice A6 nm c6] 74)).cell? ⟨g, 0, none⟩ = some (.slice (some ⟨gq, 0, none⟩) nq cq) ∧ (w5.alloc (.cells #[.slice A6 nm c6] 74)).cell? ⟨g, 1, none⟩ = some (.int .i64 (tk : Int)) ∧ (w5.alloc (.cells #[.slice A6 nm c6] 74)).cell? ⟨g, 2, none⟩ = some (.slice A4 n4 c4) := ⟨(H5.out.alloc _).cell 1 rfl 0 rfl, (H5.out.alloc _).cell 1 rfl 1 rfl, (H5.out.alloc _).cell 1 rfl 2 rfl⟩
 refine step_of_run (W1 := w5.alloc (.cells #[.slice A6 nm c6] 74)) (v := .slice (some ⟨w5.heap.size, 0, none⟩) 1 1) (by rfl) (by first | (go_simp; done) | (go_simp; rfl)) ?_
 refine AgS hK (HoldS.now (⟨kC.1, kC.2.1⟩) (⟨kC.2.2, kA⟩)) fun hHeld => ?_
 clear hK K
 clear kA kC
 refine RdS 18 fun K hK => ?_
 refine own_appendM_step kL kB (H5.out.bring 3 rfl) (by rfl) (.tmp 6) (.tmp 19) 71 (.slice none 0 0) 24 rfl Try.underlying71 PRF.info74 rfl (show 0 < 1 by decide) (by decide) msg [.slice A6 nm c6] rfl rfl (fun W ok h => ⟨_, rfl, h⟩) (by have := HLL.out; omega) ?_
 intro v8 w8 H8
 obtain ⟨A8, c8, hv8, _, _⟩ := H8.reads 0 rfl
 generalize (l ++ [msg]).length = n8 at hv8
 subst hv8
 replace H8 := Aside0.mk H8
 have k8 : w8.cell? ⟨g, 2, none⟩ = some (.slice A4 n4 c4) ∧ w8.frozen? ⟨g, 2, none⟩ = false := ⟨H8.out.cell 1 rfl 2 rfl, H8.out.fz 1 rfl 2⟩
 refine AgS hK (Pst (⟨H8.out.cell 1 rfl 0 rfl, H8.out.cell 1 rfl 1 rfl⟩)) fun hHeld => ?_
 clear hK K
 refine TkS 19 ?_
 refine TkS 20 ?_ (hS := Pst hHeld.1)
 have HP := Aside0.mk (H8.out.put 1 rfl 2 (.slice A8 n8 c8) rfl)
 refine RdS 21 fun K hK => ?_
 go_simp
 refine AgS hK (Pst (⟨HP.out.cell 1 rfl 0 rfl, HP.out.cell 1 rfl 1 rfl⟩)) fun hHeld => ?_
 clear hK K
 refine DnS ?_
 generalize w8.setCell ⟨g, 2, none⟩ (.slice A8 n8 c8) = w9 at *
 have k9 : w9.cell? ⟨g, 1, none⟩ = some (.int .i64 (tk : Int)) ∧ w9.frozen? ⟨g, 1, none⟩ = false := ⟨HP.out.cell 1 rfl 1 rfl, HP.out.fz 1 rfl 1⟩
 go_wp2_with fail
 refine bodyPost_end (results_none rfl _ _ _) rfl ?_
 exact ⟨rfl, _, (((HP.out.put 1 rfl 1 _ rfl).bring 2 rfl).bring 2 rfl)⟩
theorem rmay20_any (q : List SQ) (tk : Int) (l : List (List Int)) (nx : Int) (A1 A2 : Option Addr) (c1 c2 : Nat) (w : World) (hC1 : Kd.C kQ w A1 q.length q) (hc1 : q.length ≤ c1) (hC2 : Kd.C kL w A2 l.length l) (hc2 : l.length ≤ c2) :
 Calls Try.prog 35 #[.agg #[.slice A1 q.length c1, .int .i64 tk, .slice A2 l.length c2, .int .u64 nx]] w fun e w' => e = .returned (.bool (mayI q tk l)) ∧ Below w.heap.size w w' := by
 obtain ⟨k, hk⟩ := may20_ev q tk l nx (Kd.C_max hC1) (Kd.C_max hC2)
 exact PRF.proctorref20_May.calls k A1 c1 q tk A2 c2 l nx _ w hC1 hc1 hC2 hc2 hk
theorem rtick_any (x : Box) (block : Int) (A1 A2 : Option Addr) (c1 c2 : Nat) (w : World) (hC1 : Kd.C kQ w A1 x.q.length x.q) (hc1 : x.q.length ≤ c1) (hC2 : Kd.C kL w A2 x.l.length x.l) (hc2 : x.l.length ≤ c2)
 (hblk : block ≤ 9223372036854775807) (hq64 : ∀ d ∈ x.q, d.f0 ≤ 9223372036854775807) :
 Calls Try.prog 45 #[.agg #[.slice A1 x.q.length c1, .int .i64 x.tk, .slice A2 x.l.length c2, .int .u64 x.nx], .int .i64 block] w (BoxPost w (tickI x block)) := by
 obtain ⟨q, tk, l, nx⟩ := x
 have H0 := Aside0.mk (Own.start w)
 have HMY := Aside0.mk (fun W hb => rmay20_any q tk l nx A1 A2 c1 c2 W (Kd.C_below hC1 hb) hc1 (Kd.C_below hC2 hb) hc2)
 have HCP := Aside0.mk (fun W (hb : Below w.heap.size w W) h1 h2 h3 h4 => rcopy_any q tk l nx A1 A2 c1 c2 W (Kd.C_below hC1 hb) hc1 (Kd.C_below hC2 hb) hc2 h1 h2 h3 h4)
 have HLN := Aside0.mk (fun h : mayI q tk l = true => mayI_len h)
 have HAL := Aside0.mk (fun h : mayI q tk l = true => mayI_all h)
 have HQ64 := Aside0.mk hq64
 obtain ⟨r, hr⟩ : ∃ r, r = tickI ⟨q, tk, l, nx⟩ block := ⟨_, rfl⟩
 rw [← hr]
 have HR := Aside0.mk hr
 dsimp only
 clear hC1 hC2 hc1 hc2 hq64 hr
 obtain ⟨n, hn⟩ : ∃ n, n = q.length := ⟨_, rfl⟩
 have HN := Aside0.mk hn
 rw [← hn] at HCP HMY ⊢
 clear hn
 generalize hmm : l.length = m at *
 replace hmm := Aside0.mk hmm
 obtain ⟨my, hmy⟩ : ∃ my, my = mayI q tk l := ⟨_, rfl⟩
 rw [← hmy] at HMY HLN HAL
 have HMYE := Aside0.mk hmy
 clear hmy
 go_enter Try.func45, Try.ntmps45
 go_upto_region 1 with (first
  | fail
  | ((with_reducible refine Gd 2 ?_); go_loud ( refine OB H0 73 #[.slice A1 n c1, .int .i64 tk, .slice A2 m c2, .int .u64 nx] ?_; intro g2 w1 H1 B1))
  | ((with_reducible refine Gd 4 ?_); go_loud ( refine OA H1 73 #[.slice none 0 0, .int .i64 0, .slice none 0 0, .int .u64 0] 4 ?_; intro g4 w2 H2 B2))
  )
 replace H2 : Aside0 (Own w.heap.size w w2 [.blk g4 #[.slice none 0 0, .int .i64 0, .slice none 0 0, .int .u64 0] 73, .blk g2 #[.slice A1 n c1, .int .i64 tk, .slice A2 m c2, .int .u64 nx] 73]) := ⟨H2.out⟩
 have HA0 : Aside0 (Arr 4 #[.slice none 0 0, .int .i64 0, .slice none 0 0, .int .u64 0]) := ⟨rfl, by simp [Value.oneCell']⟩
 clear H0 H1 B1 B2
 go_cut [13] (fun v13 wc => v13 = .bool (!(my && decide (0 ≤ block))) ∧ Aside0 (Own w.heap.size w wc [.blk g4 #[.slice none 0 0, .int .i64 0, .slice none 0 0, .int .u64 0] 73, .blk g2 #[.slice A1 n c1, .int .i64 tk, .slice A2 m c2, .int .u64 nx] 73]))
 case first =>
  by_cases hb : 0 ≤ block
  ·have hd1 : decide (0 ≤ block) = true := decide_eq_true hb
   have hd2 : decide (block < 0) = false := decide_eq_false (by omega)
   cases my
   all_goals
    go_wp2_with (first
     | fail
     | ((with_reducible refine Gd 7 ?_); go_loud ( refine OV 2 H2 1 g2 73 rfl Try.underlying73 (by kernel_rfl) ?_))
     | (go_at_call 35; refine (HMY.out _ H2.out.below).mono ?_; rintro e w3 ⟨rfl, hB3⟩; have H3 := Aside0.mk (H2.out.step hB3); clear hB3)
     )
    go_meet
    exact ⟨by first | rfl | (rw [hd1]; rfl), H3⟩
  ·have hd1 : decide (0 ≤ block) = false := decide_eq_false hb
   have hd2 : decide (block < 0) = true := decide_eq_true (by omega)
   cases my
   all_goals
    go_wp2_with (first
     | fail
     | ((with_reducible refine Gd 7 ?_); go_loud ( refine OV 2 H2 1 g2 73 rfl Try.underlying73 (by kernel_rfl) ?_))
     | (go_at_call 35; refine (HMY.out _ H2.out.below).mono ?_; rintro e w3 ⟨rfl, hB3⟩; have H3 := Aside0.mk (H2.out.step hB3); clear hB3)
     )
    go_meet
    exact ⟨by first | rfl | (rw [hd1]; rfl), H3⟩
 case rest =>
 clear H2 HMY
 obtain ⟨rfl, H2⟩ := hcut
 cases hb : (my && decide (0 ≤ block))
 ·obtain rfl : r = (zeroB, 2) := by rw [HR.out, tickI, if_neg (by show ¬ (mayI q tk l && decide (0 ≤ block)) = true; rw [← HMYE.out, hb]; simp)]
  clear HR
  go_wp2_with (first
   | fail
   | ((with_reducible refine Gs 73 4 ?_); go_loud ( refine OS 4 14 H2 0 g4 73 #[.slice none 0 0, .int .i64 0, .slice none 0 0, .int .u64 0] 4 HA0 HA0 ?_; intro w7 HG))
   )
  refine bodyPost_ret (own_resultV_t rfl _ HG.out 0 g4 _ rfl rfl _ Try.underlying73 rfl (by kernel_rfl) _ rfl) rfl ?_
  exact ⟨_, _, rfl, ((((HG.out.erase 0).erase 0).null kL _).null kQ _)⟩
 rw [Bool.and_eq_true, decide_eq_true_eq] at hb
 obtain ⟨rfl, hb0⟩ := hb
 obtain ⟨hn1, hm1, ht0, htn⟩ := HLN.out rfl
 obtain ⟨hq0, hl0⟩ := HAL.out rfl
 rw [← HN.out] at hn1 htn
 obtain ⟨ti, rfl⟩ := Int.eq_ofNat_of_zero_le ht0
 replace htn : ti ≤ n := by omega
 replace HR : Aside0 (r = (⟨q, ((tickG q block (n - ti) ti l).1 : Int), (tickG q block (n - ti) ti l).2, nx⟩, 0)) := ⟨by
  rw [HR.out, tickI, if_pos (by show (mayI q (ti : Int) l && decide (0 ≤ block)) = true; rw [← HMYE.out, decide_eq_true hb0]; rfl), HN.out]; rfl⟩
 have HQA := Aside0.mk (fun (i : Nat) (h : i < q.length) => (⟨(hq0 _ (List.getElem_mem h)).1, HQ64.out _ (List.getElem_mem h)⟩ : 0 ≤ q[i].f0 ∧ q[i].f0 ≤ 9223372036854775807))
 have HCP2 := Aside0.mk (fun W hb => HCP.out W hb (by omega) (by omega) (fun d hd => by have := (hq0 d hd).2; omega) (fun m hm => by have := hl0 m hm; omega))
 have HQM := Aside0.mk (fun (d : SQ) (hd : d ∈ q) => (show d.f1.length ≤ 1099511627776 by have := (hq0 d hd).2; omega))
 have HNB : Aside0 (q.length ≤ 1000000) := ⟨by have := HN.out; omega⟩
 have hw8 : IntKind.i64.wrap (block - 8) = block - 8 := IntWalk.i64_in _ (by omega)
 clear HQ64 HAL HLN HCP hq0 hl0 HMYE ht0
 go_wp2_with (first
  | fail
  | ((with_reducible refine Gd 15 ?_); go_loud ( refine OV 2 H2 1 g2 73 rfl Try.underlying73 (by kernel_rfl) ?_))
  | (go_at_call 42; go_loud ( refine (HCP2.out _ H2.out.below).mono ?_; rintro e w3 ⟨A3, c3, A4, c4, rfl, hcl3, hcl4, hO3⟩; have H3 := Aside0.mk (H2.out.call hO3); have HA3 : Aside0 (Arr 4 #[.slice A3 n c3, .int .i64 (ti : Int), .slice A4 m c4, .int .u64 nx]) := ⟨rfl, by simp [Value.oneCell']⟩; clear hO3))
  | ((with_reducible refine Gd 6 ?_); go_loud ( refine OA H3 73 #[.slice none 0 0, .int .i64 0, .slice none 0 0, .int .u64 0] 4 ?_; intro g6 w4 H4 B4))
  | ((with_reducible refine Gs 73 6 ?_); go_loud ( refine OS 6 16 H4 0 g6 73 (#[.slice A3 n c3, .int .i64 (ti : Int), .slice A4 m c4, .int .u64 nx]) 4 HA0 HA3 ?_; intro w5 H5))
  )
 replace H5 : Aside0 (Own w.heap.size w w5 [.blk g6 #[.slice A3 n c3, .int .i64 (ti : Int), .slice A4 m c4, .int .u64 nx] 73, .row kQ 78 (.slice A3 n c3) q, .row kL 74 (.slice A4 m c4) l, .blk g4 #[.slice none 0 0, .int .i64 0, .slice none 0 0, .int .u64 0] 73]) := ⟨H5.out.erase 4⟩
 clear H2 H3 H4 HCP2 B4 HA3
 simp only [Act.put, List.setIfInBounds_toArray, List.set_cons_zero, List.set_cons_succ]
 go_loopw [] (fun wr => ∃ (i : Nat) (li : List (List Int)) (vl : Value), i ≤ n ∧ li.length ≤ 4096 ∧ Aside0 (tickG q block (n - ti) ti l = tickG q block (n - i) i li) ∧ Aside0 (Own w.heap.size w wr [.blk g6 #[.slice A3 n c3, .int .i64 (i : Int), vl, .int .u64 nx] 73, .row kQ 78 (.slice A3 n c3) q, .row kL 74 vl li, .blk g4 #[.slice none 0 0, .int .i64 0, .slice none 0 0, .int .u64 0] 73])) (fun wr => n - (intOf ((wr.cell? ⟨g6, 1, none⟩).getD undef)).toNat)
 case atStart => exact ⟨ti, l, _, htn, by have := hmm.out; omega, ⟨rfl⟩, H5⟩
 case round =>
  clear H5
  obtain ⟨i, li, vl, hin, hli, HG, HI⟩ := hrel
  obtain ⟨A4, c4, hv4, hcl4, _⟩ := HI.out.reads 2 rfl
  obtain ⟨m4, hm4⟩ : ∃ m4, m4 = li.length := ⟨_, rfl⟩
  rw [← hm4] at hv4 hli
  replace hm4 := Aside0.mk hm4
  subst hv4
  have k0 : wr.cell? ⟨g6, 0, none⟩ = some (.slice A3 n c3) ∧ wr.cell? ⟨g6, 1, none⟩ = some (.int .i64 (i : Int)) ∧ wr.cell? ⟨g6, 2, none⟩ = some (.slice A4 m4 c4) := ⟨HI.out.cell 0 rfl 0 rfl, HI.out.cell 0 rfl 1 rfl, HI.out.cell 0 rfl 2 rfl⟩
  by_cases hlt : i < n
  ·have hdl : decide (i < n) = true := decide_eq_true (by omega)
   have hiq : i < q.length := by rw [← HN.out]; exact hlt
   obtain ⟨gq, cap, he, _⟩ := HI.out.form 1 rfl (by omega)
   rw [← HN.out] at he
   injection he with he he2 he3
   subst he he3
   obtain ⟨cs, hK, hcell⟩ := HI.out.cells_at 1 rfl i (List.getElem?_eq_getElem hiq)
   obtain ⟨Am, cm, rfl, hcm, hCm⟩ := PRF.k78_open hK
   have kA : wr.cell? ⟨gq, i * 2, none⟩ = some (.int .i64 q[i].f0) := hcell 0 _ rfl
   have hib : (0 : Int) ≤ (i : Int) ∧ (i : Int) < (n : Int) := by omega
   clear hK hcell hCm hcm
   by_cases hbk : q[i].f0 + 8 ≤ block
   ·have hdb : decide (q[i].f0 ≤ block - 8) = true := decide_eq_true (by omega)
    by_cases hm : m4 < 4096
    ·have hdm : decide ((m4 : Int) < 4096) = true := decide_eq_true (by omega)
     have hdm2 : decide (m4 < 4096) = true := decide_eq_true (by omega)
     have HNG : Aside0 (tickG q block (n - i) i li = tickG q block (n - (i + 1)) (i + 1) (li ++ [q[i].f1])) := ⟨by
      rw [show n - i = (n - (i + 1)) + 1 by omega]; exact tickG_go hiq (by rw [← hm4.out]; exact hm) hbk⟩
     have HTK : Aside0 (Calls Try.prog 93 #[.pointer (some ⟨g6, 0, none⟩)] wr fun e w' => e = .returned (.tuple #[]) ∧ ∃ vl', Own w.heap.size w w' [.blk g6 #[.slice (some ⟨gq, 0, none⟩) n c3, .int .i64 ((i + 1 : Nat) : Int), vl', .int .u64 nx] 73, .row kQ 78 (.slice (some ⟨gq, 0, none⟩) n c3) q, .row kL 74 vl' (li ++ [q[i].f1]), .blk g4 #[.slice none 0 0, .int .i64 0, .slice none 0 0, .int .u64 0] 73]) := ⟨by
      have h := HI.out
      rw [HN.out] at h hcl3 ⊢
      exact rtake_any q i li nx g6 gq c3 _ h hcl3 hiq HNB.out (by have := hm4.out; omega) HQM.out⟩
     clear hbk
     generalize q[i].f0 = b at *
     go_wp2_with (go_at_call 93; refine HTK.out.mono ?_; rintro e w5 ⟨rfl, vl', H5⟩; replace H5 := Aside0.mk H5)
     have k5 : w5.cell? ⟨g6, 1, none⟩ = some (.int .i64 ((i + 1 : Nat) : Int)) := H5.out.cell 0 rfl 1 rfl
     go_roundw
     case rel => exact ⟨i + 1, _, _, hlt, by rw [List.length_append, ← hm4.out]; simp; omega, ⟨HG.out.trans HNG.out⟩, H5⟩
     case measure => rw [k5, k0.2.1]; simp [intOf]; omega
    ·have hdm : decide ((m4 : Int) < 4096) = false := decide_eq_false (by omega)
     have hdm2 : decide (m4 < 4096) = false := decide_eq_false (by omega)
     have hst := tickG_stop (q := q) (block := block) (l := li) hiq (fun h => hm (by rw [hm4.out]; exact h.1)) (n - i)
     clear hbk hm
     generalize q[i].f0 = b at *
     replace HR : Aside0 (r = (⟨q, (i : Int), li, nx⟩, 0)) := ⟨by rw [HR.out, HG.out, hst]⟩
     clear hst HG
     obtain rfl := HR.out
     clear HR
     have HAE : Aside0 (Arr 4 #[.slice (some ⟨gq, 0, none⟩) n c3, .int .i64 (i : Int), .slice A4 m4 c4, .int .u64 nx]) := ⟨rfl, by simp [Value.oneCell']⟩
     go_wp2_with (first
      | fail
      | ((with_reducible refine Gd 42 ?_); go_loud ( refine OV 6 HI 0 g6 73 rfl Try.underlying73 (by kernel_rfl) ?_))
      | ((with_reducible refine Gs 73 4 ?_); go_loud ( refine OS 4 42 HI 3 g4 73 (#[.slice (some ⟨gq, 0, none⟩) n c3, .int .i64 (i : Int), .slice A4 m4 c4, .int .u64 nx]) 4 HA0 HAE ?_; intro w7 HG))
      )
     refine bodyPost_ret (own_resultV_t rfl _ HG.out 3 g4 _ rfl rfl _ Try.underlying73 rfl (by kernel_rfl) _ rfl) rfl ?_
     exact ⟨_, _, rfl, (HG.out.erase 3).erase 0⟩
   ·have hdb : decide (q[i].f0 ≤ block - 8) = false := decide_eq_false (by omega)
    have hst := tickG_stop (q := q) (block := block) (l := li) hiq (fun h => hbk h.2) (n - i)
    clear hbk
    generalize q[i].f0 = b at *
    replace HR : Aside0 (r = (⟨q, (i : Int), li, nx⟩, 0)) := ⟨by rw [HR.out, HG.out, hst]⟩
    clear hst HG
    obtain rfl := HR.out
    clear HR
    have HAE : Aside0 (Arr 4 #[.slice (some ⟨gq, 0, none⟩) n c3, .int .i64 (i : Int), .slice A4 m4 c4, .int .u64 nx]) := ⟨rfl, by simp [Value.oneCell']⟩
    go_wp2_with (first
     | fail
     | ((with_reducible refine Gd 42 ?_); go_loud ( refine OV 6 HI 0 g6 73 rfl Try.underlying73 (by kernel_rfl) ?_))
     | ((with_reducible refine Gs 73 4 ?_); go_loud ( refine OS 4 42 HI 3 g4 73 (#[.slice (some ⟨gq, 0, none⟩) n c3, .int .i64 (i : Int), .slice A4 m4 c4, .int .u64 nx]) 4 HA0 HAE ?_; intro w7 HG))
     )
    refine bodyPost_ret (own_resultV_t rfl _ HG.out 3 g4 _ rfl rfl _ Try.underlying73 rfl (by kernel_rfl) _ rfl) rfl ?_
    exact ⟨_, _, rfl, (HG.out.erase 3).erase 0⟩
  ·have hdl : decide (i < n) = false := decide_eq_false (by omega)
   have hst : tickG q block (n - i) i li = (i, li) := by rw [show n - i = 0 by omega]; rfl
   replace HR : Aside0 (r = (⟨q, (i : Int), li, nx⟩, 0)) := ⟨by rw [HR.out, HG.out, hst]⟩
   clear hst HG
   obtain rfl := HR.out
   clear HR
   have HAE : Aside0 (Arr 4 #[.slice A3 n c3, .int .i64 (i : Int), .slice A4 m4 c4, .int .u64 nx]) := ⟨rfl, by simp [Value.oneCell']⟩
   go_wp2_with (first
    | fail
    | ((with_reducible refine Gd 42 ?_); go_loud ( refine OV 6 HI 0 g6 73 rfl Try.underlying73 (by kernel_rfl) ?_))
    | ((with_reducible refine Gs 73 4 ?_); go_loud ( refine OS 4 42 HI 3 g4 73 (#[.slice A3 n c3, .int .i64 (i : Int), .slice A4 m4 c4, .int .u64 nx]) 4 HA0 HAE ?_; intro w7 HG))
    )
   refine bodyPost_ret (own_resultV_t rfl _ HG.out 3 g4 _ rfl rfl _ Try.underlying73 rfl (by kernel_rfl) _ rfl) rfl ?_
   exact ⟨_, _, rfl, (HG.out.erase 3).erase 0⟩
end Go.Proofs.Ytocphkfkdadhaaa.H
namespace Go.Proofs.Ytocphkfkdadhaaa.H
open Go.RowKit Go.Shelf Go.Proofs.YtocphkfkdadhaaaW.PrintWords Go.Proofs.YtocphkfkdadhaaaW.PrintLast Go.Proofs.YtocphkfkdadhaaaW.PrintMore
attribute [local go_sem] Oper.semAt_some
theorem keepM_any (b : List Int) (A : Option Addr) (c : Nat) (w : World) (hb : ∀ x ∈ b, 0 ≤ x ∧ x ≤ 255) (hC : Kd.C kB w A b.length b) (hc : b.length ≤ c) :
 Calls Try.prog 90 #[.slice A b.length c] w fun e w' => e = .returned (.bool (!depB b)) ∧ Below w.heap.size w w' := by
 have HD := Aside0.mk (fun W (h : Below w.heap.size w W) => deposit_any b A c W hb (Kd.C_below hC h) hc)
 have H0 := Aside0.mk (Below.refl w.heap.size w)
 clear hC hc hb
 generalize b.length = n at *
 generalize depB b = r at *
 go_enter Try.func90, Try.ntmps90
 go_wp2_with (go_at_call 83; refine (HD.out _ H0.out).mono ?_; rintro e w1 ⟨rfl, hB1⟩; have H1 := Aside0.mk (below_step H0.out hB1); clear hB1)
 go_ret
 exact ⟨rfl, H1.out⟩
theorem keptM_call (v f : Value) (w : World) (hv : ∃ A n c, v = .slice A n c) (hf : ∃ g a b, f = .func g a b) : Calls Try.prog 89 #[v, f] w fun e w' => e = .returned (.func (.func 135) #[] #[.pointer (some ⟨w.heap.size, 0, none⟩), .pointer (some ⟨w.heap.size + 1, 0, none⟩)]) ∧ w' = (w.alloc (.cells #[v] 71)).alloc (.cells #[f] 82) := by
 obtain ⟨A, n, c, rfl⟩ := hv
 obtain ⟨g, a, b, rfl⟩ := hf
 have hmf : ∀ (fn : Fn) (first cap : Array Value) (w : World), (Instr.makeFunc fn first cap).run Try.prog w = .ok (.func fn first cap) w := fun _ _ _ _ => rfl
 go_enter Try.func89, Try.ntmps89
 go_wp2
 go_ret
 exact ⟨rfl, rfl⟩
structure EV where
 b : List Int
 A : Option Addr
 c : Nat
 i : Nat
def EV.val (p : EV) : Value := .slice p.A p.b.length p.c
def GoodE (W0 : World) (g : Nat) (ms : List (List Int)) (p : EV) : Prop := (∃ h : p.i < ms.length, p.b = ms[p.i]) ∧ W0.cell? ⟨g, p.i, none⟩ = some p.val ∧ p.b.length ≤ p.c ∧ ∀ x ∈ p.b, 0 ≤ x ∧ x ≤ 255
abbrev GE (W0 : World) (g : Nat) (ms : List (List Int)) := { p : EV // GoodE W0 g ms p }
theorem keptM_in (n : Nat) (hn : 1 ≤ n) (W0 : World) (Kp : World → World → Prop) (hKt : ∀ {A B C : World}, Kp A B → Kp B C → Kp A C) (hKn : ∀ {A B : World}, Below A.heap.size A B → Kp A B)
 (g : Nat) (ms : List (List Int)) (V : List (GE W0 g ms)) (A : Option Addr) (cap : Nat) (hA : 0 < V.length → A = some ⟨g, 0, none⟩) (l Bs Bk : Nat) (J Jx : List (GE W0 g ms) → World → Prop) (W : World) (hW0 : Kp W0 W)
 (hJ : AbidesFrom W.heap.size J) (hN : V.length ≤ 9223372036854775807)
 (hrow : ∀ W', Kp W0 W' → ∀ i (h : i < V.length), W'.cell? ⟨g, i, none⟩ = some V[i].1.val ∧ Kd.C kB W' V[i].1.A V[i].1.b.length V[i].1.b)
 (hs : ∀ W', Kp W0 W' → W'.cell? ⟨Bs, 0, none⟩ = some (.slice A V.length cap)) (hk : ∀ W', Kp W0 W' → W'.cell? ⟨Bk, 0, none⟩ = some (.func (.func 90) #[] #[]))
 (hY : ∀ pre x W1, J pre W1 → pre.length < V.length → YieldAt Fence.wide (n - 1) Try.prog l #[x.1.val] W1 fun e W' =>
  (e = .returned (.bool true) ∧ J (pre ++ [x]) W' ∧ Kp W1 W') ∨ (e = .returned (.bool false) ∧ Jx (pre ++ [x]) W')) (h0 : J [] W) :
 CallsIn Fence.wide n Try.prog 135 #[.func (.yield l) #[] #[], .pointer (some ⟨Bs, 0, none⟩), .pointer (some ⟨Bk, 0, none⟩)] W fun e W' => (∃ v, e = .returned v) ∧
  ((∃ ys, ys = V.filter (fun p => !depB p.1.b) ∧ J ys W') ∨ (∃ pre, True ∧ Jx pre W')) := by
 have hs' := hs W hW0
 refine callsIn_of_wp Try.func135 rfl trivial ?_ rfl
 simp only [Try.ntmps135, List.size_toArray, List.length_cons, List.length_nil, Nat.reduceAdd, Nat.reduceSub, Array.replicate_succ, Array.replicate_zero, List.push_toArray, List.append_toArray, List.nil_append, List.cons_append]
 gi_wp2
 gi_loopw [8] (fun v8 wr => ∃ k : Nat, k ≤ V.length ∧ v8 = .int .i64 (k : Int) ∧ Aside0 (J ((V.take k).filter (fun p => !depB p.1.b)) wr) ∧ Aside0 (Kp W0 wr)) (fun v8 _ => V.length - (intOf v8).toNat)
 case atStart => exact ⟨0, Nat.zero_le _, rfl, ⟨by simpa using h0⟩, ⟨hW0⟩⟩
 case round =>
  obtain ⟨k, hkl, rfl, HJs, HB0⟩ := hrel
  by_cases hlt : k < V.length
  ·obtain rfl := hA (by omega)
   obtain ⟨q0, hCx⟩ := hrow wr HB0.out k hlt
   have HCx := Aside0.mk hCx
   clear hCx
   have q4 := hk _ HB0.out
   have HT := Aside0.mk (List.take_succ_eq_append_getElem hlt)
   have HG := Aside0.mk V[k].2
   have HLen : Aside0 (((V.take k).filter (fun p => !depB p.1.b)).length < V.length) := ⟨by
    have h1 := List.length_filter_le (fun p : GE W0 g ms => !depB p.1.b) (V.take k)
    rw [List.length_take] at h1
    omega⟩
   generalize V[k] = x at *
   have HFT : Aside0 ((V.take (k + 1)).filter (fun p => !depB p.1.b) = (V.take k).filter (fun p => !depB p.1.b) ++ (if (!depB x.1.b) = true then [x] else [])) := ⟨by
    rw [HT.out, List.filter_append]
    congr 1
    by_cases hkx : (!depB x.1.b) = true
    ·simp [hkx]
    ·simp [hkx]⟩
   generalize ((V.take k).filter (fun p => !depB p.1.b)) = pre at *
   obtain ⟨⟨b, Ax, cx, ix⟩, hgood⟩ := x
   simp only [EV.val] at *
   gi_wp2
   refine ⟨trivial, ?_⟩
   refine (callsIn_wide.2 (keepM_any b Ax cx _ HG.out.2.2.2 HCx.out HG.out.2.2.1)).mono ?_
   rintro e w3 ⟨rfl, hE3⟩
   have HE := Aside0.mk hE3
   have HBr3 := Aside0.mk (hKt HB0.out (hKn HE.out))
   have HJ3 := Aside0.mk (hJ _ _ _ none HJs.out ⟨HE.out.os, HE.out.tape, HE.out.output, HE.out.size, fun k hk _ => HE.out.block k hk⟩ (fun r h => by cases h))
   clear hE3 q0 q4
   cases hkp : (!depB b) with
   | false =>
    have HFT2 := Aside0.mk (HFT.out.trans (by rw [hkp, if_neg (by decide), List.append_nil]))
    clear HFT
    gi_wp2
    refine ⟨fun _ h => (by cases h), ?_⟩
    gi_wp2
    go_roundw
    case rel => exact ⟨k + 1, hlt, by go_num, ⟨by rw [HFT2.out]; exact HJ3.out⟩, HBr3⟩
    case measure => simp [intOf]; omega
   | true =>
    have HFT2 := Aside0.mk (HFT.out.trans (by rw [hkp, if_pos rfl]))
    clear HFT
    obtain ⟨fn, tmps, assign, body, hy, hR⟩ := hY pre ⟨⟨b, Ax, cx, ix⟩, hgood⟩ w3 HJ3.out HLen.out
    dsimp only [EV.val] at hy
    gi_wp2
    refine hR.mono ?_
    rintro e w4 (⟨rfl, hJ4, hk4⟩ | ⟨rfl, hJx4⟩)
    ·gi_wp2
     go_roundw
     case rel => exact ⟨k + 1, hlt, by go_num, ⟨by rw [HFT2.out]; exact hJ4⟩, ⟨hKt HBr3.out hk4⟩⟩
     case measure => simp [intOf]; omega
    ·gi_wp2
     refine bodyPost_ret (results_none rfl _ _ _) rfl ?_
     exact ⟨⟨_, rfl⟩, .inr ⟨_, trivial, hJx4⟩⟩
  ·obtain rfl : k = V.length := by omega
   have hJ1 := HJs.out
   rw [List.take_length] at hJ1
   gi_wp2
   go_end0
   exact ⟨⟨_, rfl⟩, .inl ⟨_, rfl, hJ1⟩⟩
theorem batchP_ok (b : List Int) (hb : K.Byt b) : 0 ≤ (batchP b).1.t ∧ (∀ m ∈ (batchP b).1.ms, K.Byt m) ∧ (batchP b).1.ms.length ≤ 4096 := by
 unfold batchP
 cases hd : K.decodeP b with
 | error e => simp [zeroBt]
 | ok x =>
  have hx := decodeP_byt hb hd
  dsimp only
  unfold shapeB
  split
  ·rename_i y0 y1 y2 h1 h2
   unfold itemsB
   split
   ·rename_i hi
    have h0 := BytI_f2 hx
    rw [h2] at h0
    refine ⟨?_, fun m hm => ?_, by simpa using hi.2.2.2.1⟩
    ·have := (rnumP_nat y1 (BytI_f1 (h0 y1 (by simp)))).1
     show 0 ≤ (K.rnumP y1).1
     omega
    ·obtain ⟨y, hy, rfl⟩ := List.mem_map.1 hm
     exact BytI_f1 (BytI_f2 (h0 y2 (by simp)) y hy)
   ·simp [zeroBt]
  ·simp [zeroBt]
theorem take0_any (A : Option Addr) (c : Nat) (vl : Value) (nx : Int) (g : Nat) {B : Nat} {w0 w : World} {L : List Item} (H : Own B w0 w (.blk g #[.slice A 0 c, .int .i64 0, vl, .int .u64 nx] 73 :: L)) :
 Calls Try.prog 88 #[.pointer (some ⟨g, 0, none⟩), .int .i64 0] w fun e w' => e = .returned (.tuple #[]) ∧ Own B w0 w' (.blk g #[.slice A 0 c, .int .i64 0, vl, .int .u64 nx] 73 :: L) := by
 have H0 := Aside0.mk H
 have k0 : w.cell? ⟨g, 0, none⟩ = some (.slice A 0 c) := H.cell 0 rfl 0 rfl
 have k1 : w.cell? ⟨g, 1, none⟩ = some (.int .i64 0) := H.cell 0 rfl 1 rfl
 clear H
 have hsb : (0 : Int) ≤ (c : Int) := by omega
 rcases A with _ | ad
 ·
  go_enter Try.func88, Try.ntmps88
  go_wp2_with fail
  refine St (fun W => W.cell? ⟨g, 0, none⟩ = some (.slice none 0 c) ∧ W.cell? ⟨g, 1, none⟩ = some (.int .i64 0)) (fun hHeld => ?_) (by exact ⟨k0, k1⟩)
  refine Tk 0 ?_
  refine Tk 1 ?_
  refine Tk 2 ?_
  refine Tk 3 ?_
  refine Tk 4 ?_
  refine Tk 5 ?_
  refine Tk 6 ?_
  refine Tk 7 ?_
  refine Tk 8 ?_
  refine Tk 9 ?_
  refine Tk 10 ?_
  refine Tk 11 ?_
  refine Tk 12 ?_
  refine Dn ?_
  have H1 := Aside0.mk H0.out.drew
  clear H0 k0 k1 hHeld
  generalize w.drew = w1 at *
  go_wp2_with fail
  go_loopw [25] (fun v25 wr => v25 = .int .i64 0 ∧ Aside0 (Own B w0 wr (.blk g #[.slice none 0 c, .int .i64 0, vl, .int .u64 nx] 73 :: L))) (fun v25 wr => 0)
  case atStart => exact ⟨rfl, H1⟩
  case round =>
   obtain ⟨rfl, HI⟩ := hrel
   have j1 : wr.cell? ⟨g, 1, none⟩ = some (.int .i64 0) ∧ wr.frozen? ⟨g, 1, none⟩ = false := ⟨HI.out.cell 0 rfl 1 rfl, HI.out.fz 0 rfl 1⟩
   clear H1
   go_wp2_with fail
   refine bodyPost_end (results_none rfl _ _ _) rfl ?_
   exact ⟨rfl, HI.out.put 0 rfl 1 _ rfl⟩
 ·
  go_enter Try.func88, Try.ntmps88
  go_wp2_with fail
  refine St (fun W => W.cell? ⟨g, 0, none⟩ = some (.slice (some ad) 0 c) ∧ W.cell? ⟨g, 1, none⟩ = some (.int .i64 0)) (fun hHeld => ?_) (by exact ⟨k0, k1⟩)
  refine Tk 0 ?_
  refine Tk 1 ?_
  refine Tk 2 ?_
  refine Tk 3 ?_
  refine Tk 4 ?_
  refine Tk 5 ?_
  refine Tk 6 ?_
  refine Tk 7 ?_
  refine Tk 8 ?_
  refine Tk 9 ?_
  refine Tk 10 ?_
  refine Tk 11 ?_
  refine Tk 12 ?_
  refine Dn ?_
  have H1 := Aside0.mk H0.out.drew
  clear H0 k0 k1 hHeld
  generalize w.drew = w1 at *
  go_wp2_with fail
  go_loopw [25] (fun v25 wr => v25 = .int .i64 0 ∧ Aside0 (Own B w0 wr (.blk g #[.slice (some ad) 0 c, .int .i64 0, vl, .int .u64 nx] 73 :: L))) (fun v25 wr => 0)
  case atStart => exact ⟨rfl, H1⟩
  case round =>
   obtain ⟨rfl, HI⟩ := hrel
   have j1 : wr.cell? ⟨g, 1, none⟩ = some (.int .i64 0) ∧ wr.frozen? ⟨g, 1, none⟩ = false := ⟨HI.out.cell 0 rfl 1 rfl, HI.out.fz 0 rfl 1⟩
   clear H1
   go_wp2_with fail
   refine bodyPost_end (results_none rfl _ _ _) rfl ?_
   exact ⟨rfl, HI.out.put 0 rfl 1 _ rfl⟩
theorem take_all (q : List SQ) (tk n : Nat) (l : List (List Int)) (nx : Int) (g cq : Nat) (A : Option Addr) (vl : Value) {B : Nat} {w0 w : World} {L : List Item}
 (H : Own B w0 w (.blk g #[.slice A q.length cq, .int .i64 (tk : Int), vl, .int .u64 nx] 73 :: .row kQ 78 (.slice A q.length cq) q :: .row kL 74 vl l :: L))
 (hcq : q.length ≤ cq) (hn : tk + n ≤ q.length) (hq : q.length ≤ 1000000) (hl : l.length ≤ 1000000) (hqm : ∀ d ∈ q, d.f1.length ≤ 1099511627776) :
 Calls Try.prog 88 #[.pointer (some ⟨g, 0, none⟩), .int .i64 (n : Int)] w fun e w' => e = .returned (.tuple #[]) ∧ ∃ vl', Own B w0 w' (.blk g #[.slice A q.length cq, .int .i64 ((tk + n : Nat) : Int), vl', .int .u64 nx] 73 :: .row kQ 78 (.slice A q.length cq) q :: .row kL 74 vl' (l ++ takenL q tk n) :: L) := by
 by_cases hp : 0 < q.length
 ·obtain ⟨gq, cap, he, _⟩ := H.form 1 rfl hp
  injection he with he1 he2 he3
  subst he1
  exact take_any q tk n l nx g gq cq vl H hcq hn hq hl hqm
 ·obtain rfl : q = [] := List.length_eq_zero_iff.1 (by omega)
  have hn' : tk + n ≤ 0 := hn
  obtain rfl : tk = 0 := by omega
  obtain rfl : n = 0 := by omega
  refine (take0_any A cq vl nx g H).mono ?_
  rintro e w' ⟨rfl, h⟩
  exact ⟨rfl, vl, by rw [show l ++ takenL [] 0 0 = l by simp [takenL]]; exact h⟩
def postI (x : Box) (b : List Int) : Box × Int :=
 if mayI x.q x.tk x.l = true then
  if (batchP b).2 = 0 then
   if (batchP b).1.n = x.nx ∧ (batchP b).1.t ≤ (x.q.length : Int) - x.tk then
    if (x.l ++ takenL x.q x.tk.toNat (batchP b).1.t.toNat ++ (batchP b).1.ms.filter (fun m => !depB m)).length ≤ 4096 then
     (⟨x.q, x.tk + (batchP b).1.t, x.l ++ takenL x.q x.tk.toNat (batchP b).1.t.toNat ++ (batchP b).1.ms.filter (fun m => !depB m), IntKind.u64.wrap (x.nx + 1)⟩, 0)
    else (zeroB, 4)
   else (zeroB, 200)
  else (zeroB, (batchP b).2)
 else (zeroB, 2)
theorem post_any (x : Box) (b : List Int) (A1 A2 A3 : Option Addr) (c1 c2 c3 : Nat) (w : World) (hC1 : Kd.C kQ w A1 x.q.length x.q) (hc1 : x.q.length ≤ c1) (hC2 : Kd.C kL w A2 x.l.length x.l) (hc2 : x.l.length ≤ c2) (hC3 : Kd.C kB w A3 b.length b) (hc3 : b.length ≤ c3)
 (hb : ∀ y ∈ b, 0 ≤ y ∧ y ≤ 255) :
 Calls Try.prog 37 #[.agg #[.slice A1 x.q.length c1, .int .i64 x.tk, .slice A2 x.l.length c2, .int .u64 x.nx], .slice A3 b.length c3] w (BoxPost w (postI x b)) := by
 obtain ⟨q, tk, l, nx⟩ := x
 have H0 := Aside0.mk (Own.start w)
 have HMY := Aside0.mk (fun W hb => imay_any q tk l nx A1 A2 c1 c2 W (Kd.C_below hC1 hb) hc1 (Kd.C_below hC2 hb) hc2)
 have HCP := Aside0.mk (fun W (hb : Below w.heap.size w W) h1 h2 => copied_any q tk l nx A1 A2 c1 c2 W (Kd.C_below hC1 hb) hc1 (Kd.C_below hC2 hb) hc2 h1 h2)
 have HRB := Aside0.mk (fun W (h : Below w.heap.size w W) => readbatch_any b A3 c3 W hb (Kd.C_below hC3 h) hc3)
 have HLN := Aside0.mk (fun h : mayI q tk l = true => mayI_len h)
 have HAL := Aside0.mk (fun h : mayI q tk l = true => mayI_all h)
 have HBO := Aside0.mk (batchP_ok b hb)
 obtain ⟨r, hr⟩ : ∃ r, r = postI ⟨q, tk, l, nx⟩ b := ⟨_, rfl⟩
 rw [← hr]
 unfold postI at hr
 dsimp only at hr
 dsimp only
 clear hC1 hC2 hC3 hc1 hc2 hc3 hb
 generalize batchP b = bt at *
 obtain ⟨⟨bn, t, ms⟩, er⟩ := bt
 dsimp only at hr HBO
 have HR := Aside0.mk hr
 clear hr
 generalize hnn : q.length = n at *
 have HN := Aside0.mk hnn
 clear hnn
 generalize hmm : l.length = m at *
 have HM := Aside0.mk hmm
 clear hmm
 generalize b.length = nb at *
 obtain ⟨my, hmy⟩ : ∃ my, my = mayI q tk l := ⟨_, rfl⟩
 rw [← hmy] at HMY HLN HAL HR
 clear hmy
 have HZ : Aside0 (Arr 4 #[.slice none 0 0, .int .i64 0, .slice none 0 0, .int .u64 0]) := ⟨rfl, by simp [Value.oneCell']⟩
 have HZB := zB_one
 cases my
 case false =>
  obtain rfl : r = (zeroB, 2) := by rw [HR.out, if_neg (by decide)]
  clear HR
  go_enter Try.func37, Try.ntmps37
  go_wp2_with (first
   | fail
   | ((with_reducible refine Gd 2 ?_); refine OB H0 73 #[.slice A1 n c1, .int .i64 tk, .slice A2 m c2, .int .u64 nx] ?_; intro g2 w1 H1 B1)
   | ((with_reducible refine Gd 4 ?_); refine OA H1 73 #[.slice none 0 0, .int .i64 0, .slice none 0 0, .int .u64 0] 4 ?_; intro g4 w2 H2 B2)
   | ((with_reducible refine Gd 9 ?_); refine OV 2 H2 1 g2 73 rfl Try.underlying73 (by kernel_rfl) ?_)
   | (go_at_call 57; refine (HMY.out _ H2.out.below).mono ?_; rintro e w3 ⟨rfl, hB3⟩; have H3 := Aside0.mk (H2.out.step hB3); clear hB3)
   | ((with_reducible refine Gs 73 4 ?_); refine OS 4 12 H3 0 g4 73 #[.slice none 0 0, .int .i64 0, .slice none 0 0, .int .u64 0] 4 HZ HZ ?_; intro w4 H4)
   )
  refine bodyPost_ret (RVt H4 0 g4 Try.underlying73) rfl ?_
  exact ⟨_, _, rfl, ((((H4.out.erase 0).erase 0).null kL _).null kQ _)⟩
 case true =>
 replace HR := Aside0.mk (HR.out.trans (if_pos rfl))
 by_cases her : er = 0
 case neg =>
  have hne : (er != 0) = true := by simpa using her
  obtain rfl : r = (zeroB, er) := by rw [HR.out, if_neg her]
  clear HR her
  go_enter Try.func37, Try.ntmps37
  go_wp2_with (first
   | fail
   | ((with_reducible refine Gd 2 ?_); refine OB H0 73 #[.slice A1 n c1, .int .i64 tk, .slice A2 m c2, .int .u64 nx] ?_; intro g2 w1 H1 B1)
   | ((with_reducible refine Gd 4 ?_); refine OA H1 73 #[.slice none 0 0, .int .i64 0, .slice none 0 0, .int .u64 0] 4 ?_; intro g4 w2 H2 B2)
   | ((with_reducible refine Gd 9 ?_); refine OV 2 H2 1 g2 73 rfl Try.underlying73 (by kernel_rfl) ?_)
   | (go_at_call 57; refine (HMY.out _ H2.out.below).mono ?_; rintro e w3 ⟨rfl, hB3⟩; have H3 := Aside0.mk (H2.out.step hB3); clear hB3)
   | (go_at_call 55; refine (HRB.out _ H3.out.below).mono ?_; rintro e w4 ⟨vb, rfl, hO4⟩; obtain ⟨Ab, cb, rfl, hcb, _⟩ := hO4.reads 0 rfl; have H4 := Aside0.mk (H3.out.call hO4); clear hO4)
   | ((with_reducible refine Gd 6 ?_); refine OA H4 108 #[.int .u64 0, .int .u64 0, .slice none 0 0] 3 ?_; intro g6 w5 H5 B5)
   | ((with_reducible refine Gs 108 6 ?_); have HXB : Aside0 (Arr 3 #[.int .u64 bn, .int .u64 t, .slice Ab ms.length cb]) := ⟨rfl, by simp [Value.oneCell']⟩; refine OS 6 16 H5 0 g6 108 #[.int .u64 bn, .int .u64 t, .slice Ab ms.length cb] 3 HZB HXB ?_; intro w6 H6)
   | ((with_reducible refine Gs 73 4 ?_); refine OS 4 21 H6 2 g4 73 #[.slice none 0 0, .int .i64 0, .slice none 0 0, .int .u64 0] 4 HZ HZ ?_; intro w7 H7)
   )
  refine bodyPost_ret (RVt H7 2 g4 Try.underlying73) rfl ?_
  exact ⟨_, _, rfl, (((((H7.out.erase 3).erase 2).erase 0).erase 0).null kL _).null kQ _⟩
 case pos =>
 subst her
 replace HR := Aside0.mk (HR.out.trans (if_pos rfl))
 obtain ⟨hn1, hm1, ht0, htn⟩ := HLN.out rfl
 obtain ⟨hq0, hl0⟩ := HAL.out rfl
 obtain ⟨ti, rfl⟩ := Int.eq_ofNat_of_zero_le ht0
 obtain ⟨tn, rfl⟩ := Int.eq_ofNat_of_zero_le HBO.out.1
 replace htn : ti ≤ n := by omega
 have hw1 : IntKind.i64.wrap ((n : Int) - (ti : Int)) = ((n - ti : Nat) : Int) := by rw [IntWalk.i64_in _ (by omega)]; omega
 have hw2 : IntKind.u64.wrap ((n - ti : Nat) : Int) = ((n - ti : Nat) : Int) := IntWalk.u64_in _ (by omega)
 by_cases hbn : bn = nx
 case neg =>
  have hx : (bn != nx) = true := by simpa using hbn
  obtain rfl : r = (zeroB, 200) := by rw [HR.out, if_neg (by omega)]
  clear HR
  go_enter Try.func37, Try.ntmps37
  go_wp2_with (first
   | fail
   | ((with_reducible refine Gd 2 ?_); refine OB H0 73 (#[.slice A1 n c1, .int .i64 (ti : Int), .slice A2 m c2, .int .u64 nx]) ?_; intro g2 w1 H1 B1)
   | ((with_reducible refine Gd 4 ?_); refine OA H1 73 #[.slice none 0 0, .int .i64 0, .slice none 0 0, .int .u64 0] 4 ?_; intro g4 w2 H2 B2)
   | ((with_reducible refine Gd 9 ?_); refine OV 2 H2 1 g2 73 rfl Try.underlying73 (by kernel_rfl) ?_)
   | (go_at_call 57; refine (HMY.out _ H2.out.below).mono ?_; rintro e w3 ⟨rfl, hB3⟩; have H3 := Aside0.mk (H2.out.step hB3); clear hB3)
   | (go_at_call 55; refine (HRB.out _ H3.out.below).mono ?_; rintro e w4 ⟨vb, rfl, hO4⟩; obtain ⟨Ab, cb, rfl, hcb, _⟩ := hO4.reads 0 rfl; have H4 := Aside0.mk (H3.out.call hO4); clear hO4)
   | ((with_reducible refine Gd 6 ?_); refine OA H4 108 #[.int .u64 0, .int .u64 0, .slice none 0 0] 3 ?_; intro g6 w5 H5 B5)
   | ((with_reducible refine Gs 108 6 ?_); have HXB : Aside0 (Arr 3 #[.int .u64 bn, .int .u64 (tn : Int), .slice Ab ms.length cb]) := ⟨rfl, by simp [Value.oneCell']⟩; refine OS 6 16 H5 0 g6 108 #[.int .u64 bn, .int .u64 (tn : Int), .slice Ab ms.length cb] 3 HZB HXB ?_; intro w6 H6)
   | ((with_reducible refine Gd 25 ?_); refine OD 24 23 H6 0 g6 0 (.int .u64 bn) Try.underlying23 ?_)
   | ((with_reducible refine Gd 27 ?_); refine OD 26 23 H6 3 g2 3 (.int .u64 nx) Try.underlying23 ?_)
   | ((with_reducible refine Gd 31 ?_); refine GD 30 23 H6 0 g6 1 (.int .u64 (tn : Int)) Try.underlying23 ?_)
   | ((with_reducible refine Gd 33 ?_); refine GD 32 70 H6 3 g2 0 (.slice A1 n c1) Try.underlying70 ?_)
   | ((with_reducible refine Gd 36 ?_); refine GD 35 3 H6 3 g2 1 (.int .i64 (ti : Int)) Try.underlying3 ?_)
   | ((with_reducible refine Gs 73 4 ?_); refine OS 4 41 H6 2 g4 73 #[.slice none 0 0, .int .i64 0, .slice none 0 0, .int .u64 0] 4 HZ HZ ?_; intro w7 H7)
   )
  refine bodyPost_ret (RVt H7 2 g4 Try.underlying73) rfl ?_
  exact ⟨_, _, rfl, (((((H7.out.erase 3).erase 2).erase 0).erase 0).null kL _).null kQ _⟩
 case pos =>
 subst hbn
 have hx : (bn != bn) = false := by simp
 by_cases htt : tn ≤ n - ti
 case neg =>
  have hy : decide (((n - ti : Nat) : Int) < (tn : Int)) = true := decide_eq_true (by omega)
  obtain rfl : r = (zeroB, 200) := by rw [HR.out, if_neg (by omega)]
  clear HR
  go_enter Try.func37, Try.ntmps37
  go_wp2_with (first
   | fail
   | ((with_reducible refine Gd 2 ?_); refine OB H0 73 (#[.slice A1 n c1, .int .i64 (ti : Int), .slice A2 m c2, .int .u64 bn]) ?_; intro g2 w1 H1 B1)
   | ((with_reducible refine Gd 4 ?_); refine OA H1 73 #[.slice none 0 0, .int .i64 0, .slice none 0 0, .int .u64 0] 4 ?_; intro g4 w2 H2 B2)
   | ((with_reducible refine Gd 9 ?_); refine OV 2 H2 1 g2 73 rfl Try.underlying73 (by kernel_rfl) ?_)
   | (go_at_call 57; refine (HMY.out _ H2.out.below).mono ?_; rintro e w3 ⟨rfl, hB3⟩; have H3 := Aside0.mk (H2.out.step hB3); clear hB3)
   | (go_at_call 55; refine (HRB.out _ H3.out.below).mono ?_; rintro e w4 ⟨vb, rfl, hO4⟩; obtain ⟨Ab, cb, rfl, hcb, _⟩ := hO4.reads 0 rfl; have H4 := Aside0.mk (H3.out.call hO4); clear hO4)
   | ((with_reducible refine Gd 6 ?_); refine OA H4 108 #[.int .u64 0, .int .u64 0, .slice none 0 0] 3 ?_; intro g6 w5 H5 B5)
   | ((with_reducible refine Gs 108 6 ?_); have HXB : Aside0 (Arr 3 #[.int .u64 bn, .int .u64 (tn : Int), .slice Ab ms.length cb]) := ⟨rfl, by simp [Value.oneCell']⟩; refine OS 6 16 H5 0 g6 108 #[.int .u64 bn, .int .u64 (tn : Int), .slice Ab ms.length cb] 3 HZB HXB ?_; intro w6 H6)
   | ((with_reducible refine Gd 25 ?_); refine OD 24 23 H6 0 g6 0 (.int .u64 bn) Try.underlying23 ?_)
   | ((with_reducible refine Gd 27 ?_); refine OD 26 23 H6 3 g2 3 (.int .u64 bn) Try.underlying23 ?_)
   | ((with_reducible refine Gd 31 ?_); refine GD 30 23 H6 0 g6 1 (.int .u64 (tn : Int)) Try.underlying23 ?_)
   | ((with_reducible refine Gd 33 ?_); refine GD 32 70 H6 3 g2 0 (.slice A1 n c1) Try.underlying70 ?_)
   | ((with_reducible refine Gd 36 ?_); refine GD 35 3 H6 3 g2 1 (.int .i64 (ti : Int)) Try.underlying3 ?_)
   | ((with_reducible refine Gs 73 4 ?_); refine OS 4 41 H6 2 g4 73 #[.slice none 0 0, .int .i64 0, .slice none 0 0, .int .u64 0] 4 HZ HZ ?_; intro w7 H7)
   )
  refine bodyPost_ret (RVt H7 2 g4 Try.underlying73) rfl ?_
  exact ⟨_, _, rfl, (((((H7.out.erase 3).erase 2).erase 0).erase 0).null kL _).null kQ _⟩
 case pos =>
 have hy : decide (((n - ti : Nat) : Int) < (tn : Int)) = false := decide_eq_false (by omega)
 replace HR := Aside0.mk (HR.out.trans (if_pos ⟨rfl, by omega⟩))
 have HQM := Aside0.mk (fun (d : SQ) (hd : d ∈ q) => (show d.f1.length ≤ 1099511627776 by have := (hq0 d hd).2; omega))
 have HCP2 := Aside0.mk (fun W hb => HCP.out W hb (by have := HN.out; omega) (by have := HM.out; omega) HQM.out (fun m hm => by have := hl0 m hm; omega))
 have HNB : Aside0 (q.length ≤ 1000000 ∧ l.length ≤ 1000000 ∧ m ≤ 4096 ∧ n ≤ 4096) := ⟨by have := HN.out; omega, by have := HM.out; omega, hm1, hn1⟩
 have hw3 : IntKind.i64.wrap (tn : Int) = (tn : Int) := IntWalk.i64_in _ (by omega)
 clear HAL HLN HCP hq0 hl0 ht0
 refine (callsIn_wide (n := 4)).1 ?_
 refine callsIn_of_wp_marks Try.func37 rfl trivial ?_ rfl
 refine wpIn_wide.2 ?_
 simp only [Try.ntmps37, List.size_toArray, List.length_cons, List.length_nil, Nat.reduceAdd, Nat.reduceSub, Array.replicate_succ, Array.replicate_zero, List.push_toArray, List.append_toArray, List.nil_append, List.cons_append]
 go_wp2_with (first
  | fail
  | ((with_reducible refine Gd 2 ?_); refine OB H0 73 (#[.slice A1 n c1, .int .i64 (ti : Int), .slice A2 m c2, .int .u64 bn]) ?_; intro g2 w1 H1 B1)
  | ((with_reducible refine Gd 4 ?_); refine OA H1 73 #[.slice none 0 0, .int .i64 0, .slice none 0 0, .int .u64 0] 4 ?_; intro g4 w2 H2 B2)
  | ((with_reducible refine Gd 9 ?_); refine OV 2 H2 1 g2 73 rfl Try.underlying73 (by kernel_rfl) ?_)
  | (go_at_call 57; refine (HMY.out _ H2.out.below).mono ?_; rintro e w3 ⟨rfl, hB3⟩; have H3 := Aside0.mk (H2.out.step hB3); clear hB3)
  | (go_at_call 55; refine (HRB.out _ H3.out.below).mono ?_; rintro e w4 ⟨vb, rfl, hO4⟩; obtain ⟨Ab, cb, rfl, hcb, _⟩ := hO4.reads 0 rfl; have H4 := Aside0.mk (H3.out.call hO4); clear hO4)
  | ((with_reducible refine Gd 6 ?_); refine OA H4 108 #[.int .u64 0, .int .u64 0, .slice none 0 0] 3 ?_; intro g6 w5 H5 B5)
  | ((with_reducible refine Gs 108 6 ?_); have HXB : Aside0 (Arr 3 #[.int .u64 bn, .int .u64 (tn : Int), .slice Ab ms.length cb]) := ⟨rfl, by simp [Value.oneCell']⟩; refine OS 6 16 H5 0 g6 108 #[.int .u64 bn, .int .u64 (tn : Int), .slice Ab ms.length cb] 3 HZB HXB ?_; intro w6 H6)
  | ((with_reducible refine Gd 25 ?_); refine OD 24 23 H6 0 g6 0 (.int .u64 bn) Try.underlying23 ?_)
  | ((with_reducible refine Gd 27 ?_); refine OD 26 23 H6 3 g2 3 (.int .u64 bn) Try.underlying23 ?_)
  | ((with_reducible refine Gd 31 ?_); refine GD 30 23 H6 0 g6 1 (.int .u64 (tn : Int)) Try.underlying23 ?_)
  | ((with_reducible refine Gd 33 ?_); refine GD 32 70 H6 3 g2 0 (.slice A1 n c1) Try.underlying70 ?_)
  | ((with_reducible refine Gd 36 ?_); refine GD 35 3 H6 3 g2 1 (.int .i64 (ti : Int)) Try.underlying3 ?_)
  | ((with_reducible refine Gd 42 ?_); refine OV 2 H6 3 g2 73 rfl Try.underlying73 (by kernel_rfl) ?_)
  | (go_at_call 87; refine (HCP2.out _ H6.out.below).mono ?_; rintro e w7 ⟨v1, v2, rfl, hO7⟩; obtain ⟨A4, c4, rfl, hcl4, _⟩ := hO7.reads 0 rfl; obtain ⟨A5, c5, rfl, hcl5, _⟩ := hO7.reads 1 rfl; have H7 := Aside0.mk (H6.out.call hO7); have HA4 : Aside0 (Arr 4 #[.slice A4 q.length c4, .int .i64 (ti : Int), .slice A5 l.length c5, .int .u64 bn]) := ⟨rfl, by simp [Value.oneCell']⟩; clear hO7)
  | ((with_reducible refine Gs 73 2 ?_); have HA1 : Aside0 (Arr 4 #[.slice A1 n c1, .int .i64 (ti : Int), .slice A2 m c2, .int .u64 bn]) := ⟨rfl, by simp [Value.oneCell']⟩; refine OS 2 43 H7 5 g2 73 #[.slice A4 q.length c4, .int .i64 (ti : Int), .slice A5 l.length c5, .int .u64 bn] 4 HA1 HA4 ?_; intro w8 H8)
  | ((with_reducible refine Gd 45 ?_); refine OD 44 23 H8 2 g6 1 (.int .u64 (tn : Int)) Try.underlying23 ?_)
  | (go_at_call 88; refine (take_all q ti tn l bn g2 c4 A4 _ (H8.out.bring 5 rfl) hcl4 (by have := HN.out; omega) HNB.out.1 HNB.out.2.1 HQM.out).mono ?_; rintro e w9 ⟨rfl, v9, H9⟩; replace H9 := Aside0.mk H9)
  | ((with_reducible refine Gd 49 ?_); refine OD 48 71 H9 3 g6 2 (.slice Ab ms.length cb) Try.underlying71 ?_)
  | (go_at_call 89; refine (keptM_call _ _ _ ⟨_, _, _, rfl⟩ ⟨_, _, _, rfl⟩).mono ?_; rintro e w10 ⟨rfl, rfl⟩)
  )
 have HL9 : Aside0 (Own w.heap.size w w9 [.blk g2 #[.slice A4 q.length c4, .int .i64 ((ti + tn : Nat) : Int), v9, .int .u64 bn] 73, .row kQ 78 (.slice A4 q.length c4) q, .row kL 74 v9 (l ++ takenL q ti tn), .blk g6 #[.int .u64 bn, .int .u64 (tn : Int), .slice Ab ms.length cb] 108, .row kL 74 (.slice Ab ms.length cb) ms, .blk g4 #[.slice none 0 0, .int .i64 0, .slice none 0 0, .int .u64 0] 73]) := ⟨H9.out⟩
 have HL0 : Aside0 ((l ++ takenL q ti tn).length ≤ 8192) := ⟨by
  have := HNB.out.2.2.1
  have := HM.out
  have h2 : (takenL q ti tn).length ≤ tn := by unfold takenL; rw [List.length_map, List.length_take]; omega
  rw [List.length_append]; omega⟩
 replace HR : Aside0 (r = if (l ++ takenL q ti tn ++ ms.filter (fun m => !depB m)).length ≤ 4096 then (⟨q, ((ti + tn : Nat) : Int), l ++ takenL q ti tn ++ ms.filter (fun m => !depB m), IntKind.u64.wrap (bn + 1)⟩, 0) else (zeroB, 4)) := ⟨HR.out⟩
 clear H0 H1 B1 H2 B2 H3 H4 H5 B5 H6 H7 H8 H9 HA1 HA4 HCP2 HXB HMY HRB hcl5
 generalize l ++ takenL q ti tn = L0 at *
 have H10 := Aside0.mk ((HL9.out.new #[.slice Ab ms.length cb] 71).new #[.func (.func 90) #[] #[]] 82)
 clear HL9
 obtain ⟨W0, hW0⟩ : ∃ W0, (w9.alloc (.cells #[.slice Ab ms.length cb] 71)).alloc (.cells #[.func (.func 90) #[] #[]] 82) = W0 := ⟨_, rfl⟩
 have hsz : W0.heap.size = w9.heap.size + 2 := by rw [← hW0]; simp
 simp only [World.size_alloc] at H10
 rw [hW0] at H10 ⊢
 clear hW0
 generalize w9.heap.size = s at *
 have HB : Aside0 (Own w.heap.size w W0 (.row kL 74 v9 L0 :: .row kL 74 (.slice Ab ms.length cb) ms :: [.blk (s + 1) #[.func (.func 90) #[] #[]] 82, .blk s #[.slice Ab ms.length cb] 71, .blk g2 #[.slice A4 q.length c4, .int .i64 ((ti + tn : Nat) : Int), v9, .int .u64 bn] 73, .row kQ 78 (.slice A4 q.length c4) q, .blk g6 #[.int .u64 bn, .int .u64 (tn : Int), .slice Ab ms.length cb] 108, .blk g4 #[.slice none 0 0, .int .i64 0, .slice none 0 0, .int .u64 0] 73])) := ⟨(H10.out.bring 6 rfl).bring 5 rfl⟩
 obtain ⟨g, hAb, hLn⟩ := Own.lend (d := kL) rfl HB.out
 have HLn := Aside0.mk hLn
 have hV9 := HB.out.row_typed 0 rfl
 have hgt : 0 < ms.length → ∃ cells, W0.heap[g]? = some (.cells cells 74 (0, 0)) := fun hp => HB.out.row_typed 1 rfl g (by rw [hAb hp]; rfl)
 have hG2 := HB.out.get 4 rfl
 have hGS := HB.out.get 3 rfl
 have hGK := HB.out.get 2 rfl
 have hbase := HB.out.base
 have hfar : ∀ (k : Nat) (cells : Array Value) (t : TypeId), W0.heap[k]? = some (.cells cells t (0, 0)) → t ≠ 73 → t ≠ 74 → ∀ W', KP W0.heap.size g2 v9.ownBlock W0 W' → W'.heap[k]? = W0.heap[k]? := fun k cells t hk h1 h2 W' hW => hW.same k (blk_lt hk) (blk_lt hk) (fun e => by
  subst e
  rw [hG2] at hk
  injection hk with hk
  injection hk with _ hk
  exact h1 hk.symm) (fun e => by
  obtain ⟨c2, h3⟩ := hV9 k e.symm
  rw [h3] at hk
  injection hk with hk
  injection hk with _ hk
  exact h2 hk.symm)
 have hfg : 0 < ms.length → ∀ W', KP W0.heap.size g2 v9.ownBlock W0 W' → W'.heap[g]? = W0.heap[g]? := fun hp W' hW => by
  obtain ⟨cells, hc⟩ := hgt hp
  refine hW.same g (blk_lt hc) (blk_lt hc) (fun e => ?_) (HLn.out.lend_ne hp)
  subst e
  rw [hG2] at hc
  injection hc with hc
  injection hc with _ hc
  cases hc
 clear HB H10 hLn
 obtain ⟨V, hVl, hV⟩ := choose_list2 (fun i (p : GE W0 g ms) => p.1.i = i ∧ ∀ W', KP W0.heap.size g2 v9.ownBlock W0 W' → Kd.C kB W' p.1.A p.1.b.length p.1.b) ms.length (fun i hi => by
  obtain ⟨u, h1, h2⟩ := HLn.out.lend_far i hi
  obtain ⟨Ax, cx, hu, hle, _⟩ := h2 W0 (fun _ _ _ _ _ => rfl)
  injection hu with hu _
  subst hu
  refine ⟨⟨⟨ms[i], Ax, cx, i⟩, ⟨hi, rfl⟩, h1, hle, HBO.out.2.1 _ (List.getElem_mem hi)⟩, rfl, fun W' hW => ?_⟩
  obtain ⟨A', c', hu', _, hC'⟩ := h2 W' (fun k cells h3 _ h5 => hfar k cells _ h5 (by decide) (by decide) W' hW)
  injection hu' with hu' _
  injection hu' with e1 e2 e3
  subst e1
  exact hC')
 have hVm : V.map (fun p => p.1.b) = ms := by
  refine List.ext_getElem (by simpa using hVl) fun i h1 h2 => ?_
  rw [List.getElem_map]
  obtain ⟨h3, _⟩ := hV i (by omega)
  obtain ⟨⟨h4, h5⟩, _⟩ := V[i].2
  rw [h5]
  simp only [h3]
 have hVf : (V.filter (fun p => !depB p.1.b)).map (fun p => p.1.b) = ms.filter (fun m => !depB m) := by
  have h := congrArg (List.filter fun m => !depB m) hVm
  rw [List.filter_map] at h
  exact h
 have hCl : ∀ vl : Value, ∀ xs, ∀ it ∈ (Item.lend kL 74 vl xs g ms :: [Item.blk (s + 1) #[.func (.func 90) #[] #[]] 82, .blk s #[.slice Ab ms.length cb] 71, .blk g2 #[.slice A4 q.length c4, .int .i64 ((ti + tn : Nat) : Int), vl, .int .u64 bn] 73, .row kQ 78 (.slice A4 q.length c4) q, .blk g6 #[.int .u64 bn, .int .u64 (tn : Int), .slice Ab ms.length cb] 108, .blk g4 #[.slice none 0 0, .int .i64 0, .slice none 0 0, .int .u64 0] 73]), it.Cl := fun vl xs =>
  Cl_cons (Cl_lend _ _ _ _ _ _ lend_cells) (Cl_cons (Cl_blk _ _ _) (Cl_cons (Cl_blk _ _ _) (Cl_cons (Cl_blk _ _ _) (Cl_cons (Cl_row _ _ _ _) (Cl_cons (Cl_blk _ _ _) (Cl_cons (Cl_blk _ _ _) Cl_nil))))))
 obtain ⟨IP, hIP⟩ : ∃ IP : List (GE W0 g ms) → World → Prop, IP = fun pre W => ∃ vl, Own w.heap.size w W (.lend kL 74 vl (L0 ++ pre.map (fun p => p.1.b)) g ms :: [.blk (s + 1) #[.func (.func 90) #[] #[]] 82, .blk s #[.slice Ab ms.length cb] 71, .blk g2 #[.slice A4 q.length c4, .int .i64 ((ti + tn : Nat) : Int), vl, .int .u64 bn] 73, .row kQ 78 (.slice A4 q.length c4) q, .blk g6 #[.int .u64 bn, .int .u64 (tn : Int), .slice Ab ms.length cb] 108, .blk g4 #[.slice none 0 0, .int .i64 0, .slice none 0 0, .int .u64 0] 73]) ∧ (0 < ms.length → W.heap[g]? = W0.heap[g]?) ∧ (vl.ownBlock = v9.ownBlock ∨ ∃ b, vl.ownBlock = some b ∧ W0.heap.size ≤ b) ∧ W0.heap.size ≤ W.heap.size := ⟨_, rfl⟩
 have hIown : OwnFrom W0.heap.size IP := by
  rw [hIP]
  rintro pre W W' row ⟨vl, h1, h2, h3, h4⟩ hg hr
  refine ⟨vl, h1.other (hCl _ _) hg (fun r e => ⟨Nat.le_trans hbase (hr r e).1, (hr r e).2⟩), fun hp => ?_, h3, Nat.le_trans h4 hg.size⟩
  obtain ⟨cells, hc⟩ := hgt hp
  rw [← h2 hp] at hc
  refine (hg.block g (blk_lt hc) (fun e => ?_)).trans (h2 hp)
  obtain ⟨_, o, ho, hnc⟩ := hr g e.symm
  rw [hc] at ho
  cases ho
  cases hnc
 have hI0 : IP [] W0 := by
  rw [hIP]
  exact ⟨v9, by simpa using HLn.out, fun _ => rfl, .inl rfl, Nat.le_refl _⟩
 have hseq : SeqStopsK Fence.wide 3 Try.prog 135 #[.pointer (some ⟨s, 0, none⟩), .pointer (some ⟨s + 1, 0, none⟩)] (fun x : GE W0 g ms => #[x.1.val]) (KP W0.heap.size g2 v9.ownBlock) (fun ys => ys = V.filter (fun p => !depB p.1.b)) (fun _ => True) V.length W0 := fun l J Jx W hW hJ hJx hY hJ0 => by
  refine keptM_in 3 (by decide) W0 (KP W0.heap.size g2 v9.ownBlock) (fun h k => h.trans k) (fun h => KP.of_below h) g ms V Ab cb (fun h => hAb (by omega)) l s (s + 1) J Jx W (KP.of_below hW) hJ (by have := HBO.out.2.2; omega) (fun W' hk i hi => ?_) (fun W' hk => ?_) (fun W' hk => ?_) hY hJ0
  ·obtain ⟨h3, h4⟩ := hV i hi
   refine ⟨?_, h4 W' hk⟩
   have h5 := V[i].2.2.1
   rw [h3] at h5
   exact (World.cell?_of_block (hfg (by omega) W' hk)).trans h5
  ·rw [hVl]
   exact blk_cell ((hfar s _ _ hGS (by decide) (by decide) W' hk).trans hGS) 0
  ·exact blk_cell ((hfar (s + 1) _ _ hGK (by decide) (by decide) W' hk).trans hGK) 0
 have HVf := Aside0.mk hVf
 have HCL := Aside0.mk hCl
 have HHG := Aside0.mk hgt
 have HV9 := Aside0.mk hV9
 have hVn : V.length ≤ 4096 := by have := HBO.out.2.2; omega
 clear hVf hCl hgt hV9 hV hVm hfar hfg hGS hGK hG2 hcl4
 refine wpIn_range1 (nF := 4) (p := 51) (c := 8) (fun x : GE W0 g ms => x.1.val) (by decide) (gf := 135) (lb := #[.pointer (some ⟨s, 0, none⟩), .pointer (some ⟨s + 1, 0, none⟩)]) rfl (enters_of Try.func135 (by kernel_rfl) rfl) hseq
  (fun h k => h.trans k) (fun W l o o' hl _ _ _ => KP.put W l o' hl) (KP.refl _ _ _) IP hIown hI0 ?assign ?body ?done
 case assign =>
  intro l x W K hK
  simp only [List.setIfInBounds_toArray, List.set_cons_zero, List.set_cons_succ] at hK ⊢
  gi_wp2
  exact hK
 case body =>
  rintro l x0 ⟨⟨b, Ax, cx, ix⟩, ⟨⟨hix, hbx⟩, hcell, hle, hbyt⟩⟩ W hI hlt
  rw [hIP] at hI
  obtain ⟨vl, hO, hgg, hvb, hsW⟩ := hI
  dsimp only at hix hbx hcell hle
  subst hbx
  have hu : W.cell? ⟨g, ix, none⟩ = some (.slice Ax ms[ix].length cx) := (World.cell?_of_block (hgg (by omega))).trans hcell
  have k2 : W.cell? ⟨g2, 2, none⟩ = some vl := hO.cell 3 rfl 2 rfl
  have hbd : ((L0 ++ x0.map (fun p => p.1.b)).length + 1) * 24 ≤ 140737488355328 := by
   have := HL0.out
   rw [List.length_append, List.length_map]
   omega
  have hvt := hO.unlend.row_typed 0 rfl
  have hG2 := hO.get 3 rfl
  have HI := Aside0.mk hO
  clear hO
  simp only [List.setIfInBounds_toArray, List.set_cons_zero, List.set_cons_succ, EV.val]
  gi_wp2_with (first | (refine own_append_lendIn kL HI.out rfl (.tmp 53) (.tmp 55) 71 (.slice none 0 0) 24 rfl Try.underlying71 (by kernel_rfl) rfl (by decide) (by decide) ix hix _ hu rfl rfl hbd ?_; intro v1 w1 h1 hg1 hgr hat; obtain ⟨A9, c9, hv1, _, _⟩ := h1.lend_reads; obtain ⟨n9, hn9⟩ : ∃ n, n = (L0 ++ x0.map (fun p => p.1.b) ++ [ms[ix]]).length := ⟨_, rfl⟩; rw [← hn9] at hv1; clear hn9; subst hv1; have H1 := Aside0.mk h1; have f1 : w1.cell? ⟨g2, 2, none⟩ = some vl ∧ w1.frozen? ⟨g2, 2, none⟩ = false := ⟨h1.cell 3 rfl 2 rfl, h1.fz 3 rfl 2⟩; clear h1))
  have hk1 : ∀ (u : Value) k, some k ≠ vl.ownBlock → k ≠ g2 → k < W.heap.size → (w1.setCell ⟨g2, 2, none⟩ u).heap[k]? = W.heap[k]? := fun u k h1 h2 h3 => (Below.heap_setCell w1 ⟨g2, 2, none⟩ u k h2).trans (hgr.block k h3 h1)
  have hs1 : ∀ u : Value, W.heap.size ≤ (w1.setCell ⟨g2, 2, none⟩ u).heap.size := fun u => by simpa using hgr.size
  refine ⟨⟨hs1 _, fun k o hk ho hnc => (hk1 _ k (fun e => ?_) (fun e => ?_) (blk_lt ho)).trans ho⟩, ⟨hs1 _, fun k h1 h2 h3 h4 => hk1 _ k (fun e => ?_) h3 h2⟩, ?_⟩
  ·obtain ⟨c2, h3⟩ := hvt k e.symm
   rw [h3] at ho
   cases ho
   cases hnc
  ·subst e
   rw [hG2] at ho
   cases ho
   cases hnc
  ·rcases hvb with hv | ⟨b2, hb2, hle2⟩
   ·exact h4 (e.trans hv)
   ·rw [hb2] at e
    injection e with e
    omega
  ·rw [hIP]
   refine ⟨.slice A9 n9 c9, ?_, fun hp => ?_, ?_, Nat.le_trans hsW (hs1 _)⟩
   ·rw [List.map_append, ← List.append_assoc]
    exact H1.out.put 3 rfl 2 _ rfl
   ·obtain ⟨cells, hc⟩ := HHG.out hp
    rw [← hgg hp] at hc
    refine (hk1 _ g (HI.out.lend_ne hp) (fun e => ?_) (blk_lt hc)).trans (hgg hp)
    subst e
    rw [hG2] at hc
    injection hc with hc
    injection hc with _ hc
    cases hc
   ·rcases hat with ha | ⟨b2, hb2, hle2⟩
    ·rw [ha]; exact hvb
    ·exact .inr ⟨b2, hb2, by omega⟩
 case done =>
  rintro D xs W hD rfl hI hK
  rename_i K1 hK1
  rw [hIP] at hI
  obtain ⟨vl, hO, -, -, -⟩ := hI
  rw [HVf.out] at hO
  have hO2 := hO.unlend
  obtain ⟨L1, hL1⟩ : ∃ L1, L1 = L0 ++ ms.filter (fun m => !depB m) := ⟨_, rfl⟩
  rw [← hL1] at hO2 HR
  clear hL1
  obtain ⟨A6, c6, rfl, hcl6, _⟩ := hO2.reads 0 rfl
  have hCl : ∀ res : Array Value, ∀ nx2 : Int, ∀ it ∈ [Item.row kL 74 (.slice A6 L1.length c6) L1, .blk (s + 1) #[.func (.func 90) #[] #[]] 82, .blk s #[.slice Ab ms.length cb] 71, .blk g2 #[.slice A4 q.length c4, .int .i64 ((ti + tn : Nat) : Int), .slice A6 L1.length c6, .int .u64 nx2] 73, .row kQ 78 (.slice A4 q.length c4) q, .blk g6 #[.int .u64 bn, .int .u64 (tn : Int), .slice Ab ms.length cb] 108, .blk g4 res 73], it.Cl := fun res nx2 =>
   Cl_cons (Cl_row _ _ _ _) (Cl_cons (Cl_blk _ _ _) (Cl_cons (Cl_blk _ _ _) (Cl_cons (Cl_blk _ _ _) (Cl_cons (Cl_row _ _ _ _) (Cl_cons (Cl_blk _ _ _) (Cl_cons (Cl_blk _ _ _) Cl_nil))))))
  have H11 := Aside0.mk (hO2.keepObj (hCl _ _) (Nat.le_trans hbase hD) hK rfl)
  clear hO hO2 hK
  refine hK1 _ _ ?_
  clear hK1 K1 hI0 hIown hseq hIP HCL HHG HV9 HVf HLn
  by_cases hlen : L1.length ≤ 4096
  ·have hd : decide ((4096 : Int) < (L1.length : Int)) = false := decide_eq_false (by omega)
   have hd2 : decide (4096 < L1.length) = false := decide_eq_false (by omega)
   obtain rfl : r = (⟨q, ((ti + tn : Nat) : Int), L1, IntKind.u64.wrap (bn + 1)⟩, 0) := by rw [HR.out, if_pos hlen]
   clear HR
   have HAE : Aside0 (Arr 4 #[.slice A4 q.length c4, .int .i64 ((ti + tn : Nat) : Int), .slice A6 L1.length c6, .int .u64 (IntKind.u64.wrap (bn + 1))]) := ⟨rfl, by simp [Value.oneCell']⟩
   go_wp2_with (first
    | fail
    | ((with_reducible refine Gd 59 ?_); refine OD 58 71 H11 4 g2 2 (.slice A6 L1.length c6) Try.underlying71 ?_)
    | ((with_reducible refine Gd 64 ?_); refine OD 63 23 H11 4 g2 3 (.int .u64 bn) Try.underlying23 ?_)
    | ((with_reducible refine Gs 23 66 ?_); refine OT1 66 23 H11 4 g2 73 3 (.int .u64 (IntKind.u64.wrap (bn + 1))) (#[.slice A4 q.length c4, .int .i64 ((ti + tn : Nat) : Int), .slice A6 L1.length c6, .int .u64 (IntKind.u64.wrap (bn + 1))]) rfl (by simp) ?_; intro w12 H12)
    | ((with_reducible refine Gd 67 ?_); refine OV 2 H12 4 g2 73 rfl Try.underlying73 (by kernel_rfl) ?_)
    | ((with_reducible refine Gs 73 4 ?_); refine OS 4 67 H12 7 g4 73 (#[.slice A4 q.length c4, .int .i64 ((ti + tn : Nat) : Int), .slice A6 L1.length c6, .int .u64 (IntKind.u64.wrap (bn + 1))]) 4 HZ HAE ?_; intro w13 H13)
    )
   have HX : Aside0 (Own w.heap.size w w13 (.obj D (.deferred (some [])) :: [.row kL 74 (.slice A6 L1.length c6) L1, .blk (s + 1) #[.func (.func 90) #[] #[]] 82, .blk s #[.slice Ab ms.length cb] 71, .blk g2 #[.slice A4 q.length c4, .int .i64 ((ti + tn : Nat) : Int), .slice A6 L1.length c6, .int .u64 (IntKind.u64.wrap (bn + 1))] 73, .row kQ 78 (.slice A4 q.length c4) q, .blk g6 #[.int .u64 bn, .int .u64 (tn : Int), .slice Ab ms.length cb] 108, .blk g4 #[.slice A4 q.length c4, .int .i64 ((ti + tn : Nat) : Int), .slice A6 L1.length c6, .int .u64 (IntKind.u64.wrap (bn + 1))] 73])) := ⟨H13.out⟩
   refine ⟨by simp, .inl ⟨_, _, rfl, run_takeDeferred HX.out.getObj.2, ?_⟩⟩
   have HE := Aside0.mk (HX.out.putObj (hCl _ _) rfl (.deferred none))
   refine ⟨_, RVt HE 6 g4 Try.underlying73, ?_⟩
   exact ⟨_, _, rfl, (((((HE.out.erase 6).erase 5).erase 3).erase 2).erase 1).bring 1 rfl⟩
  ·have hd : decide ((4096 : Int) < (L1.length : Int)) = true := decide_eq_true (by omega)
   have hd2 : decide (4096 < L1.length) = true := decide_eq_true (by omega)
   obtain rfl : r = (zeroB, 4) := by rw [HR.out, if_neg hlen]
   clear HR
   go_wp2_with (first
    | fail
    | ((with_reducible refine Gd 59 ?_); refine OD 58 71 H11 4 g2 2 (.slice A6 L1.length c6) Try.underlying71 ?_)
    | ((with_reducible refine Gs 73 4 ?_); refine OS 4 62 H11 7 g4 73 #[.slice none 0 0, .int .i64 0, .slice none 0 0, .int .u64 0] 4 HZ HZ ?_; intro w12 H12)
    )
   have HX : Aside0 (Own w.heap.size w w12 (.obj D (.deferred (some [])) :: [.row kL 74 (.slice A6 L1.length c6) L1, .blk (s + 1) #[.func (.func 90) #[] #[]] 82, .blk s #[.slice Ab ms.length cb] 71, .blk g2 #[.slice A4 q.length c4, .int .i64 ((ti + tn : Nat) : Int), .slice A6 L1.length c6, .int .u64 bn] 73, .row kQ 78 (.slice A4 q.length c4) q, .blk g6 #[.int .u64 bn, .int .u64 (tn : Int), .slice Ab ms.length cb] 108, .blk g4 #[.slice none 0 0, .int .i64 0, .slice none 0 0, .int .u64 0] 73])) := ⟨H12.out⟩
   refine ⟨by simp, .inl ⟨_, _, rfl, run_takeDeferred HX.out.getObj.2, ?_⟩⟩
   have HE := Aside0.mk (HX.out.putObj (hCl _ _) rfl (.deferred none))
   refine ⟨_, RVt HE 6 g4 Try.underlying73, ?_⟩
   exact ⟨_, _, rfl, (((((((((HE.out.erase 6).erase 5).erase 4).erase 3).erase 2).erase 1).erase 0).null kL _).null kQ _)⟩
end Go.Proofs.Ytocphkfkdadhaaa.H
