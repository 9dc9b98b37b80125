import Derived.Test.YtocphkfkdadhaaaYPk3
import Derived.Test.YtocphkfkdadhaaaYPk4
import Derived.Test.YtocphkfkdadhaaaYPk1
import Derived.Deep.DeepCutAuto
import Derived.Deep.RegionHeld3
set_option maxHeartbeats 4000000
set_option linter.unusedVariables false
set_option linter.unusedSimpArgs false
set_option maxRecDepth 100000
namespace Go.Proofs.Ytocphkfkdadhaaa.H
open Go.RowKit Go.Proofs.YtocphkfkdadhaaaW.PrintWords Go.Proofs.YtocphkfkdadhaaaW.PrintLast Go.Proofs.YtocphkfkdadhaaaW.PrintMore
abbrev SI := PRF.S159
abbrev kI := PRF.k159
theorem next_any (b : Bool) (v1 v2 : Value) (h1 : v1.oneCell' = true) (h2 : v2.oneCell' = true) (gi oi : Nat) (g n c : Nat) {B : Nat} {w0 w : World} {L : List Item} (H : Own B w0 w (.blk g #[.slice (some ⟨gi, oi, none⟩) n c] 157 :: L))
 (hcl : ∀ (j : Nat) (u : Value), [Value.bool b, v1, v2][j]? = some u → w.cell? ⟨gi, oi + j, none⟩ = some u) (hn : 1 ≤ n) (hc : n ≤ c) :
 Calls Try.prog 107 #[.pointer (some ⟨g, 0, none⟩)] w fun e w' => e = .returned (.agg #[.bool b, v1, v2]) ∧
  Own B w0 w' (.blk g #[.slice (if c = 1 then some ⟨gi, oi, none⟩ else some ⟨gi, oi + 3, none⟩) (n - 1) (c - 1)] 157 :: L) := by
 have H0 := Aside0.mk H
 have HCL : Aside0 (∀ W, Below w.heap.size w W → ∀ (j : Nat) (u : Value), [Value.bool b, v1, v2][j]? = some u → W.cell? ((⟨gi, oi, none⟩ : Addr).add j) = some u) := ⟨fun W hb j u hj => by
  have h := pw_cell_below hb (hcl j u hj)
  rwa [Addr.add_mid]⟩
 have hib : (0 : Int) ≤ (1 : Int) ∧ (1 : Int) ≤ (n : Int) ∧ (n : Int) ≤ (c : Int) := by omega
 have HAI : Aside0 (Arr 3 #[.bool false, .slice none 0 0, .slice none 0 0]) := ⟨rfl, by simp [Value.oneCell']⟩
 have HAY : Aside0 (Arr 3 #[.bool b, v1, v2]) := ⟨rfl, by simp [h1, h2]; rfl⟩
 clear hcl H h1 h2
 by_cases h1 : c = 1
 ·subst h1
  rw [if_pos rfl]
  obtain rfl : n = 1 := by omega
  go_enter Try.func107, Try.ntmps107
  go_wp2_with (first
   | fail
   | ((with_reducible refine Gd 1 ?_); refine OA H0 159 #[.bool false, .slice none 0 0, .slice none 0 0] 3 ?_; intro g1 w1 H1 B1)
   | ((with_reducible refine Gd 3 ?_); refine OD 0 157 H1 1 g 0 (.slice (some ⟨gi, oi, none⟩) 1 1) Try.underlying157 ?_)
   | ((with_reducible refine gate_dst (N := 5) rfl ?_); refine ld_at rfl 159 (.tmp 4) rfl (⟨gi, oi, none⟩) ([.bool b, v1, v2]) _ rfl (HCL.out _ B1.out) Try.underlying159 rfl (by kernel_rfl) ?_)
   | ((with_reducible refine Gd 2 ?_); refine OA H1 159 #[.bool false, .slice none 0 0, .slice none 0 0] 3 ?_; intro g2 w2 H2 B2)
   | ((with_reducible refine Gs 159 2 ?_); refine OS 2 5 H2 0 g2 159 #[.bool b, v1, v2] 3 HAI HAY ?_; intro w3 H3)
   | ((with_reducible refine Gd 6 ?_); refine OD 0 157 H3 2 g 0 (.slice (some ⟨gi, oi, none⟩) 1 1) Try.underlying157 ?_)
   | ((with_reducible refine Gs 157 0 ?_); refine OT1 0 157 H3 2 g 157 0 (.slice (some ⟨gi, oi, none⟩) 0 0) (#[.slice (some ⟨gi, oi, none⟩) 0 0]) rfl (by simp) ?_; intro w4 H4)
   | ((with_reducible refine Gd 8 ?_); refine OV 2 H4 0 g2 159 rfl Try.underlying159 (by kernel_rfl) ?_)
   | ((with_reducible refine Gs 159 1 ?_); refine OS 1 8 H4 1 g1 159 #[.bool b, v1, v2] 3 HAI HAY ?_; intro w5 H5)
   )
  refine bodyPost_ret (own_resultV rfl _ H5.out 1 g1 _ rfl rfl _ Try.underlying159 rfl (by kernel_rfl)) rfl ?_
  exact ⟨rfl, (H5.out.erase 0).erase 0⟩
 ·rw [if_neg h1]
  go_enter Try.func107, Try.ntmps107
  go_wp2_with (first
   | fail
   | ((with_reducible refine Gd 1 ?_); refine OA H0 159 #[.bool false, .slice none 0 0, .slice none 0 0] 3 ?_; intro g1 w1 H1 B1)
   | ((with_reducible refine Gd 3 ?_); refine OD 0 157 H1 1 g 0 (.slice (some ⟨gi, oi, none⟩) n c) Try.underlying157 ?_)
   | ((with_reducible refine gate_dst (N := 5) rfl ?_); refine ld_at rfl 159 (.tmp 4) rfl (⟨gi, oi, none⟩) ([.bool b, v1, v2]) _ rfl (HCL.out _ B1.out) Try.underlying159 rfl (by kernel_rfl) ?_)
   | ((with_reducible refine Gd 2 ?_); refine OA H1 159 #[.bool false, .slice none 0 0, .slice none 0 0] 3 ?_; intro g2 w2 H2 B2)
   | ((with_reducible refine Gs 159 2 ?_); refine OS 2 5 H2 0 g2 159 #[.bool b, v1, v2] 3 HAI HAY ?_; intro w3 H3)
   | ((with_reducible refine Gd 6 ?_); refine OD 0 157 H3 2 g 0 (.slice (some ⟨gi, oi, none⟩) n c) Try.underlying157 ?_)
   | ((with_reducible refine Gs 157 0 ?_); refine OT1 0 157 H3 2 g 157 0 (.slice (some ⟨gi, oi + 3, none⟩) (n - 1) (c - 1)) (#[.slice (some ⟨gi, oi + 3, none⟩) (n - 1) (c - 1)]) rfl (by simp) ?_; intro w4 H4)
   | ((with_reducible refine Gd 8 ?_); refine OV 2 H4 0 g2 159 rfl Try.underlying159 (by kernel_rfl) ?_)
   | ((with_reducible refine Gs 159 1 ?_); refine OS 1 8 H4 1 g1 159 #[.bool b, v1, v2] 3 HAI HAY ?_; intro w5 H5)
   )
  refine bodyPost_ret (own_resultV rfl _ H5.out 1 g1 _ rfl rfl _ Try.underlying159 rfl (by kernel_rfl)) rfl ?_
  exact ⟨rfl, (H5.out.erase 0).erase 0⟩
end Go.Proofs.Ytocphkfkdadhaaa.H
namespace Go.Proofs.Ytocphkfkdadhaaa.H
section
variable {P : Program} {ops : Array Oper} {Q : Exit → Act → World → Prop} {md : Region.Mode} {U T : World → Prop} {K : List Nat}
def HoldS (U T : World → Prop) (K : List Nat) (listed : Array Bool) (w : World) : Prop := U w ∧ ((K.all fun k => !listed.getD k false) = true → T w)
theorem HoldS.past {listed : Array Bool} {w : World} (hU : U w) (h : (K.all fun k => !listed.getD k false) = false) : HoldS U T K listed w := ⟨hU, fun h' => (by rw [h] at h'; cases h')⟩
theorem HoldS.now {listed : Array Bool} {w : World} (hU : U w) (h : T w) : HoldS U T K listed w := ⟨hU, fun _ => h⟩
theorem HoldS.toggle {i : Nat} (hi : K.contains i = false) {listed : Array Bool} {w : World} (h : HoldS U T K (listed.setIfInBounds i true) w) : HoldS U T K listed w := by
 refine ⟨h.1, fun hk => h.2 ?_⟩
 rw [List.all_eq_true] at hk ⊢
 intro k hk1
 have := hk k hk1
 have hne : i ≠ k := fun he => by
  subst he
  rw [List.contains_eq_mem] at hi
  simp [hk1] at hi
 rw [getD_set_ne false hne]
 exact this
def wpAnyS (P : Program) (md : Region.Mode) (ops : Array Oper) (Q : Exit → Act → World → Prop) (U T : World → Prop) (K : List Nat) : Nat → Array Bool → Act → World → Prop
 | 0, listed, a, w => Region.ready md ops listed = [] ∧ Q .normal a w
 | fuel + 1, listed, a, w =>
  (Region.ready md ops listed = [] → Q .normal a w) ∧
  ∀ i ∈ Region.ready md ops listed, wpOp P ops Q i (fun a' w' => HoldS U T K (listed.setIfInBounds i true) w' ∧ wpAnyS P md ops Q U T K fuel (listed.setIfInBounds i true) a' w') a w
theorem wpAny_of_S : ∀ (fuel : Nat) (listed : Array Bool) (a : Act) (w : World), wpAnyS P md ops Q U T K fuel listed a w → wpAny P md ops Q fuel listed a w
 | 0, _, _, _, h => h
 | fuel + 1, _, _, _, h => ⟨h.1, fun i hi => wpOp_mono (fun a' w' h' => wpAny_of_S fuel _ a' w' h'.2) (h.2 i hi)⟩
theorem late_stays {i : Nat} {late : List Nat} (hlate : ∀ (j : Nat) (oj : Oper), late.contains j = true → ops[j]? = some oj → ∃ e ∈ oj.after, Region.binds md e = true ∧ (e.on = i ∨ late.contains e.on = true))
 {listed : Array Bool} (hi : listed.getD i false = false) (hl : ∀ j, late.contains j = true → listed.getD j false = false) {j : Nat} (hj : j ∈ Region.ready md ops listed) : late.contains j = false := by
 cases h : late.contains j with
 | false => rfl
 | true =>
  obtain ⟨_, oj, hoj, hall⟩ := mem_ready.1 hj
  obtain ⟨e, he, hb, hor⟩ := hlate j oj h hoj
  have h1 := hall e he hb
  rcases hor with hor | hor
  ·rw [hor, hi] at h1; cases h1
  ·rw [hl _ hor] at h1; cases h1
theorem wpAnyS_first {i : Nat} {oi : Oper} {v : Value} (V : World → Prop) {late : List Nat} (hi : ops[i]? = some oi) (hsel : ∀ (j : Nat) (o : Oper) cs b, ops[j]? = some o → o.op ≠ .select cs b)
 (hQ : ∀ c a w, Q (.panic c) (a.put oi.dst v) w → Q (.panic c) a w) (hKi : K.contains i = false)
 (hlate : ∀ (j : Nat) (oj : Oper), late.contains j = true → ops[j]? = some oj → ∃ e ∈ oj.after, Region.binds md e = true ∧ (e.on = i ∨ late.contains e.on = true))
 (hV : ∀ (listed : Array Bool) (w : World), (∀ j, late.contains j = true → listed.getD j false = false) → HoldS U T K listed w → V w) :
 ∀ (fuel : Nat) (listed : Array Bool) (a : Act) (w : World),
  (∀ j oj, ops[j]? = some oj → j ≠ i → listed.getD j true = false → (∀ e ∈ oj.after, Region.binds md e = true → e.on ≠ i) → oi.apart ops oj = true) →
  (∀ j, late.contains j = true → listed.getD j false = false) →
  i ∈ Region.ready md ops listed → YieldsIf P ops V oi v a → HoldS U T K listed w →
  wpAnyS P md ops Q U T K fuel (listed.setIfInBounds i true) (a.put oi.dst v) w → wpAnyS P md ops Q U T K (fuel + 1) listed a w := by
 intro fuel
 have hset : ∀ {listed : Array Bool} {w : World}, HoldS U T K listed w → HoldS U T K (listed.setIfInBounds i true) w := by
  intro listed w h
  refine ⟨h.1, fun hk => h.2 ?_⟩
  rw [List.all_eq_true] at hk ⊢
  intro k hk1
  have := hk k hk1
  have hne : i ≠ k := fun he => by
   subst he
   rw [List.contains_eq_mem] at hKi
   simp [hk1] at hKi
  rw [getD_set_ne false hne] at this
  exact this
 induction fuel with
 | zero =>
  intro listed a w _ hl hr hy hS H
  refine ⟨fun h => (by rw [h] at hr; cases hr), fun j hj => ?_⟩
  by_cases hji : j = i
  ·subst hji; exact hy.wpOp hi (hV listed w hl hS) ⟨hset hS, H⟩
  ·have := ready_mono hj hji
   rw [H.1] at this
   cases this
 | succ fuel ih =>
  intro listed a w hfree hl hr hy hS H
  refine ⟨fun h => (by rw [h] at hr; cases hr), fun j hj => ?_⟩
  by_cases hji : j = i
  ·subst hji; exact hy.wpOp hi (hV listed w hl hS) ⟨hset hS, H⟩
  ·have h1 := H.2 j (ready_mono hj hji)
   obtain ⟨hjun, oj, hoj, hall⟩ := mem_ready.1 hj
   have hi0 : listed.getD i false = false := by
    have h0 := (mem_ready.1 hr).1
    rcases Nat.lt_or_ge i listed.size with h' | h'
    ·simpa [h'] using h0
    ·simp [Array.getElem?_eq_none h']
   have hnot : ∀ e ∈ oj.after, Region.binds md e = true → e.on ≠ i := fun e he hb heq => by
    have h1 := hall e he hb
    rw [heq, hi0] at h1
    cases h1
   have hjl := late_stays hlate hi0 hl hj
   have h2 := wpOp_putIf hoj (hfree j oj hoj hji hjun hnot) (fun cs b => hsel i oi cs b hi) (fun cs b => hsel j oj cs b hoj) hQ hy h1
   have hfree' : ∀ k ok, ops[k]? = some ok → k ≠ i → (listed.setIfInBounds j true).getD k true = false →
    (∀ e ∈ ok.after, Region.binds md e = true → e.on ≠ i) → oi.apart ops ok = true := fun k ok hk hki hun hno => by
    refine hfree k ok hk hki ?_ hno
    by_cases hjk : j = k
    ·subst hjk; exact hjun
    ·rw [getD_set_ne true hjk] at hun; exact hun
   have hl' : ∀ k, late.contains k = true → (listed.setIfInBounds j true).getD k false = false := fun k hk => by
    have hne : j ≠ k := fun he => by rw [he, hk] at hjl; cases hjl
    rw [getD_set_ne false hne]; exact hl k hk
   refine wpOp_mono (fun a' w' h3 => ?_) h2
   have hS' : HoldS U T K (listed.setIfInBounds j true) w' := HoldS.toggle hKi (by rw [Array.setIfInBounds_comm _ _ hji]; exact h3.2.1)
   refine ⟨hS', ih (listed.setIfInBounds j true) a' w' hfree' hl' (ready_mono hr (Ne.symm hji)) h3.1 hS' ?_⟩
   rw [Array.setIfInBounds_comm _ _ hji]
   exact h3.2.2
def lateOk (md : Region.Mode) (ops : Array Oper) (K : List Nat) (listed : Array Bool) (i : Nat) (late : List Nat) : Bool :=
 K.all (fun k => late.contains k) && late.all (fun j => !listed.getD j false && match ops[j]? with
  | some oj => oj.after.any (fun e => Region.binds md e && (e.on == i || late.contains e.on))
  | none => true)
theorem wpAnyS_take {i : Nat} {oi : Oper} {v : Value} {fuel : Nat} {listed : Array Bool} {a : Act} {w : World} (hi : ops[i]? = some oi)
 (hs : Region.noSelect ops = true) (hf : Region.free md ops listed i = true) (hr : (Region.ready md ops listed).contains i = true) (hKi : K.contains i = false)
 (hQ : ∀ c a w, Q (.panic c) (a.put oi.dst v) w → Q (.panic c) a w) (hy : YieldsIf P ops U oi v a) (hS : HoldS U T K listed w)
 (h : wpAnyS P md ops Q U T K fuel (listed.setIfInBounds i true) (a.put oi.dst v) w) : wpAnyS P md ops Q U T K (fuel + 1) listed a w :=
 wpAnyS_first U (late := []) hi (Region.noSelect_spec hs) hQ hKi (fun j oj h => by simp at h) (fun _ _ _ h => h.1) fuel listed a w (Region.free_spec hi hf) (fun j h => by simp at h) (by simpa using hr) hy hS h
theorem wpAnyS_takeT {i : Nat} {oi : Oper} {v : Value} {fuel : Nat} {listed : Array Bool} {a : Act} {w : World} (late : List Nat) (hi : ops[i]? = some oi)
 (hs : Region.noSelect ops = true) (hf : Region.free md ops listed i = true) (hr : (Region.ready md ops listed).contains i = true) (hKi : K.contains i = false)
 (hok : lateOk md ops K listed i late = true)
 (hQ : ∀ c a w, Q (.panic c) (a.put oi.dst v) w → Q (.panic c) a w) (hy : YieldsIf P ops (fun w => U w ∧ T w) oi v a) (hS : HoldS U T K listed w)
 (h : wpAnyS P md ops Q U T K fuel (listed.setIfInBounds i true) (a.put oi.dst v) w) : wpAnyS P md ops Q U T K (fuel + 1) listed a w := by
 unfold lateOk at hok
 rw [Bool.and_eq_true, List.all_eq_true, List.all_eq_true] at hok
 refine wpAnyS_first (fun w => U w ∧ T w) (late := late) hi (Region.noSelect_spec hs) hQ hKi (fun j oj h hj => ?_) (fun listed w hl h => ⟨h.1, h.2 ?_⟩) fuel listed a w (Region.free_spec hi hf) (fun j h => ?_) (by simpa using hr) hy hS h
 ·have h1 := hok.2 j (by simpa using h)
  rw [Bool.and_eq_true, hj] at h1
  obtain ⟨e, he, hb⟩ := Array.any_eq_true'.1 h1.2
  rw [Bool.and_eq_true, Bool.or_eq_true, beq_iff_eq] at hb
  exact ⟨e, he, hb.1, hb.2⟩
 ·rw [List.all_eq_true]
  intro k hk
  rw [hl k (hok.1 k hk)]; rfl
 ·have h1 := hok.2 j (by simpa using h)
  rw [Bool.and_eq_true] at h1
  simpa using h1.1
theorem wpAnyS_done {listed : Array Bool} {a : Act} {w : World} (hr : Region.ready md ops listed = []) (h : Q .normal a w) : ∀ fuel, wpAnyS P md ops Q U T K fuel listed a w
 | 0 => ⟨hr, h⟩
 | _ + 1 => ⟨fun _ => h, by rw [hr]; simp⟩
def AllReadyS (P : Program) (md : Region.Mode) (ops : Array Oper) (Q : Exit → Act → World → Prop) (U T : World → Prop) (K : List Nat) (fuel : Nat) (listed : Array Bool) (a : Act) (w : World) (rs : List Nat) : Prop :=
 ∀ i ∈ rs, wpOp P ops Q i (fun a' w' => HoldS U T K (listed.setIfInBounds i true) w' ∧ wpAnyS P md ops Q U T K fuel (listed.setIfInBounds i true) a' w') a w
theorem AllReadyS.nil {fuel : Nat} {listed : Array Bool} {a : Act} {w : World} : AllReadyS P md ops Q U T K fuel listed a w [] := fun _ h => by cases h
theorem AllReadyS.cons {fuel : Nat} {listed : Array Bool} {a : Act} {w : World} {i : Nat} {o : Oper} {rs : List Nat} (ho : ops[i]? = some o)
 (h : ∀ K' : Act → World → Prop, Shut (∀ a w, HoldS U T K (listed.setIfInBounds i true) w → (HoldS U T K (listed.setIfInBounds i true) w → wpAnyS P md ops Q U T K fuel (listed.setIfInBounds i true) a w) → K' a w) → if Region.wanted o (yielded ops a.tmps) = true then Oper.wp P o a w K' Q else K' (a.put o.dst undef) w)
 (hs : AllReadyS P md ops Q U T K fuel listed a w rs) : AllReadyS P md ops Q U T K fuel listed a w (i :: rs) := fun j hj => by
 rcases List.mem_cons.1 hj with rfl | hj
 ·exact wpOp_step ho (fun K' hK => h K' (fun a w hS hW => hK a w ⟨hS, hW hS⟩))
 ·exact hs j hj
theorem wpAnyS_ready {rs : List Nat} {fuel : Nat} {listed : Array Bool} {a : Act} {w : World} (hr : Region.ready md ops listed = rs) (hne : rs ≠ [])
 (h : AllReadyS P md ops Q U T K fuel listed a w rs) : wpAnyS P md ops Q U T K (fuel + 1) listed a w := ⟨fun h0 => absurd (hr ▸ h0) hne, hr ▸ h⟩
theorem wp_region_S_drew {id : Nat} {a : Act} {w : World} (hm : P.follows .mixedOrders = true) (hU : U w.drew) (hT : T w.drew)
 (h : HoldS U T K (Array.replicate ops.size false) w.drew → wpAnyS P .any ops Q U T K ops.size (Array.replicate ops.size false) a w.drew) : (Code.region id ops true).wp P Q a w :=
 wp_region_any hm (wpAny_of_S _ _ _ _ (h (HoldS.now hU hT)))
end
section
variable {P : Program} {ops : Array Oper} {Q : Exit → Act → World → Prop} {md : Region.Mode} {S U T : World → Prop} {K : List Nat} {fuel : Nat} {listed l' : Array Bool} {a a' : Act} {w : World} {oi : Oper} {v : Value}
theorem Tk (i : Nat) {f : Nat} (h : wpAnyH P md ops Q S fuel l' a' w) (hf : f = fuel + 1 := by rfl)
 (hi : ops[i]? = some oi := by (simp only [↓List.getElem?_toArray, ↓List.getElem?_cons_succ, ↓List.getElem?_cons_zero]; rfl))
 (hs : (Region.noSelect ops && (Region.free md ops listed i && (Region.ready md ops listed).contains i)) = true := by kernel_rfl)
 (hw : Region.wanted oi (yielded ops a.tmps) = true := by rfl)
 (hQ : ∀ c a w, Q (.panic c) (a.put oi.dst v) w → Q (.panic c) a w := by exact fun _ _ _ h => h)
 (hy : ∀ w, S w → (execOp a.eval oi).run P w = .ok (.value v) w := by (intro wS hSw; (try dsimp only at hSw); go_simp; (try with_reducible rfl)))
 (hl : listed.setIfInBounds i true = l' := by ((try simp only [List.setIfInBounds_toArray, List.set_cons_zero, List.set_cons_succ]); rfl))
 (ha : a.put oi.dst v = a' := by ((try simp only [Act.put, List.setIfInBounds_toArray, List.set_cons_zero, List.set_cons_succ]); rfl))
 (hS : S w := by assumption) : wpAnyH P md ops Q S f listed a w := by
 subst hl ha hf
 rw [Bool.and_eq_true, Bool.and_eq_true] at hs
 exact wpAnyH_take hi hs.1 hs.2.1 hs.2.2 hQ (Or.inl ⟨hw, hy⟩) hS h
theorem Ty (i : Nat) (v : Value) (hy : YieldsIf P ops S oi v a) {f : Nat} (h : wpAnyH P md ops Q S fuel l' a' w) (hf : f = fuel + 1 := by rfl)
 (hi : ops[i]? = some oi := by (simp only [↓List.getElem?_toArray, ↓List.getElem?_cons_succ, ↓List.getElem?_cons_zero]; rfl))
 (hs : (Region.noSelect ops && (Region.free md ops listed i && (Region.ready md ops listed).contains i)) = true := by kernel_rfl)
 (hQ : ∀ c a w, Q (.panic c) (a.put oi.dst v) w → Q (.panic c) a w := by exact fun _ _ _ h => h)
 (hl : listed.setIfInBounds i true = l' := by ((try simp only [List.setIfInBounds_toArray, List.set_cons_zero, List.set_cons_succ]); rfl))
 (ha : a.put oi.dst v = a' := by ((try simp only [Act.put, List.setIfInBounds_toArray, List.set_cons_zero, List.set_cons_succ]); rfl))
 (hS : S w := by assumption) : wpAnyH P md ops Q S f listed a w := by
 subst hl ha hf
 rw [Bool.and_eq_true, Bool.and_eq_true] at hs
 exact wpAnyH_take hi hs.1 hs.2.1 hs.2.2 hQ hy hS h
theorem Rd (i : Nat) {f : Nat} (h : ∀ K' : Act → World → Prop, Shut (∀ a w, S w → (S w → wpAnyH P md ops Q S fuel l' a w) → K' a w) → if Region.wanted oi (yielded ops a.tmps) = true then Oper.wp P oi a w K' Q else K' (a.put oi.dst undef) w) (hf : f = fuel + 1 := by rfl)
 (hi : ops[i]? = some oi := by (simp only [↓List.getElem?_toArray, ↓List.getElem?_cons_succ, ↓List.getElem?_cons_zero]; rfl))
 (hr : Region.ready md ops listed = [i] := by kernel_rfl)
 (hl : listed.setIfInBounds i true = l' := by ((try simp only [List.setIfInBounds_toArray, List.set_cons_zero, List.set_cons_succ]); rfl)) : wpAnyH P md ops Q S f listed a w := by
 subst hl hf
 exact wpAnyH_ready hr (by simp) (AllReadyH.cons hi h AllReadyH.nil)
theorem Rd2 (i j : Nat) {oj : Oper} {l2 : Array Bool} {f : Nat} (h : ∀ K' : Act → World → Prop, Shut (∀ a w, S w → (S w → wpAnyH P md ops Q S fuel l' a w) → K' a w) → if Region.wanted oi (yielded ops a.tmps) = true then Oper.wp P oi a w K' Q else K' (a.put oi.dst undef) w)
 (h2 : ∀ K' : Act → World → Prop, Shut (∀ a w, S w → (S w → wpAnyH P md ops Q S fuel l2 a w) → K' a w) → if Region.wanted oj (yielded ops a.tmps) = true then Oper.wp P oj a w K' Q else K' (a.put oj.dst undef) w) (hf : f = fuel + 1 := by rfl)
 (hi : ops[i]? = some oi := by (simp only [↓List.getElem?_toArray, ↓List.getElem?_cons_succ, ↓List.getElem?_cons_zero]; rfl))
 (hj : ops[j]? = some oj := by (simp only [↓List.getElem?_toArray, ↓List.getElem?_cons_succ, ↓List.getElem?_cons_zero]; rfl))
 (hr : Region.ready md ops listed = [i, j] := by kernel_rfl)
 (hl : listed.setIfInBounds i true = l' := by ((try simp only [List.setIfInBounds_toArray, List.set_cons_zero, List.set_cons_succ]); rfl))
 (hl2 : listed.setIfInBounds j true = l2 := by ((try simp only [List.setIfInBounds_toArray, List.set_cons_zero, List.set_cons_succ]); rfl)) : wpAnyH P md ops Q S f listed a w := by
 subst hl hl2 hf
 exact wpAnyH_ready hr (by simp) (AllReadyH.cons hi h (AllReadyH.cons hj h2 AllReadyH.nil))
theorem Ag {K' : Act → World → Prop} (hK : Shut (∀ a w, S w → (S w → wpAnyH P md ops Q S fuel listed a w) → K' a w)) (h : S w → wpAnyH P md ops Q S fuel listed a' w) (hS : S w := by first | trivial | assumption)
 (ha : a = a' := by ((try simp only [Act.put, List.setIfInBounds_toArray, List.set_cons_zero, List.set_cons_succ]); rfl)) : K' a w := by
 subst ha; exact hK.out _ _ hS h
theorem Dn {f : Nat} (h : Q .normal a w) (hr : Region.ready md ops listed = [] := by kernel_rfl) : wpAnyH P md ops Q S f listed a w := wpAnyH_done hr h _
theorem St (S : World → Prop) {id : Nat} (h : S w.drew → wpAnyH P .any ops Q S ops.size (Array.replicate ops.size false) a w.drew) (hS : S w.drew := by first | trivial | assumption) (hm : P.follows .mixedOrders = true := by kernel_rfl) : (Code.region id ops true).wp P Q a w := wp_region_held_drew hm hS h
theorem Rn {o : Oper} {Kc : Act → World → Prop} {W W1 : World} (v : Value) (h : Kc (a.put o.dst v) W1) (hw : Region.wanted o (yielded ops a.tmps) = true := by rfl) (hrun : (execOp a.eval o).run P W = .ok (.value v) W1 := by first | (go_simp; done) | (go_simp; rfl)) :
 if Region.wanted o (yielded ops a.tmps) = true then Oper.wp P o a W Kc Q else Kc (a.put o.dst undef) W := by
 rw [if_pos hw]
 unfold Oper.wp
 rw [hrun]
 exact h
theorem TkS (i : Nat) {f : Nat} (h : wpAnyS P md ops Q U T K fuel l' a' w) (hf : f = fuel + 1 := by rfl)
 (hi : ops[i]? = some oi := by (simp only [↓List.getElem?_toArray, ↓List.getElem?_cons_succ, ↓List.getElem?_cons_zero]; rfl))
 (hs : (Region.noSelect ops && (Region.free md ops listed i && ((Region.ready md ops listed).contains i && !K.contains i))) = true := by kernel_rfl)
 (hw : Region.wanted oi (yielded ops a.tmps) = true := by rfl)
 (hQ : ∀ c a w, Q (.panic c) (a.put oi.dst v) w → Q (.panic c) a w := by exact fun _ _ _ h => h)
 (hy : ∀ w, U w → (execOp a.eval oi).run P w = .ok (.value v) w := by (intro wS hSw; (try dsimp only at hSw); go_simp; (try with_reducible rfl)))
 (hl : listed.setIfInBounds i true = l' := by ((try simp only [List.setIfInBounds_toArray, List.set_cons_zero, List.set_cons_succ]); rfl))
 (ha : a.put oi.dst v = a' := by ((try simp only [Act.put, List.setIfInBounds_toArray, List.set_cons_zero, List.set_cons_succ]); rfl))
 (hS : HoldS U T K listed w := by assumption) : wpAnyS P md ops Q U T K f listed a w := by
 subst hl ha hf
 rw [Bool.and_eq_true, Bool.and_eq_true, Bool.and_eq_true] at hs
 exact wpAnyS_take hi hs.1 hs.2.1 hs.2.2.1 (by simpa using hs.2.2.2) hQ (Or.inl ⟨hw, hy⟩) hS h
theorem TtS (i : Nat) (late : List Nat) {f : Nat} (h : wpAnyS P md ops Q U T K fuel l' a' w) (hf : f = fuel + 1 := by rfl)
 (hi : ops[i]? = some oi := by (simp only [↓List.getElem?_toArray, ↓List.getElem?_cons_succ, ↓List.getElem?_cons_zero]; rfl))
 (hs : (Region.noSelect ops && (Region.free md ops listed i && ((Region.ready md ops listed).contains i && !K.contains i))) = true := by kernel_rfl)
 (hok : lateOk md ops K listed i late = true := by kernel_rfl)
 (hw : Region.wanted oi (yielded ops a.tmps) = true := by rfl)
 (hQ : ∀ c a w, Q (.panic c) (a.put oi.dst v) w → Q (.panic c) a w := by exact fun _ _ _ h => h)
 (hy : ∀ w, U w ∧ T w → (execOp a.eval oi).run P w = .ok (.value v) w := by (intro wS hSw; (try dsimp only at hSw); go_simp; (try with_reducible rfl)))
 (hl : listed.setIfInBounds i true = l' := by ((try simp only [List.setIfInBounds_toArray, List.set_cons_zero, List.set_cons_succ]); rfl))
 (ha : a.put oi.dst v = a' := by ((try simp only [Act.put, List.setIfInBounds_toArray, List.set_cons_zero, List.set_cons_succ]); rfl))
 (hS : HoldS U T K listed w := by assumption) : wpAnyS P md ops Q U T K f listed a w := by
 subst hl ha hf
 rw [Bool.and_eq_true, Bool.and_eq_true, Bool.and_eq_true] at hs
 exact wpAnyS_takeT late hi hs.1 hs.2.1 hs.2.2.1 (by simpa using hs.2.2.2) hok hQ (Or.inl ⟨hw, hy⟩) hS h
theorem RdS (i : Nat) {f : Nat} (h : ∀ K' : Act → World → Prop, Shut (∀ a w, HoldS U T K l' w → (HoldS U T K l' w → wpAnyS P md ops Q U T K fuel l' a w) → K' a w) → if Region.wanted oi (yielded ops a.tmps) = true then Oper.wp P oi a w K' Q else K' (a.put oi.dst undef) w) (hf : f = fuel + 1 := by rfl)
 (hi : ops[i]? = some oi := by (simp only [↓List.getElem?_toArray, ↓List.getElem?_cons_succ, ↓List.getElem?_cons_zero]; rfl))
 (hr : Region.ready md ops listed = [i] := by kernel_rfl)
 (hl : listed.setIfInBounds i true = l' := by ((try simp only [List.setIfInBounds_toArray, List.set_cons_zero, List.set_cons_succ]); rfl)) : wpAnyS P md ops Q U T K f listed a w := by
 subst hl hf
 exact wpAnyS_ready hr (by simp) (AllReadyS.cons hi h AllReadyS.nil)
theorem AgS {K' : Act → World → Prop} (hK : Shut (∀ a w, HoldS U T K listed w → (HoldS U T K listed w → wpAnyS P md ops Q U T K fuel listed a w) → K' a w)) (hS : HoldS U T K listed w) (h : HoldS U T K listed w → wpAnyS P md ops Q U T K fuel listed a' w)
 (ha : a = a' := by ((try simp only [Act.put, List.setIfInBounds_toArray, List.set_cons_zero, List.set_cons_succ]); rfl)) : K' a w := by
 subst ha; exact hK.out _ _ hS h
theorem Pst (hU : U w) (h : (K.all fun k => !listed.getD k false) = false := by kernel_rfl) : HoldS U T K listed w := HoldS.past hU h
theorem DnS {f : Nat} (h : Q .normal a w) (hr : Region.ready md ops listed = [] := by kernel_rfl) : wpAnyS P md ops Q U T K f listed a w := wpAnyS_done hr h _
theorem StS (U T : World → Prop) (K : List Nat) {id : Nat} (hU : U w.drew) (hT : T w.drew) (h : HoldS U T K (Array.replicate ops.size false) w.drew → wpAnyS P .any ops Q U T K ops.size (Array.replicate ops.size false) a w.drew) (hm : P.follows .mixedOrders = true := by kernel_rfl) : (Code.region id ops true).wp P Q a w := wp_region_S_drew hm hU hT h
end
end Go.Proofs.Ytocphkfkdadhaaa.H
namespace Go.Proofs.Ytocphkfkdadhaaa.H
open Go.RowKit Go.Proofs.YtocphkfkdadhaaaW.PrintWords Go.Proofs.YtocphkfkdadhaaaW.PrintLast Go.Proofs.YtocphkfkdadhaaaW.PrintMore
theorem C_sh {α : Type} {d : Kd α} {w W : World} {A : Option Addr} {n : Nat} {xs : List α} (h : Kd.C d w A n xs) (hb : Below w.heap.size w W) : Kd.C (shK d w) W A n xs := ReadsRow.imp_ (R' := (shK d w).K W) h hb (fun _ _ hp => hp)
theorem copied_any (q : List PRF.S78) (tk : Int) (l : List (List Int)) (nx : Int) (A1 A2 : Option Addr) (c1 c2 : Nat) (w : World) (hC1 : Kd.C kQ w A1 q.length q) (hc1 : q.length ≤ c1) (hC2 : Kd.C kL w A2 l.length l) (hc2 : l.length ≤ c2)
 (hq : q.length ≤ 1000000) (hl : l.length ≤ 1000000) (hqm : ∀ d ∈ q, d.f1.length ≤ 1099511627776) (hlm : ∀ m ∈ l, m.length ≤ 1099511627776) :
 Calls Try.prog 87 #[.agg #[.slice A1 q.length c1, .int .i64 tk, .slice A2 l.length c2, .int .u64 nx]] w fun e w' => ∃ v1 v2, e = .returned (.agg #[v1, .int .i64 tk, v2, .int .u64 nx]) ∧ Own w.heap.size w w' [.row kQ 78 v1 q, .row kL 74 v2 l] := by
 have H0 := Aside0.mk (Own.start w)
 have HCQ := Aside0.mk (fun W (hb : Below w.heap.size w W) => qclone_any q A1 c1 w W (C_sh hC1 hb) hc1 (by omega))
 have HCL := Aside0.mk (fun W (hb : Below w.heap.size w W) => lclone_any l A2 c2 w W (C_sh hC2 hb) hc2 (by omega))
 have HQL := Aside0.mk hq
 have HLL := Aside0.mk hl
 have HQM := Aside0.mk hqm
 have HLM := Aside0.mk hlm
 clear hC1 hC2 hc1 hc2 hq hl hqm hlm
 obtain ⟨n, hn⟩ : ∃ n, n = q.length := ⟨_, rfl⟩
 obtain ⟨m, hm⟩ : ∃ m, m = l.length := ⟨_, rfl⟩
 rw [← hn] at HCQ HQL ⊢
 rw [← hm] at HCL HLL ⊢
 have HN := Aside0.mk hn
 have HM := Aside0.mk hm
 clear hn hm
 go_enter Try.func87, Try.ntmps87
 go_upto_region 1 with (first
  | fail
  | ((with_reducible refine Gd 1 ?_); refine OB H0 73 #[.slice A1 n c1, .int .i64 tk, .slice A2 m c2, .int .u64 nx] ?_; intro g1 w1 H1 B1)
  | ((with_reducible refine Gd 2 ?_); refine OA H1 73 #[.slice none 0 0, .int .i64 0, .slice none 0 0, .int .u64 0] 4 ?_; intro g2 w2 H2 B2)
  )
 replace H2 : Aside0 (Own w.heap.size w w2 [.blk g2 #[.slice none 0 0, .int .i64 0, .slice none 0 0, .int .u64 0] 73, .blk g1 #[.slice A1 n c1, .int .i64 tk, .slice A2 m c2, .int .u64 nx] 73]) := ⟨H2.out⟩
 have k0 : w2.cell? ⟨g1, 0, none⟩ = some (.slice A1 n c1) := H2.out.cell 1 rfl 0 rfl
 have k2 : w2.cell? ⟨g1, 2, none⟩ = some (.slice A2 m c2) := H2.out.cell 1 rfl 2 rfl
 simp only [Act.put, List.setIfInBounds_toArray, List.set_cons_zero, List.set_cons_succ]
 go_cut [] (fun wc => ∃ (v1 v2 : Value), Aside0 (Own w.heap.size w wc [.row (shK kL w) 74 v2 l, .row (shK kQ w) 78 v1 q, .blk g2 #[.slice none 0 0, .int .i64 0, .slice none 0 0, .int .u64 0] 73, .blk g1 #[v1, .int .i64 tk, v2, .int .u64 nx] 73]))
 case first =>
  refine St (fun _ => True) (fun hHeld => ?_)
  refine Tk 0 ?_
  refine Tk 3 ?_
  refine Rd2 1 4 (fun K hK => ?_) fun K hK => ?_
  ·
   refine Rn (.slice A1 n c1) ?_
   refine Ag hK (fun hHeld => ?_)
   clear hK K
   refine Rd2 2 4 (fun K hK => ?_) fun K hK => ?_
   ·
    go_simp
    refine (HCQ.out _ H2.out.drew.below).mono ?_
    rintro e w3 ⟨v3, rfl, hO3⟩
    obtain ⟨A3, c3, rfl, hcl3, _⟩ := hO3.reads 0 rfl
    have H3 := Aside0.mk (H2.out.drew.call hO3)
    have k3 : w3.cell? ⟨g1, 2, none⟩ = some (.slice A2 m c2) := H3.out.cell 2 rfl 2 rfl
    clear hO3
    go_wp2_with fail
    refine Ag hK (fun hHeld => ?_)
    clear hK K
    refine Rd 4 fun K hK => ?_
    refine Rn (.slice A2 m c2) ?_
    refine Ag hK (fun hHeld => ?_)
    clear hK K
    refine Tk 6 ?_
    refine Rd 5 fun K hK => ?_
    go_simp
    refine (HCL.out _ H3.out.below).mono ?_
    rintro e w4 ⟨v4, rfl, hO4⟩
    obtain ⟨A4, c4, rfl, hcl4, _⟩ := hO4.reads 0 rfl
    have H4 := Aside0.mk (H3.out.call hO4)
    have f4 : w4.cell? ⟨g1, 0, none⟩ = some (.slice A1 n c1) ∧ w4.frozen? ⟨g1, 0, none⟩ = false := ⟨H4.out.cell 3 rfl 0 rfl, H4.out.fz 3 rfl 0⟩
    have f5 : w4.cell? ⟨g1, 2, none⟩ = some (.slice A2 m c2) ∧ w4.frozen? ⟨g1, 2, none⟩ = false := ⟨H4.out.cell 3 rfl 2 rfl, H4.out.fz 3 rfl 2⟩
    clear hO4
    go_wp2_with fail
    refine Ag hK (fun hHeld => ?_)
    clear hK K
    refine Rd 7 fun K hK => ?_
    go_simp
    refine Ag hK (fun hHeld => ?_)
    clear hK K
    refine Tk 8 ?_
    refine Rd 9 fun K hK => ?_
    go_simp
    refine Ag hK (fun hHeld => ?_)
    clear hK K
    refine Dn ?_
    go_wp2_with fail
    go_meet
    exact ⟨_, _, ⟨(H4.out.put 3 rfl 0 _ rfl).put 3 rfl 2 _ rfl⟩⟩
   ·
    refine Rn (.slice A2 m c2) ?_
    refine Ag hK (fun hHeld => ?_)
    clear hK K
    refine Rd 2 fun K hK => ?_
    go_simp
    refine (HCQ.out _ H2.out.drew.below).mono ?_
    rintro e w3 ⟨v3, rfl, hO3⟩
    obtain ⟨A3, c3, rfl, hcl3, _⟩ := hO3.reads 0 rfl
    have H3 := Aside0.mk (H2.out.drew.call hO3)
    have k3 : w3.cell? ⟨g1, 2, none⟩ = some (.slice A2 m c2) := H3.out.cell 2 rfl 2 rfl
    clear hO3
    go_wp2_with fail
    refine Ag hK (fun hHeld => ?_)
    clear hK K
    refine Tk 6 ?_
    refine Rd 5 fun K hK => ?_
    go_simp
    refine (HCL.out _ H3.out.below).mono ?_
    rintro e w4 ⟨v4, rfl, hO4⟩
    obtain ⟨A4, c4, rfl, hcl4, _⟩ := hO4.reads 0 rfl
    have H4 := Aside0.mk (H3.out.call hO4)
    have f4 : w4.cell? ⟨g1, 0, none⟩ = some (.slice A1 n c1) ∧ w4.frozen? ⟨g1, 0, none⟩ = false := ⟨H4.out.cell 3 rfl 0 rfl, H4.out.fz 3 rfl 0⟩
    have f5 : w4.cell? ⟨g1, 2, none⟩ = some (.slice A2 m c2) ∧ w4.frozen? ⟨g1, 2, none⟩ = false := ⟨H4.out.cell 3 rfl 2 rfl, H4.out.fz 3 rfl 2⟩
    clear hO4
    go_wp2_with fail
    refine Ag hK (fun hHeld => ?_)
    clear hK K
    refine Rd 7 fun K hK => ?_
    go_simp
    refine Ag hK (fun hHeld => ?_)
    clear hK K
    refine Tk 8 ?_
    refine Rd 9 fun K hK => ?_
    go_simp
    refine Ag hK (fun hHeld => ?_)
    clear hK K
    refine Dn ?_
    go_wp2_with fail
    go_meet
    exact ⟨_, _, ⟨(H4.out.put 3 rfl 0 _ rfl).put 3 rfl 2 _ rfl⟩⟩
  ·
   refine Rn (.slice A2 m c2) ?_
   refine Ag hK (fun hHeld => ?_)
   clear hK K
   refine Rd 1 fun K hK => ?_
   refine Rn (.slice A1 n c1) ?_
   refine Ag hK (fun hHeld => ?_)
   clear hK K
   refine Rd 2 fun K hK => ?_
   go_simp
   refine (HCQ.out _ H2.out.drew.below).mono ?_
   rintro e w3 ⟨v3, rfl, hO3⟩
   obtain ⟨A3, c3, rfl, hcl3, _⟩ := hO3.reads 0 rfl
   have H3 := Aside0.mk (H2.out.drew.call hO3)
   have k3 : w3.cell? ⟨g1, 2, none⟩ = some (.slice A2 m c2) := H3.out.cell 2 rfl 2 rfl
   clear hO3
   go_wp2_with fail
   refine Ag hK (fun hHeld => ?_)
   clear hK K
   refine Tk 6 ?_
   refine Rd 5 fun K hK => ?_
   go_simp
   refine (HCL.out _ H3.out.below).mono ?_
   rintro e w4 ⟨v4, rfl, hO4⟩
   obtain ⟨A4, c4, rfl, hcl4, _⟩ := hO4.reads 0 rfl
   have H4 := Aside0.mk (H3.out.call hO4)
   have f4 : w4.cell? ⟨g1, 0, none⟩ = some (.slice A1 n c1) ∧ w4.frozen? ⟨g1, 0, none⟩ = false := ⟨H4.out.cell 3 rfl 0 rfl, H4.out.fz 3 rfl 0⟩
   have f5 : w4.cell? ⟨g1, 2, none⟩ = some (.slice A2 m c2) ∧ w4.frozen? ⟨g1, 2, none⟩ = false := ⟨H4.out.cell 3 rfl 2 rfl, H4.out.fz 3 rfl 2⟩
   clear hO4
   go_wp2_with fail
   refine Ag hK (fun hHeld => ?_)
   clear hK K
   refine Rd 7 fun K hK => ?_
   go_simp
   refine Ag hK (fun hHeld => ?_)
   clear hK K
   refine Tk 8 ?_
   refine Rd 9 fun K hK => ?_
   go_simp
   refine Ag hK (fun hHeld => ?_)
   clear hK K
   refine Dn ?_
   go_wp2_with fail
   go_meet
   exact ⟨_, _, ⟨(H4.out.put 3 rfl 0 _ rfl).put 3 rfl 2 _ rfl⟩⟩
 case rest =>
  obtain ⟨v1, v2, HC0⟩ := hcut
  have HC1 := Aside0.mk (HC0.out.sh_mix 1 rfl)
  obtain ⟨A3, c3, hv1, hcl3, _⟩ := HC0.out.reads 1 rfl
  obtain ⟨A4, c4, hv2, hcl4, _⟩ := HC0.out.reads 0 rfl
  rw [← HN.out] at hv1 hcl3
  rw [← HM.out] at hv2 hcl4
  subst hv1 hv2
  replace HC1 : Aside0 (Own w.heap.size w wc [.row (shK kL w) 74 (.slice A4 m c4) l, .row (mixK kQ w) 78 (.slice A3 n c3) (mixL 0 q), .blk g2 #[.slice none 0 0, .int .i64 0, .slice none 0 0, .int .u64 0] 73, .blk g1 #[.slice A3 n c3, .int .i64 tk, .slice A4 m c4, .int .u64 nx] 73]) := ⟨by rw [mixL_0]; exact HC1.out⟩
  have e0 : wc.cell? ⟨g1, 0, none⟩ = some (.slice A3 n c3) := HC1.out.cell 3 rfl 0 rfl
  have HQ1 := HQL.out
  have HBC := Aside0.mk (fun (i : Nat) (h : i < q.length) => HQM.out q[i] (List.getElem_mem h))
  go_wp2_with fail
  go_loopw [16] (fun v16 wr => ∃ (i : Nat), i ≤ n ∧ v16 = .int .i64 (i : Int) ∧ Aside0 (Own w.heap.size w wr [.row (shK kL w) 74 (.slice A4 m c4) l, .row (mixK kQ w) 78 (.slice A3 n c3) (mixL i q), .blk g2 #[.slice none 0 0, .int .i64 0, .slice none 0 0, .int .u64 0] 73, .blk g1 #[.slice A3 n c3, .int .i64 tk, .slice A4 m c4, .int .u64 nx] 73])) (fun v16 _ => n - (intOf v16).toNat)
  case atStart => exact ⟨0, Nat.zero_le _, rfl, HC1⟩
  case round =>
   obtain ⟨i, hi, rfl, HI⟩ := hrel
   clear e0 HC1 HC0
   by_cases hlt : i < n
   ·have hdl : decide ((i : Int) < (n : Int)) = true := decide_eq_true (by omega)
    have hwi : IntKind.i64.wrap ((i : Int) + 1) = ((i + 1 : Nat) : Int) := by rw [IntWalk.i64_in _ (by omega)]; omega
    have hib : (0 : Int) ≤ (i : Int) ∧ (i : Int) < (n : Int) := by omega
    have hiq : i < q.length := by rw [← HN.out]; exact hlt
    obtain ⟨g3, cap, he, _⟩ := HI.out.form 1 rfl (by rw [mixL_len]; omega)
    rw [mixL_len, ← HN.out] at he
    injection he with he he2 he3
    subst he he3
    obtain ⟨cs, ⟨_, hK⟩, hcell⟩ := HI.out.cells_at 1 rfl i (mixL_get hiq)
    obtain ⟨Am, cm, rfl, hcm, hCm⟩ := PRF.k78_open (hK rfl)
    have hcell1 : wr.cell? ⟨g3, i * 2 + 1, none⟩ = some (.slice Am q[i].f1.length cm) := hcell 1 _ rfl
    have hk1 : wr.cell? ⟨g1, 0, none⟩ = some (.slice (some ⟨g3, 0, none⟩) n c3) := HI.out.cell 3 rfl 0 rfl
    have HCB := Aside0.mk (fun W (hb : Below w.heap.size w W) => bclone_any q[i].f1 Am cm W (Kd.C_below hCm hb) hcm (HBC.out i hiq))
    clear hK hcell hCm hcm
    generalize hmq : q[i].f1.length = lm at *
    go_wp2_with fail
    refine St (fun W => W.cell? ⟨g1, 0, none⟩ = some (.slice (some ⟨g3, 0, none⟩) n c3)) (fun hHeld => ?_) (by exact hk1)
    refine Tk 0 ?_
    refine Tk 1 ?_
    refine Tk 2 ?_
    refine Tk 3 ?_
    refine Tk 4 ?_
    refine Tk 5 ?_
    refine Tk 6 ?_
    refine Tk 7 ?_
    have HD := Aside0.mk HI.out.drew
    have hcell2 : wr.drew.cell? ⟨g3, i * 2 + 1, none⟩ = some (.slice Am lm cm) := hcell1
    clear HI hcell1
    generalize wr.drew = wd at *
    refine Rd 8 fun K hK => ?_
    refine Rn (.slice Am lm cm) ?_
    refine Ag hK (fun hHeld => ?_)
    clear hK K
    refine Rd 9 fun K hK => ?_
    go_simp
    refine (HCB.out _ HD.out.below).mono ?_
    rintro e w5 ⟨v5, rfl, hO5⟩
    obtain ⟨A5, c5, rfl, hcl5, _⟩ := hO5.reads 0 rfl
    have H5 := Aside0.mk ((HD.out.call hO5).bring 2 rfl)
    rw [hmq] at H5
    clear hO5
    have hk5 : w5.cell? ⟨g1, 0, none⟩ = some (.slice (some ⟨g3, 0, none⟩) n c3) := H5.out.cell 4 rfl 0 rfl
    have HP := Aside0.mk (Own.put1 (d := mixK kQ w) H5.out i hlt 1 (by show 1 < 2; decide) (u := .slice A5 lm c5) (x := (true, q[i])) (mixL_get hiq) (fun W W1 ok cs hcs hr => ⟨fun _ => by
     obtain ⟨Az, cz, hz, _, _⟩ := PRF.k78_open (hcs.2 rfl)
     rw [hz]
     exact PRF.k78_mkM W1 0 ok q[i] hr, fun h => by cases h⟩))
    obtain ⟨hth1, hth2⟩ := H5.out.there_row (d := mixK kQ w) 0 rfl i hlt 1 (by show 1 < 2; decide)
    obtain ⟨vold, hth1⟩ := Option.isSome_iff_exists.1 hth1
    replace hth1 : w5.cell? ⟨g3, i * 2 + 1, none⟩ = some vold := hth1
    replace hth2 : w5.frozen? ⟨g3, i * 2 + 1, none⟩ = false := hth2
    replace HP := Aside0.mk (HP.out.bring 1 rfl)
    rw [mixL_set hiq] at HP
    have hk6 : (w5.setCell ⟨g3, i * 2 + 1, none⟩ (.slice A5 lm c5)).cell? ⟨g1, 0, none⟩ = some (.slice (some ⟨g3, 0, none⟩) n c3) := HP.out.cell 3 rfl 0 rfl
    clear H5 HD
    go_wp2_with fail
    refine Ag hK (fun hHeld => ?_) (by exact hk5)
    clear hK K
    refine Tk 10 ?_
    refine Tk 11 ?_
    refine Rd 12 fun K hK => ?_
    go_simp
    refine Ag hK (fun hHeld => ?_) (by exact hk6)
    clear hK K
    refine Dn ?_
    clear hk5 hk6 hth1 hth2 hHeld hcell2 hk1
    replace HP : Aside0 (Own w.heap.size w (w5.setCell ⟨g3, i * 2 + 1, none⟩ (.slice A5 lm c5)) [.row (shK kL w) 74 (.slice A4 m c4) l, .row (mixK kQ w) 78 (.slice (some ⟨g3, 0, none⟩) n c3) (mixL (i + 1) q), .blk g2 #[.slice none 0 0, .int .i64 0, .slice none 0 0, .int .u64 0] 73, .blk g1 #[.slice (some ⟨g3, 0, none⟩) n c3, .int .i64 tk, .slice A4 m c4, .int .u64 nx] 73]) := ⟨HP.out⟩
    generalize w5.setCell ⟨g3, i * 2 + 1, none⟩ (.slice A5 lm c5) = w6 at *
    go_wp2_with fail
    go_roundw
    case rel => exact ⟨i + 1, hlt, rfl, HP⟩
    case measure => simp [intOf]; omega
   ·have hdl : decide ((i : Int) < (n : Int)) = false := decide_eq_false (by omega)
    obtain rfl : n = i := by omega
    have HE := Aside0.mk ((show Own w.heap.size w wr [.row (shK kL w) 74 (.slice A4 m c4) l, .row (mixK kQ w) 78 (.slice A3 n c3) (q.map fun x => (true, x)), .blk g2 #[.slice none 0 0, .int .i64 0, .slice none 0 0, .int .u64 0] 73, .blk g1 #[.slice A3 n c3, .int .i64 tk, .slice A4 m c4, .int .u64 nx] 73] from by rw [← mixL_all, ← HN.out]; exact HI.out).mix_own 1 rfl)
    replace HE := Aside0.mk (HE.out.sh_mix 0 rfl)
    have HE1 : Aside0 (Own w.heap.size w wr [.row (mixK kL w) 74 (.slice A4 m c4) (mixL 0 l), .row kQ 78 (.slice A3 n c3) q, .blk g2 #[.slice none 0 0, .int .i64 0, .slice none 0 0, .int .u64 0] 73, .blk g1 #[.slice A3 n c3, .int .i64 tk, .slice A4 m c4, .int .u64 nx] 73]) := ⟨by rw [mixL_0]; exact HE.out⟩
    clear HE HI HBC
    have e2 : wr.cell? ⟨g1, 2, none⟩ = some (.slice A4 m c4) := HE1.out.cell 3 rfl 2 rfl
    have HL1 := HLL.out
    have HBC := Aside0.mk (fun (i : Nat) (h : i < l.length) => HLM.out l[i] (List.getElem_mem h))
    go_wp2_with fail
    go_loopw [35] (fun v35 wr => ∃ (i : Nat), i ≤ m ∧ v35 = .int .i64 (i : Int) ∧ Aside0 (Own w.heap.size w wr [.row (mixK kL w) 74 (.slice A4 m c4) (mixL i l), .row kQ 78 (.slice A3 n c3) q, .blk g2 #[.slice none 0 0, .int .i64 0, .slice none 0 0, .int .u64 0] 73, .blk g1 #[.slice A3 n c3, .int .i64 tk, .slice A4 m c4, .int .u64 nx] 73])) (fun v35 _ => m - (intOf v35).toNat)
    case atStart => exact ⟨0, Nat.zero_le _, rfl, HE1⟩
    case round =>
     obtain ⟨i, hi, rfl, HI⟩ := hrel
     clear e2 HE1
     by_cases hlt : i < m
     ·have hdl : decide ((i : Int) < (m : Int)) = true := decide_eq_true (by omega)
      have hwi : IntKind.i64.wrap ((i : Int) + 1) = ((i + 1 : Nat) : Int) := by rw [IntWalk.i64_in _ (by omega)]; omega
      have hib : (0 : Int) ≤ (i : Int) ∧ (i : Int) < (m : Int) := by omega
      have hiq : i < l.length := by rw [← HM.out]; exact hlt
      obtain ⟨g3, cap, he, _⟩ := HI.out.form 0 rfl (by rw [mixL_len]; omega)
      rw [mixL_len, ← HM.out] at he
      injection he with he he2 he3
      subst he he3
      obtain ⟨cs, ⟨_, hK⟩, hcell⟩ := HI.out.cells_at 0 rfl i (mixL_get hiq)
      obtain ⟨Am, cm, rfl, hcm, hCm⟩ := hK rfl
      have hcell1 : wr.cell? ⟨g3, i, none⟩ = some (.slice Am l[i].length cm) := by
       have h1 : wr.cell? ⟨g3, i * 1 + 0, none⟩ = some (.slice Am l[i].length cm) := hcell 0 _ rfl
       rwa [Nat.mul_one] at h1
      have hk1 : wr.cell? ⟨g1, 2, none⟩ = some (.slice (some ⟨g3, 0, none⟩) m c4) := HI.out.cell 3 rfl 2 rfl
      have HCB := Aside0.mk (fun W (hb : Below w.heap.size w W) => bclone_any l[i] Am cm W (Kd.C_below hCm hb) hcm (HBC.out i hiq))
      clear hK hcell hCm hcm
      generalize hmq : l[i].length = lm at *
      go_wp2_with fail
      refine St (fun W => W.cell? ⟨g1, 2, none⟩ = some (.slice (some ⟨g3, 0, none⟩) m c4)) (fun hHeld => ?_) (by exact hk1)
      refine Tk 0 ?_
      refine Tk 1 ?_
      refine Tk 2 ?_
      refine Tk 3 ?_
      refine Tk 4 ?_
      refine Tk 5 ?_
      refine Tk 6 ?_
      have HD := Aside0.mk HI.out.drew
      have hcell2 : wr.drew.cell? ⟨g3, i, none⟩ = some (.slice Am lm cm) := hcell1
      clear HI hcell1
      generalize wr.drew = wd at *
      refine Rd 7 fun K hK => ?_
      refine Rn (.slice Am lm cm) ?_
      refine Ag hK (fun hHeld => ?_)
      clear hK K
      refine Rd 8 fun K hK => ?_
      go_simp
      refine (HCB.out _ HD.out.below).mono ?_
      rintro e w5 ⟨v5, rfl, hO5⟩
      obtain ⟨A5, c5, rfl, hcl5, _⟩ := hO5.reads 0 rfl
      have H5 := Aside0.mk ((HD.out.call hO5).bring 1 rfl)
      rw [hmq] at H5
      clear hO5
      have hk5 : w5.cell? ⟨g1, 2, none⟩ = some (.slice (some ⟨g3, 0, none⟩) m c4) := H5.out.cell 4 rfl 2 rfl
      have HP := Aside0.mk (Own.put1 (d := mixK kL w) H5.out i hlt 0 (by show 0 < 1; decide) (u := .slice A5 lm c5) (x := (true, l[i])) (mixL_get hiq) (fun W W1 ok cs hcs hr => ⟨fun _ => by
       obtain ⟨Az, cz, hz, _, _⟩ := hcs.2 rfl
       rw [hz]
       exact ⟨_, rfl, hr⟩, fun h => by cases h⟩))
      obtain ⟨hth1, hth2⟩ := H5.out.there_row (d := mixK kL w) 0 rfl i hlt 0 (by show 0 < 1; decide)
      obtain ⟨vold, hth1⟩ := Option.isSome_iff_exists.1 hth1
      have ez : i * (mixK kL w).sz + 0 = i := Nat.mul_one i
      rw [ez] at HP hth1 hth2
      rw [mixL_set hiq] at HP
      have hk6 : (w5.setCell ⟨g3, i, none⟩ (.slice A5 lm c5)).cell? ⟨g1, 2, none⟩ = some (.slice (some ⟨g3, 0, none⟩) m c4) := HP.out.cell 3 rfl 2 rfl
      clear H5 HD
      go_wp2_with fail
      refine Ag hK (fun hHeld => ?_) (by exact hk5)
      clear hK K
      refine Tk 9 ?_
      refine Rd 10 fun K hK => ?_
      go_simp
      refine Ag hK (fun hHeld => ?_) (by exact hk6)
      clear hK K
      refine Dn ?_
      clear hk5 hk6 hth1 hth2 hHeld hcell2 hk1
      replace HP : Aside0 (Own w.heap.size w (w5.setCell ⟨g3, i, none⟩ (.slice A5 lm c5)) [.row (mixK kL w) 74 (.slice (some ⟨g3, 0, none⟩) m c4) (mixL (i + 1) l), .row kQ 78 (.slice A3 n c3) q, .blk g2 #[.slice none 0 0, .int .i64 0, .slice none 0 0, .int .u64 0] 73, .blk g1 #[.slice A3 n c3, .int .i64 tk, .slice (some ⟨g3, 0, none⟩) m c4, .int .u64 nx] 73]) := ⟨HP.out⟩
      generalize w5.setCell ⟨g3, i, none⟩ (.slice A5 lm c5) = w6 at *
      go_wp2_with fail
      go_roundw
      case rel => exact ⟨i + 1, hlt, rfl, HP⟩
      case measure => simp [intOf]; omega
     ·have hdl : decide ((i : Int) < (m : Int)) = false := decide_eq_false (by omega)
      obtain rfl : m = i := by omega
      have HF := Aside0.mk ((show Own w.heap.size w wr [.row (mixK kL w) 74 (.slice A4 m c4) (l.map fun x => (true, x)), .row kQ 78 (.slice A3 n c3) q, .blk g2 #[.slice none 0 0, .int .i64 0, .slice none 0 0, .int .u64 0] 73, .blk g1 #[.slice A3 n c3, .int .i64 tk, .slice A4 m c4, .int .u64 nx] 73] from by rw [← mixL_all, ← HM.out]; exact HI.out).mix_own 0 rfl)
      have HA1 : Aside0 (Arr 4 #[.slice A3 n c3, .int .i64 tk, .slice A4 m c4, .int .u64 nx]) := ⟨rfl, by simp [Value.oneCell']⟩
      have HA0 : Aside0 (Arr 4 #[.slice none 0 0, .int .i64 0, .slice none 0 0, .int .u64 0]) := ⟨rfl, by simp [Value.oneCell']⟩
      clear HI
      go_wp2_with (first
       | fail
       | ((with_reducible refine gate_dst (N := 49) rfl ?_); refine own_loadV HF.out 3 g1 _ 73 rfl rfl (.tmp 1) rfl _ rfl Try.underlying73 rfl (by kernel_rfl) ?_)
       | ((with_reducible refine Gs 73 2 ?_); refine OS 2 49 HF 2 g2 73 #[.slice A3 n c3, .int .i64 tk, .slice A4 m c4, .int .u64 nx] 4 HA0 HA1 ?_; intro w7 HG)
       )
      refine bodyPost_ret (own_resultV rfl _ HG.out 2 g2 _ rfl rfl _ Try.underlying73 rfl (by kernel_rfl)) rfl ?_
      exact ⟨_, _, rfl, ((HG.out.bring 1 rfl).erase 2).erase 2⟩
theorem short_any (m : List Int) (A : Option Addr) (c : Nat) (w : World) (hC : Kd.C kB w A m.length m) (hc : m.length ≤ c) :
 Calls Try.prog 82 #[.slice A m.length c] w fun e w' => e = .returned (.bool (decide (m.length ≤ 65536))) ∧ Below w.heap.size w w' := by
 refine (PRF.inbox_short.calls A c m (decide (m.length ≤ 65536)) w hC hc ?_).mono ?_
 ·rw [PRF.inbox_short.f]; congr 1; apply decide_eq_decide.2; omega
 ·rintro e w' ⟨rfl, h⟩
  exact ⟨rfl, h.below⟩
theorem long_any (m : List Int) (A : Option Addr) (c : Nat) (w : World) (hC : Kd.C kB w A m.length m) (hc : m.length ≤ c) :
 Calls Try.prog 112 #[.slice A m.length c] w fun e w' => e = .returned (.bool (!decide (m.length ≤ 65536))) ∧ Below w.heap.size w w' := by
 have HS := Aside0.mk (fun W hb => short_any m A c W (Kd.C_below hC hb) hc)
 have H0 := Aside0.mk (Below.refl w.heap.size w)
 clear hC
 generalize decide (m.length ≤ 65536) = b at *
 generalize m.length = n at *
 go_enter Try.func112, Try.ntmps112
 go_wp2_with (go_at_call 82; refine (HS.out _ (Below.refl _ _)).mono ?_; rintro e w1 ⟨rfl, hB⟩)
 go_ret
 exact ⟨rfl, hB⟩
def longP (l : List (List Int)) : Bool := l.any fun m => !decide (m.length ≤ 65536)
theorem index_any (l : List (List Int)) (A : Option Addr) (c : Nat) (w : World) (hC : Kd.C kL w A l.length l) (hc : l.length ≤ c) (hl : l.length ≤ 1000000) :
 Calls Try.prog 149 #[.slice A l.length c, .func (.func 112) #[] #[]] w fun e w' => ∃ k : Int, e = .returned (.int .i64 k) ∧ (decide (0 ≤ k) = longP l) ∧ Below w.heap.size w w' := by
 have HC := Aside0.mk hC
 have H0 := Aside0.mk (Below.refl w.heap.size w)
 obtain ⟨n, hn⟩ : ∃ n, n = l.length := ⟨_, rfl⟩
 rw [← hn] at HC hc hl ⊢
 have HN := Aside0.mk hn
 clear hC hn
 go_enter Try.func149, Try.ntmps149
 go_wp2_with fail
 go_loopw [8] (fun v8 wr => ∃ (i : Nat), i ≤ n ∧ v8 = .int .i64 (i : Int) ∧ Aside0 (Below w.heap.size w wr) ∧ Aside0 (longP (l.take i) = false)) (fun v8 _ => n - (intOf v8).toNat)
 case atStart => exact ⟨0, Nat.zero_le _, rfl, H0, ⟨rfl⟩⟩
 case round =>
  obtain ⟨i, hi, rfl, HB, HS⟩ := hrel
  by_cases hlt : i < n
  ·have hdl : decide ((i : Int) < (n : Int)) = true := decide_eq_true (by omega)
   have hwi : IntKind.i64.wrap ((i : Int) + 1) = ((i + 1 : Nat) : Int) := by rw [IntWalk.i64_in _ (by omega)]; omega
   have hib : (0 : Int) ≤ (i : Int) ∧ (i : Int) < (n : Int) := by omega
   have hiq : i < l.length := by rw [← HN.out]; exact hlt
   obtain ⟨ad, A0, c0, rfl, hcell, hc0, hC0⟩ := PRF.at_L2 (Kd.C_below HC.out HB.out) (i : Int) hib.1 hib.2
   have hrd : PRF.rd_L2 l (i : Int) = l[i] := by simp [PRF.rd_L2, List.getD_eq_getElem?_getD, hiq]
   rw [hrd, Int.toNat_natCast] at hcell
   rw [hrd] at hC0 hc0
   have HLG := Aside0.mk (long_any l[i] A0 c0 wr hC0 hc0)
   have HTK : Aside0 (longP (l.take (i + 1)) = !decide (l[i].length ≤ 65536)) := ⟨by
    rw [List.take_succ_eq_append_getElem hiq]
    have := HS.out
    unfold longP at this ⊢
    rw [List.any_append, this]; simp⟩
   clear hC0 hc0 hrd
   generalize hb : decide (l[i].length ≤ 65536) = b at *
   generalize l[i].length = ln at *
   cases b
   ·go_wp2_with (go_at_call 112; refine HLG.out.mono ?_; rintro e w1 ⟨rfl, hB⟩; replace hB := Aside0.mk hB)
    go_ret
    refine ⟨_, rfl, ?_, below_step HB.out hB.out⟩
    rw [decide_eq_true (by omega)]
    have h1 := HTK.out
    have h2 : longP (l.take (i + 1) ++ l.drop (i + 1)) = true := by
     unfold longP at h1 ⊢
     rw [List.any_append, h1]; rfl
    rw [List.take_append_drop] at h2
    exact h2.symm
   ·go_wp2_with (go_at_call 112; refine HLG.out.mono ?_; rintro e w1 ⟨rfl, hB⟩; replace hB := Aside0.mk hB)
    go_roundw
    case rel => exact ⟨i + 1, hlt, rfl, ⟨below_step HB.out hB.out⟩, HTK⟩
    case measure => simp [intOf]; omega
  ·have hdl : decide ((i : Int) < (n : Int)) = false := decide_eq_false (by omega)
   obtain rfl : n = i := by omega
   go_wp2_with fail
   go_ret
   refine ⟨_, rfl, ?_, HB.out⟩
   have h1 := HS.out
   rw [List.take_of_length_le (by rw [HN.out]; exact Nat.le_refl _)] at h1
   rw [h1]; rfl
theorem contains_any (l : List (List Int)) (A : Option Addr) (c : Nat) (w : World) (hC : Kd.C kL w A l.length l) (hc : l.length ≤ c) (hl : l.length ≤ 1000000) :
 Calls Try.prog 111 #[.slice A l.length c, .func (.func 112) #[] #[]] w fun e w' => e = .returned (.bool (longP l)) ∧ Below w.heap.size w w' := by
 have HS := Aside0.mk (index_any l A c w hC hc hl)
 clear hC
 generalize longP l = b at *
 generalize l.length = n at *
 go_enter Try.func111, Try.ntmps111
 go_wp2_with (go_at_call 149; refine HS.out.mono ?_; rintro e w1 ⟨k, rfl, hk, hB⟩)
 go_ret
 exact ⟨by simp [hk], hB⟩
abbrev SQ := PRF.S78
def riseP : Int → List SQ → Bool
 | _, [] => true
 | last, d :: r => decide (last ≤ d.f0) && decide (d.f1.length ≤ 65536) && riseP d.f0 r
def mayI (q : List SQ) (tk : Int) (l : List (List Int)) : Bool :=
 decide (q.length ≤ 4096) && decide (l.length ≤ 4096) && decide (0 ≤ tk) && decide (tk ≤ q.length) && riseP 0 q && !longP l
theorem imay_any (q : List SQ) (tk : Int) (l : List (List Int)) (nx : Int) (A1 A2 : Option Addr) (c1 c2 : Nat) (w : World) (hC1 : Kd.C kQ w A1 q.length q) (hc1 : q.length ≤ c1) (hC2 : Kd.C kL w A2 l.length l) (hc2 : l.length ≤ c2) :
 Calls Try.prog 57 #[.agg #[.slice A1 q.length c1, .int .i64 tk, .slice A2 l.length c2, .int .u64 nx]] w fun e w' => e = .returned (.bool (mayI q tk l)) ∧ Below w.heap.size w w' := by
 have H0 := Aside0.mk (Own.start w)
 have HCQ := Aside0.mk hC1
 have HCL := Aside0.mk (fun W (hb : Below w.heap.size w W) (h : l.length ≤ 1000000) => contains_any l A2 c2 W (Kd.C_below hC2 hb) hc2 h)
 clear hC1 hC2 hc2
 obtain ⟨r, hr⟩ : ∃ r, r = mayI q tk l := ⟨_, rfl⟩
 rw [← hr]
 have HR := Aside0.mk hr
 clear hr
 obtain ⟨n, hn⟩ : ∃ n, n = q.length := ⟨_, rfl⟩
 obtain ⟨m, hm⟩ : ∃ m, m = l.length := ⟨_, rfl⟩
 have HM := Aside0.mk hm
 have HN := Aside0.mk hn
 rw [← hn] at hc1 HCQ ⊢
 rw [← hm] at HCL ⊢
 clear hn hm
 go_enter Try.func57, Try.ntmps57
 go_upto_region 1 with (first
  | fail
  | ((with_reducible refine Gd 1 ?_); refine OB H0 73 #[.slice A1 n c1, .int .i64 tk, .slice A2 m c2, .int .u64 nx] ?_; intro g1 w1 H1 B1)
  )
 replace H1 : Aside0 (Own w.heap.size w w1 [.blk g1 #[.slice A1 n c1, .int .i64 tk, .slice A2 m c2, .int .u64 nx] 73]) := ⟨H1.out⟩
 have k0 : w1.cell? ⟨g1, 0, none⟩ = some (.slice A1 n c1) := H1.out.cell 0 rfl 0 rfl
 have k1 : w1.cell? ⟨g1, 1, none⟩ = some (.int .i64 tk) := H1.out.cell 0 rfl 1 rfl
 have k2 : w1.cell? ⟨g1, 2, none⟩ = some (.slice A2 m c2) := H1.out.cell 0 rfl 2 rfl
 by_cases h1 : n ≤ 4096
 case neg =>
  have hd1 : decide (4096 < (n : Int)) = true := decide_eq_true (by omega)
  have hrf : r = false := by rw [HR.out, mayI, decide_eq_false (by rw [← HN.out]; exact h1)]; rfl
  subst hrf
  go_wp2_with fail
  go_ret
  exact ⟨rfl, H1.out.below⟩
 have hd1 : decide (4096 < (n : Int)) = false := decide_eq_false (by omega)
 by_cases h2 : m ≤ 4096
 case neg =>
  have hd2 : decide (4096 < (m : Int)) = true := decide_eq_true (by omega)
  have hrf : r = false := by rw [HR.out, mayI, decide_eq_false (p := l.length ≤ 4096) (by rw [← HM.out]; exact h2)]; simp
  subst hrf
  go_wp2_with fail
  go_ret
  exact ⟨rfl, H1.out.below⟩
 have hd2 : decide (4096 < (m : Int)) = false := decide_eq_false (by omega)
 by_cases h3 : 0 ≤ tk
 case neg =>
  have hd3 : decide (tk < 0) = true := decide_eq_true (by omega)
  have hrf : r = false := by rw [HR.out, mayI, decide_eq_false h3]; simp
  subst hrf
  go_wp2_with fail
  go_ret
  exact ⟨rfl, H1.out.below⟩
 have hd3 : decide (tk < 0) = false := decide_eq_false (by omega)
 by_cases h4 : tk ≤ (n : Int)
 case neg =>
  have hd4 : decide ((n : Int) < tk) = true := decide_eq_true (by omega)
  have hrf : r = false := by rw [HR.out, mayI, decide_eq_false (p := tk ≤ (q.length : Int)) (by rw [← HN.out]; exact h4)]; simp
  subst hrf
  go_wp2_with fail
  go_ret
  exact ⟨rfl, H1.out.below⟩
 have hd4 : decide ((n : Int) < tk) = false := decide_eq_false (by omega)
 have hrt : r = (riseP 0 q && !longP l) := by rw [HR.out, mayI, decide_eq_true (by rw [← HN.out]; exact h1), decide_eq_true (p := l.length ≤ 4096) (by rw [← HM.out]; exact h2), decide_eq_true h3, decide_eq_true (p := tk ≤ (q.length : Int)) (by rw [← HN.out]; exact h4)]; simp
 replace HR := Aside0.mk hrt
 clear hrt
 have HCL2 := Aside0.mk (fun W hb => HCL.out W hb (by omega))
 clear HCL
 go_wp2_with fail
 go_loopw [3, 32] (fun v3 v32 wr => ∃ (i : Nat) (last : Int), i ≤ n ∧ v3 = .int .i64 last ∧ v32 = .int .i64 (i : Int) ∧ Aside0 (riseP 0 q = riseP last (q.drop i)) ∧ Aside0 (Own w.heap.size w wr [.blk g1 #[.slice A1 n c1, .int .i64 tk, .slice A2 m c2, .int .u64 nx] 73])) (fun _ v32 _ => n - (intOf v32).toNat)
 case atStart => exact ⟨0, 0, Nat.zero_le _, rfl, rfl, ⟨rfl⟩, H1⟩
 case round =>
  clear k0 k1 k2 H1 H0
  obtain ⟨i, last, hi, rfl, rfl, HS, HI⟩ := hrel
  by_cases hlt : i < n
  ·have hdl : decide ((i : Int) < (n : Int)) = true := decide_eq_true (by omega)
   have hwi : IntKind.i64.wrap ((i : Int) + 1) = ((i + 1 : Nat) : Int) := by rw [IntWalk.i64_in _ (by omega)]; omega
   have hib : (0 : Int) ≤ (i : Int) ∧ (i : Int) < (n : Int) := by omega
   have hiq : i < q.length := by rw [← HN.out]; exact hlt
   obtain ⟨ad, A0, c0, rfl, hcA, hcB, hc0, hC0⟩ := PRF.at_T78 (Kd.C_below HCQ.out HI.out.below) (i : Int) hib.1 hib.2
   have hrd : PRF.rd_T78 q (i : Int) = q[i] := by simp [PRF.rd_T78, List.getD_eq_getElem?_getD, hiq]
   rw [hrd, Int.toNat_natCast] at hcA hcB
   rw [hrd] at hC0 hc0
   have HSH := Aside0.mk (fun W hb => short_any q[i].f1 A0 c0 W (Kd.C_below hC0 hb) hc0)
   have HST : Aside0 (riseP 0 q = (decide (last ≤ q[i].f0) && decide (q[i].f1.length ≤ 65536) && riseP q[i].f0 (q.drop (i + 1)))) := ⟨by rw [HS.out, List.drop_eq_getElem_cons hiq]; rfl⟩
   clear hC0 hc0 hrd HS
   generalize q[i].f0 = b at *
   generalize hll : decide (q[i].f1.length ≤ 65536) = sh at *
   generalize q[i].f1.length = ln at *
   by_cases hb : last ≤ b
   case neg =>
    have hd5 : decide (b < last) = true := decide_eq_true (by omega)
    have hrf : r = false := by rw [HR.out, HST.out, decide_eq_false hb]; rfl
    subst hrf
    go_wp2_with fail
    go_ret
    exact ⟨rfl, (HI.out.alloc _).below⟩
   have hd5 : decide (b < last) = false := decide_eq_false (by omega)
   rw [decide_eq_true hb, Bool.true_and] at HST
   have HNW := Aside0.mk (HI.out.new #[.int .i64 b, .slice A0 ln c0] 78)
   cases sh
   ·have hrf : r = false := by rw [HR.out, HST.out]; rfl
    subst hrf
    go_wp2_with (go_at_call 82; refine (HSH.out _ (below_alloc (Below.refl _ _) _)).mono ?_; rintro e w5 ⟨rfl, hB5⟩; replace hB5 := Aside0.mk hB5)
    go_ret
    exact ⟨rfl, (HNW.out.step hB5.out).below⟩
   ·rw [Bool.true_and] at HST
    go_wp2_with (go_at_call 82; refine (HSH.out _ (below_alloc (Below.refl _ _) _)).mono ?_; rintro e w5 ⟨rfl, hB5⟩; have H5 := Aside0.mk (HNW.out.step hB5); have kb : w5.cell? ⟨wr.heap.size, 0, none⟩ = some (.int .i64 b) := H5.out.cell 0 rfl 0 rfl; clear hB5)
    go_roundw
    case rel => exact ⟨i + 1, b, hlt, rfl, rfl, HST, ⟨H5.out.erase 0⟩⟩
    case measure => simp [intOf]; omega
  ·have hdl : decide ((i : Int) < (n : Int)) = false := decide_eq_false (by omega)
   obtain rfl : n = i := by omega
   have hrt : r = !longP l := by
    have h := HS.out
    rw [List.drop_of_length_le (by rw [HN.out]; exact Nat.le_refl _)] at h
    rw [HR.out, h]
    rfl
   clear HS HR
   subst hrt
   have k2 : wr.cell? ⟨g1, 2, none⟩ = some (.slice A2 m c2) := HI.out.cell 0 rfl 2 rfl
   go_wp2_with (go_at_call 111; refine (HCL2.out _ HI.out.below).mono ?_; rintro e w6 ⟨rfl, hB6⟩; replace hB6 := Aside0.mk hB6)
   go_ret
   exact ⟨rfl, (HI.out.step hB6.out).below⟩
def lastB (q : List SQ) : Int := (PRF.rd_T78 q ((q.length : Int) - 1)).f0
def sinceI (q : List SQ) (tk : Int) (l : List (List Int)) (block : Int) : Bool := mayI q tk l && decide (0 ≤ block) && (decide (q.length = 0) || decide (lastB q ≤ block))
theorem mayI_len {q : List SQ} {tk : Int} {l : List (List Int)} (h : mayI q tk l = true) : q.length ≤ 4096 ∧ l.length ≤ 4096 ∧ 0 ≤ tk ∧ tk ≤ q.length := by
 unfold mayI at h
 simp only [Bool.and_eq_true, decide_eq_true_eq] at h
 omega
theorem since_any (q : List SQ) (tk : Int) (l : List (List Int)) (nx block : Int) (A1 A2 : Option Addr) (c1 c2 : Nat) (w : World) (hC1 : Kd.C kQ w A1 q.length q) (hc1 : q.length ≤ c1) (hC2 : Kd.C kL w A2 l.length l) (hc2 : l.length ≤ c2) :
 Calls Try.prog 81 #[.agg #[.slice A1 q.length c1, .int .i64 tk, .slice A2 l.length c2, .int .u64 nx], .int .i64 block] w fun e w' => e = .returned (.bool (sinceI q tk l block)) ∧ Below w.heap.size w w' := by
 have H0 := Aside0.mk (Own.start w)
 have HCQ := Aside0.mk hC1
 have HMY := Aside0.mk (fun W hb => imay_any q tk l nx A1 A2 c1 c2 W (Kd.C_below hC1 hb) hc1 (Kd.C_below hC2 hb) hc2)
 have HLN := Aside0.mk (fun h : mayI q tk l = true => (mayI_len h).1)
 obtain ⟨r, hr⟩ : ∃ r, r = sinceI q tk l block := ⟨_, rfl⟩
 rw [← hr]
 unfold sinceI at hr
 have hlb : ∀ h : 0 < q.length, ∃ ad, A1 = some ad ∧ w.cell? (ad.add ((q.length - 1) * 2)) = some (.int .i64 (lastB q)) := by
  intro h
  obtain ⟨ad, A0, c0, rfl, hcA, hcB, _, _⟩ := PRF.at_T78 hC1 ((q.length : Int) - 1) (by omega) (by omega)
  refine ⟨ad, rfl, ?_⟩
  rw [show ((q.length : Int) - 1).toNat = q.length - 1 by omega] at hcA
  exact hcA
 generalize lastB q = lb at *
 generalize mayI q tk l = my at *
 clear hC1 hC2 hc2
 generalize hn : q.length = n at *
 generalize l.length = m at *
 go_enter Try.func81, Try.ntmps81
 go_upto_region 1 with (first
  | fail
  | ((with_reducible refine Gd 2 ?_); refine OB H0 73 #[.slice A1 n c1, .int .i64 tk, .slice A2 m c2, .int .u64 nx] ?_; intro g1 w1 H1 B1)
  )
 replace H1 : Aside0 (Own w.heap.size w w1 [.blk g1 #[.slice A1 n c1, .int .i64 tk, .slice A2 m c2, .int .u64 nx] 73]) := ⟨H1.out⟩
 have k0 : w1.cell? ⟨g1, 0, none⟩ = some (.slice A1 n c1) ∧ w1.cell? ⟨g1, 1, none⟩ = some (.int .i64 tk) ∧ w1.cell? ⟨g1, 2, none⟩ = some (.slice A2 m c2) ∧ w1.cell? ⟨g1, 3, none⟩ = some (.int .u64 nx) := ⟨H1.out.cell 0 rfl 0 rfl, H1.out.cell 0 rfl 1 rfl, H1.out.cell 0 rfl 2 rfl, H1.out.cell 0 rfl 3 rfl⟩
 cases my
 ·obtain rfl : r = false := by rw [hr]; rfl
  clear hr hlb HLN
  go_wp2_with (go_at_call 57; refine (HMY.out _ H1.out.below).mono ?_; rintro e w3 ⟨rfl, hB3⟩; have H3 := Aside0.mk (H1.out.step hB3); have k3 : w3.cell? ⟨g1, 0, none⟩ = some (.slice A1 n c1) := H3.out.cell 0 rfl 0 rfl; clear hB3)
  go_ret
  exact ⟨rfl, H3.out.below⟩
 have hn4 := HLN.out rfl
 rw [Bool.true_and] at hr
 by_cases hb : 0 ≤ block
 case neg =>
  obtain rfl : r = false := by rw [hr, decide_eq_false hb]; rfl
  clear hr hlb HLN
  have hd1 : decide (0 ≤ block) = false := decide_eq_false hb
  go_wp2_with (go_at_call 57; refine (HMY.out _ H1.out.below).mono ?_; rintro e w3 ⟨rfl, hB3⟩; have H3 := Aside0.mk (H1.out.step hB3); have k3 : w3.cell? ⟨g1, 0, none⟩ = some (.slice A1 n c1) := H3.out.cell 0 rfl 0 rfl; clear hB3)
  go_ret
  exact ⟨rfl, H3.out.below⟩
 have hd1 : decide (0 ≤ block) = true := decide_eq_true hb
 rw [hd1, Bool.true_and] at hr
 by_cases hz : n = 0
 ·subst hz
  obtain rfl : r = true := by rw [hr]; rfl
  clear hlb hr HLN
  go_wp2_with (go_at_call 57; refine (HMY.out _ H1.out.below).mono ?_; rintro e w3 ⟨rfl, hB3⟩; have H3 := Aside0.mk (H1.out.step hB3); have k3 : w3.cell? ⟨g1, 0, none⟩ = some (.slice A1 0 c1) := H3.out.cell 0 rfl 0 rfl; clear hB3)
  go_ret
  exact ⟨rfl, H3.out.below⟩
 ·obtain ⟨ad, rfl, hcA⟩ := hlb (by omega)
  rw [decide_eq_false hz, Bool.false_or] at hr
  have HCA := Aside0.mk (fun W (hb : Below w.heap.size w W) => pw_cell_below hb hcA)
  have hdz : ((n : Int) == 0) = false := by rw [beq_eq_false_iff_ne]; omega
  have hwn : IntKind.i64.wrap ((n : Int) - 1) = ((n - 1 : Nat) : Int) := by rw [IntWalk.i64_in _ (by omega)]; omega
  have hib : (0 : Int) ≤ ((n - 1 : Nat) : Int) ∧ ((n - 1 : Nat) : Int) < (n : Int) := by omega
  clear hlb hcA
  subst hr
  go_wp2_with (go_at_call 57; refine (HMY.out _ H1.out.below).mono ?_; rintro e w3 ⟨rfl, hB3⟩; have H3 := Aside0.mk (H1.out.step hB3); have k3 : w3.cell? ⟨g1, 0, none⟩ = some (.slice (some ad) n c1) := H3.out.cell 0 rfl 0 rfl; have k4 := HCA.out _ H3.out.below; clear hB3)
  go_ret
  exact ⟨rfl, H3.out.below⟩
section
variable {P : Program} {ops : Array Oper} {rest : List Oper} {o : Oper} {a : Act} {Q : Exit → Act → World → Prop} {Kc : Act → World → Prop} {B : Nat} {w0 W : World} {L : List Item} {α β : Type}
theorem own_appendM_step (d : Kd α) (d2 : Kd β) {e e2 : Nat} {v v2 : Value} {xs : List α} {ys : List β} (H : Own B w0 W (.row d e v xs :: .row d2 e2 v2 ys :: L)) (hw : Region.wanted o (yielded ops a.tmps) = true) (s x : Operand) (t : TypeId) (z : Value) (bytes : Nat)
 (ho : o.op = .call { callee := .builtin .append, args := #[s, x], argTypes := #[t, t] })
 (ht : P.underlying t = some (.slice e)) (hinfo : (P.info? e).map (fun i => (i.zero, i.size, i.bytes)) = some (some z, d.sz, bytes)) (hz : z.cells.size = d.sz) (hs0 : 0 < d.sz) (hb0 : 0 < bytes)
 (p : α) (cs : List Value) (hs : a.eval s = v) (hx : a.eval x = .slice (some ⟨W.heap.size, 0, none⟩) 1 1) (hM : ∀ (W : World) (ok : Nat → Prop), d2.R e2 W 0 ok v2 ys → d.M W 0 ok p cs) (hl : (xs.length + 1) * bytes ≤ 140737488355328)
 (h : ∀ v1 w1, Own B w0 w1 (.row d e v1 (xs ++ [p]) :: L) → Kc (a.put o.dst v1) w1) :
 if Region.wanted o (yielded ops a.tmps) = true then Oper.wp P o a (W.alloc (.cells cs.toArray e)) Kc Q else Kc (a.put o.dst undef) (W.alloc (.cells cs.toArray e)) := by
 obtain ⟨S, hS, ⟨S1, S2, c1, c2, c3, hR, hR2⟩, hch⟩ := H.join.focus 0 rfl
 have hR : Kd.R d e W 0 S1 v xs := hR
 have hR2 : Kd.R d2 e2 W 0 S2 v2 ys := hR2
 refine Kd.R_append_step d 0 hw s x t e z bytes ho ht hinfo hz hs0 hb0 v xs p cs (fun i => S i ∨ W.heap.size ≤ i) S2 hs hx (hM W S2 hR2) (fun k hk => ⟨.inl (c2 k hk), fun he => c3 k (hR.1 k he.symm) hk⟩) (fun i hi => .inr hi) (Kd.R_mono hR fun i hi => .inl (c1 i hi)) (w0 := W) ⟨rfl, rfl, rfl, Nat.le_refl _, fun _ _ => rfl⟩ (Nat.zero_le _) hl ?_
 intro v1 w1 hR1 _ hg _
 refine h v1 w1 (hch w1 (.row d e v1 (xs ++ [p])) v.ownBlock hg (fun g hr => c1 g (hR.1 g hr)) ?_)
 exact Kd.R_mono (Kd.R_bound hR1) (fun i hi => by rcases hi with ⟨hi | hi, h2, h3, _⟩; exact .inl hi; exact .inr ⟨hi, h3⟩)
end
structure Box where
 q : List SQ
 tk : Int
 l : List (List Int)
 nx : Int
def zeroB : Box := ⟨[], 0, [], 0⟩
def BoxPost (w : World) (r : Box × Int) (e : Ending) (w' : World) : Prop :=
 ∃ v1 v2, e = .returned (.tuple #[.agg #[v1, .int .i64 r.1.tk, v2, .int .u64 r.1.nx], .int .i64 r.2]) ∧ Own w.heap.size w w' [.row kQ 78 v1 r.1.q, .row kL 74 v2 r.1.l]
def queueI (x : Box) (block : Int) (m : List Int) : Box × Int := if x.q.length < 4096 then (⟨x.q ++ [⟨block, m⟩], x.tk, x.l, x.nx⟩, 0) else (zeroB, 4)
theorem queue_any (x : Box) (block : Int) (msg : List Int) (A1 A2 Am : Option Addr) (c1 c2 cm : Nat) (w : World) (hC1 : Kd.C kQ w A1 x.q.length x.q) (hc1 : x.q.length ≤ c1) (hC2 : Kd.C kL w A2 x.l.length x.l) (hc2 : x.l.length ≤ c2)
 (hC3 : Kd.C kB w Am msg.length msg) (hc3 : msg.length ≤ cm) (hm : msg.length ≤ 1099511627776)
 (hl : x.l.length ≤ 1000000) (hqm : ∀ d ∈ x.q, d.f1.length ≤ 1099511627776) (hlm : ∀ m ∈ x.l, m.length ≤ 1099511627776) :
 Calls Try.prog 84 #[.agg #[.slice A1 x.q.length c1, .int .i64 x.tk, .slice A2 x.l.length c2, .int .u64 x.nx], .int .i64 block, .slice Am msg.length cm] w (BoxPost w (queueI x block msg)) := by
 obtain ⟨q, tk, l, nx⟩ := x
 have H0 := Aside0.mk (Own.start w)
 have HCP := Aside0.mk (fun W (hb : Below w.heap.size w W) (hq : q.length ≤ 1000000) => copied_any q tk l nx A1 A2 c1 c2 W (Kd.C_below hC1 hb) hc1 (Kd.C_below hC2 hb) hc2 hq hl hqm hlm)
 have HCB := Aside0.mk (fun W (hb : Below w.heap.size w W) => bclone_any msg Am cm W (Kd.C_below hC3 hb) hc3 hm)
 obtain ⟨r, hr⟩ : ∃ r, r = queueI ⟨q, tk, l, nx⟩ block msg := ⟨_, rfl⟩
 rw [← hr]
 have HR := Aside0.mk hr
 dsimp only
 clear hC1 hC2 hC3 hc1 hc2 hc3 hqm hlm hr hl hm
 obtain ⟨n, hn⟩ : ∃ n, n = q.length := ⟨_, rfl⟩
 have HN := Aside0.mk hn
 rw [← hn] at HCP ⊢
 clear hn
 generalize l.length = m at *
 generalize msg.length = k at *
 go_enter Try.func84, Try.ntmps84
 go_upto_region 1 with (first
  | fail
  | ((with_reducible refine Gd 3 ?_); refine OB H0 73 #[.slice A1 n c1, .int .i64 tk, .slice A2 m c2, .int .u64 nx] ?_; intro g3 w1 H1 B1)
  | ((with_reducible refine Gd 6 ?_); refine OA H1 73 #[.slice none 0 0, .int .i64 0, .slice none 0 0, .int .u64 0] 4 ?_; intro g6 w2 H2 B2)
  )
 replace H2 : Aside0 (Own w.heap.size w w2 [.blk g6 #[.slice none 0 0, .int .i64 0, .slice none 0 0, .int .u64 0] 73, .blk g3 #[.slice A1 n c1, .int .i64 tk, .slice A2 m c2, .int .u64 nx] 73]) := ⟨H2.out⟩
 have k0 : w2.cell? ⟨g3, 0, none⟩ = some (.slice A1 n c1) := H2.out.cell 1 rfl 0 rfl
 have HA0 : Aside0 (Arr 4 #[.slice none 0 0, .int .i64 0, .slice none 0 0, .int .u64 0]) := ⟨rfl, by simp [Value.oneCell']⟩
 by_cases h4 : n < 4096
 case neg =>
  have hd : decide (4096 ≤ (n : Int)) = true := decide_eq_true (by omega)
  obtain rfl : r = (zeroB, 4) := by rw [HR.out, queueI, if_neg (by show ¬ q.length < 4096; rw [← HN.out]; exact h4)]
  clear HR
  go_wp2_with (first
   | fail
   | ((with_reducible refine Gs 73 6 ?_); refine OS 6 12 H2 0 g6 73 #[.slice none 0 0, .int .i64 0, .slice none 0 0, .int .u64 0] 4 HA0 HA0 ?_; intro w7 HG)
   )
  refine bodyPost_ret (own_resultV_t rfl _ HG.out 0 g6 _ rfl rfl _ Try.underlying73 rfl (by kernel_rfl) _ rfl) rfl ?_
  exact ⟨_, _, rfl, ((((HG.out.erase 0).erase 0).null kL _).null kQ _)⟩
 have hd : decide (4096 ≤ (n : Int)) = false := decide_eq_false (by omega)
 obtain rfl : r = (⟨q ++ [⟨block, msg⟩], tk, l, nx⟩, 0) := by rw [HR.out, queueI, if_pos (by show q.length < 4096; rw [← HN.out]; exact h4)]
 clear HR
 have HA1 : Aside0 (Arr 4 #[.slice A1 n c1, .int .i64 tk, .slice A2 m c2, .int .u64 nx]) := ⟨rfl, by simp [Value.oneCell']⟩
 go_wp2_with (first
  | fail
  | ((with_reducible refine gate_dst (N := 13) rfl ?_); refine own_loadV H2.out 1 g3 _ 73 rfl rfl (.tmp 3) rfl _ rfl Try.underlying73 rfl (by kernel_rfl) ?_)
  | (go_at_call 87; refine (HCP.out _ H2.out.below (by omega)).mono ?_; rintro e w3 ⟨v1, v2, rfl, hO3⟩; obtain ⟨A3, c3, rfl, hcl3, _⟩ := hO3.reads 0 rfl; obtain ⟨A4, c4, rfl, hcl4, _⟩ := hO3.reads 1 rfl; have H3 := Aside0.mk (H2.out.call hO3); have HA3 : Aside0 (Arr 4 #[.slice A3 q.length c3, .int .i64 tk, .slice A4 l.length c4, .int .u64 nx]) := ⟨rfl, by simp [Value.oneCell']⟩; clear hO3)
  | ((with_reducible refine Gs 73 3 ?_); refine OS 3 14 H3 3 g3 73 #[.slice A3 q.length c3, .int .i64 tk, .slice A4 l.length c4, .int .u64 nx] 4 HA1 HA3 ?_; intro w4 H4)
  )
 replace H4 : Aside0 (Own w.heap.size w w4 [.row kQ 78 (.slice A3 q.length c3) q, .row kL 74 (.slice A4 l.length c4) l, .blk g6 #[.slice none 0 0, .int .i64 0, .slice none 0 0, .int .u64 0] 73, .blk g3 #[.slice A3 q.length c3, .int .i64 tk, .slice A4 l.length c4, .int .u64 nx] 73]) := ⟨H4.out⟩
 have k4 : w4.cell? ⟨g3, 0, none⟩ = some (.slice A3 q.length c3) := H4.out.cell 3 rfl 0 rfl
 have HQ4 : q.length < 4096 := by rw [← HN.out]; exact h4
 simp only [Act.put, List.setIfInBounds_toArray, List.set_cons_zero, List.set_cons_succ]
 clear H0 H1 H2 H3 HCP HA1 HA3 k0 B1 B2
 go_cut [] (fun wc => ∃ (v8 : Value), Aside0 (Own w.heap.size w wc [.row kQ 78 v8 (q ++ [⟨block, msg⟩]), .row kL 74 (.slice A4 l.length c4) l, .blk g6 #[.slice none 0 0, .int .i64 0, .slice none 0 0, .int .u64 0] 73, .blk g3 #[v8, .int .i64 tk, .slice A4 l.length c4, .int .u64 nx] 73]))
 case first =>
  refine St (fun _ => True) (fun hHeld => ?_)
  refine Tk 0 ?_
  refine Tk 2 ?_
  refine Tk 3 ?_
  refine Rd2 1 4 (fun K hK => ?_) fun K hK => ?_
  ·
   refine Rn (.slice A3 q.length c3) ?_
   refine Ag hK (fun hHeld => ?_)
   clear hK K
   refine Rd 4 fun K hK => ?_
   go_simp
   refine (HCB.out _ H4.out.drew.below).mono ?_
   rintro e w5 ⟨v5, rfl, hO5⟩
   obtain ⟨A5, c5, rfl, _, _⟩ := hO5.reads 0 rfl
   have H5 := Aside0.mk (H4.out.drew.call hO5)
   have k5 : w5.cell? ⟨g3, 0, none⟩ = some (.slice A3 q.length c3) := H5.out.cell 4 rfl 0 rfl
   clear hO5
   go_wp2_with fail
   refine Ag hK (fun hHeld => ?_)
   clear hK K
   refine Tk 5 ?_
   refine Rd 6 fun K hK => ?_
   refine step_of_run (W1 := w5.alloc (.cells #[.int .i64 block, .slice A5 msg.length c5] 78)) (v := .slice (some ⟨w5.heap.size, 0, none⟩) 1 1) (by rfl) (by first | (go_simp; done) | (go_simp; rfl)) ?_
   refine Ag hK (fun hHeld => ?_)
   clear hK K
   refine Rd 7 fun K hK => ?_
   refine own_appendM_step kQ kB (H5.out.bring 1 rfl) (by rfl) (.tmp 16) (.tmp 21) 70 (.agg #[.int .i64 0, .slice none 0 0]) 32 rfl Try.underlying70 PRF.info78 rfl (show 0 < 2 by decide) (by decide) ⟨block, msg⟩ [.int .i64 block, .slice A5 msg.length c5] rfl rfl (fun W ok h => PRF.k78_mkM W 0 ok ⟨block, msg⟩ h) (by omega) ?_
   intro v8 w8 H8
   obtain ⟨A8, c8, rfl, _, _⟩ := H8.reads 0 rfl
   rw [show (q ++ [(⟨block, msg⟩ : SQ)]).length = q.length + 1 by simp] at H8
   replace H8 := Aside0.mk H8
   have k8 : w8.cell? ⟨g3, 0, none⟩ = some (.slice A3 q.length c3) ∧ w8.frozen? ⟨g3, 0, none⟩ = false := ⟨H8.out.cell 3 rfl 0 rfl, H8.out.fz 3 rfl 0⟩
   refine Ag hK (fun hHeld => ?_)
   clear hK K
   refine Tk 8 ?_
   refine Rd 9 fun K hK => ?_
   go_simp
   refine Ag hK (fun hHeld => ?_)
   clear hK K
   refine Dn ?_
   go_wp2_with fail
   go_meet
   exact ⟨.slice A8 (q.length + 1) c8, ⟨H8.out.put 3 rfl 0 _ rfl⟩⟩
  ·
   go_simp
   refine (HCB.out _ H4.out.drew.below).mono ?_
   rintro e w5 ⟨v5, rfl, hO5⟩
   obtain ⟨A5, c5, rfl, _, _⟩ := hO5.reads 0 rfl
   have H5 := Aside0.mk (H4.out.drew.call hO5)
   have k5 : w5.cell? ⟨g3, 0, none⟩ = some (.slice A3 q.length c3) := H5.out.cell 4 rfl 0 rfl
   clear hO5
   go_wp2_with fail
   refine Ag hK (fun hHeld => ?_)
   clear hK K
   refine Tk 5 ?_
   refine Rd2 1 6 (fun K hK => ?_) fun K hK => ?_
   ·
    refine Rn (.slice A3 q.length c3) ?_
    refine Ag hK (fun hHeld => ?_)
    clear hK K
    refine Rd 6 fun K hK => ?_
    refine step_of_run (W1 := w5.alloc (.cells #[.int .i64 block, .slice A5 msg.length c5] 78)) (v := .slice (some ⟨w5.heap.size, 0, none⟩) 1 1) (by rfl) (by first | (go_simp; done) | (go_simp; rfl)) ?_
    refine Ag hK (fun hHeld => ?_)
    clear hK K
    refine Rd 7 fun K hK => ?_
    refine own_appendM_step kQ kB (H5.out.bring 1 rfl) (by rfl) (.tmp 16) (.tmp 21) 70 (.agg #[.int .i64 0, .slice none 0 0]) 32 rfl Try.underlying70 PRF.info78 rfl (show 0 < 2 by decide) (by decide) ⟨block, msg⟩ [.int .i64 block, .slice A5 msg.length c5] rfl rfl (fun W ok h => PRF.k78_mkM W 0 ok ⟨block, msg⟩ h) (by omega) ?_
    intro v8 w8 H8
    obtain ⟨A8, c8, rfl, _, _⟩ := H8.reads 0 rfl
    rw [show (q ++ [(⟨block, msg⟩ : SQ)]).length = q.length + 1 by simp] at H8
    replace H8 := Aside0.mk H8
    have k8 : w8.cell? ⟨g3, 0, none⟩ = some (.slice A3 q.length c3) ∧ w8.frozen? ⟨g3, 0, none⟩ = false := ⟨H8.out.cell 3 rfl 0 rfl, H8.out.fz 3 rfl 0⟩
    refine Ag hK (fun hHeld => ?_)
    clear hK K
    refine Tk 8 ?_
    refine Rd 9 fun K hK => ?_
    go_simp
    refine Ag hK (fun hHeld => ?_)
    clear hK K
    refine Dn ?_
    go_wp2_with fail
    go_meet
    exact ⟨.slice A8 (q.length + 1) c8, ⟨H8.out.put 3 rfl 0 _ rfl⟩⟩
   ·
    refine step_of_run (W1 := w5.alloc (.cells #[.int .i64 block, .slice A5 msg.length c5] 78)) (v := .slice (some ⟨w5.heap.size, 0, none⟩) 1 1) (by rfl) (by first | (go_simp; done) | (go_simp; rfl)) ?_
    refine Ag hK (fun hHeld => ?_)
    clear hK K
    have k6 : (w5.alloc (.cells #[.int .i64 block, .slice A5 msg.length c5] 78)).cell? ⟨g3, 0, none⟩ = some (.slice A3 q.length c3) := (H5.out.alloc _).cell 4 rfl 0 rfl
    refine Rd 1 fun K hK => ?_
    refine Rn (.slice A3 q.length c3) ?_
    refine Ag hK (fun hHeld => ?_)
    clear hK K
    refine Rd 7 fun K hK => ?_
    refine own_appendM_step kQ kB (H5.out.bring 1 rfl) (by rfl) (.tmp 16) (.tmp 21) 70 (.agg #[.int .i64 0, .slice none 0 0]) 32 rfl Try.underlying70 PRF.info78 rfl (show 0 < 2 by decide) (by decide) ⟨block, msg⟩ [.int .i64 block, .slice A5 msg.length c5] rfl rfl (fun W ok h => PRF.k78_mkM W 0 ok ⟨block, msg⟩ h) (by omega) ?_
    intro v8 w8 H8
    obtain ⟨A8, c8, rfl, _, _⟩ := H8.reads 0 rfl
    rw [show (q ++ [(⟨block, msg⟩ : SQ)]).length = q.length + 1 by simp] at H8
    replace H8 := Aside0.mk H8
    have k8 : w8.cell? ⟨g3, 0, none⟩ = some (.slice A3 q.length c3) ∧ w8.frozen? ⟨g3, 0, none⟩ = false := ⟨H8.out.cell 3 rfl 0 rfl, H8.out.fz 3 rfl 0⟩
    refine Ag hK (fun hHeld => ?_)
    clear hK K
    refine Tk 8 ?_
    refine Rd 9 fun K hK => ?_
    go_simp
    refine Ag hK (fun hHeld => ?_)
    clear hK K
    refine Dn ?_
    go_wp2_with fail
    go_meet
    exact ⟨.slice A8 (q.length + 1) c8, ⟨H8.out.put 3 rfl 0 _ rfl⟩⟩
 case rest =>
  obtain ⟨v8, HC0⟩ := hcut
  obtain ⟨A8, c8, hv8, _, _⟩ := HC0.out.reads 0 rfl
  generalize (q ++ [(⟨block, msg⟩ : SQ)]).length = n8 at hv8
  subst hv8
  have HA8 : Aside0 (Arr 4 #[.slice A8 n8 c8, .int .i64 tk, .slice A4 l.length c4, .int .u64 nx]) := ⟨rfl, by simp [Value.oneCell']⟩
  go_wp2_with (first
   | fail
   | ((with_reducible refine gate_dst (N := 24) rfl ?_); refine own_loadV HC0.out 3 g3 _ 73 rfl rfl (.tmp 3) rfl _ rfl Try.underlying73 rfl (by kernel_rfl) ?_)
   | ((with_reducible refine Gs 73 6 ?_); refine OS 6 24 HC0 2 g6 73 #[.slice A8 n8 c8, .int .i64 tk, .slice A4 l.length c4, .int .u64 nx] 4 HA0 HA8 ?_; intro w7 HG)
   )
  refine bodyPost_ret (own_resultV_t rfl _ HG.out 2 g6 _ rfl rfl _ Try.underlying73 rfl (by kernel_rfl) _ rfl) rfl ?_
  exact ⟨_, _, rfl, (HG.out.erase 2).erase 2⟩
end Go.Proofs.Ytocphkfkdadhaaa.H
