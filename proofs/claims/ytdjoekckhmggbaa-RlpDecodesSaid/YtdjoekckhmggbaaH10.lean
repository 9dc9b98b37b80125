import Derived.Test.YtdjoekckhmggbaaH9
import Derived.Test.YtdjoekckhmggbaaS5
namespace Go.Proofs.Ytdjoekckhmggbaa.H
open Go.RowKit Go.Proofs.YtdjoekckhmggbaaW.PrintWords Go.Proofs.YtdjoekckhmggbaaW.PrintLast Go.Proofs.YtdjoekckhmggbaaW.PrintMore Go.Proofs.Ytdjoekckhmggbaa.PRF
attribute [local go_sem] max2_int min2_int max_two min_two max_three min_three max_four min_four
set_option linter.unusedVariables false
set_option linter.unusedSimpArgs false

theorem form_any_aux : ∀ (s : Nat) (x : S47), SizeOf.sizeOf x ≤ s → ∀ (v : Value) (xs : List Int) (A1 A2 : Option Addr) (c1 c2 : Nat) (w0 w : World), Below w0.heap.size w0 w →
    Kd.C (Kd.int .u8) w0 A1 x.f1.length x.f1 → x.f1.length ≤ c1 → Kd.C k47 w0 A2 x.f2.length x.f2 → x.f2.length ≤ c2 →
    Kd.R (Kd.int .u8) 5 w w0.heap.size (fun _ => True) v xs → xs.length + (formP x).length ≤ 1099511627776 →
    Calls Try.prog 53 #[v, .agg #[.bool x.f0, .slice A1 x.f1.length c1, .slice A2 x.f2.length c2]] w (GrewPost w0 (xs ++ formP x)) := by
  intro s
  induction s with
  | zero => intro x hx; exfalso; cases x; simp at hx
  | succ s ih =>
    intro x hx v xs A1 A2 c1 c2 w0 w hB hC1 hc1 hC2 hc2 hR hl
    cases h0 : x.f0 with
    | false => exact form_str x h0 v xs A1 A2 c1 c2 w0 w hB hC1 hc1 hR hl
    | true =>
      rw [formP_list x h0] at hl ⊢
      exact form_list x.f1 x.f2 v xs A1 A2 c1 c2 w0 w hB hC2 hc2 hR hl (fun y hy => ih y (by have := size_f2 x y hy; omega))
theorem form_any (x : S47) (v : Value) (xs : List Int) (A1 A2 : Option Addr) (c1 c2 : Nat) (w0 w : World) (hB : Below w0.heap.size w0 w)
    (hC1 : Kd.C (Kd.int .u8) w0 A1 x.f1.length x.f1) (hc1 : x.f1.length ≤ c1) (hC2 : Kd.C k47 w0 A2 x.f2.length x.f2) (hc2 : x.f2.length ≤ c2)
    (hR : Kd.R (Kd.int .u8) 5 w w0.heap.size (fun _ => True) v xs) (hl : xs.length + (formP x).length ≤ 1099511627776) :
    Calls Try.prog 53 #[v, .agg #[.bool x.f0, .slice A1 x.f1.length c1, .slice A2 x.f2.length c2]] w (GrewPost w0 (xs ++ formP x)) :=
  form_any_aux _ x (Nat.le_refl _) v xs A1 A2 c1 c2 w0 w hB hC1 hc1 hC2 hc2 hR hl

set_option maxHeartbeats 2000000 in
set_option maxRecDepth 100000 in
theorem encode_any (x : S47) (A1 A2 : Option Addr) (c1 c2 : Nat) (w : World)
    (hC1 : Kd.C (Kd.int .u8) w A1 x.f1.length x.f1) (hc1 : x.f1.length ≤ c1) (hC2 : Kd.C k47 w A2 x.f2.length x.f2) (hc2 : x.f2.length ≤ c2) :
    Calls Try.prog 28 #[.agg #[.bool x.f0, .slice A1 x.f1.length c1, .slice A2 x.f2.length c2]] w
      fun e w' => ∃ v, e = .returned (.tuple #[v, .int .i64 (encP x).2]) ∧ Kd.R (Kd.int .u8) 5 w' w.heap.size (fun _ => True) v (encP x).1 ∧ Below w.heap.size w w' := by
  obtain ⟨K, hK⟩ := may_spec x
  have hm := hK K (Nat.le_refl _)
  simp only at hm
  have HC1 := Aside0.mk hC1
  have HC2 := Aside0.mk hC2
  have Hc1 := Aside0.mk hc1
  have Hc2 := Aside0.mk hc2
  have HB := Aside0.mk (Below.refl w.heap.size w)
  have HF := Aside0.mk (form_any x (.slice none 0 0) [] A1 A2 c1 c2)
  have HM := Aside0.mk hm
  clear hK hm hC1 hC2 hc1 hc2
  obtain ⟨all, hall⟩ : ∃ all, all = formP x := ⟨_, rfl⟩
  have HV := Aside0.mk (show vP 16 65536 x = true → all.length ≤ 65536 by
    intro h
    simp only [vP, Bool.and_eq_true, decide_eq_true_eq] at h
    rw [hall]; exact h.2)
  have he : encP x = if vP 16 65536 x = true then (all, 0) else ([], 2) := by rw [hall]; rfl
  rw [he]
  rw [← hall] at HF
  clear he hall
  obtain ⟨res, hres⟩ : ∃ b, b = vP 16 65536 x := ⟨_, rfl⟩
  rw [← hres] at HM HV ⊢
  clear hres
  obtain ⟨f0, f1, f2⟩ := x
  simp only at *
  obtain ⟨n1, hn1⟩ : ∃ n, n = f1.length := ⟨_, rfl⟩
  obtain ⟨n2, hn2⟩ : ∃ n, n = f2.length := ⟨_, rfl⟩
  have HN1 := Aside0.mk hn1
  have HN2 := Aside0.mk hn2
  rw [← hn1] at HF ⊢
  rw [← hn2] at HF ⊢
  clear hn1 hn2
  cases res with
  | false =>
    simp only [Bool.false_eq_true, if_false]
    go_enter Try.func28, Try.ntmps28
    go_wp2_with (first
      | ((with_reducible refine gate_dst (N := 1) rfl ?_); refine alloc_ev rfl (N := 1) rfl (cs := #[.bool f0, .slice A1 n1 c1, .slice A2 n2 c2]) (t := 47) HB ?hr ?_; (case hr => first | (go_simp; done) | (go_simp; rfl)); intro g3 w1 HG3 HGe3 HE1 HB1; have hcf := cf3 HG3))
    rw [HN1.out, HN2.out]
    refine (rlp_May.calls K f0 A1 c1 f1 A2 c2 f2 false _ (Kd.C_below HC1.out HB1.out) Hc1.out (Kd.C_below HC2.out HB1.out) Hc2.out HM.out).mono ?_
    rintro e w2 ⟨rfl, hE2⟩
    have HB2 := Aside0.mk (below_step HB1.out hE2)
    clear hE2
    go_wp2
    go_ret2
    exact ⟨_, rfl, Kd.R_nil _ _ _ _ _, HB2.out⟩
  | true =>
    simp only [if_true]
    go_enter Try.func28, Try.ntmps28
    go_wp2_with (first
      | ((with_reducible refine gate_dst (N := 1) rfl ?_); refine alloc_ev rfl (N := 1) rfl (cs := #[.bool f0, .slice A1 n1 c1, .slice A2 n2 c2]) (t := 47) HB ?hr ?_; (case hr => first | (go_simp; done) | (go_simp; rfl)); intro g3 w1 HG3 HGe3 HE1 HB1; have hcf := cf3 HG3))
    rw [HN1.out, HN2.out]
    refine (rlp_May.calls K f0 A1 c1 f1 A2 c2 f2 true _ (Kd.C_below HC1.out HB1.out) Hc1.out (Kd.C_below HC2.out HB1.out) Hc2.out HM.out).mono ?_
    rintro e w2 ⟨rfl, hE2⟩
    rw [← HN1.out, ← HN2.out]
    have HB2 := Aside0.mk (below_step HB1.out hE2)
    have hcf2 := cf3 ⟨blk_below HG3.out hE2⟩
    clear hE2 hcf
    go_wp2_with fail
    refine (HF.out w _ HB2.out (by rw [HN1.out]; exact HC1.out) (by rw [HN1.out]; exact Hc1.out) (by rw [HN2.out]; exact HC2.out) (by rw [HN2.out]; exact Hc2.out) (Kd.R_nil _ _ _ _ _) (by have := HV.out trivial; simp only [List.length_nil]; omega)).mono ?_
    rintro e w3 ⟨v3, rfl, hR3, hB3⟩
    have HR3 := Aside0.mk hR3
    have HB3 := Aside0.mk hB3
    clear hR3 hB3
    go_wp2
    go_ret2
    exact ⟨v3, rfl, HR3.out, HB3.out⟩
end Go.Proofs.Ytdjoekckhmggbaa.H
