import Derived.Test.YtdjoekckhmggbaaH7
import Derived.Test.YtdjoekckhmggbaaS3
namespace Go.Proofs.Ytdjoekckhmggbaa.H
open Go.RowKit Go.Proofs.YtdjoekckhmggbaaW.PrintWords Go.Proofs.YtdjoekckhmggbaaW.PrintLast Go.Proofs.YtdjoekckhmggbaaW.PrintMore Go.Proofs.Ytdjoekckhmggbaa.PRF
attribute [local go_sem] max2_int min2_int max_two min_two max_three min_three max_four min_four
set_option linter.unusedVariables false
set_option linter.unusedSimpArgs false

/-- bytes of the call's own, made longer -/
def GrewPost (w0 : World) (l : List Int) (e : Ending) (w' : World) : Prop :=
  ∃ v, e = .returned v ∧ Kd.R (Kd.int .u8) 5 w' w0.heap.size (fun _ => True) v l ∧ Below w0.heap.size w0 w'

set_option maxHeartbeats 2000000 in
set_option maxRecDepth 100000 in
theorem form_str (x : S47) (hx : x.f0 = false) (v : Value) (xs : List Int) (A1 A2 : Option Addr) (c1 c2 : Nat) (w0 w : World) (hB : Below w0.heap.size w0 w)
    (hC1 : Kd.C (Kd.int .u8) w0 A1 x.f1.length x.f1) (hc1 : x.f1.length ≤ c1) (hR : Kd.R (Kd.int .u8) 5 w w0.heap.size (fun _ => True) v xs) (hl : xs.length + (formP x).length ≤ 1099511627776) :
    Calls Try.prog 53 #[v, .agg #[.bool false, .slice A1 x.f1.length c1, .slice A2 x.f2.length c2]] w (GrewPost w0 (xs ++ formP x)) := by
  rw [formP_str x hx] at hl ⊢
  obtain ⟨f0, f1, f2⟩ := x
  simp only at *
  have HB := Aside0.mk hB
  have HC1 := Aside0.mk hC1
  have HR := Aside0.mk hR
  have hm := hC1.2.1
  clear hB hC1 hR hx
  obtain ⟨n2, hn2⟩ : ∃ n, n = f2.length := ⟨_, rfl⟩
  rw [← hn2]
  clear hn2
  by_cases h1 : f1.length = 1
  · obtain ⟨i0, rfl⟩ : ∃ i0, f1 = [i0] := by
      match f1, h1 with
      | [i0], _ => exact ⟨i0, rfl⟩
    obtain ⟨ad, rfl, hcell0⟩ := Kd.at_int HC1.out 0 (by omega) (by simp)
    simp only [Int.toNat_zero, Addr.add_zero', rd, List.getD_cons_zero] at hcell0
    have hcell := pw_cell_below HB.out hcell0
    by_cases hi : i0 < 128
    · have hd : decide (128 ≤ i0) = false := decide_eq_false (by omega)
      have hs : strP [i0] = [i0] := by simp [strP, hi]
      rw [hs] at hl ⊢
      go_enter Try.func53, Try.ntmps53
      go_wp2_with (first
        | ((with_reducible refine gate_dst (N := 3) rfl ?_); refine alloc_ev rfl (N := 3) rfl (cs := #[.bool false, .slice (some ad) 1 c1, .slice A2 n2 c2]) (t := 47) HB ?hr ?_; (case hr => first | (go_simp; done) | (go_simp; rfl)); intro g3 w1 HG3 HGe3 HE1 HB1; have hcf := cf3 HG3; have hcell1 := pw_cell_below HE1.out hcell; have HR1 := Aside0.mk (Kd.R_below HR.out HE1.out))
        | ((with_reducible refine gate_builtin (b := .append) (xs := #[.tmp 28, .tmp 30]) rfl ?_); refine app_bytes (w0 := w0) rfl (.tmp 28) (.tmp 30) rfl v xs [i0] (some ad) c1 (fun _ => True) rfl rfl HB1 HR1.out (Kd.C_below HC1.out HB1.out) (fun _ _ => trivial) (by simp at hl ⊢; omega) ?_; intro v5 w5 HO5 HB5 hg5 hat5))
      go_ret
      exact ⟨v5, rfl, HO5.out, HB5.out⟩
    · have hd : decide (128 ≤ i0) = true := decide_eq_true (by omega)
      have hs : strP [i0] = aheadP 128 1 ++ [i0] := by simp [strP, hi]
      rw [hs] at hl ⊢
      have ha := ahead_f 128 1 (by omega) (by omega) (by omega)
      have HA := Aside0.mk ha
      clear ha
      generalize aheadP 128 1 = ah at *
      have HL := Aside0.mk hl
      clear hl hs
      go_enter Try.func53, Try.ntmps53
      go_wp2_with (first
        | ((with_reducible refine gate_dst (N := 3) rfl ?_); refine alloc_ev rfl (N := 3) rfl (cs := #[.bool false, .slice (some ad) 1 c1, .slice A2 n2 c2]) (t := 47) HB ?hr ?_; (case hr => first | (go_simp; done) | (go_simp; rfl)); intro g3 w1 HG3 HGe3 HE1 HB1; have hcf := cf3 HG3; have hcell1 := pw_cell_below HE1.out hcell; have HR1 := Aside0.mk (Kd.R_below HR.out HE1.out); have HNE : Aside0 (some g3 ≠ v.ownBlock) := ⟨fun he => by have := Kd.R_lt HR.out g3 he.symm; have := HGe3.out; omega⟩))
      refine (rlp_ahead.calls 15 128 1 ah _ HA.out).mono ?_
      rintro e w2 ⟨va, rfl, hRa, hE2⟩
      obtain ⟨Aa, na, ca, rfl, hna⟩ := R_shape hRa
      have HRa := Aside0.mk hRa
      have HNa := Aside0.mk hna
      have HB2 := Aside0.mk (below_step HB1.out hE2)
      have HR2 := Aside0.mk (Kd.R_below HR1.out hE2)
      have HG3b := Aside0.mk (blk_below HG3.out hE2)
      have hcf2 := cf3 HG3b
      clear hRa hna hE2
      go_wp2_with (first
        | ((with_reducible refine gate_builtin (b := .append) (xs := #[.tmp 22, .tmp 26]) rfl ?_); refine app_bytes (w0 := w0) rfl (.tmp 22) (.tmp 26) rfl v xs ah Aa ca (fun _ => True) rfl (by rw [← HNa.out]; rfl) HB2 HR2.out (by have := (Kd.R_reads' HRa.out).2.2; exact this) (fun _ _ => trivial) (by have := HL.out; simp at this; omega) ?_; intro v5 w5 HO5 HB5 hg5 hat5; have hcf5 := cf3 ⟨blk_grown HG3b.out hg5.out HNE.out⟩)
        | ((with_reducible refine gate_builtin (b := .append) (xs := #[.tmp 28, .tmp 30]) rfl ?_); refine app_bytes (w0 := w0) rfl (.tmp 28) (.tmp 30) rfl v5 (xs ++ ah) [i0] (some ad) c1 (fun _ => True) rfl rfl HB5 HO5.out (Kd.C_below HC1.out HB5.out) (fun _ _ => trivial) (by have := HL.out; simp at this ⊢; omega) ?_; intro v6 w6 HO6 HB6 hg6 hat6))
      go_ret
      exact ⟨v6, rfl, by rw [← List.append_assoc]; exact HO6.out, HB6.out⟩
  · have hs : strP f1 = aheadP 128 f1.length ++ f1 := by simp [strP, h1]
    rw [hs] at hl ⊢
    have hlen : f1.length ≤ 1099511627776 := by simp at hl; omega
    have ha := ahead_f 128 f1.length (by omega) (by omega) (by omega)
    have HA := Aside0.mk ha
    clear ha
    generalize aheadP 128 f1.length = ah at *
    have HL := Aside0.mk hl
    clear hl hs
    have h1b : ((f1.length : Int) != 1) = true := by rw [bne_iff_ne]; omega
    have h1c : ((f1.length : Int) == 1) = false := by rw [beq_eq_false_iff_ne]; omega
    go_enter Try.func53, Try.ntmps53
    go_wp2_with (first
      | ((with_reducible refine gate_dst (N := 3) rfl ?_); refine alloc_ev rfl (N := 3) rfl (cs := #[.bool false, .slice A1 f1.length c1, .slice A2 n2 c2]) (t := 47) HB ?hr ?_; (case hr => first | (go_simp; done) | (go_simp; rfl)); intro g3 w1 HG3 HGe3 HE1 HB1; have hcf := cf3 HG3; have HR1 := Aside0.mk (Kd.R_below HR.out HE1.out); have HNE : Aside0 (some g3 ≠ v.ownBlock) := ⟨fun he => by have := Kd.R_lt HR.out g3 he.symm; have := HGe3.out; omega⟩))
    refine (rlp_ahead.calls 15 128 f1.length ah _ HA.out).mono ?_
    rintro e w2 ⟨va, rfl, hRa, hE2⟩
    obtain ⟨Aa, na, ca, rfl, hna⟩ := R_shape hRa
    have HRa := Aside0.mk hRa
    have HNa := Aside0.mk hna
    have HB2 := Aside0.mk (below_step HB1.out hE2)
    have HR2 := Aside0.mk (Kd.R_below HR1.out hE2)
    have HG3b := Aside0.mk (blk_below HG3.out hE2)
    have hcf2 := cf3 HG3b
    clear hRa hna hE2
    go_wp2_with (first
      | ((with_reducible refine gate_builtin (b := .append) (xs := #[.tmp 22, .tmp 26]) rfl ?_); refine app_bytes (w0 := w0) rfl (.tmp 22) (.tmp 26) rfl v xs ah Aa ca (fun _ => True) rfl (by rw [← HNa.out]; rfl) HB2 HR2.out (by have := (Kd.R_reads' HRa.out).2.2; exact this) (fun _ _ => trivial) (by have := HL.out; simp at this; omega) ?_; intro v5 w5 HO5 HB5 hg5 hat5; have hcf5 := cf3 ⟨blk_grown HG3b.out hg5.out HNE.out⟩)
      | ((with_reducible refine gate_builtin (b := .append) (xs := #[.tmp 28, .tmp 30]) rfl ?_); refine app_bytes (w0 := w0) rfl (.tmp 28) (.tmp 30) rfl v5 (xs ++ ah) f1 A1 c1 (fun _ => True) rfl rfl HB5 HO5.out (Kd.C_below HC1.out HB5.out) (fun _ _ => trivial) (by have := HL.out; simp at this ⊢; omega) ?_; intro v6 w6 HO6 HB6 hg6 hat6))
    go_ret
    exact ⟨v6, rfl, by rw [← List.append_assoc]; exact HO6.out, HB6.out⟩
end Go.Proofs.Ytdjoekckhmggbaa.H
