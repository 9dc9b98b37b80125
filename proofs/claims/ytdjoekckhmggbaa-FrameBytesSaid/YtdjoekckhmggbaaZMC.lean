import Derived.Test.YtdjoekckhmggbaaZMB
import Derived.Test.YtdjoekckhmggbaaZMA
import Derived.Lib.SlBytesConst
import Derived.ChangeAt
import Derived.ProofKit
namespace Go.Proofs.Ytdjoekckhmggbaa.H
open Go.RowKit Go.Proofs.YtdjoekckhmggbaaW.PrintWords Go.Proofs.YtdjoekckhmggbaaW.PrintLast Go.Proofs.YtdjoekckhmggbaaW.PrintMore Go.Proofs.Ytdjoekckhmggbaa.PRF
attribute [local go_sem] max2_int min2_int max_two min_two max_three min_three max_four min_four
set_option linter.unusedVariables false
set_option linter.unusedSimpArgs false
def GrewPost (w0 : World) (l : List Int) (e : Ending) (w' : World) : Prop :=
  ∃ v, e = .returned v ∧ Kd.R (Kd.int .u8) 5 w' w0.heap.size (fun _ => True) v l ∧ Below w0.heap.size w0 w'
set_option maxHeartbeats 2000000 in
set_option maxRecDepth 100000 in
theorem form_str (x : S47) (hx : x.f0 = false) (v : Value) (xs : List Int) (A1 A2 : Option Addr) (c1 c2 : Nat) (w0 w : World) (hB : Below w0.heap.size w0 w)
    (hC1 : Kd.C (Kd.int .u8) w0 A1 x.f1.length x.f1) (hc1 : x.f1.length ≤ c1) (hR : Kd.R (Kd.int .u8) 5 w w0.heap.size (fun _ => True) v xs) (hl : xs.length + (formP x).length ≤ 1099511627776) :
    Calls Try.prog 53 #[v, .agg #[.bool false, .slice A1 x.f1.length c1, .slice A2 x.f2.length c2]] w (GrewPost w0 (xs ++ formP x)) := by
  rw [formP_str x hx] at hl ⊢
  obtain ⟨f0, f1, f2⟩ := x
  simp only at *
  have HB := Aside0.mk hB
  have HC1 := Aside0.mk hC1
  have HR := Aside0.mk hR
  have hm := hC1.2.1
  clear hB hC1 hR hx
  obtain ⟨n2, hn2⟩ : ∃ n, n = f2.length := ⟨_, rfl⟩
  rw [← hn2]
  clear hn2
  by_cases h1 : f1.length = 1
  · obtain ⟨i0, rfl⟩ : ∃ i0, f1 = [i0] := by
      match f1, h1 with
      | [i0], _ => exact ⟨i0, rfl⟩
    obtain ⟨ad, rfl, hcell0⟩ := Kd.at_int HC1.out 0 (by omega) (by simp)
    simp only [Int.toNat_zero, Addr.add_zero', rd, List.getD_cons_zero] at hcell0
    have hcell := pw_cell_below HB.out hcell0
    by_cases hi : i0 < 128
    · have hd : decide (128 ≤ i0) = false := decide_eq_false (by omega)
      have hs : strP [i0] = [i0] := by simp [strP, hi]
      rw [hs] at hl ⊢
      go_enter Try.func53, Try.ntmps53
      go_wp2_with (first
        | ((with_reducible refine gate_dst (N := 3) rfl ?_); refine alloc_ev rfl (N := 3) rfl (cs := #[.bool false, .slice (some ad) 1 c1, .slice A2 n2 c2]) (t := 47) HB ?hr ?_; (case hr => first | (go_simp; done) | (go_simp; rfl)); intro g3 w1 HG3 HGe3 HE1 HB1; have hcf := cf3 HG3; have hcell1 := pw_cell_below HE1.out hcell; have HR1 := Aside0.mk (Kd.R_below HR.out HE1.out))
        | ((with_reducible refine gate_builtin (b := .append) (xs := #[.tmp 28, .tmp 30]) rfl ?_); refine app_bytes (w0 := w0) rfl (.tmp 28) (.tmp 30) rfl v xs [i0] (some ad) c1 (fun _ => True) rfl rfl HB1 HR1.out (Kd.C_below HC1.out HB1.out) (fun _ _ => trivial) (by simp at hl ⊢; omega) ?_; intro v5 w5 HO5 HB5 hg5 hat5))
      go_ret
      exact ⟨v5, rfl, HO5.out, HB5.out⟩
    · have hd : decide (128 ≤ i0) = true := decide_eq_true (by omega)
      have hs : strP [i0] = aheadP 128 1 ++ [i0] := by simp [strP, hi]
      rw [hs] at hl ⊢
      have ha := ahead_f 128 1 (by omega) (by omega) (by omega)
      have HA := Aside0.mk ha
      clear ha
      generalize aheadP 128 1 = ah at *
      have HL := Aside0.mk hl
      clear hl hs
      go_enter Try.func53, Try.ntmps53
      go_wp2_with (first
        | ((with_reducible refine gate_dst (N := 3) rfl ?_); refine alloc_ev rfl (N := 3) rfl (cs := #[.bool false, .slice (some ad) 1 c1, .slice A2 n2 c2]) (t := 47) HB ?hr ?_; (case hr => first | (go_simp; done) | (go_simp; rfl)); intro g3 w1 HG3 HGe3 HE1 HB1; have hcf := cf3 HG3; have hcell1 := pw_cell_below HE1.out hcell; have HR1 := Aside0.mk (Kd.R_below HR.out HE1.out); have HNE : Aside0 (some g3 ≠ v.ownBlock) := ⟨fun he => by have := Kd.R_lt HR.out g3 he.symm; have := HGe3.out; omega⟩))
      refine (rlp_ahead.calls 15 128 1 ah _ HA.out).mono ?_
      rintro e w2 ⟨va, rfl, hRa, hE2⟩
      obtain ⟨Aa, na, ca, rfl, hna⟩ := R_shape hRa
      have HRa := Aside0.mk hRa
      have HNa := Aside0.mk hna
      have HB2 := Aside0.mk (below_step HB1.out hE2)
      have HR2 := Aside0.mk (Kd.R_below HR1.out hE2)
      have HG3b := Aside0.mk (blk_below HG3.out hE2)
      have hcf2 := cf3 HG3b
      clear hRa hna hE2
      go_wp2_with (first
        | ((with_reducible refine gate_builtin (b := .append) (xs := #[.tmp 22, .tmp 26]) rfl ?_); refine app_bytes (w0 := w0) rfl (.tmp 22) (.tmp 26) rfl v xs ah Aa ca (fun _ => True) rfl (by rw [← HNa.out]; rfl) HB2 HR2.out (by have := (Kd.R_reads' HRa.out).2.2; exact this) (fun _ _ => trivial) (by have := HL.out; simp at this; omega) ?_; intro v5 w5 HO5 HB5 hg5 hat5; have hcf5 := cf3 ⟨blk_grown HG3b.out hg5.out HNE.out⟩)
        | ((with_reducible refine gate_builtin (b := .append) (xs := #[.tmp 28, .tmp 30]) rfl ?_); refine app_bytes (w0 := w0) rfl (.tmp 28) (.tmp 30) rfl v5 (xs ++ ah) [i0] (some ad) c1 (fun _ => True) rfl rfl HB5 HO5.out (Kd.C_below HC1.out HB5.out) (fun _ _ => trivial) (by have := HL.out; simp at this ⊢; omega) ?_; intro v6 w6 HO6 HB6 hg6 hat6))
      go_ret
      exact ⟨v6, rfl, by rw [← List.append_assoc]; exact HO6.out, HB6.out⟩
  · have hs : strP f1 = aheadP 128 f1.length ++ f1 := by simp [strP, h1]
    rw [hs] at hl ⊢
    have hlen : f1.length ≤ 1099511627776 := by simp at hl; omega
    have ha := ahead_f 128 f1.length (by omega) (by omega) (by omega)
    have HA := Aside0.mk ha
    clear ha
    generalize aheadP 128 f1.length = ah at *
    have HL := Aside0.mk hl
    clear hl hs
    have h1b : ((f1.length : Int) != 1) = true := by rw [bne_iff_ne]; omega
    have h1c : ((f1.length : Int) == 1) = false := by rw [beq_eq_false_iff_ne]; omega
    go_enter Try.func53, Try.ntmps53
    go_wp2_with (first
      | ((with_reducible refine gate_dst (N := 3) rfl ?_); refine alloc_ev rfl (N := 3) rfl (cs := #[.bool false, .slice A1 f1.length c1, .slice A2 n2 c2]) (t := 47) HB ?hr ?_; (case hr => first | (go_simp; done) | (go_simp; rfl)); intro g3 w1 HG3 HGe3 HE1 HB1; have hcf := cf3 HG3; have HR1 := Aside0.mk (Kd.R_below HR.out HE1.out); have HNE : Aside0 (some g3 ≠ v.ownBlock) := ⟨fun he => by have := Kd.R_lt HR.out g3 he.symm; have := HGe3.out; omega⟩))
    refine (rlp_ahead.calls 15 128 f1.length ah _ HA.out).mono ?_
    rintro e w2 ⟨va, rfl, hRa, hE2⟩
    obtain ⟨Aa, na, ca, rfl, hna⟩ := R_shape hRa
    have HRa := Aside0.mk hRa
    have HNa := Aside0.mk hna
    have HB2 := Aside0.mk (below_step HB1.out hE2)
    have HR2 := Aside0.mk (Kd.R_below HR1.out hE2)
    have HG3b := Aside0.mk (blk_below HG3.out hE2)
    have hcf2 := cf3 HG3b
    clear hRa hna hE2
    go_wp2_with (first
      | ((with_reducible refine gate_builtin (b := .append) (xs := #[.tmp 22, .tmp 26]) rfl ?_); refine app_bytes (w0 := w0) rfl (.tmp 22) (.tmp 26) rfl v xs ah Aa ca (fun _ => True) rfl (by rw [← HNa.out]; rfl) HB2 HR2.out (by have := (Kd.R_reads' HRa.out).2.2; exact this) (fun _ _ => trivial) (by have := HL.out; simp at this; omega) ?_; intro v5 w5 HO5 HB5 hg5 hat5; have hcf5 := cf3 ⟨blk_grown HG3b.out hg5.out HNE.out⟩)
      | ((with_reducible refine gate_builtin (b := .append) (xs := #[.tmp 28, .tmp 30]) rfl ?_); refine app_bytes (w0 := w0) rfl (.tmp 28) (.tmp 30) rfl v5 (xs ++ ah) f1 A1 c1 (fun _ => True) rfl rfl HB5 HO5.out (Kd.C_below HC1.out HB5.out) (fun _ _ => trivial) (by have := HL.out; simp at this ⊢; omega) ?_; intro v6 w6 HO6 HB6 hg6 hat6))
    go_ret
    exact ⟨v6, rfl, by rw [← List.append_assoc]; exact HO6.out, HB6.out⟩
end Go.Proofs.Ytdjoekckhmggbaa.H
namespace Go.Proofs.Ytdjoekckhmggbaa.H
open Go.RowKit Go.Proofs.YtdjoekckhmggbaaW.PrintWords Go.Proofs.YtdjoekckhmggbaaW.PrintLast Go.Proofs.YtdjoekckhmggbaaW.PrintMore Go.Proofs.Ytdjoekckhmggbaa.PRF
attribute [local go_sem] max2_int min2_int max_two min_two max_three min_three max_four min_four
set_option linter.unusedVariables false
set_option linter.unusedSimpArgs false
set_option maxHeartbeats 4000000 in
set_option maxRecDepth 100000 in
theorem form_list (f1 : List Int) (l : List S47) (v : Value) (xs : List Int) (A1 A2 : Option Addr) (c1 c2 : Nat) (w0 w : World) (hB : Below w0.heap.size w0 w)
    (hC2 : Kd.C k47 w0 A2 l.length l) (hc2 : l.length ≤ c2) (hR : Kd.R (Kd.int .u8) 5 w w0.heap.size (fun _ => True) v xs) (hl : xs.length + (aheadP 192 (formsP l).length ++ formsP l).length ≤ 1099511627776)
    (ih : ∀ y ∈ l, ∀ (v : Value) (xs : List Int) (A1 A2 : Option Addr) (c1 c2 : Nat) (w0 w : World), Below w0.heap.size w0 w → Kd.C (Kd.int .u8) w0 A1 y.f1.length y.f1 → y.f1.length ≤ c1 → Kd.C k47 w0 A2 y.f2.length y.f2 → y.f2.length ≤ c2 →
      Kd.R (Kd.int .u8) 5 w w0.heap.size (fun _ => True) v xs → xs.length + (formP y).length ≤ 1099511627776 → Calls Try.prog 53 #[v, .agg #[.bool y.f0, .slice A1 y.f1.length c1, .slice A2 y.f2.length c2]] w (GrewPost w0 (xs ++ formP y))) :
    Calls Try.prog 53 #[v, .agg #[.bool true, .slice A1 f1.length c1, .slice A2 l.length c2]] w (GrewPost w0 (xs ++ (aheadP 192 (formsP l).length ++ formsP l))) := by
  have IH := Aside0.mk ih
  have HB := Aside0.mk hB
  have HC2 := Aside0.mk hC2
  have HR := Aside0.mk hR
  have hm := hC2.2.1
  clear hB hC2 hR ih
  obtain ⟨n1, hn1⟩ : ∃ n, n = f1.length := ⟨_, rfl⟩
  rw [← hn1]
  clear hn1
  have hlen : (formsP l).length ≤ 1099511627776 := by simp at hl; omega
  have ha := ahead_f 192 (formsP l).length (by omega) (by omega) (by omega)
  have HA := Aside0.mk ha
  clear ha
  obtain ⟨all, hall⟩ : ∃ all, all = formsP l := ⟨_, rfl⟩
  have HALL := Aside0.mk hall
  rw [← hall] at HA hl hlen ⊢
  clear hall
  obtain ⟨ah, hah⟩ : ∃ ah, ah = aheadP 192 all.length := ⟨_, rfl⟩
  rw [← hah] at HA hl ⊢
  clear hah
  have HL := Aside0.mk hl
  have HLEN := Aside0.mk hlen
  clear hl hlen
  go_enter Try.func53, Try.ntmps53
  go_wp2_with (first
    | ((with_reducible refine gate_dst (N := 3) rfl ?_); refine alloc_ev rfl (N := 3) rfl (cs := #[.bool true, .slice A1 n1 c1, .slice A2 l.length c2]) (t := 47) HB ?hr ?_; (case hr => first | (go_simp; done) | (go_simp; rfl)); intro g3 w1 HG3 HGe3 HE1 HB1; have hcf := cf3 HG3; have HR1 := Aside0.mk (Kd.R_below HR.out HE1.out); have HNE : Aside0 (some g3 ≠ v.ownBlock) := ⟨fun he => by have := Kd.R_lt HR.out g3 he.symm; have := HGe3.out; omega⟩))
  go_loopw [5, 35] (fun v5 v35 wr => ∃ (i : Nat), i ≤ l.length ∧ v35 = .int .i64 (i : Int) ∧ Aside0 (Kd.R (Kd.int .u8) 5 wr w1.heap.size (fun _ => True) v5 (formsP (l.take i))) ∧ Aside0 (Below w1.heap.size w1 wr)) (fun _ v35 _ => l.length - (intOf v35).toNat)
  case atStart => exact ⟨0, Nat.zero_le _, rfl, ⟨Kd.R_nil _ _ _ _ _⟩, ⟨Below.refl _ _⟩⟩
  case round =>
    obtain ⟨i, hi, rfl, HU, HBr⟩ := hrel
    by_cases hlt : i < l.length
    · have hd : decide (i < l.length) = true := decide_eq_true hlt
      obtain ⟨ad, B1, d1, B2, d2, he, k0, k1, k2, q1, q2, q3, q4⟩ := at_T47 HC2.out (i : Int) (by omega) (by omega)
      subst he
      rw [rd47 l i hlt, Int.toNat_natCast] at k0 k1 k2
      rw [rd47 l i hlt] at q1 q2 q3 q4
      have HB2 := Aside0.mk (below_step HB1.out HBr.out)
      have k0' := pw_cell_below HB2.out k0
      have k1' := pw_cell_below HB2.out k1
      have k2' := pw_cell_below HB2.out k2
      clear k0 k1 k2 hcf
      have hcf2 := cf3 ⟨blk_below HG3.out HBr.out⟩
      have HIH := Aside0.mk (IH.out l[i] (List.getElem_mem hlt))
      have HT := Aside0.mk (formsP_take l i hlt)
      have HTL := formsP_take_le l (i + 1)
      rw [HT.out, List.length_append, ← HALL.out] at HTL
      have HTL' := Aside0.mk HTL
      clear HTL
      generalize l[i] = y at *
      have Q1 := Aside0.mk q1
      have Q2 := Aside0.mk q2
      have Q3 := Aside0.mk q3
      have Q4 := Aside0.mk q4
      clear q1 q2 q3 q4
      have HU' := Aside0.mk (fun o => Kd.R_alloc HU.out o)
      have HBr' := Aside0.mk (fun o => below_alloc HBr.out o)
      go_wp2_with fail
      refine (HIH.out u5 _ B1 B2 d1 d2 w1 _ (HBr'.out _) (Kd.C_below Q2.out HB1.out) Q1.out (Kd.C_below Q4.out HB1.out) Q3.out (HU'.out _) (by have := HTL'.out; have := HLEN.out; omega)).mono ?_
      rintro e w3 ⟨v3, rfl, hR3, hB3⟩
      have HR3 := Aside0.mk hR3
      have HB3 := Aside0.mk hB3
      clear hR3 hB3
      go_wp2
      go_roundw
      case rel => exact ⟨i + 1, hlt, by go_num, ⟨by rw [HT.out]; exact HR3.out⟩, HB3⟩
      case measure => simp [intOf]; omega
    · have hd : decide (i < l.length) = false := decide_eq_false hlt
      rw [List.take_of_length_le (by omega), ← HALL.out] at HU
      obtain ⟨Au, nu, cu, rfl, hnu⟩ := R_shape HU.out
      have HNu := Aside0.mk hnu
      have HBw := Aside0.mk (below_step HB1.out HBr.out)
      have HRw := Aside0.mk (Kd.R_below HR1.out HBr.out)
      have HG3b := Aside0.mk (blk_below HG3.out HBr.out)
      have hcf2 := cf3 HG3b
      clear hnu hcf
      go_wp2_with fail
      refine (rlp_ahead.calls 15 192 nu ah _ (by rw [HNu.out]; exact HA.out)).mono ?_
      rintro e w3 ⟨va, rfl, hRa, hE3⟩
      obtain ⟨Aa, na, ca, rfl, hna⟩ := R_shape hRa
      have HRa := Aside0.mk hRa
      have HNa := Aside0.mk hna
      have HB3 := Aside0.mk (below_step HBw.out hE3)
      have HR3 := Aside0.mk (Kd.R_below HRw.out hE3)
      have HU3 := Aside0.mk (Kd.R_below HU.out hE3)
      have HV3 := Aside0.mk (show ∀ k, v.ownBlock = some k → some k ≠ (Value.slice Au nu cu).ownBlock from fun k hk he => by
        have h1 := Kd.R_base HU.out k he.symm
        have h2 := Kd.R_lt HR.out k hk
        have h3 := below_size HE1.out
        omega)
      clear hRa hna hE3 hcf2
      go_wp2_with (first
        | ((with_reducible refine gate_builtin (b := .append) (xs := #[.tmp 43, .tmp 46]) rfl ?_); refine app_bytes (w0 := w0) rfl (.tmp 43) (.tmp 46) rfl v xs ah Aa ca (fun _ => True) rfl (by rw [← HNa.out]; rfl) HB3 HR3.out (by have := (Kd.R_reads' HRa.out).2.2; exact this) (fun _ _ => trivial) (by have := HL.out; simp at this; omega) ?_; intro v5 w5 HO5 HB5 hg5 hat5; have HU5 := Aside0.mk (Kd.R_reads' (Kd.R_grown2 HU3.out rfl hg5.out HV3.out)).2.2)
        | ((with_reducible refine gate_builtin (b := .append) (xs := #[.tmp 48, .tmp 49]) rfl ?_); refine app_bytes (w0 := w0) rfl (.tmp 48) (.tmp 49) rfl v5 (xs ++ ah) all Au cu (fun _ => True) rfl (by rw [← HNu.out]; rfl) HB5 HO5.out HU5.out (fun _ _ => trivial) (by have := HL.out; simp at this ⊢; omega) ?_; intro v6 w6 HO6 HB6 hg6 hat6))
      go_ret
      exact ⟨v6, rfl, by rw [← List.append_assoc]; exact HO6.out, HB6.out⟩
end Go.Proofs.Ytdjoekckhmggbaa.H
namespace Go.Proofs.Ytdjoekckhmggbaa.H
open Go.RowKit Go.Proofs.YtdjoekckhmggbaaW.PrintWords Go.Proofs.YtdjoekckhmggbaaW.PrintLast Go.Proofs.YtdjoekckhmggbaaW.PrintMore Go.Proofs.Ytdjoekckhmggbaa.PRF
attribute [local go_sem] max2_int min2_int max_two min_two max_three min_three max_four min_four
set_option linter.unusedVariables false
set_option linter.unusedSimpArgs false
theorem form_any_aux : ∀ (s : Nat) (x : S47), SizeOf.sizeOf x ≤ s → ∀ (v : Value) (xs : List Int) (A1 A2 : Option Addr) (c1 c2 : Nat) (w0 w : World), Below w0.heap.size w0 w →
    Kd.C (Kd.int .u8) w0 A1 x.f1.length x.f1 → x.f1.length ≤ c1 → Kd.C k47 w0 A2 x.f2.length x.f2 → x.f2.length ≤ c2 →
    Kd.R (Kd.int .u8) 5 w w0.heap.size (fun _ => True) v xs → xs.length + (formP x).length ≤ 1099511627776 →
    Calls Try.prog 53 #[v, .agg #[.bool x.f0, .slice A1 x.f1.length c1, .slice A2 x.f2.length c2]] w (GrewPost w0 (xs ++ formP x)) := by
  intro s
  induction s with
  | zero => intro x hx; exfalso; cases x; simp at hx
  | succ s ih =>
    intro x hx v xs A1 A2 c1 c2 w0 w hB hC1 hc1 hC2 hc2 hR hl
    cases h0 : x.f0 with
    | false => exact form_str x h0 v xs A1 A2 c1 c2 w0 w hB hC1 hc1 hR hl
    | true =>
      rw [formP_list x h0] at hl ⊢
      exact form_list x.f1 x.f2 v xs A1 A2 c1 c2 w0 w hB hC2 hc2 hR hl (fun y hy => ih y (by have := size_f2 x y hy; omega))
theorem form_any (x : S47) (v : Value) (xs : List Int) (A1 A2 : Option Addr) (c1 c2 : Nat) (w0 w : World) (hB : Below w0.heap.size w0 w)
    (hC1 : Kd.C (Kd.int .u8) w0 A1 x.f1.length x.f1) (hc1 : x.f1.length ≤ c1) (hC2 : Kd.C k47 w0 A2 x.f2.length x.f2) (hc2 : x.f2.length ≤ c2)
    (hR : Kd.R (Kd.int .u8) 5 w w0.heap.size (fun _ => True) v xs) (hl : xs.length + (formP x).length ≤ 1099511627776) :
    Calls Try.prog 53 #[v, .agg #[.bool x.f0, .slice A1 x.f1.length c1, .slice A2 x.f2.length c2]] w (GrewPost w0 (xs ++ formP x)) :=
  form_any_aux _ x (Nat.le_refl _) v xs A1 A2 c1 c2 w0 w hB hC1 hc1 hC2 hc2 hR hl
set_option maxHeartbeats 2000000 in
set_option maxRecDepth 100000 in
theorem encode_any (x : S47) (A1 A2 : Option Addr) (c1 c2 : Nat) (w : World)
    (hC1 : Kd.C (Kd.int .u8) w A1 x.f1.length x.f1) (hc1 : x.f1.length ≤ c1) (hC2 : Kd.C k47 w A2 x.f2.length x.f2) (hc2 : x.f2.length ≤ c2) :
    Calls Try.prog 28 #[.agg #[.bool x.f0, .slice A1 x.f1.length c1, .slice A2 x.f2.length c2]] w
      fun e w' => ∃ v, e = .returned (.tuple #[v, .int .i64 (encP x).2]) ∧ Kd.R (Kd.int .u8) 5 w' w.heap.size (fun _ => True) v (encP x).1 ∧ Below w.heap.size w w' := by
  obtain ⟨K, hK⟩ := may_spec x
  have hm := hK K (Nat.le_refl _)
  simp only at hm
  have HC1 := Aside0.mk hC1
  have HC2 := Aside0.mk hC2
  have Hc1 := Aside0.mk hc1
  have Hc2 := Aside0.mk hc2
  have HB := Aside0.mk (Below.refl w.heap.size w)
  have HF := Aside0.mk (form_any x (.slice none 0 0) [] A1 A2 c1 c2)
  have HM := Aside0.mk hm
  clear hK hm hC1 hC2 hc1 hc2
  obtain ⟨all, hall⟩ : ∃ all, all = formP x := ⟨_, rfl⟩
  have HV := Aside0.mk (show vP 16 65536 x = true → all.length ≤ 65536 by
    intro h
    simp only [vP, Bool.and_eq_true, decide_eq_true_eq] at h
    rw [hall]; exact h.2)
  have he : encP x = if vP 16 65536 x = true then (all, 0) else ([], 2) := by rw [hall]; rfl
  rw [he]
  rw [← hall] at HF
  clear he hall
  obtain ⟨res, hres⟩ : ∃ b, b = vP 16 65536 x := ⟨_, rfl⟩
  rw [← hres] at HM HV ⊢
  clear hres
  obtain ⟨f0, f1, f2⟩ := x
  simp only at *
  obtain ⟨n1, hn1⟩ : ∃ n, n = f1.length := ⟨_, rfl⟩
  obtain ⟨n2, hn2⟩ : ∃ n, n = f2.length := ⟨_, rfl⟩
  have HN1 := Aside0.mk hn1
  have HN2 := Aside0.mk hn2
  rw [← hn1] at HF ⊢
  rw [← hn2] at HF ⊢
  clear hn1 hn2
  cases res with
  | false =>
    simp only [Bool.false_eq_true, if_false]
    go_enter Try.func28, Try.ntmps28
    go_wp2_with (first
      | ((with_reducible refine gate_dst (N := 1) rfl ?_); refine alloc_ev rfl (N := 1) rfl (cs := #[.bool f0, .slice A1 n1 c1, .slice A2 n2 c2]) (t := 47) HB ?hr ?_; (case hr => first | (go_simp; done) | (go_simp; rfl)); intro g3 w1 HG3 HGe3 HE1 HB1; have hcf := cf3 HG3))
    rw [HN1.out, HN2.out]
    refine (rlp_May.calls K f0 A1 c1 f1 A2 c2 f2 false _ (Kd.C_below HC1.out HB1.out) Hc1.out (Kd.C_below HC2.out HB1.out) Hc2.out HM.out).mono ?_
    rintro e w2 ⟨rfl, hE2⟩
    have HB2 := Aside0.mk (below_step HB1.out hE2)
    clear hE2
    go_wp2
    go_ret2
    exact ⟨_, rfl, Kd.R_nil _ _ _ _ _, HB2.out⟩
  | true =>
    simp only [if_true]
    go_enter Try.func28, Try.ntmps28
    go_wp2_with (first
      | ((with_reducible refine gate_dst (N := 1) rfl ?_); refine alloc_ev rfl (N := 1) rfl (cs := #[.bool f0, .slice A1 n1 c1, .slice A2 n2 c2]) (t := 47) HB ?hr ?_; (case hr => first | (go_simp; done) | (go_simp; rfl)); intro g3 w1 HG3 HGe3 HE1 HB1; have hcf := cf3 HG3))
    rw [HN1.out, HN2.out]
    refine (rlp_May.calls K f0 A1 c1 f1 A2 c2 f2 true _ (Kd.C_below HC1.out HB1.out) Hc1.out (Kd.C_below HC2.out HB1.out) Hc2.out HM.out).mono ?_
    rintro e w2 ⟨rfl, hE2⟩
    rw [← HN1.out, ← HN2.out]
    have HB2 := Aside0.mk (below_step HB1.out hE2)
    have hcf2 := cf3 ⟨blk_below HG3.out hE2⟩
    clear hE2 hcf
    go_wp2_with fail
    refine (HF.out w _ HB2.out (by rw [HN1.out]; exact HC1.out) (by rw [HN1.out]; exact Hc1.out) (by rw [HN2.out]; exact HC2.out) (by rw [HN2.out]; exact Hc2.out) (Kd.R_nil _ _ _ _ _) (by have := HV.out trivial; simp only [List.length_nil]; omega)).mono ?_
    rintro e w3 ⟨v3, rfl, hR3, hB3⟩
    have HR3 := Aside0.mk hR3
    have HB3 := Aside0.mk hB3
    clear hR3 hB3
    go_wp2
    go_ret2
    exact ⟨v3, rfl, HR3.out, HB3.out⟩
end Go.Proofs.Ytdjoekckhmggbaa.H
namespace Go.Proofs.Ytdjoekckhmggbaa.H
open Go.RowKit Go.Proofs.YtdjoekckhmggbaaW.PrintWords Go.Proofs.YtdjoekckhmggbaaW.PrintLast Go.Proofs.YtdjoekckhmggbaaW.PrintMore Go.Proofs.Ytdjoekckhmggbaa.PRF
attribute [local go_sem] max2_int min2_int max_two min_two max_three min_three max_four min_four
set_option linter.unusedVariables false
set_option linter.unusedSimpArgs false
theorem F_all {w : World} {A : Option Addr} {n : Nat} {xs : List Int} (h : Kd.C (Kd.int .u8) w A n xs) : Kd.F (Kd.int .u8) w (fun _ => True) A n xs := by
  intro W' hW
  have hsz : w.heap.size ≤ W'.heap.size := by
    by_cases hlt : W'.heap.size < w.heap.size
    · have := heap_lt (hW _ trivial hlt) hlt
      omega
    · omega
  exact Kd.C_keep 0 h ⟨hsz, fun i hi _ _ => hW i trivial hi⟩ (Kd.far_C 0 h (Nat.le_refl _))
set_option maxHeartbeats 2000000 in
set_option maxRecDepth 100000 in
theorem rdecode_any (A : Option Addr) (c : Nat) (l : List Int) (w : World) (hC : Kd.C (Kd.int .u8) w A l.length l) (hc : l.length ≤ c) (hB : Byt l) :
    Calls Try.prog 24 #[.slice A l.length c] w (DecodePost (decodeP l) w) := by
  have HB := Aside0.mk (Below.refl w.heap.size w)
  have HC := Aside0.mk hC
  have HBy := Aside0.mk hB
  have hm := hC.2.1
  clear hC hB
  obtain ⟨res, hres⟩ : ∃ res, res = decodeP l := ⟨_, rfl⟩
  rw [← hres]
  have HRES := Aside0.mk hres
  clear hres
  by_cases hbig : 65536 < l.length
  · have hd : decide ((65536 : Int) < (l.length : Int)) = true := decide_eq_true (by omega)
    have hd' : decide (65536 < l.length) = true := decide_eq_true (by omega)
    obtain rfl : res = .error 4 := by rw [HRES.out, decodeP, if_pos hbig]
    go_enter Try.func24, Try.ntmps24
    go_wp2_with (first
      | ((with_reducible refine gate_dst (N := 2) rfl ?_); refine alloc_ev rfl (N := 2) rfl (cs := #[.bool false, .slice none 0 0, .slice none 0 0]) (t := 47) HB ?hr ?_; (case hr => first | (go_simp; done) | (go_simp; rfl)); intro g2 w1 HG2 HGe2 HE1 HB1; have hcf2 := cf3 HG2))
    have hg2 : w.heap.size ≤ g2 := Nat.le_of_eq HGe2.out
    refine bodyPost_ret (results_ct rfl _ _ g2 47 #[.bool false, .slice none 0 0, .slice none 0 0] (0, 0) _ rfl (put3 HG2.out) Try.underlying47 rfl (by kernel_rfl)) rfl ?_
    exact ⟨below3 HB1.out hg2, rfl⟩
  · have hd : decide ((65536 : Int) < (l.length : Int)) = false := decide_eq_false (by omega)
    have hd' : decide (65536 < l.length) = false := decide_eq_false (by omega)
    have hl65 : l.length ≤ 65536 := by omega
    rw [decodeP, if_neg hbig] at HRES
    obtain ⟨K, hK⟩ := read_spec 16 (Nat.le_refl _) l HBy.out (by omega)
    have hk := hK K (Nat.le_refl _)
    simp only at hk
    unfold resR at hk
    go_enter Try.func24, Try.ntmps24
    go_wp2_with (first
      | ((with_reducible refine gate_dst (N := 2) rfl ?_); refine alloc_ev rfl (N := 2) rfl (cs := #[.bool false, .slice none 0 0, .slice none 0 0]) (t := 47) HB ?hr ?_; (case hr => first | (go_simp; done) | (go_simp; rfl)); intro g2 w1 HG2 HGe2 HE1 HB1; have hcf2 := cf3 HG2))
    have hg2 : w.heap.size ≤ g2 := Nat.le_of_eq HGe2.out
    cases hit : itemP 16 l with
    | error k =>
      rw [hit] at hk HRES
      obtain rfl : res = .error k := HRES.out
      have hke := itemP_err hit
      have hk1 : (k == 0) = false := by simpa using hke
      have hk2 : (k != 0) = true := by simpa using hke
      refine (proctorref02_read.calls K (fun _ => True) A c l 16 _ _ _ _ _ _ (Kd.V_mk hc (F_all (Kd.C_below HC.out HB1.out))) hk).mono ?_
      clear hK hk hit
      rintro e w3 ⟨v1, v2, rfl, hR1, hR2, hbe⟩
      obtain ⟨Ab1, cb1, rfl⟩ := Kd.R_slice hR1
      obtain ⟨Ab2, cb2, rfl⟩ := Kd.R_slice hR2
      have HB3 := Aside0.mk (below_step HB1.out hbe)
      have HG2b := Aside0.mk (blk_below HG2.out hbe)
      have hcf3 := cf3 HG2b
      clear hR1 hR2 hbe hcf2
      go_wp2_with (first
        | ((with_reducible refine gate_dst (N := 4) rfl ?_); refine alloc_ev rfl (N := 4) rfl (cs := #[.bool false, .slice none 0 0, .slice none 0 0]) (t := 47) HB3 ?hr4 ?_; (case hr4 => first | (go_simp; done) | (go_simp; rfl)); intro g4 w4 HG4 HGe4 HE4 HB4; have HG2c := Aside0.mk (blk_below HG2b.out HE4.out); have hcf4 := cf3 HG4; have hcf5 := cf3 HG2c; have n1 : ¬ g2 = g4 := (by have := blk_lt HG2b.out; have := HGe4.out; omega); have n2 : ¬ g4 = g2 := fun h => n1 h.symm))
      have hg4 : w.heap.size ≤ g4 := by have := HGe4.out; have := HB3.out.size; omega
      have q1 := ((keep3 (w := w4) (g := g4) (x := .bool false) (y := .slice Ab1 0 cb1) (z := .slice Ab2 0 cb2)).2 g2 (blk_lt HG2c.out) n1 (by simp)).trans HG2c.out
      refine bodyPost_ret (results_ct rfl _ _ g2 47 #[.bool false, .slice none 0 0, .slice none 0 0] (0, 0) _ rfl (put3 q1) Try.underlying47 rfl (by kernel_rfl)) rfl ?_
      exact ⟨below3 (below3 HB4.out hg4) hg2, rfl⟩
    | ok q =>
      rw [hit] at hk HRES
      obtain ⟨x, r⟩ := q
      refine (proctorref02_read.calls K (fun _ => True) A c l 16 _ _ _ _ _ _ (Kd.V_mk hc (F_all (Kd.C_below HC.out HB1.out))) hk).mono ?_
      have hrl := itemP_len hit
      clear hK hk hit
      rintro e w3 ⟨v1, v2, rfl, hR1, hR2, hbe⟩
      obtain ⟨Ab1, cb1, rfl⟩ := Kd.R_slice hR1
      obtain ⟨Ab2, cb2, rfl⟩ := Kd.R_slice hR2
      have HB3 := Aside0.mk (below_step HB1.out hbe)
      have HG2b := Aside0.mk (blk_below HG2.out hbe)
      have HR1 := Aside0.mk hR1
      have HR2 := Aside0.mk hR2
      have hcf3 := cf3 HG2b
      clear hR1 hR2 hbe hcf2
      by_cases hr0 : r = []
      · subst hr0
        obtain rfl : res = .ok x := HRES.out
        obtain ⟨x0, x1, x2⟩ := x
        simp only at *
        have hd3 : decide (((l.length : Int) - (([] : List Int).length : Int)) < (l.length : Int)) = false := decide_eq_false (by simp)
        simp only [List.length_nil, Int.sub_zero, Int.natCast_zero, Int.ofNat_zero] at hd3 ⊢
        go_wp2_with (first
          | ((with_reducible refine gate_dst (N := 4) rfl ?_); refine alloc_ev rfl (N := 4) rfl (cs := #[.bool false, .slice none 0 0, .slice none 0 0]) (t := 47) HB3 ?hr4 ?_; (case hr4 => first | (go_simp; done) | (go_simp; rfl)); intro g4 w4 HG4 HGe4 HE4 HB4; have HG2c := Aside0.mk (blk_below HG2b.out HE4.out); have hcf4 := cf3 HG4; have hcf5 := cf3 HG2c; have n1 : ¬ g2 = g4 := (by have := blk_lt HG2b.out; have := HGe4.out; omega); have n2 : ¬ g4 = g2 := fun h => n1 h.symm))
        have hg4 : w.heap.size ≤ g4 := by have := HGe4.out; have := HB3.out.size; omega
        have q1 := ((keep3 (w := w4) (g := g4) (x := .bool x0) (y := .slice Ab1 x1.length cb1) (z := .slice Ab2 x2.length cb2)).2 g2 (blk_lt HG2c.out) n1 (by simp)).trans HG2c.out
        refine bodyPost_ret (results_ct rfl _ _ g2 47 #[.bool x0, .slice Ab1 x1.length cb1, .slice Ab2 x2.length cb2] (0, 0) _ rfl (put3 q1) Try.underlying47 rfl (by kernel_rfl)) rfl ?_
        have hfar : ∀ k, w1.heap.size ≤ k ∧ k < w3.heap.size → k ≠ g2 ∧ k ≠ g4 := fun k hk => ⟨by have := blk_lt HG2.out; omega, by have := HGe4.out; omega⟩
        refine ⟨below3 (below3 HB4.out hg4) hg2, _, _, rfl, ?_, ?_⟩
        · refine Kd.R_lower (Kd.R_mono (Kd.R_step (Kd.R_below (Kd.R_mono (Kd.R_bound HR1.out) (ok' := fun k => w1.heap.size ≤ k ∧ k < w3.heap.size) (fun k hk => ⟨hk.2.1, hk.2.2.1⟩)) HE4.out) (fun k hk _ => ?_)) (fun _ _ => trivial)) HB1.out.size
          iterate 6 rw [Below.heap_setCell _ _ _ _ (by first | exact (hfar k hk).1 | exact (hfar k hk).2)]
        · refine Kd.R_lower (Kd.R_mono (Kd.R_step (Kd.R_below (Kd.R_mono (Kd.R_bound HR2.out) (ok' := fun k => w1.heap.size ≤ k ∧ k < w3.heap.size) (fun k hk => ⟨hk.2.1, hk.2.2.1⟩)) HE4.out) (fun k hk _ => ?_)) (fun _ _ => trivial)) HB1.out.size
          iterate 6 rw [Below.heap_setCell _ _ _ _ (by first | exact (hfar k hk).1 | exact (hfar k hk).2)]
      · obtain rfl : res = .error 8 := by rw [HRES.out]; simp [Except.bind, hr0]
        obtain ⟨x0, x1, x2⟩ := x
        simp only at *
        obtain ⟨d, hd0⟩ : ∃ d, d = (l.length : Int) - (r.length : Int) := ⟨_, rfl⟩
        have hd3 : decide (d < (l.length : Int)) = true := decide_eq_true (by have : 0 < r.length := List.length_pos_iff.mpr hr0; omega)
        rw [← hd0]
        clear hd0
        go_wp2_with (first
          | ((with_reducible refine gate_dst (N := 4) rfl ?_); refine alloc_ev rfl (N := 4) rfl (cs := #[.bool false, .slice none 0 0, .slice none 0 0]) (t := 47) HB3 ?hr4 ?_; (case hr4 => first | (go_simp; done) | (go_simp; rfl)); intro g4 w4 HG4 HGe4 HE4 HB4; have HG2c := Aside0.mk (blk_below HG2b.out HE4.out); have hcf4 := cf3 HG4; have hcf5 := cf3 HG2c; have n1 : ¬ g2 = g4 := (by have := blk_lt HG2b.out; have := HGe4.out; omega); have n2 : ¬ g4 = g2 := fun h => n1 h.symm))
        have hg4 : w.heap.size ≤ g4 := by have := HGe4.out; have := HB3.out.size; omega
        have q1 := ((keep3 (w := w4) (g := g4) (x := .bool x0) (y := .slice Ab1 x1.length cb1) (z := .slice Ab2 x2.length cb2)).2 g2 (blk_lt HG2c.out) n1 (by simp)).trans HG2c.out
        refine bodyPost_ret (results_ct rfl _ _ g2 47 #[.bool false, .slice none 0 0, .slice none 0 0] (0, 0) _ rfl (put3 q1) Try.underlying47 rfl (by kernel_rfl)) rfl ?_
        exact ⟨below3 (below3 HB4.out hg4) hg2, rfl⟩
end Go.Proofs.Ytdjoekckhmggbaa.H
namespace Go.Proofs.Ytdjoekckhmggbaa.H
open Go.RowKit Go.Proofs.YtdjoekckhmggbaaW.PrintWords Go.Proofs.YtdjoekckhmggbaaW.PrintLast Go.Proofs.YtdjoekckhmggbaaW.PrintMore Go.Proofs.Ytdjoekckhmggbaa.PRF
attribute [local go_sem] max2_int min2_int max_two min_two max_three min_three max_four min_four
set_option linter.unusedVariables false
set_option linter.unusedSimpArgs false
theorem bytes_C {w : World} {g : Nat} {t : TypeId} {fr : Nat × Nat} (xs : List Int) (hm : xs.length ≤ 9223372036854775807) (h : w.heap[g]? = some (.cells (xs.map (Value.int .u8)).toArray t fr)) :
    Kd.C (Kd.int .u8) w (some ⟨g, 0, none⟩) xs.length xs := by
  refine Kd.C_of_reads (d := 0) ⟨rfl, hm, fun _ => ⟨_, rfl, fun j hj => ?_⟩⟩
  have := cell_of_row w g j _ t fr h
  have e : (⟨g, 0, none⟩ : Addr).add j = ⟨g, j, none⟩ := by
    unfold Addr.add
    split
    · rename_i h0; rw [h0]
    · simp
  rw [e, this]
  simp [List.getD_eq_getElem?_getD, hj]
theorem blk_new (w : World) (o : Obj) (n : Nat) (hn : n = w.heap.size) : (w.alloc o).heap[n]? = some o := by
  subst hn
  show (w.heap.push o)[w.heap.size]? = _
  simp
end Go.Proofs.Ytdjoekckhmggbaa.H
namespace Go.Proofs.Ytdjoekckhmggbaa.H
open Go.RowKit Go.Proofs.YtdjoekckhmggbaaW.PrintWords Go.Proofs.YtdjoekckhmggbaaW.PrintLast Go.Proofs.YtdjoekckhmggbaaW.PrintMore Go.Proofs.Ytdjoekckhmggbaa.PRF
attribute [local go_sem] max2_int min2_int max_two min_two max_three min_three max_four min_four
set_option linter.unusedVariables false
set_option linter.unusedSimpArgs false
theorem decode_err {l : List Int} {e : Int} (h : decodeP l = .error e) : e ≠ 0 := by
  unfold decodeP at h
  split at h
  · cases h; decide
  · rcases bind_err h with h | ⟨q, _, h⟩
    · exact itemP_err h
    · split at h
      · cases h
      · cases h; decide
end Go.Proofs.Ytdjoekckhmggbaa.H
namespace Go.Proofs.Ytdjoekckhmggbaa.H
open Go.RowKit Go.Proofs.YtdjoekckhmggbaaW.PrintWords Go.Proofs.YtdjoekckhmggbaaW.PrintLast Go.Proofs.YtdjoekckhmggbaaW.PrintMore Go.Proofs.Ytdjoekckhmggbaa.PRF
set_option linter.unusedVariables false
theorem row_C {W : World} {a : Option Addr} {len cap : Nat} {z : List Int}
    (h : (a = none ∧ len = 0 ∧ cap = 0 ∧ z = []) ∨ ∃ x, a = some x ∧ len ≤ cap ∧ cap ≤ maxLen ∧ z.length = cap ∧ (∀ i, i < z.length → W.cell? (x.add i) = some (.int .u8 (z.getD i 0))) ∧ ∀ n ∈ z, (Lit.int .u8 n).wf = true) :
    ∃ l : List Int, Kd.C (Kd.int .u8) W a l.length l ∧ l.length = len ∧ len ≤ cap ∧ Byt l := by
  rcases h with ⟨rfl, rfl, rfl, rfl⟩ | ⟨x, rfl, h1, h2, h3, h4, h5⟩
  · exact ⟨[], Kd.C_nil _ _, rfl, Nat.le_refl _, Byt.nil⟩
  · have hl : (z.take len).length = len := by rw [List.length_take]; omega
    refine ⟨z.take len, Kd.C_of_reads (d := 0) ⟨rfl, ?_, fun _ => ⟨x, rfl, fun j hj => ?_⟩⟩, hl, h1, fun n hn => ?_⟩
    · have : maxLen ≤ 9223372036854775807 := by decide
      omega
    · rw [hl] at hj
      rw [h4 j (by omega)]
      simp [List.getD_eq_getElem?_getD, hj]
    · have := h5 n (List.mem_of_mem_take hn)
      simp [Lit.wf, IntKind.min, IntKind.max, IntKind.signed, IntKind.bits] at this
      omega
end Go.Proofs.Ytdjoekckhmggbaa.H
namespace Go.Proofs.Ytdjoekckhmggbaa.H
open Go.RowKit Go.Proofs.YtdjoekckhmggbaaW.PrintWords Go.Proofs.YtdjoekckhmggbaaW.PrintLast Go.Proofs.YtdjoekckhmggbaaW.PrintMore Go.Proofs.Ytdjoekckhmggbaa.PRF
attribute [local go_sem] max2_int min2_int max_two min_two max_three min_three max_four min_four
set_option linter.unusedVariables false
set_option linter.unusedSimpArgs false
end Go.Proofs.Ytdjoekckhmggbaa.H
namespace Go.Proofs.Ytdjoekckhmggbaa.H
open Go.RowKit Go.Proofs.YtdjoekckhmggbaaW.PrintWords Go.Proofs.YtdjoekckhmggbaaW.PrintLast Go.Proofs.YtdjoekckhmggbaaW.PrintMore Go.Proofs.Ytdjoekckhmggbaa.PRF
attribute [local go_sem] max2_int min2_int max_two min_two max_three min_three max_four min_four
set_option linter.unusedVariables false
set_option linter.unusedSimpArgs false
end Go.Proofs.Ytdjoekckhmggbaa.H
