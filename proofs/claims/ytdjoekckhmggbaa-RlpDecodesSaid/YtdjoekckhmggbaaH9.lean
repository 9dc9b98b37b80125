import Derived.Test.YtdjoekckhmggbaaH8
namespace Go.Proofs.Ytdjoekckhmggbaa.H
open Go.RowKit Go.Proofs.YtdjoekckhmggbaaW.PrintWords Go.Proofs.YtdjoekckhmggbaaW.PrintLast Go.Proofs.YtdjoekckhmggbaaW.PrintMore Go.Proofs.Ytdjoekckhmggbaa.PRF
attribute [local go_sem] max2_int min2_int max_two min_two max_three min_three max_four min_four
set_option linter.unusedVariables false
set_option linter.unusedSimpArgs false

set_option maxHeartbeats 4000000 in
set_option maxRecDepth 100000 in
theorem form_list (f1 : List Int) (l : List S47) (v : Value) (xs : List Int) (A1 A2 : Option Addr) (c1 c2 : Nat) (w0 w : World) (hB : Below w0.heap.size w0 w)
    (hC2 : Kd.C k47 w0 A2 l.length l) (hc2 : l.length ≤ c2) (hR : Kd.R (Kd.int .u8) 5 w w0.heap.size (fun _ => True) v xs) (hl : xs.length + (aheadP 192 (formsP l).length ++ formsP l).length ≤ 1099511627776)
    (ih : ∀ y ∈ l, ∀ (v : Value) (xs : List Int) (A1 A2 : Option Addr) (c1 c2 : Nat) (w0 w : World), Below w0.heap.size w0 w → Kd.C (Kd.int .u8) w0 A1 y.f1.length y.f1 → y.f1.length ≤ c1 → Kd.C k47 w0 A2 y.f2.length y.f2 → y.f2.length ≤ c2 →
      Kd.R (Kd.int .u8) 5 w w0.heap.size (fun _ => True) v xs → xs.length + (formP y).length ≤ 1099511627776 → Calls Try.prog 53 #[v, .agg #[.bool y.f0, .slice A1 y.f1.length c1, .slice A2 y.f2.length c2]] w (GrewPost w0 (xs ++ formP y))) :
    Calls Try.prog 53 #[v, .agg #[.bool true, .slice A1 f1.length c1, .slice A2 l.length c2]] w (GrewPost w0 (xs ++ (aheadP 192 (formsP l).length ++ formsP l))) := by
  have IH := Aside0.mk ih
  have HB := Aside0.mk hB
  have HC2 := Aside0.mk hC2
  have HR := Aside0.mk hR
  have hm := hC2.2.1
  clear hB hC2 hR ih
  obtain ⟨n1, hn1⟩ : ∃ n, n = f1.length := ⟨_, rfl⟩
  rw [← hn1]
  clear hn1
  have hlen : (formsP l).length ≤ 1099511627776 := by simp at hl; omega
  have ha := ahead_f 192 (formsP l).length (by omega) (by omega) (by omega)
  have HA := Aside0.mk ha
  clear ha
  obtain ⟨all, hall⟩ : ∃ all, all = formsP l := ⟨_, rfl⟩
  have HALL := Aside0.mk hall
  rw [← hall] at HA hl hlen ⊢
  clear hall
  obtain ⟨ah, hah⟩ : ∃ ah, ah = aheadP 192 all.length := ⟨_, rfl⟩
  rw [← hah] at HA hl ⊢
  clear hah
  have HL := Aside0.mk hl
  have HLEN := Aside0.mk hlen
  clear hl hlen
  go_enter Try.func53, Try.ntmps53
  go_wp2_with (first
    | ((with_reducible refine gate_dst (N := 3) rfl ?_); refine alloc_ev rfl (N := 3) rfl (cs := #[.bool true, .slice A1 n1 c1, .slice A2 l.length c2]) (t := 47) HB ?hr ?_; (case hr => first | (go_simp; done) | (go_simp; rfl)); intro g3 w1 HG3 HGe3 HE1 HB1; have hcf := cf3 HG3; have HR1 := Aside0.mk (Kd.R_below HR.out HE1.out); have HNE : Aside0 (some g3 ≠ v.ownBlock) := ⟨fun he => by have := Kd.R_lt HR.out g3 he.symm; have := HGe3.out; omega⟩))
  go_loopw [5, 35] (fun v5 v35 wr => ∃ (i : Nat), i ≤ l.length ∧ v35 = .int .i64 (i : Int) ∧ Aside0 (Kd.R (Kd.int .u8) 5 wr w1.heap.size (fun _ => True) v5 (formsP (l.take i))) ∧ Aside0 (Below w1.heap.size w1 wr)) (fun _ v35 _ => l.length - (intOf v35).toNat)
  case atStart => exact ⟨0, Nat.zero_le _, rfl, ⟨Kd.R_nil _ _ _ _ _⟩, ⟨Below.refl _ _⟩⟩
  case round =>
    obtain ⟨i, hi, rfl, HU, HBr⟩ := hrel
    by_cases hlt : i < l.length
    · have hd : decide (i < l.length) = true := decide_eq_true hlt
      obtain ⟨ad, B1, d1, B2, d2, he, k0, k1, k2, q1, q2, q3, q4⟩ := at_T47 HC2.out (i : Int) (by omega) (by omega)
      subst he
      rw [rd47 l i hlt, Int.toNat_natCast] at k0 k1 k2
      rw [rd47 l i hlt] at q1 q2 q3 q4
      have HB2 := Aside0.mk (below_step HB1.out HBr.out)
      have k0' := pw_cell_below HB2.out k0
      have k1' := pw_cell_below HB2.out k1
      have k2' := pw_cell_below HB2.out k2
      clear k0 k1 k2 hcf
      have hcf2 := cf3 ⟨blk_below HG3.out HBr.out⟩
      have HIH := Aside0.mk (IH.out l[i] (List.getElem_mem hlt))
      have HT := Aside0.mk (formsP_take l i hlt)
      have HTL := formsP_take_le l (i + 1)
      rw [HT.out, List.length_append, ← HALL.out] at HTL
      have HTL' := Aside0.mk HTL
      clear HTL
      generalize l[i] = y at *
      have Q1 := Aside0.mk q1
      have Q2 := Aside0.mk q2
      have Q3 := Aside0.mk q3
      have Q4 := Aside0.mk q4
      clear q1 q2 q3 q4
      have HU' := Aside0.mk (fun o => Kd.R_alloc HU.out o)
      have HBr' := Aside0.mk (fun o => below_alloc HBr.out o)
      go_wp2_with fail
      refine (HIH.out u5 _ B1 B2 d1 d2 w1 _ (HBr'.out _) (Kd.C_below Q2.out HB1.out) Q1.out (Kd.C_below Q4.out HB1.out) Q3.out (HU'.out _) (by have := HTL'.out; have := HLEN.out; omega)).mono ?_
      rintro e w3 ⟨v3, rfl, hR3, hB3⟩
      have HR3 := Aside0.mk hR3
      have HB3 := Aside0.mk hB3
      clear hR3 hB3
      go_wp2
      go_roundw
      case rel => exact ⟨i + 1, hlt, by go_num, ⟨by rw [HT.out]; exact HR3.out⟩, HB3⟩
      case measure => simp [intOf]; omega
    · have hd : decide (i < l.length) = false := decide_eq_false hlt
      rw [List.take_of_length_le (by omega), ← HALL.out] at HU
      obtain ⟨Au, nu, cu, rfl, hnu⟩ := R_shape HU.out
      have HNu := Aside0.mk hnu
      have HBw := Aside0.mk (below_step HB1.out HBr.out)
      have HRw := Aside0.mk (Kd.R_below HR1.out HBr.out)
      have HG3b := Aside0.mk (blk_below HG3.out HBr.out)
      have hcf2 := cf3 HG3b
      clear hnu hcf
      go_wp2_with fail
      refine (rlp_ahead.calls 15 192 nu ah _ (by rw [HNu.out]; exact HA.out)).mono ?_
      rintro e w3 ⟨va, rfl, hRa, hE3⟩
      obtain ⟨Aa, na, ca, rfl, hna⟩ := R_shape hRa
      have HRa := Aside0.mk hRa
      have HNa := Aside0.mk hna
      have HB3 := Aside0.mk (below_step HBw.out hE3)
      have HR3 := Aside0.mk (Kd.R_below HRw.out hE3)
      have HU3 := Aside0.mk (Kd.R_below HU.out hE3)
      have HV3 := Aside0.mk (show ∀ k, v.ownBlock = some k → some k ≠ (Value.slice Au nu cu).ownBlock from fun k hk he => by
        have h1 := Kd.R_base HU.out k he.symm
        have h2 := Kd.R_lt HR.out k hk
        have h3 := below_size HE1.out
        omega)
      clear hRa hna hE3 hcf2
      go_wp2_with (first
        | ((with_reducible refine gate_builtin (b := .append) (xs := #[.tmp 43, .tmp 46]) rfl ?_); refine app_bytes (w0 := w0) rfl (.tmp 43) (.tmp 46) rfl v xs ah Aa ca (fun _ => True) rfl (by rw [← HNa.out]; rfl) HB3 HR3.out (by have := (Kd.R_reads' HRa.out).2.2; exact this) (fun _ _ => trivial) (by have := HL.out; simp at this; omega) ?_; intro v5 w5 HO5 HB5 hg5 hat5; have HU5 := Aside0.mk (Kd.R_reads' (Kd.R_grown2 HU3.out rfl hg5.out HV3.out)).2.2)
        | ((with_reducible refine gate_builtin (b := .append) (xs := #[.tmp 48, .tmp 49]) rfl ?_); refine app_bytes (w0 := w0) rfl (.tmp 48) (.tmp 49) rfl v5 (xs ++ ah) all Au cu (fun _ => True) rfl (by rw [← HNu.out]; rfl) HB5 HO5.out HU5.out (fun _ _ => trivial) (by have := HL.out; simp at this ⊢; omega) ?_; intro v6 w6 HO6 HB6 hg6 hat6))
      go_ret
      exact ⟨v6, rfl, by rw [← List.append_assoc]; exact HO6.out, HB6.out⟩
end Go.Proofs.Ytdjoekckhmggbaa.H
