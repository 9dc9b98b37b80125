import Derived.Test.YtdjoekckhmggbaaH3
namespace Go.Proofs.Ytdjoekckhmggbaa.H
open Go.RowKit Go.Proofs.YtdjoekckhmggbaaW.PrintWords Go.Proofs.YtdjoekckhmggbaaW.PrintLast Go.Proofs.YtdjoekckhmggbaaW.PrintMore Go.Proofs.Ytdjoekckhmggbaa.PRF
attribute [local go_sem] max2_int min2_int max_two min_two max_three min_three max_four min_four
set_option linter.unusedVariables false
set_option linter.unusedSimpArgs false

def strF (q : List Int × List Int) : Except Int (S47 × List Int) := if q.1.length = 1 ∧ q.1.headD 0 < 128 then .error 8 else .ok (⟨false, q.1, []⟩, q.2)

set_option maxHeartbeats 2000000 in
set_option maxRecDepth 100000 in
theorem item_str (A : Option Addr) (c n lv : Nat) (c0 : Int) (rest : List Int) (w : World) (hr : Kd.C (Kd.int .u8) w A n (c0 :: rest)) (hc : n ≤ c) (hlo : 128 ≤ c0) (hlt : c0 < 192) (hb : Byt rest) (hn65 : n ≤ 65536) :
    Calls Try.prog 50 #[.slice A n c, .int .i64 (lv : Int)] w (ItemPost A (c0 :: rest) ((bodyP (c0 - 128).toNat rest).bind strF) w) := by
  have HB := Aside0.mk (Below.refl w.heap.size w)
  have HR := Aside0.mk hr
  have hn : 0 < n := by have := hr.1; simp at this; omega
  have hm : n ≤ 9223372036854775807 := hr.2.1
  have hn1 : rest.length = n - 1 := by have hl := hr.1; simp only [List.length_cons] at hl; omega
  obtain ⟨ad, rfl, hcell⟩ := Kd.at_int hr 0 (by omega) (by omega)
  obtain ⟨A', hcut, hC0⟩ := tail_cut (A := some ad) hr.1 (by omega) hc
  have HC0 := Aside0.mk hC0
  have hC' := hC0 _ hr
  have HC' := Aside0.mk hC'
  simp only [List.drop_succ_cons, List.drop_zero] at HC' HC0
  clear hr hC' hC0
  simp only [Int.toNat_zero, Addr.add_zero', rd, List.getD_cons_zero] at hcell
  have hcw : ∀ w1, Below w.heap.size w w1 → w1.cell? ad = some (.int .u8 c0) := fun w1 hb => pw_cell_below hb hcell
  have HCW := Aside0.mk hcw
  clear hcw
  have hd : decide (c0 < 128) = false := decide_eq_false (by omega)
  have hd2 : decide (c0 < 192) = true := decide_eq_true (by omega)
  obtain ⟨r, hrr⟩ : ∃ r, r = bodyP (c0 - 128).toNat rest := ⟨_, rfl⟩
  have HBD := Aside0.mk (fun (W : World) (hbe : Below w.heap.size w W) => body_any c0 128 (c0 - 128).toNat A' (n - 1) rest W (by omega) (by omega) (by omega) (by omega) (by rw [hn1]; exact Kd.C_below HC'.out hbe) (by omega) hb)
  rw [hn1] at HBD
  rw [← hrr] at HBD ⊢
  obtain ⟨res, hres⟩ : ∃ res, res = r.bind strF := ⟨_, rfl⟩
  rw [← hres]
  have HRES := Aside0.mk hres
  have HRR := Aside0.mk hrr
  have HN1 := Aside0.mk hn1
  clear hrr hn1 hb hres
  go_enter Try.func50, Try.ntmps50
  go_wp2_with (first | ((with_reducible refine gate_dst (N := 4) rfl ?_); refine alloc_ev rfl (N := 4) rfl (cs := #[.bool false, .slice none 0 0, .slice none 0 0]) (t := 47) HB ?hr ?_; (case hr => first | (go_simp; done) | (go_simp; rfl)); intro g4 w1 HG HGe HE HB1; have hcw1 := HCW.out w1 HB1.out))
  refine (need_ok 7 _).mono ?_
  rintro e w' ⟨rfl, rfl⟩
  go_wp2_with fail
  refine (HBD.out _ HB1.out).mono ?_
  rintro e w' ⟨hdr, hp⟩
  obtain ⟨m, rfl⟩ := hdr.out
  clear hdr
  cases r with
  | error k =>
    obtain rfl := hp
    obtain rfl : res = .error k := HRES.out
    exact ⟨rfl, pw_below_drewN HB1.out m, rfl⟩
  | ok q =>
    obtain ⟨inner, left⟩ := q
    obtain ⟨A1, A2, rfl, hc12⟩ := hp
    obtain ⟨hc1, hc2⟩ := hc12 _ (by rw [HN1.out]; exact HC'.out)
    have HC12 := Aside0.mk hc12
    clear hc12
    simp only [Except.bind, strF] at HRES hc1 hc2
    have HC1 := Aside0.mk hc1
    have HC2 := Aside0.mk hc2
    have hil : inner.length ≤ 65536 := by have := bodyP_len HRR.out.symm; have := HN1.out; omega
    by_cases h1 : inner.length = 1
    · obtain ⟨ad1, rfl, hcell0⟩ := Kd.at_int hc1 0 (by omega) (by omega)
      obtain ⟨i0, rfl⟩ : ∃ i0, inner = [i0] := by
        match inner, h1 with
        | [i0], _ => exact ⟨i0, rfl⟩
      simp only [Int.toNat_zero, Addr.add_zero', rd, List.getD_cons_zero] at hcell0
      have hcell1 := pw_cell_below HB1.out hcell0
      clear hc1 hc2 h1
      by_cases hi0 : i0 < 128
      · have hd3 : decide (128 ≤ i0) = false := decide_eq_false (by omega)
        obtain rfl : res = .error 8 := by rw [HRES.out, if_pos ⟨rfl, by simpa using hi0⟩]
        go_wp2_with fail
        refine (need_no 8 _).mono ?_
        rintro e w' ⟨rfl, rfl⟩
        exact ⟨rfl, pw_below_drewN HB1.out m, rfl⟩
      · have hd3 : decide (128 ≤ i0) = true := decide_eq_true (by omega)
        obtain rfl : res = .ok (⟨false, [i0], []⟩, left) := by rw [HRES.out, if_neg (fun h => hi0 (by simpa using h.2))]
        go_wp2_with fail
        refine (need_ok 8 _).mono ?_
        rintro e w' ⟨rfl, rfl⟩
        go_wp2_with fail
        refine (clone_calls (some ad1) 1 [i0] (w1.drewN m) (Kd.C_below HC1.out (pw_below_drewN HB1.out m)) (Nat.le_refl _) (by (try simp only [List.length_singleton] at *); omega)).mono ?_
        rintro e w3 ⟨v, rfl, hV, hE3⟩
        obtain ⟨A3, c3, rfl⟩ := Kd.R_slice hV
        have HV := Aside0.mk hV
        have HE3 := Aside0.mk hE3
        have HG3 := Aside0.mk (blk_below (w := w1.drewN m) HG.out hE3)
        have HB3 := Aside0.mk (below_step (pw_below_drewN HB1.out m) hE3)
        have hcf := cf3 HG3
        clear hV hE3
        go_wp2
        have hg0 : w.heap.size ≤ g4 := Nat.le_of_eq HGe.out
        refine bodyPost_ret (results_ct rfl _ _ g4 47 #[.bool false, .slice A3 [i0].length c3, .slice none 0 0] (0, 0) _ rfl (put3 HG3.out) Try.underlying47 rfl (by kernel_rfl)) rfl ?_
        refine ⟨below3 HB3.out hg0, .slice A3 [i0].length c3, .slice none 0 0, A2, rfl, ?_, Kd.R_nil _ _ _ _ _, ?_⟩
        · exact Kd.R_lower (Kd.R_mono (Kd.R_keep (Kd.R_newB (w := w1.drewN m) HV.out HG.out) keep3 (fun k hk => hk.2)) (fun _ _ => trivial)) (below_size (pw_below_drewN HB1.out m))
        · intro W hW; rw [HR.out.1] at hW; exact (HC12.out W (by rw [HN1.out]; exact HC0.out W hW)).2
    · have h1b : ((inner.length : Int) == 1) = false := beq_eq_false_iff_ne.2 (by omega)
      obtain rfl : res = .ok (⟨false, inner, []⟩, left) := by rw [HRES.out, if_neg (fun h => h1 h.1)]
      have h1c : ((inner.length : Int) != 1) = true := by rw [bne_iff_ne]; omega
      clear hc1 hc2
      go_wp2_with fail
      refine (need_ok 8 _).mono ?_
      rintro e w' ⟨rfl, rfl⟩
      go_wp2_with fail
      refine (clone_calls A1 inner.length inner (w1.drewN m) (Kd.C_below HC1.out (pw_below_drewN HB1.out m)) (Nat.le_refl _) (by (try simp only [List.length_singleton] at *); omega)).mono ?_
      rintro e w3 ⟨v, rfl, hV, hE3⟩
      obtain ⟨A3, c3, rfl⟩ := Kd.R_slice hV
      have HV := Aside0.mk hV
      have HE3 := Aside0.mk hE3
      have HG3 := Aside0.mk (blk_below (w := w1.drewN m) HG.out hE3)
      have HB3 := Aside0.mk (below_step (pw_below_drewN HB1.out m) hE3)
      have hcf := cf3 HG3
      clear hV hE3
      go_wp2
      have hg0 : w.heap.size ≤ g4 := Nat.le_of_eq HGe.out
      refine bodyPost_ret (results_ct rfl _ _ g4 47 #[.bool false, .slice A3 inner.length c3, .slice none 0 0] (0, 0) _ rfl (put3 HG3.out) Try.underlying47 rfl (by kernel_rfl)) rfl ?_
      refine ⟨below3 HB3.out hg0, .slice A3 inner.length c3, .slice none 0 0, A2, rfl, ?_, Kd.R_nil _ _ _ _ _, ?_⟩
      · exact Kd.R_lower (Kd.R_mono (Kd.R_keep (Kd.R_newB (w := w1.drewN m) HV.out HG.out) keep3 (fun k hk => hk.2)) (fun _ _ => trivial)) (below_size (pw_below_drewN HB1.out m))
      · intro W hW; rw [HR.out.1] at hW; exact (HC12.out W (by rw [HN1.out]; exact HC0.out W hW)).2

end Go.Proofs.Ytdjoekckhmggbaa.H
