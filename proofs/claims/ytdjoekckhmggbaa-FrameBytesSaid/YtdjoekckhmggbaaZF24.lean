import Derived.Test.YtdjoekckhmggbaaZF23
import Derived.Deep.RegionHeld3
namespace Go.Proofs.Ytdjoekckhmggbaa.H
open Go.RowKit Go.Proofs.YtdjoekckhmggbaaW.PrintWords Go.Proofs.YtdjoekckhmggbaaW.PrintLast Go.Proofs.YtdjoekckhmggbaaW.PrintMore Go.Proofs.Ytdjoekckhmggbaa.PRF
attribute [local go_sem] max2_int min2_int max_two min_two max_three min_three max_four min_four
set_option linter.unusedVariables false
set_option linter.unusedSimpArgs false
def StrPost (x : S47) (w : World) (e : Ending) (w' : World) : Prop := Below w.heap.size w w' ∧ ∃ A n c B d, e = .returned (.agg #[.bool false, .slice A n c, .slice B 0 d]) ∧ Kd.FK k47 w' (fun k => w.heap.size ≤ k) x [.bool false, .slice A n c, .slice B 0 d]
theorem str_post {l : List Int} {w w' : World} {e : Ending} (h : ∃ v1_ v2_ : Value, e = .returned (.agg #[.bool false, v1_, v2_]) ∧ Kd.R (Kd.int .u8) 5 w' w.heap.size (fun _ => True) v1_ l ∧ Kd.R k47 47 w' w.heap.size (fun k_ => some k_ ≠ (v1_ : Value).ownBlock) v2_ [] ∧ Below w.heap.size w w') : StrPost ⟨false, l, []⟩ w e w' := by
  obtain ⟨v1, v2, rfl, h1, h2, hb⟩ := h
  obtain ⟨A, c, rfl, hc, hC⟩ := Kd.R_reads h1
  obtain ⟨B, d, rfl, hd, hD⟩ := Kd.R_reads h2
  exact ⟨hb, A, _, c, B, d, rfl, k47_mkF w' _ ⟨false, l, []⟩ hc (Kd.R_F (Kd.R_mono (Kd.R_bound h1) (fun k hk => hk.2.1))) hd (Kd.R_F (Kd.R_mono (Kd.R_bound h2) (fun k hk => hk.2.1)))⟩
theorem num_any (n : Nat) (h : n ≤ 18446744073709551615) (w : World) : Calls Try.prog 32 #[.int .u64 n] w (StrPost (numI n) w) :=
  (rlp_Num.calls 15 n false (bigP n) [] w (num_f n h)).mono fun _ _ h => str_post h
theorem rnum_any (n : Nat) (h : n ≤ 18446744073709551615) (w : World) : Calls Try.prog 33 #[.int .u64 n] w (StrPost (numI n) w) :=
  (proctorref02_Num.calls 9 n false (bigP n) [] w (rnum_f n h)).mono fun _ _ h => str_post h
theorem raw_any (A : Option Addr) (c : Nat) (l : List Int) (w : World) (hC : Kd.C (Kd.int .u8) w A l.length l) (hc : l.length ≤ c) (hl : l.length < 140737488355328) : Calls Try.prog 70 #[.slice A l.length c] w (StrPost ⟨false, l, []⟩ w) :=
  (proctorref02_Raw.calls A c l false l [] w hC hc (by rw [proctorref02_Raw.f, copy_f l hl]; rfl)).mono fun _ _ h => str_post h
theorem items4_C {w : World} {g : Nat} {t : TypeId} {fr : Nat × Nat} (x0 x1 x2 x3 : S47) {a0 b0 c0 a1 b1 c1 a2 b2 c2 a3 b3 c3 : Value} (h0 : k47.K w x0 [a0, b0, c0]) (h1 : k47.K w x1 [a1, b1, c1]) (h2 : k47.K w x2 [a2, b2, c2]) (h3 : k47.K w x3 [a3, b3, c3])
    (h : w.heap[g]? = some (.cells #[a0, b0, c0, a1, b1, c1, a2, b2, c2, a3, b3, c3] t fr)) : Kd.C k47 w (some ⟨g, 0, none⟩) 4 [x0, x1, x2, x3] := by
  refine ⟨rfl, by omega, fun _ => ⟨_, rfl, fun j p hj => ?_⟩⟩
  have hc := fun k => cell_of_row w g k _ t fr h
  match j, hj with
  | 0, hj =>
    simp only [List.getElem?_cons_zero, Option.some.injEq] at hj
    subst hj
    refine ⟨_, rfl, h0, fun i u hu => ?_⟩
    match i, hu with
    | 0, hu => rw [← hu]; exact hc 0
    | 1, hu => rw [← hu]; exact hc 1
    | 2, hu => rw [← hu]; exact hc 2
  | 1, hj =>
    simp only [List.getElem?_cons_succ, List.getElem?_cons_zero, Option.some.injEq] at hj
    subst hj
    refine ⟨_, rfl, h1, fun i u hu => ?_⟩
    match i, hu with
    | 0, hu => rw [← hu]; exact hc 3
    | 1, hu => rw [← hu]; exact hc 4
    | 2, hu => rw [← hu]; exact hc 5
  | 2, hj =>
    simp only [List.getElem?_cons_succ, List.getElem?_cons_zero, Option.some.injEq] at hj
    subst hj
    refine ⟨_, rfl, h2, fun i u hu => ?_⟩
    match i, hu with
    | 0, hu => rw [← hu]; exact hc 6
    | 1, hu => rw [← hu]; exact hc 7
    | 2, hu => rw [← hu]; exact hc 8
  | 3, hj =>
    simp only [List.getElem?_cons_succ, List.getElem?_cons_zero, Option.some.injEq] at hj
    subst hj
    refine ⟨_, rfl, h3, fun i u hu => ?_⟩
    match i, hu with
    | 0, hu => rw [← hu]; exact hc 9
    | 1, hu => rw [← hu]; exact hc 10
    | 2, hu => rw [← hu]; exact hc 11
theorem K_to {w w' : World} {x : S47} {cs : List Value} (h : k47.K w x cs) (hb : Below w.heap.size w w') : k47.K w' x cs := k47.K_below hb h
def WritePost (r : List Int × Int) (w : World) (e : Ending) (w' : World) : Prop := Below w.heap.size w w' ∧ ∃ v, e = .returned (.tuple #[v, .int .i64 r.2]) ∧ Kd.R (Kd.int .u8) 5 w' w.heap.size (fun _ => True) v r.1
theorem enc_item (f : S40) (h : f.f3.length ≤ 4096) : encP (itemF4 f) = (formP (itemF4 f), 0) := by
  unfold encP
  rw [if_pos (item_vP f h)]
set_option maxHeartbeats 2000000 in
set_option maxRecDepth 100000 in
theorem write_any (f : S40) (hf : FrOk f) (A : Option Addr) (c : Nat) (w : World) (hC : Kd.C (Kd.int .u8) w A f.f3.length f.f3) (hc : f.f3.length ≤ c) :
    Calls Try.prog 38 #[.agg #[.int .u64 f.f0, .int .i64 f.f1, .bool f.f2, .slice A f.f3.length c]] w (WritePost (writeP f) w) := by
  have HB := Aside0.mk (Below.refl w.heap.size w)
  have HC := Aside0.mk hC
  have Hc := Aside0.mk hc
  have HM := Aside0.mk (fun w' h1 => frame_may.calls f.f0 f.f1 f.f2 A c f.f3 (mayF f) w' h1 hc (may_f f))
  have HRES : Aside0 (writeP f = if mayF f = true then (formP (itemF4 f), 0) else ([], 2)) := ⟨rfl⟩
  generalize writeP f = res at *
  have HMB := Aside0.mk (fun h => may_of (f := f) h)
  obtain ⟨u0, u1⟩ := u64_of hf.1
  have HEI := Aside0.mk (enc_item f)
  have HITM : Aside0 (itemF4 f = ⟨true, [], [numI f.f0.toNat, numI f.f1.toNat, numI (lastN f.f2), ⟨false, f.f3, []⟩]⟩) := ⟨rfl⟩
  generalize itemF4 f = x at *
  clear hC hc hf
  generalize mayF f = my at *
  obtain ⟨f0, f1, f2, f3⟩ := f
  dsimp only at *
  obtain ⟨m0, rfl⟩ := Int.eq_ofNat_of_zero_le u0
  obtain ⟨n, hn⟩ : ∃ n, n = f3.length := ⟨_, rfl⟩
  have HN := Aside0.mk hn
  rw [← hn] at HM HC ⊢
  clear hn u0
  have HBx := Aside0.mk (below_alloc HB.out (.cells #[.int .u64 m0, .int .i64 f1, .bool f2, .slice A n c] 40))
  have HGx := Aside0.mk (blk_new w (.cells #[.int .u64 m0, .int .i64 f1, .bool f2, .slice A n c] 40) _ rfl)
  have hcf := cf4 HGx
  go_enter Try.func38, Try.ntmps38
  go_wp2_with fail
  generalize (w.alloc (.cells #[.int .u64 m0, .int .i64 f1, .bool f2, .slice A n c] 40)) = w1 at *
  obtain ⟨g1, hg1⟩ : ∃ g, g = w.heap.size := ⟨_, rfl⟩
  rw [← hg1] at HGx hcf ⊢
  clear hg1 hcf
  refine (HM.out w1 (Kd.C_below HC.out HBx.out)).mono ?_
  rintro e w2 ⟨rfl, hE2⟩
  have HB2 := Aside0.mk (below_step HBx.out hE2)
  have HG2 := Aside0.mk (blk_below HGx.out hE2)
  have hcf := cf4 HG2
  clear hE2
  cases my with
  | false =>
    go_wp2_with fail
    go_ret2
    obtain rfl : res = ([], 2) := HRES.out
    exact ⟨HB2.out, _, rfl, Kd.R_nil _ _ _ _ _⟩
  | true =>
    obtain ⟨q0, q1, q2⟩ := HMB.out rfl
    obtain ⟨m1, rfl⟩ := Int.eq_ofNat_of_zero_le q0
    obtain rfl : res = (formP x, 0) := HRES.out
    have HENC : Aside0 (∀ B d w', Kd.C k47 w' B 4 [numI m0, numI m1, numI (lastN f2), ⟨false, f3, []⟩] → 4 ≤ d → Calls Try.prog 28 #[.agg #[.bool true, .slice none 0 0, .slice B 4 d]] w' fun e w'' => ∃ v, e = .returned (.tuple #[v, .int .i64 0]) ∧ Kd.R (Kd.int .u8) 5 w'' w'.heap.size (fun _ => True) v (formP x) ∧ Below w'.heap.size w' w'') := ⟨fun B d w' h hd => by
      have h0 := encode_any x none B 0 d w'
      rw [HEI.out q2] at h0
      obtain rfl := HITM.out
      rw [Int.toNat_natCast, Int.toNat_natCast] at h0
      exact h0 (Kd.C_nil _ _) (Nat.le_refl _) h hd⟩
    have HN0 := Aside0.mk (fun w' => num_any m0 (by omega) w')
    have HN1 := Aside0.mk (fun w' => num_any m1 (by omega) w')
    have HK := Aside0.mk (show ∀ W', Below w2.heap.size w2 W' → (fun W' => Below w2.heap.size w2 W' ∧ W'.cell? ⟨g1, 0, none⟩ = some (.int .u64 (m0 : Int)) ∧ W'.cell? ⟨g1, 1, none⟩ = some (.int .i64 (m1 : Int)) ∧ W'.cell? ⟨g1, 3, none⟩ = some (.slice A n c)) W' from fun W' h => ⟨h, (cf4 ⟨blk_below HG2.out h⟩).1, (cf4 ⟨blk_below HG2.out h⟩).2.1, (cf4 ⟨blk_below HG2.out h⟩).2.2.2.1⟩)
    have hS0 := below_drew (Below.refl w2.heap.size w2)
    have hwm : IntKind.u64.wrap (m1 : Int) = m1 := by rw [IntKind.wrap_u64]; omega
    have HF3 : Aside0 (∀ W', Below w2.heap.size w2 W' → k47.K W' ⟨false, f3, []⟩ [.bool false, .slice A n c, .slice none 0 0]) := ⟨fun W' h => by
      have h1 := Kd.C_below (Kd.C_below HC.out HB2.out) h
      rw [HN.out] at h1 ⊢
      exact k47_mk W' ⟨false, f3, []⟩ Hc.out h1 (Nat.le_refl _) (Kd.C_nil _ _)⟩
    cases f2 with
    | false =>
      have HN2 := Aside0.mk (show ∀ w', Calls Try.prog 32 #[Value.int .u64 0] w' (StrPost (numI (lastN false)) w') from fun w' => num_any 0 (by omega) w')
      go_wp2_with fail
      go_region_held3 (fun W' => Below w2.heap.size w2 W' ∧ W'.cell? ⟨g1, 0, none⟩ = some (.int .u64 (m0 : Int)) ∧ W'.cell? ⟨g1, 1, none⟩ = some (.int .i64 (m1 : Int)) ∧ W'.cell? ⟨g1, 3, none⟩ = some (.slice A n c)) (first | exact HK.out _ (by assumption) | exact HK.out _ (below_alloc (by assumption) _)) (first
        | (go_at_call 32; (with_reducible refine (HN0.out _).mono ?_); rintro e wa ⟨hEa, Aa, na, ca, Ba, da, rfl, hKa⟩; have HEa := Aside0.mk hEa; have HKa := Aside0.mk (Kd.FK_now hKa); have hTa := below_step hS0 hEa; clear hEa hKa)
        | (go_at_call 32; (with_reducible refine (HN1.out _).mono ?_); rintro e wb ⟨hEb, Ab, nb, cb, Bb, db, rfl, hKb⟩; have HEb := Aside0.mk hEb; have HKb := Aside0.mk (Kd.FK_now hKb); have hTb := below_step hTa hEb; clear hEb hKb)
        | (go_at_call 32; (with_reducible refine (HN2.out _).mono ?_); rintro e wc ⟨hEc, Ac, nc, cc, Bc, dc, rfl, hKc⟩; have HEc := Aside0.mk hEc; have HKc := Aside0.mk (Kd.FK_now hKc); have hTc := below_step hTb hEc; clear hEc hKc)
        | (go_at_call 28; refine (HENC.out _ _ _ (items4_C _ _ _ _ (K_to (K_to (K_to HKa.out HEb.out) HEc.out) (below_alloc (Below.refl _ _) _)) (K_to (K_to HKb.out HEc.out) (below_alloc (Below.refl _ _) _)) (K_to HKc.out (below_alloc (Below.refl _ _) _)) (HF3.out _ (below_alloc hTc _)) (blk_new _ _ _ rfl)) (Nat.le_refl _)).mono ?_; rintro e wd ⟨vd, rfl, hRd, hEd⟩; have HEd := Aside0.mk (below_step (below_alloc hTc _) hEd); have HRd := Aside0.mk hRd; have HLd := Aside0.mk (Nat.le_trans HB2.out.size (below_alloc hTc (.cells #[] 47)).size); clear hRd; have hTd := HEd.out))
      go_wp2
      go_ret2
      exact ⟨below_step HB2.out HEd.out, _, rfl, Kd.R_lower HRd.out (by have := HLd.out; simpa using this)⟩
    | true =>
      have HN2 := Aside0.mk (show ∀ w', Calls Try.prog 32 #[Value.int .u64 1] w' (StrPost (numI (lastN true)) w') from fun w' => num_any 1 (by omega) w')
      go_wp2_with fail
      go_region_held3 (fun W' => Below w2.heap.size w2 W' ∧ W'.cell? ⟨g1, 0, none⟩ = some (.int .u64 (m0 : Int)) ∧ W'.cell? ⟨g1, 1, none⟩ = some (.int .i64 (m1 : Int)) ∧ W'.cell? ⟨g1, 3, none⟩ = some (.slice A n c)) (first | exact HK.out _ (by assumption) | exact HK.out _ (below_alloc (by assumption) _)) (first
        | (go_at_call 32; (with_reducible refine (HN0.out _).mono ?_); rintro e wa ⟨hEa, Aa, na, ca, Ba, da, rfl, hKa⟩; have HEa := Aside0.mk hEa; have HKa := Aside0.mk (Kd.FK_now hKa); have hTa := below_step hS0 hEa; clear hEa hKa)
        | (go_at_call 32; (with_reducible refine (HN1.out _).mono ?_); rintro e wb ⟨hEb, Ab, nb, cb, Bb, db, rfl, hKb⟩; have HEb := Aside0.mk hEb; have HKb := Aside0.mk (Kd.FK_now hKb); have hTb := below_step hTa hEb; clear hEb hKb)
        | (go_at_call 32; (with_reducible refine (HN2.out _).mono ?_); rintro e wc ⟨hEc, Ac, nc, cc, Bc, dc, rfl, hKc⟩; have HEc := Aside0.mk hEc; have HKc := Aside0.mk (Kd.FK_now hKc); have hTc := below_step hTb hEc; clear hEc hKc)
        | (go_at_call 28; refine (HENC.out _ _ _ (items4_C _ _ _ _ (K_to (K_to (K_to HKa.out HEb.out) HEc.out) (below_alloc (Below.refl _ _) _)) (K_to (K_to HKb.out HEc.out) (below_alloc (Below.refl _ _) _)) (K_to HKc.out (below_alloc (Below.refl _ _) _)) (HF3.out _ (below_alloc hTc _)) (blk_new _ _ _ rfl)) (Nat.le_refl _)).mono ?_; rintro e wd ⟨vd, rfl, hRd, hEd⟩; have HEd := Aside0.mk (below_step (below_alloc hTc _) hEd); have HRd := Aside0.mk hRd; have HLd := Aside0.mk (Nat.le_trans HB2.out.size (below_alloc hTc (.cells #[] 47)).size); clear hRd; have hTd := HEd.out))
      go_wp2
      go_ret2
      exact ⟨below_step HB2.out HEd.out, _, rfl, Kd.R_lower HRd.out (by have := HLd.out; simpa using this)⟩
end Go.Proofs.Ytdjoekckhmggbaa.H
