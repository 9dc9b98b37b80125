import Derived.Test.YtdjoekckhmggbaaZF24
namespace Go.Proofs.Ytdjoekckhmggbaa.H
open Go.RowKit Go.Proofs.YtdjoekckhmggbaaW.PrintWords Go.Proofs.YtdjoekckhmggbaaW.PrintLast Go.Proofs.YtdjoekckhmggbaaW.PrintMore Go.Proofs.Ytdjoekckhmggbaa.PRF
attribute [local go_sem] max2_int min2_int max_two min_two max_three min_three max_four min_four
set_option linter.unusedVariables false
set_option linter.unusedSimpArgs false
set_option maxHeartbeats 400000 in
theorem list_call (A : Option Addr) (n c : Nat) (w : World) : Calls Try.prog 69 #[.slice A n c] w fun e w' => e = .returned (.agg #[.bool true, .slice none 0 0, .slice A n c]) ∧ Below w.heap.size w w' := by
  go_enter Try.func69, Try.ntmps69
  go_wp2_with fail
  refine bodyPost_ret (results_cell_row rfl _ _ w.heap.size 47 #[.bool true, .slice none 0 0, .slice A n c] (0, 0) _ rfl (blk_new w _ _ rfl) Try.underlying47 rfl (by kernel_rfl)) rfl ?_
  exact ⟨rfl, below_alloc (Below.refl _ _) _⟩
def TI (w : World) (g1 : Nat) (cs : Array Value) (W' : World) : Prop := Below w.heap.size w W' ∧ W'.heap[g1]? = some (.cells cs 40 (0, 0))
theorem TI.step {w : World} {g1 : Nat} {cs : Array Value} {W' W'' : World} (h : TI w g1 cs W') (hb : Below W'.heap.size W' W'') : TI w g1 cs W'' := ⟨below_step h.1 hb, blk_below h.2 hb⟩
theorem TI.set {w : World} {g1 g2 : Nat} {cs : Array Value} {W' : World} (h : TI w g1 cs W') (hg : w.heap.size ≤ g2) (hne : g1 ≠ g2) (k : Nat) (v : Value) : TI w g1 cs (W'.setCell ⟨g2, k, none⟩ v) := ⟨below_set h.1 hg, blk_far h.2 hne v⟩
set_option maxHeartbeats 2000000 in
set_option maxRecDepth 100000 in
theorem ritem_any (f : S40) (hf : FrOk f) (hm : mayF f = true) (A : Option Addr) (c : Nat) (w : World) (hC : Kd.C (Kd.int .u8) w A f.f3.length f.f3) (hc : f.f3.length ≤ c) :
    Calls Try.prog 60 #[.agg #[.int .u64 f.f0, .int .i64 f.f1, .bool f.f2, .slice A f.f3.length c]] w fun e w' => Below w.heap.size w w' ∧ ∃ B d, e = .returned (.agg #[.bool true, .slice none 0 0, .slice B 4 d]) ∧ 4 ≤ d ∧ Kd.C k47 w' B 4 (itemF4 f).f2 := by
  have HB := Aside0.mk (Below.refl w.heap.size w)
  obtain ⟨q0, q1, q2⟩ := may_of hm
  obtain ⟨u0, u1⟩ := u64_of hf.1
  have HRW := Aside0.mk (fun w' h1 => raw_any A c f.f3 w' h1 hc (by omega))
  have HC := Aside0.mk hC
  have HI : Aside0 ((itemF4 f).f2 = [numI f.f0.toNat, numI f.f1.toNat, numI (lastN f.f2), ⟨false, f.f3, []⟩]) := ⟨rfl⟩
  generalize (itemF4 f).f2 = its at *
  clear hC hc hf hm
  obtain ⟨f0, f1, f2, f3⟩ := f
  dsimp only at *
  obtain ⟨m0, rfl⟩ := Int.eq_ofNat_of_zero_le u0
  obtain ⟨m1, rfl⟩ := Int.eq_ofNat_of_zero_le q0
  rw [Int.toNat_natCast, Int.toNat_natCast] at HI
  obtain ⟨n, hn⟩ : ∃ n, n = f3.length := ⟨_, rfl⟩
  rw [← hn] at HRW HC ⊢
  clear hn u0 q2
  have HBx := Aside0.mk (below_alloc (below_alloc HB.out (.cells #[.int .u64 m0, .int .i64 m1, .bool f2, .slice A n c] 40)) (.cells #[.bool false, .slice none 0 0, .slice none 0 0] 47))
  have HGx := Aside0.mk (blk_alloc (blk_new w (.cells #[.int .u64 m0, .int .i64 m1, .bool f2, .slice A n c] 40) _ rfl) (.cells #[.bool false, .slice none 0 0, .slice none 0 0] 47))
  have HGy := Aside0.mk (blk_new (w.alloc (.cells #[.int .u64 m0, .int .i64 m1, .bool f2, .slice A n c] 40)) (.cells #[.bool false, .slice none 0 0, .slice none 0 0] 47) (w.heap.size + 1) (by simp))
  have hcf0 := cf4 (blk_new w (.cells #[.int .u64 m0, .int .i64 m1, .bool f2, .slice A n c] 40) _ rfl |> Aside0.mk)
  have hcf := cf4 HGx
  have hwm : IntKind.u64.wrap (m1 : Int) = m1 := by rw [IntKind.wrap_u64]; omega
  have HN0 := Aside0.mk (fun w' => rnum_any m0 (by omega) w')
  have HN1 := Aside0.mk (fun w' => rnum_any m1 (by omega) w')
  cases f2 with
  | false =>
    have HN2 := Aside0.mk (show ∀ w', Calls Try.prog 33 #[Value.int .u64 0] w' (StrPost (numI (lastN false)) w') from fun w' => rnum_any 0 (by omega) w')
    go_enter Try.func60, Try.ntmps60
    go_wp2_with fail
    generalize ((w.alloc (.cells #[.int .u64 m0, .int .i64 m1, .bool false, .slice A n c] 40)).alloc (.cells #[.bool false, .slice none 0 0, .slice none 0 0] 47)) = w1 at *
    obtain ⟨g2, hg2⟩ : ∃ g, g = w.heap.size + 1 := ⟨_, rfl⟩
    obtain ⟨g1, hg1⟩ : ∃ g, g = w.heap.size := ⟨_, rfl⟩
    have HLE : Aside0 (w.heap.size ≤ g2 ∧ g1 ≠ g2) := ⟨by omega, by omega⟩
    rw [← hg2] at HGy ⊢
    rw [← hg1] at HGx ⊢
    clear hg1 hg2 hcf hcf0
    have HT1 : TI w g1 #[.int .u64 m0, .int .i64 m1, .bool false, .slice A n c] w1 := ⟨HBx.out, HGx.out⟩
    have HK := Aside0.mk (show ∀ W', TI w g1 #[.int .u64 m0, .int .i64 m1, .bool false, .slice A n c] W' → (fun W' => TI w g1 #[.int .u64 m0, .int .i64 m1, .bool false, .slice A n c] W' ∧ W'.cell? ⟨g1, 0, none⟩ = some (.int .u64 (m0 : Int)) ∧ W'.cell? ⟨g1, 1, none⟩ = some (.int .i64 (m1 : Int)) ∧ W'.cell? ⟨g1, 3, none⟩ = some (.slice A n c)) W' from fun W' h => ⟨h, (cf4 ⟨h.2⟩).1, (cf4 ⟨h.2⟩).2.1, (cf4 ⟨h.2⟩).2.2.2.1⟩)
    have hT0 := HT1.step (below_drew (Below.refl w1.heap.size w1))
    have HGz : Aside0 (w1.drew.heap[g2]? = some (.cells #[.bool false, .slice none 0 0, .slice none 0 0] 47 (0, 0))) := ⟨HGy.out⟩
    have HZ0 : Aside0 (w1.heap.size ≤ w1.drew.heap.size) := ⟨Nat.le_refl _⟩
    have HG2 : Aside0 (g2 < w1.heap.size) := ⟨blk_lt HGy.out⟩
    clear HT1
    go_region_held3 (fun W' => TI w g1 #[.int .u64 m0, .int .i64 m1, .bool false, .slice A n c] W' ∧ W'.cell? ⟨g1, 0, none⟩ = some (.int .u64 (m0 : Int)) ∧ W'.cell? ⟨g1, 1, none⟩ = some (.int .i64 (m1 : Int)) ∧ W'.cell? ⟨g1, 3, none⟩ = some (.slice A n c)) (first | exact HK.out _ (by assumption) | exact HK.out _ (TI.step (by assumption) (below_alloc (Below.refl _ _) _)) | exact HK.out _ (((hTf.set HLE.out.1 HLE.out.2 _ _).set HLE.out.1 HLE.out.2 _ _).set HLE.out.1 HLE.out.2 _ _)) (first
      | (go_at_call 33; (with_reducible refine (HN0.out _).mono ?_); rintro e wa ⟨hEa, Aa, na, ca, Ba, da, rfl, hKa⟩; have HEa := Aside0.mk hEa; have HKa := Aside0.mk (Kd.FK_mono hKa (ok' := fun k => w1.heap.size ≤ k) (fun k hk => Nat.le_trans HZ0.out hk)); have HZa := Aside0.mk (Nat.le_trans HZ0.out hEa.size); have hTa := hT0.step hEa; have HGa := Aside0.mk (blk_below HGz.out hEa); clear hEa hKa)
      | (go_at_call 33; (with_reducible refine (HN1.out _).mono ?_); rintro e wb ⟨hEb, Ab, nb, cb, Bb, db, rfl, hKb⟩; have HEb := Aside0.mk hEb; have HKb := Aside0.mk (Kd.FK_mono hKb (ok' := fun k => w1.heap.size ≤ k) (fun k hk => Nat.le_trans HZa.out hk)); have HZb := Aside0.mk (Nat.le_trans HZa.out hEb.size); have hTb := hTa.step hEb; have HGb := Aside0.mk (blk_below HGa.out hEb); clear hEb hKb)
      | (go_at_call 33; (with_reducible refine (HN2.out _).mono ?_); rintro e wc ⟨hEc, Ac, nc, cc, Bc, dc, rfl, hKc⟩; have HEc := Aside0.mk hEc; have HKc := Aside0.mk (Kd.FK_mono hKc (ok' := fun k => w1.heap.size ≤ k) (fun k hk => Nat.le_trans HZb.out hk)); have HZc := Aside0.mk (Nat.le_trans HZb.out hEc.size); have hTc := hTb.step hEc; have HGc := Aside0.mk (blk_below HGb.out hEc); clear hEc hKc)
      | (go_at_call 70; refine (HRW.out _ (Kd.C_below HC.out hTc.1)).mono ?_; rintro e wd ⟨hEd, Ad, nd, cd, Bd, dd, rfl, hKd⟩; have HEd := Aside0.mk hEd; have HKd := Aside0.mk (Kd.FK_mono hKd (ok' := fun k => w1.heap.size ≤ k) (fun k hk => Nat.le_trans HZc.out hk)); have HZd := Aside0.mk (Nat.le_trans HZc.out hEd.size); have hTd := hTc.step hEd; have HGd := Aside0.mk (blk_below HGc.out hEd); clear hEd hKd)
      | (go_at_call 69; refine (list_call _ 4 4 _).mono ?_; rintro e wf ⟨rfl, hEf⟩; have HZf := Aside0.mk (below_step (below_alloc (Below.refl _ _) _) hEf); have HBLK := Aside0.mk (blk_below (blk_new wd (.cells #[.bool false, .slice Aa na ca, .slice Ba 0 da, .bool false, .slice Ab nb cb, .slice Bb 0 db, .bool false, .slice Ac nc cc, .slice Bc 0 dc, .bool false, .slice Ad nd cd, .slice Bd 0 dd] 47) _ rfl) hEf); have hTf := (hTd.step (below_alloc (Below.refl _ _) _)).step hEf; have HGf := Aside0.mk (blk_below (blk_below HGd.out (below_alloc (Below.refl _ _) _)) hEf); have hcff := cf3 HGf; clear hEf))
    go_wp2_with fail
    have hto : ∀ (W : World) (x : S47) (cs : List Value), Below W.heap.size W wf → Kd.FK k47 W (fun k => w1.heap.size ≤ k) x cs → ∀ u v z, k47.K (((wf.setCell ⟨g2, 0, none⟩ u).setCell ⟨g2, 1, none⟩ v).setCell ⟨g2, 2, none⟩ z) x cs := fun W x cs hb h u v z =>
      Kd.FK_now (Kd.FK_step (Kd.FK_below h hb) (fun k hk _ => (Below.heap_setCell _ ⟨g2, 2, none⟩ z k (by have := HG2.out; simp only; omega)).trans ((Below.heap_setCell _ ⟨g2, 1, none⟩ v k (by have := HG2.out; simp only; omega)).trans (Below.heap_setCell _ ⟨g2, 0, none⟩ u k (by have := HG2.out; simp only; omega)))))
    have hEcf := HEd.out.trans (HZf.out.mono HEd.out.size)
    have hEbf := HEc.out.trans (hEcf.mono HEc.out.size)
    have hEaf := HEb.out.trans (hEbf.mono HEb.out.size)
    refine bodyPost_ret (results_cell_row rfl _ _ g2 47 #[.bool true, .slice none 0 0, .slice (some ⟨wd.heap.size, 0, none⟩) 4 4] (0, 0) _ rfl (put3 HGf.out) Try.underlying47 rfl (by kernel_rfl)) rfl ?_
    refine ⟨(((hTf.set HLE.out.1 HLE.out.2 _ _).set HLE.out.1 HLE.out.2 _ _).set HLE.out.1 HLE.out.2 _ _).1, _, _, rfl, Nat.le_refl _, ?_⟩
    rw [HI.out]
    exact items4_C _ _ _ _ (hto _ _ _ hEaf HKa.out _ _ _) (hto _ _ _ hEbf HKb.out _ _ _) (hto _ _ _ hEcf HKc.out _ _ _) (hto _ _ _ HZf.out HKd.out _ _ _) (blk_far (blk_far (blk_far HBLK.out (by have := HG2.out; have := HZd.out; simp only; omega) _) (by have := HG2.out; have := HZd.out; simp only; omega) _) (by have := HG2.out; have := HZd.out; simp only; omega) _)
  | true =>
    have HN2 := Aside0.mk (show ∀ w', Calls Try.prog 33 #[Value.int .u64 1] w' (StrPost (numI (lastN true)) w') from fun w' => rnum_any 1 (by omega) w')
    go_enter Try.func60, Try.ntmps60
    go_wp2_with fail
    generalize ((w.alloc (.cells #[.int .u64 m0, .int .i64 m1, .bool true, .slice A n c] 40)).alloc (.cells #[.bool false, .slice none 0 0, .slice none 0 0] 47)) = w1 at *
    obtain ⟨g2, hg2⟩ : ∃ g, g = w.heap.size + 1 := ⟨_, rfl⟩
    obtain ⟨g1, hg1⟩ : ∃ g, g = w.heap.size := ⟨_, rfl⟩
    have HLE : Aside0 (w.heap.size ≤ g2 ∧ g1 ≠ g2) := ⟨by omega, by omega⟩
    rw [← hg2] at HGy ⊢
    rw [← hg1] at HGx ⊢
    clear hg1 hg2 hcf hcf0
    have HT1 : TI w g1 #[.int .u64 m0, .int .i64 m1, .bool true, .slice A n c] w1 := ⟨HBx.out, HGx.out⟩
    have HK := Aside0.mk (show ∀ W', TI w g1 #[.int .u64 m0, .int .i64 m1, .bool true, .slice A n c] W' → (fun W' => TI w g1 #[.int .u64 m0, .int .i64 m1, .bool true, .slice A n c] W' ∧ W'.cell? ⟨g1, 0, none⟩ = some (.int .u64 (m0 : Int)) ∧ W'.cell? ⟨g1, 1, none⟩ = some (.int .i64 (m1 : Int)) ∧ W'.cell? ⟨g1, 3, none⟩ = some (.slice A n c)) W' from fun W' h => ⟨h, (cf4 ⟨h.2⟩).1, (cf4 ⟨h.2⟩).2.1, (cf4 ⟨h.2⟩).2.2.2.1⟩)
    have hT0 := HT1.step (below_drew (Below.refl w1.heap.size w1))
    have HGz : Aside0 (w1.drew.heap[g2]? = some (.cells #[.bool false, .slice none 0 0, .slice none 0 0] 47 (0, 0))) := ⟨HGy.out⟩
    have HZ0 : Aside0 (w1.heap.size ≤ w1.drew.heap.size) := ⟨Nat.le_refl _⟩
    have HG2 : Aside0 (g2 < w1.heap.size) := ⟨blk_lt HGy.out⟩
    clear HT1
    go_region_held3 (fun W' => TI w g1 #[.int .u64 m0, .int .i64 m1, .bool true, .slice A n c] W' ∧ W'.cell? ⟨g1, 0, none⟩ = some (.int .u64 (m0 : Int)) ∧ W'.cell? ⟨g1, 1, none⟩ = some (.int .i64 (m1 : Int)) ∧ W'.cell? ⟨g1, 3, none⟩ = some (.slice A n c)) (first | exact HK.out _ (by assumption) | exact HK.out _ (TI.step (by assumption) (below_alloc (Below.refl _ _) _)) | exact HK.out _ (((hTf.set HLE.out.1 HLE.out.2 _ _).set HLE.out.1 HLE.out.2 _ _).set HLE.out.1 HLE.out.2 _ _)) (first
      | (go_at_call 33; (with_reducible refine (HN0.out _).mono ?_); rintro e wa ⟨hEa, Aa, na, ca, Ba, da, rfl, hKa⟩; have HEa := Aside0.mk hEa; have HKa := Aside0.mk (Kd.FK_mono hKa (ok' := fun k => w1.heap.size ≤ k) (fun k hk => Nat.le_trans HZ0.out hk)); have HZa := Aside0.mk (Nat.le_trans HZ0.out hEa.size); have hTa := hT0.step hEa; have HGa := Aside0.mk (blk_below HGz.out hEa); clear hEa hKa)
      | (go_at_call 33; (with_reducible refine (HN1.out _).mono ?_); rintro e wb ⟨hEb, Ab, nb, cb, Bb, db, rfl, hKb⟩; have HEb := Aside0.mk hEb; have HKb := Aside0.mk (Kd.FK_mono hKb (ok' := fun k => w1.heap.size ≤ k) (fun k hk => Nat.le_trans HZa.out hk)); have HZb := Aside0.mk (Nat.le_trans HZa.out hEb.size); have hTb := hTa.step hEb; have HGb := Aside0.mk (blk_below HGa.out hEb); clear hEb hKb)
      | (go_at_call 33; (with_reducible refine (HN2.out _).mono ?_); rintro e wc ⟨hEc, Ac, nc, cc, Bc, dc, rfl, hKc⟩; have HEc := Aside0.mk hEc; have HKc := Aside0.mk (Kd.FK_mono hKc (ok' := fun k => w1.heap.size ≤ k) (fun k hk => Nat.le_trans HZb.out hk)); have HZc := Aside0.mk (Nat.le_trans HZb.out hEc.size); have hTc := hTb.step hEc; have HGc := Aside0.mk (blk_below HGb.out hEc); clear hEc hKc)
      | (go_at_call 70; refine (HRW.out _ (Kd.C_below HC.out hTc.1)).mono ?_; rintro e wd ⟨hEd, Ad, nd, cd, Bd, dd, rfl, hKd⟩; have HEd := Aside0.mk hEd; have HKd := Aside0.mk (Kd.FK_mono hKd (ok' := fun k => w1.heap.size ≤ k) (fun k hk => Nat.le_trans HZc.out hk)); have HZd := Aside0.mk (Nat.le_trans HZc.out hEd.size); have hTd := hTc.step hEd; have HGd := Aside0.mk (blk_below HGc.out hEd); clear hEd hKd)
      | (go_at_call 69; refine (list_call _ 4 4 _).mono ?_; rintro e wf ⟨rfl, hEf⟩; have HZf := Aside0.mk (below_step (below_alloc (Below.refl _ _) _) hEf); have HBLK := Aside0.mk (blk_below (blk_new wd (.cells #[.bool false, .slice Aa na ca, .slice Ba 0 da, .bool false, .slice Ab nb cb, .slice Bb 0 db, .bool false, .slice Ac nc cc, .slice Bc 0 dc, .bool false, .slice Ad nd cd, .slice Bd 0 dd] 47) _ rfl) hEf); have hTf := (hTd.step (below_alloc (Below.refl _ _) _)).step hEf; have HGf := Aside0.mk (blk_below (blk_below HGd.out (below_alloc (Below.refl _ _) _)) hEf); have hcff := cf3 HGf; clear hEf))
    go_wp2_with fail
    have hto : ∀ (W : World) (x : S47) (cs : List Value), Below W.heap.size W wf → Kd.FK k47 W (fun k => w1.heap.size ≤ k) x cs → ∀ u v z, k47.K (((wf.setCell ⟨g2, 0, none⟩ u).setCell ⟨g2, 1, none⟩ v).setCell ⟨g2, 2, none⟩ z) x cs := fun W x cs hb h u v z =>
      Kd.FK_now (Kd.FK_step (Kd.FK_below h hb) (fun k hk _ => (Below.heap_setCell _ ⟨g2, 2, none⟩ z k (by have := HG2.out; simp only; omega)).trans ((Below.heap_setCell _ ⟨g2, 1, none⟩ v k (by have := HG2.out; simp only; omega)).trans (Below.heap_setCell _ ⟨g2, 0, none⟩ u k (by have := HG2.out; simp only; omega)))))
    have hEcf := HEd.out.trans (HZf.out.mono HEd.out.size)
    have hEbf := HEc.out.trans (hEcf.mono HEc.out.size)
    have hEaf := HEb.out.trans (hEbf.mono HEb.out.size)
    refine bodyPost_ret (results_cell_row rfl _ _ g2 47 #[.bool true, .slice none 0 0, .slice (some ⟨wd.heap.size, 0, none⟩) 4 4] (0, 0) _ rfl (put3 HGf.out) Try.underlying47 rfl (by kernel_rfl)) rfl ?_
    refine ⟨(((hTf.set HLE.out.1 HLE.out.2 _ _).set HLE.out.1 HLE.out.2 _ _).set HLE.out.1 HLE.out.2 _ _).1, _, _, rfl, Nat.le_refl _, ?_⟩
    rw [HI.out]
    exact items4_C _ _ _ _ (hto _ _ _ hEaf HKa.out _ _ _) (hto _ _ _ hEbf HKb.out _ _ _) (hto _ _ _ hEcf HKc.out _ _ _) (hto _ _ _ HZf.out HKd.out _ _ _) (blk_far (blk_far (blk_far HBLK.out (by have := HG2.out; have := HZd.out; simp only; omega) _) (by have := HG2.out; have := HZd.out; simp only; omega) _) (by have := HG2.out; have := HZd.out; simp only; omega) _)
end Go.Proofs.Ytdjoekckhmggbaa.H
