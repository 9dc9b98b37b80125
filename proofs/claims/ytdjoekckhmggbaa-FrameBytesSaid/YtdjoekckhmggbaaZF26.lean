import Derived.Test.YtdjoekckhmggbaaZF25
namespace Go.Proofs.Ytdjoekckhmggbaa.H
open Go.RowKit Go.Proofs.YtdjoekckhmggbaaW.PrintWords Go.Proofs.YtdjoekckhmggbaaW.PrintLast Go.Proofs.YtdjoekckhmggbaaW.PrintMore Go.Proofs.Ytdjoekckhmggbaa.PRF
attribute [local go_sem] max2_int min2_int max_two min_two max_three min_three max_four min_four
set_option linter.unusedVariables false
set_option linter.unusedSimpArgs false
set_option maxHeartbeats 2000000 in
set_option maxRecDepth 100000 in
theorem rwrite_any (f : S40) (hf : FrOk f) (A : Option Addr) (c : Nat) (w : World) (hC : Kd.C (Kd.int .u8) w A f.f3.length f.f3) (hc : f.f3.length ≤ c) :
    Calls Try.prog 39 #[.agg #[.int .u64 f.f0, .int .i64 f.f1, .bool f.f2, .slice A f.f3.length c]] w (WritePost (writeP f) w) := by
  have HB := Aside0.mk (Below.refl w.heap.size w)
  have HC := Aside0.mk hC
  have HM := Aside0.mk (fun w' h1 => proctorref03_May.calls f.f0 f.f1 f.f2 A c f.f3 (mayF f) w' h1 hc (rmay_f f))
  have HIT := Aside0.mk (fun w' (hm : mayF f = true) h1 => ritem_any f hf hm A c w' h1 hc)
  have HRES : Aside0 (writeP f = if mayF f = true then (formP (itemF4 f), 0) else ([], 2)) := ⟨rfl⟩
  have HENC : Aside0 (mayF f = true → ∀ B d w', Kd.C k47 w' B 4 (itemF4 f).f2 → 4 ≤ d → Calls Try.prog 35 #[.agg #[.bool true, .slice none 0 0, .slice B 4 d]] w' fun e w'' => ∃ v, e = .returned (.tuple #[v, .int .i64 0]) ∧ Kd.R (Kd.int .u8) 5 w'' w'.heap.size (fun _ => True) v (formP (itemF4 f)) ∧ Below w'.heap.size w' w'') := ⟨fun hm B d w' h hd => by
    obtain ⟨K, hK⟩ := renc_spec (itemF4 f)
    have h1 := hK K (Nat.le_refl _)
    rw [enc_item f (may_of hm).2.2] at h1
    exact proctorref02_Encode.calls K true none 0 [] B d (itemF4 f).f2 (formP (itemF4 f)) 0 w' (Kd.C_nil _ _) (Nat.le_refl _) h hd h1⟩
  generalize writeP f = res at *
  generalize itemF4 f = x at *
  clear hC hc hf
  generalize mayF f = my at *
  obtain ⟨f0, f1, f2, f3⟩ := f
  dsimp only at *
  obtain ⟨n, hn⟩ : ∃ n, n = f3.length := ⟨_, rfl⟩
  rw [← hn] at HM HC HIT ⊢
  clear hn
  have HBx := Aside0.mk (below_alloc HB.out (.cells #[.int .u64 f0, .int .i64 f1, .bool f2, .slice A n c] 40))
  have HGx := Aside0.mk (blk_new w (.cells #[.int .u64 f0, .int .i64 f1, .bool f2, .slice A n c] 40) _ rfl)
  have hcf := cf4 HGx
  go_enter Try.func39, Try.ntmps39
  go_wp2_with fail
  generalize (w.alloc (.cells #[.int .u64 f0, .int .i64 f1, .bool f2, .slice A n c] 40)) = w1 at *
  obtain ⟨g1, hg1⟩ : ∃ g, g = w.heap.size := ⟨_, rfl⟩
  rw [← hg1] at HGx hcf ⊢
  clear hg1 hcf
  refine (HM.out w1 (Kd.C_below HC.out HBx.out)).mono ?_
  rintro e w2 ⟨rfl, hE2⟩
  have HB2 := Aside0.mk (below_step HBx.out hE2)
  have HG2 := Aside0.mk (blk_below HGx.out hE2)
  have hcf := cf4 HG2
  clear hE2
  cases my with
  | false =>
    go_wp2_with fail
    go_ret2
    obtain rfl : res = ([], 2) := HRES.out
    exact ⟨HB2.out, _, rfl, Kd.R_nil _ _ _ _ _⟩
  | true =>
    obtain rfl : res = (formP x, 0) := HRES.out
    go_wp2_with fail
    refine (HIT.out w2 trivial (Kd.C_below HC.out HB2.out)).mono ?_
    rintro e w3 ⟨hE3, B, d, rfl, hd, hC3⟩
    have HB3 := Aside0.mk (below_step HB2.out hE3)
    have HC3 := Aside0.mk hC3
    have Hd := Aside0.mk hd
    clear hE3 hC3 hd
    go_wp2_with fail
    refine (HENC.out trivial B d w3 HC3.out Hd.out).mono ?_
    rintro e w4 ⟨v, rfl, hR4, hE4⟩
    have HB4 := Aside0.mk (below_step HB3.out hE4)
    have HR4 := Aside0.mk hR4
    clear hE4 hR4
    go_wp2
    go_ret2
    exact ⟨HB4.out, v, rfl, Kd.R_lower HR4.out HB3.out.size⟩
end Go.Proofs.Ytdjoekckhmggbaa.H
