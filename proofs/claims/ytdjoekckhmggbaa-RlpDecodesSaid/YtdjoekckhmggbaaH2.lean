import Derived.Test.YtdjoekckhmggbaaH1
import Derived.Test.YtdjoekckhmggbaaS1
namespace Go.Proofs.Ytdjoekckhmggbaa.H
open Go.RowKit Go.Proofs.YtdjoekckhmggbaaW.PrintWords Go.Proofs.YtdjoekckhmggbaaW.PrintLast Go.Proofs.YtdjoekckhmggbaaW.PrintMore Go.Proofs.Ytdjoekckhmggbaa.PRF
attribute [local go_sem] max2_int min2_int max_two min_two max_three min_three max_four min_four
set_option linter.unusedVariables false
set_option linter.unusedSimpArgs false

theorem C_undrew {k : IntKind} {w : World} {n m : Nat} {A : Option Addr} {xs : List Int} (h : Kd.C (Kd.int k) (w.drewN n) A m xs) : Kd.C (Kd.int k) w A m xs := h
/-- two slices that are read, cut out of what is there; or given up -/
def BodyPost (A : Option Addr) (l : List Int) (r : Except Int (List Int × List Int)) (w : World) (e : Ending) (w' : World) : Prop :=
  Drawn0 w w' ∧ match r with
    | .ok q => ∃ A1 A2, e = .returned (.tuple #[.slice A1 q.1.length q.1.length, .slice A2 q.2.length q.2.length]) ∧ ∀ W, Kd.C (Kd.int .u8) W A l.length l → Kd.C (Kd.int .u8) W A1 q.1.length q.1 ∧ Kd.C (Kd.int .u8) W A2 q.2.length q.2
    | .error k => e = .panicked (wrongP k)

theorem cut_any (A : Option Addr) (c n : Nat) (l : List Int) (w : World) (hm : l.length ≤ 9223372036854775807) (hc : l.length ≤ c) (hn2 : n ≤ 18446744073709551615) :
    Calls Try.prog 71 #[.slice A l.length c, .int .u64 (n : Int)] w (BodyPost A l (cutP l n) w) := by
  unfold cutP
  by_cases h : n ≤ l.length
  · rw [if_pos h]
    refine (cut_ok A c n l w hm hc h).mono fun e w' ⟨A1, A2, he, hd, h1⟩ => ⟨hd, A1, A2, ?_, fun W hW => ⟨?_, ?_⟩⟩
    · simp only [List.length_take, List.length_drop, Nat.min_eq_left h]; exact he
    · simp only [List.length_take, Nat.min_eq_left h]; exact (h1 W hW).1
    · simp only [List.length_drop]; exact (h1 W hW).2
  · rw [if_neg h]
    exact (cut_no A c l.length n w hm (by omega) hn2).mono fun e w' ⟨he, hw⟩ => ⟨⟨⟨0, by rw [← hw]; rfl⟩⟩, he⟩

set_option maxHeartbeats 400000 in
set_option maxRecDepth 100000 in
theorem body_any (first from_ : Int) (f : Nat) (A : Option Addr) (c : Nat) (l : List Int) (w : World) (hf : first - from_ = (f : Int)) (h63 : f ≤ 63) (h0 : 0 ≤ from_) (h255 : first ≤ 255)
    (hr : Kd.C (Kd.int .u8) w A l.length l) (hc : l.length ≤ c) (hb : Byt l) :
    Calls Try.prog 62 #[.int .u8 first, .int .u8 from_, .slice A l.length c] w (BodyPost A l (bodyP f l) w) := by
  have HR := Aside0.mk hr
  have HC := Aside0.mk hc
  have HBy := Aside0.mk hb
  have hm := hr.2.1
  clear hr hc hb
  have hge : from_ ≤ first := by omega
  obtain ⟨res, hres⟩ : ∃ res, res = bodyP f l := ⟨_, rfl⟩
  rw [← hres]
  unfold bodyP at hres
  by_cases h55 : f ≤ 55
  · rw [if_pos h55] at hres
    have HC1 := Aside0.mk (cut_any A c f l w hm HC.out (by omega))
    rw [← hres] at HC1
    clear hres
    go_enter Try.func62, Try.ntmps62
    go_wp2_with fail
    refine HC1.out.mono ?_
    rintro e w' ⟨hd, hp⟩
    cases res with
    | error k =>
      obtain rfl := hp
      exact ⟨rfl, hd, rfl⟩
    | ok q =>
      obtain ⟨A1, A2, rfl, h1⟩ := hp
      have H1 := Aside0.mk h1
      clear h1
      go_wp2
      go_ret2
      exact ⟨hd, A1, A2, rfl, H1.out⟩
  · rw [if_neg h55] at hres
    have hk : ((f : Int) - 55) = ((f - 55 : Nat) : Int) := by omega
    obtain ⟨k, hk2⟩ : ∃ k, k = f - 55 := ⟨_, rfl⟩
    rw [← hk2] at hk hres
    have hk1 : 0 < k := by omega
    have hk8 : k ≤ 8 := by omega
    clear hk2
    by_cases hkl : k ≤ l.length
    · rw [if_pos hkl] at hres
      have hx : (l.take k).length = k := by rw [List.length_take]; omega
      have hN := num_small (l.take k) (HBy.out.take k) (by omega)
      obtain ⟨kk, hkk⟩ := number_f (l.take k) (HBy.out.take k) (by omega)
      have HC1 := Aside0.mk (cut_any A c k l w hm HC.out (by omega))
      unfold cutP at HC1
      rw [if_pos hkl] at HC1
      have hm2 : (l.drop k).length ≤ 9223372036854775807 := by rw [List.length_drop]; omega
      generalize l.take k = x at *
      generalize l.drop k = y at *
      have HX := Aside0.mk hx
      have HK := Aside0.mk hkk
      have HRES := Aside0.mk hres
      clear hx hkk hres
      obtain ⟨N, hN2⟩ : ∃ N, N = num x := ⟨_, rfl⟩
      rw [← hN2] at HK HRES hN
      clear hN2
      go_enter Try.func62, Try.ntmps62
      go_wp2_with fail
      refine HC1.out.mono ?_
      rintro e w' ⟨hd, hp⟩
      obtain ⟨A1, A2, rfl, h12⟩ := hp
      obtain ⟨h1, h2⟩ := h12 _ HR.out
      have H12 := Aside0.mk h12
      clear h12
      obtain ⟨n, rfl⟩ := hd.out
      have H1 := Aside0.mk h1
      have H2 := Aside0.mk h2
      obtain ⟨ad, rfl, hcell⟩ := Kd.at_int h1 0 (by omega) (by have := HX.out; simp only; omega)
      clear h1 h2 hd
      obtain ⟨c0, hc0⟩ : ∃ c0, c0 = rd x 0 := ⟨_, rfl⟩
      rw [← hc0] at hcell
      have h0c : x.headD 0 = c0 := by rw [hc0]; cases x <;> rfl
      clear hc0
      rw [h0c] at HRES
      clear h0c
      simp only [Int.toNat_zero, Addr.add_zero'] at hcell
      have hxl : 0 < x.length := by have := HX.out; omega
      have hxc : x.length ≤ x.length := Nat.le_refl _
      by_cases hg : c0 = 0 ∨ N ≤ 55
      · rw [if_pos hg] at HRES
        obtain rfl := HRES.out
        clear HRES
        by_cases hc0 : c0 = 0
        · subst hc0
          go_wp2_with fail
          refine (rlp_number.calls kk _ _ x N _ (Kd.C_drewN H1.out n) (Nat.le_refl _) HK.out).mono ?_
          rintro e w' ⟨rfl, hd⟩
          obtain ⟨m, rfl⟩ := hd.out
          clear hd
          go_wp2_with fail
          refine (need_no 8 _).mono ?_
          rintro e w' ⟨rfl, rfl⟩
          exact ⟨rfl, by repeat (first | exact Drawn0.refl _ | apply Drawn0.step), rfl⟩
        · have hb0 : (c0 != 0) = true := bne_iff_ne.2 hc0
          have hb1 : decide ((55 : Int) < (N : Int)) = false := decide_eq_false (by omega)
          have hb2 : decide (55 < N) = false := decide_eq_false (by omega)
          go_wp2_with fail
          refine (rlp_number.calls kk _ _ x N _ (Kd.C_drewN H1.out n) (Nat.le_refl _) HK.out).mono ?_
          rintro e w' ⟨rfl, hd⟩
          obtain ⟨m, rfl⟩ := hd.out
          clear hd
          go_wp2_with fail
          refine (need_no 8 _).mono ?_
          rintro e w' ⟨rfl, rfl⟩
          exact ⟨rfl, by repeat (first | exact Drawn0.refl _ | apply Drawn0.step), rfl⟩
      · rw [if_neg hg] at HRES
        have hb0 : (c0 != 0) = true := bne_iff_ne.2 (fun h => hg (.inl h))
        have hb1 : decide ((55 : Int) < (N : Int)) = true := decide_eq_true (by omega)
        have hb2 : decide (55 < N) = true := decide_eq_true (by omega)
        clear hg
        go_wp2_with fail
        refine (rlp_number.calls kk _ _ x N _ (Kd.C_drewN H1.out n) (Nat.le_refl _) HK.out).mono ?_
        rintro e w' ⟨rfl, hd⟩
        obtain ⟨m, rfl⟩ := hd.out
        clear hd
        go_wp2_with fail
        refine (need_ok 8 _).mono ?_
        rintro e w' ⟨rfl, rfl⟩
        go_wp2_with fail
        refine (cut_any A2 _ N y _ hm2 (Nat.le_refl _) hN).mono ?_
        rintro e w' ⟨hd, hp⟩
        rw [← HRES.out] at hp
        obtain ⟨m2, rfl⟩ := hd.out
        clear hd
        cases res with
        | error k =>
          obtain rfl := hp
          exact ⟨rfl, by repeat (first | exact Drawn0.refl _ | apply Drawn0.step), rfl⟩
        | ok q =>
          obtain ⟨B1, B2, rfl, g1⟩ := hp
          have G1 := Aside0.mk g1
          clear g1
          go_wp2
          go_ret2
          refine ⟨by repeat (first | exact Drawn0.refl _ | apply Drawn0.step), B1, B2, rfl, fun W hW => G1.out W (H12.out W hW).2⟩
    · rw [if_neg hkl] at hres
      subst hres
      go_enter Try.func62, Try.ntmps62
      go_wp2_with fail
      refine (cut_any A c k l _ hm HC.out (by omega)).mono ?_
      rintro e w' ⟨hd, hp⟩
      unfold cutP at hp
      rw [if_neg hkl] at hp
      obtain rfl := hp
      exact ⟨rfl, hd, rfl⟩
end Go.Proofs.Ytdjoekckhmggbaa.H
