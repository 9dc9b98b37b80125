import Derived.Test.YtocphkfkdadhaaaZPk8
namespace Go.Proofs.Ytocphkfkdadhaaa.H
open Go.RowKit Go.Proofs.YtocphkfkdadhaaaW.PrintWords Go.Proofs.YtocphkfkdadhaaaW.PrintLast Go.Proofs.YtocphkfkdadhaaaW.PrintMore
set_option linter.unusedVariables false
set_option linter.unusedSimpArgs false
def putP (xs : List Int) (at_ x : Nat) : List Int := if at_ < xs.length then xs.set at_ (x : Int) else xs
theorem putP_len (xs : List Int) (at_ x : Nat) : (putP xs at_ x).length = xs.length := by unfold putP; split <;> simp
theorem set_any {D : Nat} (hD : D ≤ 12) {B : Nat} {w0 W : World} {L : List Item} {g : Nat} {v1 v2 : Value} {ws : List Int} {ss : List (List Int)} (hM : MemAt D ws ss) (h : Own B w0 W (memL g v1 v2 ws ss L)) (at_ x : Nat) (ha : at_ ≤ 18446744073709551615) (hx : x ≤ 18446744073709551615) :
    Calls Try.prog 28 #[.pointer (some ⟨g, 0, none⟩), .int .u64 (at_ : Int), .int .u64 (x : Int)] W fun e w' => ∃ ss', e = .returned (.int .i64 (if at_ < ws.length then 0 else 2)) ∧ MemAt D (putP ws at_ x) ss' ∧ Own B w0 w' (memL g v1 v2 (putP ws at_ x) ss' L) := by
  unfold putP
  by_cases hl : at_ < ws.length
  · rw [if_pos hl, if_pos hl]
    exact set_yes hD hM h at_ x hl hx
  · rw [if_neg hl, if_neg hl]
    refine (set_no hD hM h at_ x ha hl).mono ?_
    rintro e w' ⟨rfl, rfl⟩
    exact ⟨ss, rfl, hM, h⟩
theorem set_some {D : Nat} (hD : D ≤ 12) {B : Nat} {w0 W : World} {L : List Item} {g : Nat} {v1 v2 : Value} {ws : List Int} {ss : List (List Int)} (hM : MemAt D ws ss) (h : Own B w0 W (memL g v1 v2 ws ss L)) (at_ x : Nat) (ha : at_ ≤ 18446744073709551615) (hx : x ≤ 18446744073709551615) :
    Calls Try.prog 28 #[.pointer (some ⟨g, 0, none⟩), .int .u64 (at_ : Int), .int .u64 (x : Int)] W fun e w' => ∃ (r : Int) (ss' : List (List Int)), e = .returned (.int .i64 r) ∧ MemAt D (putP ws at_ x) ss' ∧ Own B w0 w' (memL g v1 v2 (putP ws at_ x) ss' L) :=
  (set_any hD hM h at_ x ha hx).mono fun e w' ⟨ss', h1, h2, h3⟩ => ⟨_, ss', h1, h2, h3⟩
theorem chkI_proof {D : Nat} (hD : D ≤ 12) {ws : List Int} {ss : List (List Int)} (hM : MemAt D ws ss) (k m : Nat) (hk : k < ws.length) (hm : ws.getD k 0 = (m : Int)) : chkI (memroot D ws) k m (proofP D (leavesW ws) k) = true := by
  unfold chkI
  rw [proofP_len]
  have hk2 : k < 2 ^ D := by rw [← hM.2.2.1]; exact hk
  have := hM.1.check k hk2
  have e : at0 (leavesW ws) k = leafW m := by
    have : at0 (leavesW ws) k = leafW (ws.getD k 0).toNat := by simp [leavesW, at0, hk]
    rw [this, hm, Int.toNat_natCast]
  rw [e] at this
  rw [decide_eq_true hD, decide_eq_true hk2, Bool.true_and, Bool.true_and, this]
  exact beq_self_eq_true _
set_option maxHeartbeats 2000000 in
set_option maxRecDepth 100000 in
theorem proves_no (ws : List Int) (hs : sizeB ws.length = false) (A : Option Addr) (c : Nat) (w : World) (hn : ws.length ≤ 9223372036854775807) (v : Value) (a : Int) :
    Calls Try.prog 7 #[.slice A ws.length c, v, .int .u16 a] w fun e w' => e = .returned (.bool true) ∧ Below w.heap.size w w' := by
  have H0 := Aside0.mk (Own.start w)
  have HN := Aside0.mk (fun W => new_no ws.length hn hs A c W)
  have HS := Aside0.mk (fun W => size_any ws.length hn W)
  rw [hs] at HS
  have HA := Aside0.mk (fun W => anchored11 W)
  clear hs
  generalize ws.length = n at *
  go_enter Try.func7, Try.ntmps7
  go_wp2_with fail
  refine (HN.out _).mono ?_
  rintro e w3 ⟨rfl, hB3⟩
  have H3 := Aside0.mk (H0.out.step hB3)
  clear hB3
  go_wp2_with (first
    | fail
    | (go_at_call 18; refine (HA.out _).mono ?_; rintro e w5 ⟨rfl, hB5⟩; have H5 := Aside0.mk (H3.out.step hB5); clear hB5)
    | (go_at_call 20; refine (HS.out _).mono ?_; rintro e w6 ⟨rfl, rfl⟩)
    )
  go_ret
  exact ⟨rfl, H5.out.below⟩
set_option maxHeartbeats 8000000 in
set_option maxRecDepth 100000 in
theorem proves_yes (D : Nat) (hD : D ≤ 12) (ws : List Int) (hl : ws.length = 2 ^ D) (hw : Wrd ws) (A : Option Addr) (c : Nat) (hc : ws.length ≤ c) (w : World) (hC : Kd.C kU w A ws.length ws)
    (sc : List (Int × Int × Int)) (hsc : ∀ y ∈ sc, OpOk y) (A2 : Option Addr) (c2 : Nat) (hC2 : Kd.C kOp w A2 sc.length sc) (a : Nat) (ha : a ≤ 65535) :
    Calls Try.prog 7 #[.slice A ws.length c, .slice A2 sc.length c2, .int .u16 (a : Int)] w fun e w' => e = .returned (.bool true) ∧ Below w.heap.size w w' := by
  have hn4 : 1 ≤ ws.length ∧ ws.length ≤ 4096 := by rw [hl]; exact ⟨Nat.two_pow_pos D, Nat.pow_le_pow_right (by decide) hD⟩
  have H0 := Aside0.mk (Own.start w)
  have R32 : Aside0 (Arr 32 (Array.replicate 32 (.int .u8 0))) := ⟨Arr_rep _ _ rfl⟩
  have HNW := Aside0.mk (new_ok D hD ws hl hw A c hc w hC)
  have HA := Aside0.mk (fun W => anchored11 W)
  have HCS := Aside0.mk hC2
  have hsm := hC2.2.1
  have HOK : Aside0 (∀ i, i < sc.length → OpOk (sc.getD i default)) := ⟨fun i hi => by rw [List.getD_eq_getElem?_getD, List.getElem?_eq_getElem hi]; exact hsc _ (List.getElem_mem hi)⟩
  clear hC hC2 hsc
  have HDL := Aside0.mk hl
  have HWW := Aside0.mk hw
  obtain ⟨n, hn⟩ : ∃ n, n = ws.length := ⟨_, rfl⟩
  rw [← hn] at HNW hn4 hc ⊢ HDL
  have HN := Aside0.mk hn
  clear hn hl hw
  generalize sc.length = m at *
  have hwa : IntKind.u64.wrap (a : Int) = (a : Int) := by rw [IntKind.wrap_u64]; omega
  have hwn : IntKind.u64.wrap (n : Int) = (n : Int) := by rw [IntKind.wrap_u64]; omega
  go_enter Try.func7, Try.ntmps7
  go_wp2_with fail
  refine HNW.out.mono ?_
  rintro e w3 ⟨g, v1, v2, ss, rfl, hM, hO⟩
  have HM := Aside0.mk hM
  have H3 := Aside0.mk hO
  clear hM hO
  go_wp2_with fail
  go_loopw [9] (fun v9 wr => ∃ (i : Nat) (xs : List Int) (ss : List (List Int)), i ≤ m ∧ v9 = .int .i64 (i : Int) ∧ Aside0 (MemAt D xs ss ∧ xs.length = n) ∧ Aside0 (Own w.heap.size w wr (memL g v1 v2 xs ss []))) (fun v9 _ => m - (intOf v9).toNat)
  case atStart => exact ⟨0, ws, ss, Nat.zero_le _, rfl, ⟨HM.out, HN.out.symm⟩, H3⟩
  case round =>
    clear H3 HM
    obtain ⟨i, xs, ss, hi, rfl, HM, HI⟩ := hrel
    by_cases hlt : i < m
    · have hdl : decide (i < m) = true := decide_eq_true hlt
      have hi0 : (0 : Int) ≤ (i : Int) ∧ (i : Int) < (m : Int) := by omega
      obtain ⟨b, o, rfl, hel⟩ := op_at HCS.out (by omega)
      obtain ⟨_, q1, q2⟩ := hel wr (Kd.C_below HCS.out HI.out.below) i hlt
      have HQ := Aside0.mk (fun W (hb : Below w.heap.size w W) => (hel W (Kd.C_below HCS.out hb) i hlt).2)
      clear hel
      obtain ⟨_, k1, k2⟩ := HOK.out i hlt
      obtain ⟨b1, b2⟩ := wf_u64 k1
      obtain ⟨b3, b4⟩ := wf_u64 k2
      generalize (sc.getD i default).2.1 = x1 at *
      generalize (sc.getD i default).2.2 = x2 at *
      obtain ⟨x1, rfl⟩ := Int.eq_ofNat_of_zero_le b1
      obtain ⟨x2, rfl⟩ := Int.eq_ofNat_of_zero_le b3
      have HST := Aside0.mk (set_some hD HM.out.1 HI.out.drew x1 x2 (by omega) (by omega))
      go_wp2_with fail
      refine wp_region_held_drew (S := (fun W => W.cell? ⟨b, o + i * 3 + 1, none⟩ = some (.int .u64 (x1 : Int)) ∧ W.cell? ⟨b, o + i * 3 + 2, none⟩ = some (.int .u64 (x2 : Int)))) (by kernel_rfl) ?_ (fun hHeld => ?_)
      · exact HQ.out _ HI.out.drew.below
      refine wpAnyH_take (i := 0) (oi := { dst := some 42, op := Go.Op.move (Go.Operand.tmp 7), type := 38, pos := "law.go:124", after := #[], guard := none }) (v := ?_) rfl (by kernel_rfl) (by kernel_rfl) (by kernel_rfl) (fun _ _ _ h => h) (Or.inl ⟨by rfl, ?_⟩) (by assumption) ?_
      rotate_left
      · intro wS hSw; (try dsimp only at hSw); go_simp; (try with_reducible rfl)
      try simp only [Act.put, List.setIfInBounds_toArray, List.set_cons_zero, List.set_cons_succ]
      refine wpAnyH_take (i := 1) (oi := { dst := some 43, op := Go.Op.move (Go.Operand.tmp 1), type := 51, pos := "law.go:124", after := #[], guard := none }) (v := ?_) rfl (by kernel_rfl) (by kernel_rfl) (by kernel_rfl) (fun _ _ _ h => h) (Or.inl ⟨by rfl, ?_⟩) (by assumption) ?_
      rotate_left
      · intro wS hSw; (try dsimp only at hSw); go_simp; (try with_reducible rfl)
      try simp only [Act.put, List.setIfInBounds_toArray, List.set_cons_zero, List.set_cons_succ]
      refine wpAnyH_take (i := 2) (oi := { dst := some 44, op := Go.Op.move (Go.Operand.tmp 9), type := 3, pos := "law.go:124", after := #[], guard := none }) (v := ?_) rfl (by kernel_rfl) (by kernel_rfl) (by kernel_rfl) (fun _ _ _ h => h) (Or.inl ⟨by rfl, ?_⟩) (by assumption) ?_
      rotate_left
      · intro wS hSw; (try dsimp only at hSw); go_simp; (try with_reducible rfl)
      try simp only [Act.put, List.setIfInBounds_toArray, List.set_cons_zero, List.set_cons_succ]
      refine wpAnyH_take (i := 3) (oi := { dst := some 45, op := Go.Op.indexAddr 51 (Go.Operand.tmp 43) (Go.Operand.tmp 44), type := 0, pos := "law.go:124", after := #[{ on := 1, ground := Go.Ground.data }, { on := 2, ground := Go.Ground.data }], guard := none }) (v := ?_) rfl (by kernel_rfl) (by kernel_rfl) (by kernel_rfl) (fun _ _ _ h => h) (Or.inl ⟨by rfl, ?_⟩) (by assumption) ?_
      rotate_left
      · intro wS hSw; (try dsimp only at hSw); go_simp; (try with_reducible rfl)
      try simp only [Act.put, List.setIfInBounds_toArray, List.set_cons_zero, List.set_cons_succ]
      refine wpAnyH_take (i := 4) (oi := { dst := some 46, op := Go.Op.fieldAddr 53 (Go.Operand.tmp 45) 1, type := 0, pos := "law.go:124", after := #[{ on := 3, ground := Go.Ground.data }], guard := none }) (v := ?_) rfl (by kernel_rfl) (by kernel_rfl) (by kernel_rfl) (fun _ _ _ h => h) (Or.inl ⟨by rfl, ?_⟩) (by assumption) ?_
      rotate_left
      · intro wS hSw; (try dsimp only at hSw); go_simp; (try with_reducible rfl)
      try simp only [Act.put, List.setIfInBounds_toArray, List.set_cons_zero, List.set_cons_succ]
      refine wpAnyH_take (i := 5) (oi := { dst := some 47, op := Go.Op.load 23 (Go.Operand.tmp 46), type := 23, pos := "law.go:124", after := #[{ on := 4, ground := Go.Ground.data }], guard := none }) (v := ?_) rfl (by kernel_rfl) (by kernel_rfl) (by kernel_rfl) (fun _ _ _ h => h) (Or.inl ⟨by rfl, ?_⟩) (by assumption) ?_
      rotate_left
      · intro wS hSw; (try dsimp only at hSw); go_simp; (try with_reducible rfl)
      try simp only [Act.put, List.setIfInBounds_toArray, List.set_cons_zero, List.set_cons_succ]
      refine wpAnyH_take (i := 6) (oi := { dst := some 48, op := Go.Op.move (Go.Operand.tmp 1), type := 51, pos := "law.go:124", after := #[], guard := none }) (v := ?_) rfl (by kernel_rfl) (by kernel_rfl) (by kernel_rfl) (fun _ _ _ h => h) (Or.inl ⟨by rfl, ?_⟩) (by assumption) ?_
      rotate_left
      · intro wS hSw; (try dsimp only at hSw); go_simp; (try with_reducible rfl)
      try simp only [Act.put, List.setIfInBounds_toArray, List.set_cons_zero, List.set_cons_succ]
      refine wpAnyH_take (i := 7) (oi := { dst := some 49, op := Go.Op.move (Go.Operand.tmp 9), type := 3, pos := "law.go:124", after := #[], guard := none }) (v := ?_) rfl (by kernel_rfl) (by kernel_rfl) (by kernel_rfl) (fun _ _ _ h => h) (Or.inl ⟨by rfl, ?_⟩) (by assumption) ?_
      rotate_left
      · intro wS hSw; (try dsimp only at hSw); go_simp; (try with_reducible rfl)
      try simp only [Act.put, List.setIfInBounds_toArray, List.set_cons_zero, List.set_cons_succ]
      refine wpAnyH_take (i := 8) (oi := { dst := some 50, op := Go.Op.indexAddr 51 (Go.Operand.tmp 48) (Go.Operand.tmp 49), type := 0, pos := "law.go:124", after := #[{ on := 6, ground := Go.Ground.data }, { on := 7, ground := Go.Ground.data }], guard := none }) (v := ?_) rfl (by kernel_rfl) (by kernel_rfl) (by kernel_rfl) (fun _ _ _ h => h) (Or.inl ⟨by rfl, ?_⟩) (by assumption) ?_
      rotate_left
      · intro wS hSw; (try dsimp only at hSw); go_simp; (try with_reducible rfl)
      try simp only [Act.put, List.setIfInBounds_toArray, List.set_cons_zero, List.set_cons_succ]
      refine wpAnyH_take (i := 9) (oi := { dst := some 51, op := Go.Op.fieldAddr 53 (Go.Operand.tmp 50) 2, type := 0, pos := "law.go:124", after := #[{ on := 8, ground := Go.Ground.data }], guard := none }) (v := ?_) rfl (by kernel_rfl) (by kernel_rfl) (by kernel_rfl) (fun _ _ _ h => h) (Or.inl ⟨by rfl, ?_⟩) (by assumption) ?_
      rotate_left
      · intro wS hSw; (try dsimp only at hSw); go_simp; (try with_reducible rfl)
      try simp only [Act.put, List.setIfInBounds_toArray, List.set_cons_zero, List.set_cons_succ]
      refine wpAnyH_take (i := 10) (oi := { dst := some 52, op := Go.Op.load 23 (Go.Operand.tmp 51), type := 23, pos := "law.go:124", after := #[{ on := 9, ground := Go.Ground.data }], guard := none }) (v := ?_) rfl (by kernel_rfl) (by kernel_rfl) (by kernel_rfl) (fun _ _ _ h => h) (Or.inl ⟨by rfl, ?_⟩) (by assumption) ?_
      rotate_left
      · intro wS hSw; (try dsimp only at hSw); go_simp; (try with_reducible rfl)
      try simp only [Act.put, List.setIfInBounds_toArray, List.set_cons_zero, List.set_cons_succ]
      refine wpAnyH_ready (rs := [11]) (by kernel_rfl) (by simp) ?_
      refine AllReadyH.cons (o := { dst := some 53, op := Go.Op.call { callee := Go.Callee.value (Go.Operand.func 28), args := #[Go.Operand.tmp 42, Go.Operand.tmp 47, Go.Operand.tmp 52], argTypes := #[38, 23, 23] }, type := 29, pos := "law.go:124", after := #[{ on := 0, ground := Go.Ground.data }, { on := 5, ground := Go.Ground.data }, { on := 10, ground := Go.Ground.data }], guard := none }) rfl (fun K hK => ?_) AllReadyH.nil
      go_simp
      refine HST.out.mono ?_
      rintro e w4 ⟨r, ss', rfl, hM', hO'⟩
      have HM4 : Aside0 (MemAt D (putP xs x1 x2) ss' ∧ (putP xs x1 x2).length = n) := ⟨hM', by rw [putP_len]; exact HM.out.2⟩
      have H4 := Aside0.mk hO'
      clear hM' hO'
      go_wp2_with fail
      refine hK.out _ _ ?_ (fun hHeld => ?_)
      · exact HQ.out _ H4.out.below
      clear hK K
      try simp only [Act.put, List.setIfInBounds_toArray, List.set_cons_zero, List.set_cons_succ]
      refine wpAnyH_done (by kernel_rfl) ?_ _
      clear hHeld hi0 q1 q2
      go_wp2_with fail
      go_roundw
      case rel => exact ⟨i + 1, _, ss', hlt, by go_num, HM4, H4⟩
      case measure => simp [intOf]; omega
    · have hdl : decide (i < m) = false := decide_eq_false hlt
      obtain rfl : i = m := by omega
      obtain ⟨k, hk⟩ : ∃ k, k = a % n := ⟨_, rfl⟩
      have hkn : k < n := by rw [hk]; exact Nat.mod_lt _ (by omega)
      have hnz : ¬ (n : Int) = 0 := by omega
      have hk1 : (a : Int) % (n : Int) = (k : Int) := by rw [hk, Int.natCast_emod]
      have hk2 : (a : Int).tmod (n : Int) = (k : Int) := by rw [Int.tmod_eq_emod_of_nonneg (Int.natCast_nonneg a)]; exact hk1
      clear hk
      have hxw : Wrd xs := HM.out.1.2.2.2
      have HRR := Aside0.mk (fun A c W hC hc => memroot_yes D hD xs HM.out.1.2.2.1 hxw A c hc W hC)
      have HWD := Aside0.mk (words_mem hD HM.out.1 HI.out)
      have HGT := Aside0.mk (fun B w0 W L (h : Own B w0 W (memL g v1 v2 xs ss L)) => get_mem hD HM.out.1 h k (by omega))
      have HPV := Aside0.mk (fun B w0 W L (h : Own B w0 W (memL g v1 v2 xs ss L)) => prove_yes hD HM.out.1 h k (by have := HM.out.2; omega))
      have HMR := Aside0.mk (fun B w0 W L (h : Own B w0 W (memL g v1 v2 xs ss L)) => mroot_mem hD HM.out.1 h)
      rw [if_pos (show k < xs.length by have := HM.out.2; omega)] at HGT
      obtain ⟨b1, b2⟩ := hxw (xs.getD k 0) (by rw [List.getD_eq_getElem?_getD, List.getElem?_eq_getElem (by have := HM.out.2; omega)]; exact List.getElem_mem _)
      obtain ⟨x, hx⟩ := Int.eq_ofNat_of_zero_le b1
      have HPL : Aside0 ((proofP D (leavesW xs) k).length = D ∧ Hshs (proofP D (leavesW xs) k)) := ⟨proofP_len _ _ _, Hshs_proof _ _ _ (Hshs_leaves xs)⟩
      have HCK := chkI_proof hD HM.out.1 k x (by have := HM.out.2; omega) hx
      obtain ⟨z, hz⟩ : ∃ z : Nat, IntKind.u64.wrap ((x : Int) + 1) = (z : Int) := by
        obtain ⟨z, hz⟩ := Int.eq_ofNat_of_zero_le (show 0 ≤ IntKind.u64.wrap ((x : Int) + 1) by rw [IntKind.wrap_u64]; omega)
        exact ⟨z, hz⟩
      have hz2 : ((x : Int) + 1) % 18446744073709551616 = (z : Int) := by rw [← hz, IntKind.wrap_u64]
      have hzm : z ≤ 18446744073709551615 := by rw [IntKind.wrap_u64] at hz; omega
      have hxm : x ≤ 18446744073709551615 := by omega
      have HHR := Aside0.mk (Hsh_memroot D xs)
      have HC1 := Aside0.mk (fun A c W hC hc => memcheck_any (memroot D xs) k x (proofP D (leavesW xs) k) (by omega) hxm HHR.out HPL.out.2 A c hc W hC)
      have HC2 := Aside0.mk (fun A c W hC hc => memcheck_any (memroot D xs) k z (proofP D (leavesW xs) k) (by omega) hzm HHR.out HPL.out.2 A c hc W hC)
      have HC3 := Aside0.mk (fun A c W hC hc => rcheck_any (memroot D xs) k z (proofP D (leavesW xs) k) (by omega) hzm HHR.out HPL.out.2 A c hc W hC)
      rw [HCK] at HC1
      rw [hx] at HGT
      generalize chkI (memroot D xs) k z (proofP D (leavesW xs) k) = cb at *
      have HAR := Aside0.mk (Arr_B HHR.out.1)
      generalize memroot D xs = r at *
      generalize proofP D (leavesW xs) k = pf at *
      have HXK := Aside0.mk hx
      clear hx b1 b2 HCK hxw hz2
      have HXL := Aside0.mk HM.out.2
      rw [HXL.out] at HRR
      have hmg : pf.length = pf.length := rfl
      go_wp2_with fail
      refine HWD.out.mono ?_
      rintro e w5 ⟨v10, rfl, hO5⟩
      obtain ⟨g10, c10, rfl, hc10⟩ := hO5.form 0 rfl (by rw [HXL.out]; omega)
      rw [HXL.out] at hO5 hc10 ⊢
      have HC10 := Aside0.mk (hO5.C_of 0 rfl)
      have H5 := Aside0.mk hO5.under
      clear hO5
      go_wp2_with fail
      refine (HRR.out _ c10 w5 HC10.out hc10).mono ?_
      rintro e w6 ⟨rfl, hB6⟩
      have H6 := Aside0.mk (H5.out.step hB6)
      clear hB6
      go_upto_region 11 with (first
        | fail
        | ((with_reducible refine gate_dst (N := 11) rfl ?_); refine own_alloc H6.out rfl (N := 11) rfl (t := 25) rfl (Array.replicate 32 (.int .u8 0)) 32 (by kernel_rfl) ?_; intro g11 w7 H7 B7; replace H7 := Aside0.mk H7; replace B7 := Aside0.mk B7)
        | ((with_reducible refine own_store H7.out 0 g11 _ 25 rfl rfl (.tmp 11) (.tmp 59) rfl (cellsB r) ?_ ?_ 32 R32.out HAR.out (by kernel_rfl) ?_); (case _ => rfl); (case _ => rfl); intro w8 H8; replace H8 := Aside0.mk H8)
        )
      have H9 := Aside0.mk H8.out.under
      clear H8 hnz hk1 hk2
      go_wp2_with fail
      refine (HGT.out _ _ _ _ H9.out).mono ?_
      rintro e w9 ⟨rfl, rfl⟩
      go_wp2_with fail
      refine (HPV.out _ _ _ _ H9.out).mono ?_
      rintro e w10 ⟨v16, rfl, hO10⟩
      obtain ⟨A16, c16, rfl, hc16, hC16⟩ := hO10.reads 0 rfl
      have HC16 := Aside0.mk (And.intro hc16 hC16)
      have H10 := Aside0.mk hO10.under
      clear hO10 hc16 hC16
      have HCP : Aside0 (∀ W, Own w.heap.size w W (memL g v1 v2 xs ss [.row kH 25 (.slice A16 pf.length c16) pf, .blk g11 (cellsB r) 25, .row kU 23 (.slice (some ⟨g10, 0, none⟩) n c10) xs]) → Kd.C kH W A16 pf.length pf) := ⟨fun W h => h.C_of 3 rfl⟩
      have HSS : Aside0 (∀ W, Own w.heap.size w W (memL g v1 v2 xs ss [.row kH 25 (.slice A16 pf.length c16) pf, .blk g11 (cellsB r) 25, .row kU 23 (.slice (some ⟨g10, 0, none⟩) n c10) xs]) → W.heap[g11]? = some (.cells (cellsB r) 25 (0, 0)) ∧ W.cell? ⟨g10, k, none⟩ = some (.int .u64 (x : Int))) := ⟨fun W h => ⟨h.get 4 rfl, by
        obtain ⟨ad, he, hcell⟩ := Kd.at_int (h.C_of 5 rfl) (k : Int) (Int.natCast_nonneg k) (by omega)
        injection he with he
        subst he
        rw [Int.toNat_natCast, show rd xs (k : Int) = xs.getD k 0 by simp [rd], add_plain, HXK.out] at hcell
        exact hcell⟩⟩
      have hhp := Try.underlying25
      have HZR : Aside0 ((Try.prog.info? 25).map (·.size) = some (cellsB r).size) := ⟨by rw [HAR.out.1]; kernel_rfl⟩
      have hkb : (0 : Int) ≤ (k : Int) ∧ (k : Int) < (n : Int) := by omega
      clear hmg
      generalize pf.length = pm at *
      go_wp2_with fail
      refine wp_region_held_drew (S := (fun W => W.heap[g11]? = some (.cells (cellsB r) 25 (0, 0)) ∧ W.cell? ⟨g10, k, none⟩ = some (.int .u64 (x : Int)))) (by kernel_rfl) ?_ (fun hHeld => ?_)
      · exact HSS.out _ H10.out.drew
      refine wpAnyH_ready (rs := [0]) (by kernel_rfl) (by simp) ?_
      refine AllReadyH.cons (o := { dst := some 79, op := Go.Op.call { callee := Go.Callee.value (Go.Operand.func 18), args := #[], argTypes := #[] }, type := 4, pos := "law.go:131", after := #[], guard := none }) rfl (fun K hK => ?_) AllReadyH.nil
      go_simp
      refine (HA.out _).mono ?_
      rintro e w20 ⟨rfl, hB20⟩
      have H20 := Aside0.mk (H10.out.drew.step hB20)
      clear hB20
      go_wp2_with fail
      refine hK.out _ _ ?_ (fun hHeld => ?_)
      · exact HSS.out _ H20.out
      clear hK K
      try simp only [Act.put, List.setIfInBounds_toArray, List.set_cons_zero, List.set_cons_succ]
      refine wpAnyH_take (i := 1) (oi := { dst := some 80, op := Go.Op.move (Go.Operand.tmp 79), type := 4, pos := "law.go:131", after := #[{ on := 0, ground := Go.Ground.data }, { on := 0, ground := Go.Ground.chain }], guard := none }) (v := ?_) rfl (by kernel_rfl) (by kernel_rfl) (by kernel_rfl) (fun _ _ _ h => h) (Or.inl ⟨by rfl, ?_⟩) (by assumption) ?_
      rotate_left
      · intro wS hSw; (try dsimp only at hSw); go_simp; (try with_reducible rfl)
      try simp only [Act.put, List.setIfInBounds_toArray, List.set_cons_zero, List.set_cons_succ]
      refine wpAnyH_take (i := 2) (oi := { dst := some 81, op := Go.Op.move (Go.Operand.tmp 12), type := 29, pos := "law.go:131", after := #[{ on := 1, ground := Go.Ground.guard }], guard := some (1, true) }) (v := ?_) rfl (by kernel_rfl) (by kernel_rfl) (by kernel_rfl) (fun _ _ _ h => h) (Or.inl ⟨by rfl, ?_⟩) (by assumption) ?_
      rotate_left
      · intro wS hSw; (try dsimp only at hSw); go_simp; (try with_reducible rfl)
      try simp only [Act.put, List.setIfInBounds_toArray, List.set_cons_zero, List.set_cons_succ]
      refine wpAnyH_take (i := 3) (oi := { dst := some 82, op := Go.Op.binOp Go.BinOp.eql 29 (Go.Operand.tmp 81) (Go.Operand.const (Go.Value.int Go.IntKind.i64 0)) 29, type := 4, pos := "law.go:131", after := #[{ on := 2, ground := Go.Ground.data }, { on := 1, ground := Go.Ground.guard }], guard := some (1, true) }) (v := ?_) rfl (by kernel_rfl) (by kernel_rfl) (by kernel_rfl) (fun _ _ _ h => h) (Or.inl ⟨by rfl, ?_⟩) (by assumption) ?_
      rotate_left
      · intro wS hSw; (try dsimp only at hSw); go_simp; (try with_reducible rfl)
      try simp only [Act.put, List.setIfInBounds_toArray, List.set_cons_zero, List.set_cons_succ]
      refine wpAnyH_take (i := 4) (oi := { dst := some 83, op := Go.Op.pick (Go.Operand.tmp 80) (Go.Operand.tmp 82) (Go.Operand.const (Go.Value.bool false)), type := 4, pos := "law.go:131", after := #[{ on := 1, ground := Go.Ground.data }, { on := 3, ground := Go.Ground.data }], guard := none }) (v := ?_) rfl (by kernel_rfl) (by kernel_rfl) (by kernel_rfl) (fun _ _ _ h => h) (Or.inl ⟨by rfl, ?_⟩) (by assumption) ?_
      rotate_left
      · intro wS hSw; (try dsimp only at hSw); go_simp; (try with_reducible rfl)
      try simp only [Act.put, List.setIfInBounds_toArray, List.set_cons_zero, List.set_cons_succ]
      refine wpAnyH_take (i := 5) (oi := { dst := some 84, op := Go.Op.move (Go.Operand.tmp 83), type := 4, pos := "law.go:131", after := #[{ on := 4, ground := Go.Ground.data }, { on := 1, ground := Go.Ground.chain }], guard := none }) (v := ?_) rfl (by kernel_rfl) (by kernel_rfl) (by kernel_rfl) (fun _ _ _ h => h) (Or.inl ⟨by rfl, ?_⟩) (by assumption) ?_
      rotate_left
      · intro wS hSw; (try dsimp only at hSw); go_simp; (try with_reducible rfl)
      try simp only [Act.put, List.setIfInBounds_toArray, List.set_cons_zero, List.set_cons_succ]
      refine wpAnyH_take (i := 6) (oi := { dst := some 85, op := Go.Op.move (Go.Operand.tmp 15), type := 29, pos := "law.go:131", after := #[{ on := 5, ground := Go.Ground.guard }], guard := some (5, true) }) (v := ?_) rfl (by kernel_rfl) (by kernel_rfl) (by kernel_rfl) (fun _ _ _ h => h) (Or.inl ⟨by rfl, ?_⟩) (by assumption) ?_
      rotate_left
      · intro wS hSw; (try dsimp only at hSw); go_simp; (try with_reducible rfl)
      try simp only [Act.put, List.setIfInBounds_toArray, List.set_cons_zero, List.set_cons_succ]
      refine wpAnyH_take (i := 7) (oi := { dst := some 86, op := Go.Op.binOp Go.BinOp.eql 29 (Go.Operand.tmp 85) (Go.Operand.const (Go.Value.int Go.IntKind.i64 0)) 29, type := 4, pos := "law.go:131", after := #[{ on := 6, ground := Go.Ground.data }, { on := 5, ground := Go.Ground.guard }], guard := some (5, true) }) (v := ?_) rfl (by kernel_rfl) (by kernel_rfl) (by kernel_rfl) (fun _ _ _ h => h) (Or.inl ⟨by rfl, ?_⟩) (by assumption) ?_
      rotate_left
      · intro wS hSw; (try dsimp only at hSw); go_simp; (try with_reducible rfl)
      try simp only [Act.put, List.setIfInBounds_toArray, List.set_cons_zero, List.set_cons_succ]
      refine wpAnyH_take (i := 8) (oi := { dst := some 87, op := Go.Op.pick (Go.Operand.tmp 84) (Go.Operand.tmp 86) (Go.Operand.const (Go.Value.bool false)), type := 4, pos := "law.go:131", after := #[{ on := 5, ground := Go.Ground.data }, { on := 7, ground := Go.Ground.data }], guard := none }) (v := ?_) rfl (by kernel_rfl) (by kernel_rfl) (by kernel_rfl) (fun _ _ _ h => h) (Or.inl ⟨by rfl, ?_⟩) (by assumption) ?_
      rotate_left
      · intro wS hSw; (try dsimp only at hSw); go_simp; (try with_reducible rfl)
      try simp only [Act.put, List.setIfInBounds_toArray, List.set_cons_zero, List.set_cons_succ]
      refine wpAnyH_take (i := 9) (oi := { dst := some 88, op := Go.Op.move (Go.Operand.tmp 87), type := 4, pos := "law.go:131", after := #[{ on := 8, ground := Go.Ground.data }, { on := 5, ground := Go.Ground.chain }], guard := none }) (v := ?_) rfl (by kernel_rfl) (by kernel_rfl) (by kernel_rfl) (fun _ _ _ h => h) (Or.inl ⟨by rfl, ?_⟩) (by assumption) ?_
      rotate_left
      · intro wS hSw; (try dsimp only at hSw); go_simp; (try with_reducible rfl)
      try simp only [Act.put, List.setIfInBounds_toArray, List.set_cons_zero, List.set_cons_succ]
      refine wpAnyH_take (i := 10) (oi := { dst := some 89, op := Go.Op.move (Go.Operand.tmp 17), type := 29, pos := "law.go:131", after := #[{ on := 9, ground := Go.Ground.guard }], guard := some (9, true) }) (v := ?_) rfl (by kernel_rfl) (by kernel_rfl) (by kernel_rfl) (fun _ _ _ h => h) (Or.inl ⟨by rfl, ?_⟩) (by assumption) ?_
      rotate_left
      · intro wS hSw; (try dsimp only at hSw); go_simp; (try with_reducible rfl)
      try simp only [Act.put, List.setIfInBounds_toArray, List.set_cons_zero, List.set_cons_succ]
      refine wpAnyH_take (i := 11) (oi := { dst := some 90, op := Go.Op.binOp Go.BinOp.eql 29 (Go.Operand.tmp 89) (Go.Operand.const (Go.Value.int Go.IntKind.i64 0)) 29, type := 4, pos := "law.go:131", after := #[{ on := 10, ground := Go.Ground.data }, { on := 9, ground := Go.Ground.guard }], guard := some (9, true) }) (v := ?_) rfl (by kernel_rfl) (by kernel_rfl) (by kernel_rfl) (fun _ _ _ h => h) (Or.inl ⟨by rfl, ?_⟩) (by assumption) ?_
      rotate_left
      · intro wS hSw; (try dsimp only at hSw); go_simp; (try with_reducible rfl)
      try simp only [Act.put, List.setIfInBounds_toArray, List.set_cons_zero, List.set_cons_succ]
      refine wpAnyH_take (i := 12) (oi := { dst := some 91, op := Go.Op.pick (Go.Operand.tmp 88) (Go.Operand.tmp 90) (Go.Operand.const (Go.Value.bool false)), type := 4, pos := "law.go:131", after := #[{ on := 9, ground := Go.Ground.data }, { on := 11, ground := Go.Ground.data }], guard := none }) (v := ?_) rfl (by kernel_rfl) (by kernel_rfl) (by kernel_rfl) (fun _ _ _ h => h) (Or.inl ⟨by rfl, ?_⟩) (by assumption) ?_
      rotate_left
      · intro wS hSw; (try dsimp only at hSw); go_simp; (try with_reducible rfl)
      try simp only [Act.put, List.setIfInBounds_toArray, List.set_cons_zero, List.set_cons_succ]
      refine wpAnyH_take (i := 13) (oi := { dst := some 92, op := Go.Op.move (Go.Operand.tmp 91), type := 4, pos := "law.go:131", after := #[{ on := 12, ground := Go.Ground.data }, { on := 9, ground := Go.Ground.chain }], guard := none }) (v := ?_) rfl (by kernel_rfl) (by kernel_rfl) (by kernel_rfl) (fun _ _ _ h => h) (Or.inl ⟨by rfl, ?_⟩) (by assumption) ?_
      rotate_left
      · intro wS hSw; (try dsimp only at hSw); go_simp; (try with_reducible rfl)
      try simp only [Act.put, List.setIfInBounds_toArray, List.set_cons_zero, List.set_cons_succ]
      refine wpAnyH_take (i := 14) (oi := { dst := some 93, op := Go.Op.load 25 (Go.Operand.tmp 11), type := 25, pos := "law.go:131", after := #[{ on := 13, ground := Go.Ground.guard }], guard := some (13, true) }) (v := .agg (cellsB r)) rfl (by kernel_rfl) (by kernel_rfl) (by kernel_rfl) (fun _ _ _ h => h) (yif_loadV (by rfl) 25 (.tmp 11) rfl g11 _ rfl (fun W h => h.1) _ hhp rfl HZR.out) (by assumption) ?_
      try simp only [Act.put, List.setIfInBounds_toArray, List.set_cons_zero, List.set_cons_succ]
      refine wpAnyH_take (i := 15) (oi := { dst := some 94, op := Go.Op.move (Go.Operand.tmp 7), type := 38, pos := "law.go:131", after := #[{ on := 13, ground := Go.Ground.guard }], guard := some (13, true) }) (v := ?_) rfl (by kernel_rfl) (by kernel_rfl) (by kernel_rfl) (fun _ _ _ h => h) (Or.inl ⟨by rfl, ?_⟩) (by assumption) ?_
      rotate_left
      · intro wS hSw; (try dsimp only at hSw); go_simp; (try with_reducible rfl)
      try simp only [Act.put, List.setIfInBounds_toArray, List.set_cons_zero, List.set_cons_succ]
      refine wpAnyH_ready (rs := [16]) (by kernel_rfl) (by simp) ?_
      refine AllReadyH.cons (o := { dst := some 95, op := Go.Op.call { callee := Go.Callee.value (Go.Operand.func 25), args := #[Go.Operand.tmp 94], argTypes := #[38] }, type := 25, pos := "law.go:131", after := #[{ on := 15, ground := Go.Ground.data }, { on := 13, ground := Go.Ground.chain }, { on := 13, ground := Go.Ground.guard }], guard := some (13, true) }) rfl (fun K hK => ?_) AllReadyH.nil
      go_simp
      refine (HMR.out _ _ _ _ H20.out).mono ?_
      rintro e w21 ⟨rfl, hB21⟩
      have H21 := Aside0.mk (H20.out.step hB21)
      clear hB21
      go_wp2_with fail
      refine hK.out _ _ ?_ (fun hHeld => ?_)
      · exact HSS.out _ H21.out
      clear hK K
      try simp only [Act.put, List.setIfInBounds_toArray, List.set_cons_zero, List.set_cons_succ]
      refine wpAnyH_take (i := 17) (oi := { dst := some 96, op := Go.Op.binOp Go.BinOp.eql 25 (Go.Operand.tmp 93) (Go.Operand.tmp 95) 25, type := 4, pos := "law.go:131", after := #[{ on := 14, ground := Go.Ground.data }, { on := 16, ground := Go.Ground.data }, { on := 13, ground := Go.Ground.guard }], guard := some (13, true) }) (v := .bool true) rfl (by kernel_rfl) (by kernel_rfl) (by kernel_rfl) (fun _ _ _ h => h) (yif_eqb true (by rfl) 25 _ (.tmp 93) (.tmp 95) rfl r r rfl rfl Try.underlying25 Try.underlying5 size1B guardH HHR.out.1 HHR.out.1 (beq_self_eq_true r)) (by assumption) ?_
      try simp only [Act.put, List.setIfInBounds_toArray, List.set_cons_zero, List.set_cons_succ]
      refine wpAnyH_take (i := 18) (oi := { dst := some 97, op := Go.Op.pick (Go.Operand.tmp 92) (Go.Operand.tmp 96) (Go.Operand.const (Go.Value.bool false)), type := 4, pos := "law.go:131", after := #[{ on := 13, ground := Go.Ground.data }, { on := 17, ground := Go.Ground.data }], guard := none }) (v := ?_) rfl (by kernel_rfl) (by kernel_rfl) (by kernel_rfl) (fun _ _ _ h => h) (Or.inl ⟨by rfl, ?_⟩) (by assumption) ?_
      rotate_left
      · intro wS hSw; (try dsimp only at hSw); go_simp; (try with_reducible rfl)
      try simp only [Act.put, List.setIfInBounds_toArray, List.set_cons_zero, List.set_cons_succ]
      refine wpAnyH_take (i := 19) (oi := { dst := some 98, op := Go.Op.move (Go.Operand.tmp 97), type := 4, pos := "law.go:131", after := #[{ on := 18, ground := Go.Ground.data }, { on := 16, ground := Go.Ground.chain }], guard := none }) (v := ?_) rfl (by kernel_rfl) (by kernel_rfl) (by kernel_rfl) (fun _ _ _ h => h) (Or.inl ⟨by rfl, ?_⟩) (by assumption) ?_
      rotate_left
      · intro wS hSw; (try dsimp only at hSw); go_simp; (try with_reducible rfl)
      try simp only [Act.put, List.setIfInBounds_toArray, List.set_cons_zero, List.set_cons_succ]
      refine wpAnyH_take (i := 20) (oi := { dst := some 99, op := Go.Op.move (Go.Operand.tmp 10), type := 22, pos := "law.go:131", after := #[{ on := 19, ground := Go.Ground.guard }], guard := some (19, true) }) (v := ?_) rfl (by kernel_rfl) (by kernel_rfl) (by kernel_rfl) (fun _ _ _ h => h) (Or.inl ⟨by rfl, ?_⟩) (by assumption) ?_
      rotate_left
      · intro wS hSw; (try dsimp only at hSw); go_simp; (try with_reducible rfl)
      try simp only [Act.put, List.setIfInBounds_toArray, List.set_cons_zero, List.set_cons_succ]
      refine wpAnyH_take (i := 21) (oi := { dst := some 100, op := Go.Op.call { callee := Go.Callee.builtin Go.Builtin.len, args := #[Go.Operand.tmp 99], argTypes := #[22] }, type := 3, pos := "law.go:131", after := #[{ on := 20, ground := Go.Ground.data }, { on := 19, ground := Go.Ground.guard }], guard := some (19, true) }) (v := ?_) rfl (by kernel_rfl) (by kernel_rfl) (by kernel_rfl) (fun _ _ _ h => h) (Or.inl ⟨by rfl, ?_⟩) (by assumption) ?_
      rotate_left
      · intro wS hSw; (try dsimp only at hSw); go_simp; (try with_reducible rfl)
      try simp only [Act.put, List.setIfInBounds_toArray, List.set_cons_zero, List.set_cons_succ]
      refine wpAnyH_take (i := 22) (oi := { dst := some 101, op := Go.Op.move (Go.Operand.tmp 0), type := 22, pos := "law.go:131", after := #[{ on := 19, ground := Go.Ground.guard }], guard := some (19, true) }) (v := ?_) rfl (by kernel_rfl) (by kernel_rfl) (by kernel_rfl) (fun _ _ _ h => h) (Or.inl ⟨by rfl, ?_⟩) (by assumption) ?_
      rotate_left
      · intro wS hSw; (try dsimp only at hSw); go_simp; (try with_reducible rfl)
      try simp only [Act.put, List.setIfInBounds_toArray, List.set_cons_zero, List.set_cons_succ]
      refine wpAnyH_take (i := 23) (oi := { dst := some 102, op := Go.Op.call { callee := Go.Callee.builtin Go.Builtin.len, args := #[Go.Operand.tmp 101], argTypes := #[22] }, type := 3, pos := "law.go:131", after := #[{ on := 22, ground := Go.Ground.data }, { on := 19, ground := Go.Ground.guard }], guard := some (19, true) }) (v := ?_) rfl (by kernel_rfl) (by kernel_rfl) (by kernel_rfl) (fun _ _ _ h => h) (Or.inl ⟨by rfl, ?_⟩) (by assumption) ?_
      rotate_left
      · intro wS hSw; (try dsimp only at hSw); go_simp; (try with_reducible rfl)
      try simp only [Act.put, List.setIfInBounds_toArray, List.set_cons_zero, List.set_cons_succ]
      refine wpAnyH_take (i := 24) (oi := { dst := some 103, op := Go.Op.binOp Go.BinOp.eql 3 (Go.Operand.tmp 100) (Go.Operand.tmp 102) 3, type := 4, pos := "law.go:131", after := #[{ on := 21, ground := Go.Ground.data }, { on := 23, ground := Go.Ground.data }, { on := 19, ground := Go.Ground.guard }], guard := some (19, true) }) (v := ?_) rfl (by kernel_rfl) (by kernel_rfl) (by kernel_rfl) (fun _ _ _ h => h) (Or.inl ⟨by rfl, ?_⟩) (by assumption) ?_
      rotate_left
      · intro wS hSw; (try dsimp only at hSw); go_simp; (try with_reducible rfl)
      try simp only [Act.put, List.setIfInBounds_toArray, List.set_cons_zero, List.set_cons_succ]
      refine wpAnyH_take (i := 25) (oi := { dst := some 104, op := Go.Op.pick (Go.Operand.tmp 98) (Go.Operand.tmp 103) (Go.Operand.const (Go.Value.bool false)), type := 4, pos := "law.go:131", after := #[{ on := 19, ground := Go.Ground.data }, { on := 24, ground := Go.Ground.data }], guard := none }) (v := ?_) rfl (by kernel_rfl) (by kernel_rfl) (by kernel_rfl) (fun _ _ _ h => h) (Or.inl ⟨by rfl, ?_⟩) (by assumption) ?_
      rotate_left
      · intro wS hSw; (try dsimp only at hSw); go_simp; (try with_reducible rfl)
      try simp only [Act.put, List.setIfInBounds_toArray, List.set_cons_zero, List.set_cons_succ]
      refine wpAnyH_take (i := 26) (oi := { dst := some 105, op := Go.Op.move (Go.Operand.tmp 104), type := 4, pos := "law.go:131", after := #[{ on := 25, ground := Go.Ground.data }, { on := 19, ground := Go.Ground.chain }], guard := none }) (v := ?_) rfl (by kernel_rfl) (by kernel_rfl) (by kernel_rfl) (fun _ _ _ h => h) (Or.inl ⟨by rfl, ?_⟩) (by assumption) ?_
      rotate_left
      · intro wS hSw; (try dsimp only at hSw); go_simp; (try with_reducible rfl)
      try simp only [Act.put, List.setIfInBounds_toArray, List.set_cons_zero, List.set_cons_succ]
      refine wpAnyH_take (i := 27) (oi := { dst := some 106, op := Go.Op.move (Go.Operand.tmp 10), type := 22, pos := "law.go:131", after := #[{ on := 26, ground := Go.Ground.guard }], guard := some (26, true) }) (v := ?_) rfl (by kernel_rfl) (by kernel_rfl) (by kernel_rfl) (fun _ _ _ h => h) (Or.inl ⟨by rfl, ?_⟩) (by assumption) ?_
      rotate_left
      · intro wS hSw; (try dsimp only at hSw); go_simp; (try with_reducible rfl)
      try simp only [Act.put, List.setIfInBounds_toArray, List.set_cons_zero, List.set_cons_succ]
      refine wpAnyH_take (i := 28) (oi := { dst := some 107, op := Go.Op.move (Go.Operand.tmp 13), type := 23, pos := "law.go:131", after := #[{ on := 26, ground := Go.Ground.guard }], guard := some (26, true) }) (v := ?_) rfl (by kernel_rfl) (by kernel_rfl) (by kernel_rfl) (fun _ _ _ h => h) (Or.inl ⟨by rfl, ?_⟩) (by assumption) ?_
      rotate_left
      · intro wS hSw; (try dsimp only at hSw); go_simp; (try with_reducible rfl)
      try simp only [Act.put, List.setIfInBounds_toArray, List.set_cons_zero, List.set_cons_succ]
      refine wpAnyH_take (i := 29) (oi := { dst := some 108, op := Go.Op.indexAddr 22 (Go.Operand.tmp 106) (Go.Operand.tmp 107), type := 0, pos := "law.go:131", after := #[{ on := 27, ground := Go.Ground.data }, { on := 28, ground := Go.Ground.data }, { on := 26, ground := Go.Ground.guard }], guard := some (26, true) }) (v := ?_) rfl (by kernel_rfl) (by kernel_rfl) (by kernel_rfl) (fun _ _ _ h => h) (Or.inl ⟨by rfl, ?_⟩) (by assumption) ?_
      rotate_left
      · intro wS hSw; (try dsimp only at hSw); go_simp; (try with_reducible rfl)
      try simp only [Act.put, List.setIfInBounds_toArray, List.set_cons_zero, List.set_cons_succ]
      refine wpAnyH_take (i := 30) (oi := { dst := some 109, op := Go.Op.load 23 (Go.Operand.tmp 108), type := 23, pos := "law.go:131", after := #[{ on := 29, ground := Go.Ground.data }, { on := 26, ground := Go.Ground.guard }], guard := some (26, true) }) (v := ?_) rfl (by kernel_rfl) (by kernel_rfl) (by kernel_rfl) (fun _ _ _ h => h) (Or.inl ⟨by rfl, ?_⟩) (by assumption) ?_
      rotate_left
      · intro wS hSw; (try dsimp only at hSw); go_simp; (try with_reducible rfl)
      try simp only [Act.put, List.setIfInBounds_toArray, List.set_cons_zero, List.set_cons_succ]
      refine wpAnyH_take (i := 31) (oi := { dst := some 110, op := Go.Op.move (Go.Operand.tmp 14), type := 23, pos := "law.go:131", after := #[{ on := 26, ground := Go.Ground.guard }], guard := some (26, true) }) (v := ?_) rfl (by kernel_rfl) (by kernel_rfl) (by kernel_rfl) (fun _ _ _ h => h) (Or.inl ⟨by rfl, ?_⟩) (by assumption) ?_
      rotate_left
      · intro wS hSw; (try dsimp only at hSw); go_simp; (try with_reducible rfl)
      try simp only [Act.put, List.setIfInBounds_toArray, List.set_cons_zero, List.set_cons_succ]
      refine wpAnyH_take (i := 32) (oi := { dst := some 111, op := Go.Op.binOp Go.BinOp.eql 23 (Go.Operand.tmp 109) (Go.Operand.tmp 110) 23, type := 4, pos := "law.go:131", after := #[{ on := 30, ground := Go.Ground.data }, { on := 31, ground := Go.Ground.data }, { on := 26, ground := Go.Ground.guard }], guard := some (26, true) }) (v := ?_) rfl (by kernel_rfl) (by kernel_rfl) (by kernel_rfl) (fun _ _ _ h => h) (Or.inl ⟨by rfl, ?_⟩) (by assumption) ?_
      rotate_left
      · intro wS hSw; (try dsimp only at hSw); go_simp; (try with_reducible rfl)
      try simp only [Act.put, List.setIfInBounds_toArray, List.set_cons_zero, List.set_cons_succ]
      refine wpAnyH_take (i := 33) (oi := { dst := some 112, op := Go.Op.pick (Go.Operand.tmp 105) (Go.Operand.tmp 111) (Go.Operand.const (Go.Value.bool false)), type := 4, pos := "law.go:131", after := #[{ on := 26, ground := Go.Ground.data }, { on := 32, ground := Go.Ground.data }], guard := none }) (v := ?_) rfl (by kernel_rfl) (by kernel_rfl) (by kernel_rfl) (fun _ _ _ h => h) (Or.inl ⟨by rfl, ?_⟩) (by assumption) ?_
      rotate_left
      · intro wS hSw; (try dsimp only at hSw); go_simp; (try with_reducible rfl)
      try simp only [Act.put, List.setIfInBounds_toArray, List.set_cons_zero, List.set_cons_succ]
      refine wpAnyH_take (i := 34) (oi := { dst := some 113, op := Go.Op.move (Go.Operand.tmp 112), type := 4, pos := "law.go:131", after := #[{ on := 33, ground := Go.Ground.data }, { on := 26, ground := Go.Ground.chain }], guard := none }) (v := ?_) rfl (by kernel_rfl) (by kernel_rfl) (by kernel_rfl) (fun _ _ _ h => h) (Or.inl ⟨by rfl, ?_⟩) (by assumption) ?_
      rotate_left
      · intro wS hSw; (try dsimp only at hSw); go_simp; (try with_reducible rfl)
      try simp only [Act.put, List.setIfInBounds_toArray, List.set_cons_zero, List.set_cons_succ]
      refine wpAnyH_take (i := 35) (oi := { dst := some 114, op := Go.Op.load 25 (Go.Operand.tmp 11), type := 25, pos := "law.go:131", after := #[{ on := 34, ground := Go.Ground.guard }], guard := some (34, true) }) (v := .agg (cellsB r)) rfl (by kernel_rfl) (by kernel_rfl) (by kernel_rfl) (fun _ _ _ h => h) (yif_loadV (by rfl) 25 (.tmp 11) rfl g11 _ rfl (fun W h => h.1) _ hhp rfl HZR.out) (by assumption) ?_
      try simp only [Act.put, List.setIfInBounds_toArray, List.set_cons_zero, List.set_cons_succ]
      refine wpAnyH_take (i := 36) (oi := { dst := some 115, op := Go.Op.move (Go.Operand.tmp 13), type := 23, pos := "law.go:131", after := #[{ on := 34, ground := Go.Ground.guard }], guard := some (34, true) }) (v := ?_) rfl (by kernel_rfl) (by kernel_rfl) (by kernel_rfl) (fun _ _ _ h => h) (Or.inl ⟨by rfl, ?_⟩) (by assumption) ?_
      rotate_left
      · intro wS hSw; (try dsimp only at hSw); go_simp; (try with_reducible rfl)
      try simp only [Act.put, List.setIfInBounds_toArray, List.set_cons_zero, List.set_cons_succ]
      refine wpAnyH_take (i := 37) (oi := { dst := some 116, op := Go.Op.move (Go.Operand.tmp 14), type := 23, pos := "law.go:131", after := #[{ on := 34, ground := Go.Ground.guard }], guard := some (34, true) }) (v := ?_) rfl (by kernel_rfl) (by kernel_rfl) (by kernel_rfl) (fun _ _ _ h => h) (Or.inl ⟨by rfl, ?_⟩) (by assumption) ?_
      rotate_left
      · intro wS hSw; (try dsimp only at hSw); go_simp; (try with_reducible rfl)
      try simp only [Act.put, List.setIfInBounds_toArray, List.set_cons_zero, List.set_cons_succ]
      refine wpAnyH_take (i := 38) (oi := { dst := some 117, op := Go.Op.move (Go.Operand.tmp 16), type := 26, pos := "law.go:131", after := #[{ on := 34, ground := Go.Ground.guard }], guard := some (34, true) }) (v := ?_) rfl (by kernel_rfl) (by kernel_rfl) (by kernel_rfl) (fun _ _ _ h => h) (Or.inl ⟨by rfl, ?_⟩) (by assumption) ?_
      rotate_left
      · intro wS hSw; (try dsimp only at hSw); go_simp; (try with_reducible rfl)
      try simp only [Act.put, List.setIfInBounds_toArray, List.set_cons_zero, List.set_cons_succ]
      refine wpAnyH_ready (rs := [39]) (by kernel_rfl) (by simp) ?_
      refine AllReadyH.cons (o := { dst := some 118, op := Go.Op.call { callee := Go.Callee.value (Go.Operand.func 16), args := #[Go.Operand.tmp 114, Go.Operand.tmp 115, Go.Operand.tmp 116, Go.Operand.tmp 117], argTypes := #[25, 23, 23, 26] }, type := 4, pos := "law.go:131", after := #[{ on := 35, ground := Go.Ground.data }, { on := 36, ground := Go.Ground.data }, { on := 37, ground := Go.Ground.data }, { on := 38, ground := Go.Ground.data }, { on := 34, ground := Go.Ground.chain }, { on := 34, ground := Go.Ground.guard }], guard := some (34, true) }) rfl (fun K hK => ?_) AllReadyH.nil
      go_simp
      refine (HC1.out _ _ _ (HCP.out _ H21.out) HC16.out.1).mono ?_
      rintro e w22 ⟨rfl, hB22⟩
      have H22 := Aside0.mk (H21.out.step hB22)
      clear hB22
      go_wp2_with fail
      refine hK.out _ _ ?_ (fun hHeld => ?_)
      · exact HSS.out _ H22.out
      clear hK K
      try simp only [Act.put, List.setIfInBounds_toArray, List.set_cons_zero, List.set_cons_succ]
      refine wpAnyH_take (i := 40) (oi := { dst := some 119, op := Go.Op.pick (Go.Operand.tmp 113) (Go.Operand.tmp 118) (Go.Operand.const (Go.Value.bool false)), type := 4, pos := "law.go:131", after := #[{ on := 34, ground := Go.Ground.data }, { on := 39, ground := Go.Ground.data }], guard := none }) (v := ?_) rfl (by kernel_rfl) (by kernel_rfl) (by kernel_rfl) (fun _ _ _ h => h) (Or.inl ⟨by rfl, ?_⟩) (by assumption) ?_
      rotate_left
      · intro wS hSw; (try dsimp only at hSw); go_simp; (try with_reducible rfl)
      try simp only [Act.put, List.setIfInBounds_toArray, List.set_cons_zero, List.set_cons_succ]
      refine wpAnyH_take (i := 41) (oi := { dst := some 120, op := Go.Op.move (Go.Operand.tmp 119), type := 4, pos := "law.go:131", after := #[{ on := 40, ground := Go.Ground.data }, { on := 39, ground := Go.Ground.chain }], guard := none }) (v := ?_) rfl (by kernel_rfl) (by kernel_rfl) (by kernel_rfl) (fun _ _ _ h => h) (Or.inl ⟨by rfl, ?_⟩) (by assumption) ?_
      rotate_left
      · intro wS hSw; (try dsimp only at hSw); go_simp; (try with_reducible rfl)
      try simp only [Act.put, List.setIfInBounds_toArray, List.set_cons_zero, List.set_cons_succ]
      refine wpAnyH_take (i := 42) (oi := { dst := some 121, op := Go.Op.load 25 (Go.Operand.tmp 11), type := 25, pos := "law.go:131", after := #[{ on := 41, ground := Go.Ground.guard }], guard := some (41, true) }) (v := .agg (cellsB r)) rfl (by kernel_rfl) (by kernel_rfl) (by kernel_rfl) (fun _ _ _ h => h) (yif_loadV (by rfl) 25 (.tmp 11) rfl g11 _ rfl (fun W h => h.1) _ hhp rfl HZR.out) (by assumption) ?_
      try simp only [Act.put, List.setIfInBounds_toArray, List.set_cons_zero, List.set_cons_succ]
      refine wpAnyH_take (i := 43) (oi := { dst := some 122, op := Go.Op.move (Go.Operand.tmp 13), type := 23, pos := "law.go:131", after := #[{ on := 41, ground := Go.Ground.guard }], guard := some (41, true) }) (v := ?_) rfl (by kernel_rfl) (by kernel_rfl) (by kernel_rfl) (fun _ _ _ h => h) (Or.inl ⟨by rfl, ?_⟩) (by assumption) ?_
      rotate_left
      · intro wS hSw; (try dsimp only at hSw); go_simp; (try with_reducible rfl)
      try simp only [Act.put, List.setIfInBounds_toArray, List.set_cons_zero, List.set_cons_succ]
      refine wpAnyH_take (i := 44) (oi := { dst := some 123, op := Go.Op.move (Go.Operand.tmp 14), type := 23, pos := "law.go:131", after := #[{ on := 41, ground := Go.Ground.guard }], guard := some (41, true) }) (v := ?_) rfl (by kernel_rfl) (by kernel_rfl) (by kernel_rfl) (fun _ _ _ h => h) (Or.inl ⟨by rfl, ?_⟩) (by assumption) ?_
      rotate_left
      · intro wS hSw; (try dsimp only at hSw); go_simp; (try with_reducible rfl)
      try simp only [Act.put, List.setIfInBounds_toArray, List.set_cons_zero, List.set_cons_succ]
      refine wpAnyH_take (i := 45) (oi := { dst := some 124, op := Go.Op.binOp Go.BinOp.add 23 (Go.Operand.tmp 123) (Go.Operand.const (Go.Value.int Go.IntKind.u64 1)) 23, type := 23, pos := "law.go:131", after := #[{ on := 44, ground := Go.Ground.data }, { on := 41, ground := Go.Ground.guard }], guard := some (41, true) }) (v := ?_) rfl (by kernel_rfl) (by kernel_rfl) (by kernel_rfl) (fun _ _ _ h => h) (Or.inl ⟨by rfl, ?_⟩) (by assumption) ?_
      rotate_left
      · intro wS hSw; (try dsimp only at hSw); go_simp; (try with_reducible rfl)
      try simp only [Act.put, List.setIfInBounds_toArray, List.set_cons_zero, List.set_cons_succ]
      refine wpAnyH_take (i := 46) (oi := { dst := some 125, op := Go.Op.move (Go.Operand.tmp 16), type := 26, pos := "law.go:131", after := #[{ on := 41, ground := Go.Ground.guard }], guard := some (41, true) }) (v := ?_) rfl (by kernel_rfl) (by kernel_rfl) (by kernel_rfl) (fun _ _ _ h => h) (Or.inl ⟨by rfl, ?_⟩) (by assumption) ?_
      rotate_left
      · intro wS hSw; (try dsimp only at hSw); go_simp; (try with_reducible rfl)
      try simp only [Act.put, List.setIfInBounds_toArray, List.set_cons_zero, List.set_cons_succ]
      refine wpAnyH_take (i := 48) (oi := { dst := some 127, op := Go.Op.load 25 (Go.Operand.tmp 11), type := 25, pos := "law.go:131", after := #[{ on := 41, ground := Go.Ground.guard }], guard := some (41, true) }) (v := .agg (cellsB r)) rfl (by kernel_rfl) (by kernel_rfl) (by kernel_rfl) (fun _ _ _ h => h) (yif_loadV (by rfl) 25 (.tmp 11) rfl g11 _ rfl (fun W h => h.1) _ hhp rfl HZR.out) (by assumption) ?_
      try simp only [Act.put, List.setIfInBounds_toArray, List.set_cons_zero, List.set_cons_succ]
      refine wpAnyH_take (i := 49) (oi := { dst := some 128, op := Go.Op.move (Go.Operand.tmp 13), type := 23, pos := "law.go:131", after := #[{ on := 41, ground := Go.Ground.guard }], guard := some (41, true) }) (v := ?_) rfl (by kernel_rfl) (by kernel_rfl) (by kernel_rfl) (fun _ _ _ h => h) (Or.inl ⟨by rfl, ?_⟩) (by assumption) ?_
      rotate_left
      · intro wS hSw; (try dsimp only at hSw); go_simp; (try with_reducible rfl)
      try simp only [Act.put, List.setIfInBounds_toArray, List.set_cons_zero, List.set_cons_succ]
      refine wpAnyH_take (i := 50) (oi := { dst := some 129, op := Go.Op.move (Go.Operand.tmp 14), type := 23, pos := "law.go:131", after := #[{ on := 41, ground := Go.Ground.guard }], guard := some (41, true) }) (v := ?_) rfl (by kernel_rfl) (by kernel_rfl) (by kernel_rfl) (fun _ _ _ h => h) (Or.inl ⟨by rfl, ?_⟩) (by assumption) ?_
      rotate_left
      · intro wS hSw; (try dsimp only at hSw); go_simp; (try with_reducible rfl)
      try simp only [Act.put, List.setIfInBounds_toArray, List.set_cons_zero, List.set_cons_succ]
      refine wpAnyH_take (i := 51) (oi := { dst := some 130, op := Go.Op.binOp Go.BinOp.add 23 (Go.Operand.tmp 129) (Go.Operand.const (Go.Value.int Go.IntKind.u64 1)) 23, type := 23, pos := "law.go:131", after := #[{ on := 50, ground := Go.Ground.data }, { on := 41, ground := Go.Ground.guard }], guard := some (41, true) }) (v := ?_) rfl (by kernel_rfl) (by kernel_rfl) (by kernel_rfl) (fun _ _ _ h => h) (Or.inl ⟨by rfl, ?_⟩) (by assumption) ?_
      rotate_left
      · intro wS hSw; (try dsimp only at hSw); go_simp; (try with_reducible rfl)
      try simp only [Act.put, List.setIfInBounds_toArray, List.set_cons_zero, List.set_cons_succ]
      refine wpAnyH_take (i := 52) (oi := { dst := some 131, op := Go.Op.move (Go.Operand.tmp 16), type := 26, pos := "law.go:131", after := #[{ on := 41, ground := Go.Ground.guard }], guard := some (41, true) }) (v := ?_) rfl (by kernel_rfl) (by kernel_rfl) (by kernel_rfl) (fun _ _ _ h => h) (Or.inl ⟨by rfl, ?_⟩) (by assumption) ?_
      rotate_left
      · intro wS hSw; (try dsimp only at hSw); go_simp; (try with_reducible rfl)
      try simp only [Act.put, List.setIfInBounds_toArray, List.set_cons_zero, List.set_cons_succ]
      refine wpAnyH_ready (rs := [47]) (by kernel_rfl) (by simp) ?_
      refine AllReadyH.cons (o := { dst := some 126, op := Go.Op.call { callee := Go.Callee.value (Go.Operand.func 16), args := #[Go.Operand.tmp 121, Go.Operand.tmp 122, Go.Operand.tmp 124, Go.Operand.tmp 125], argTypes := #[25, 23, 23, 26] }, type := 4, pos := "law.go:131", after := #[{ on := 42, ground := Go.Ground.data }, { on := 43, ground := Go.Ground.data }, { on := 45, ground := Go.Ground.data }, { on := 46, ground := Go.Ground.data }, { on := 41, ground := Go.Ground.chain }, { on := 41, ground := Go.Ground.guard }], guard := some (41, true) }) rfl (fun K hK => ?_) AllReadyH.nil
      go_simp
      refine (HC2.out _ _ _ (HCP.out _ H22.out) HC16.out.1).mono ?_
      rintro e w23 ⟨rfl, hB23⟩
      have H23 := Aside0.mk (H22.out.step hB23)
      clear hB23
      go_wp2_with fail
      refine hK.out _ _ ?_ (fun hHeld => ?_)
      · exact HSS.out _ H23.out
      clear hK K
      try simp only [Act.put, List.setIfInBounds_toArray, List.set_cons_zero, List.set_cons_succ]
      refine wpAnyH_ready (rs := [53]) (by kernel_rfl) (by simp) ?_
      refine AllReadyH.cons (o := { dst := some 132, op := Go.Op.call { callee := Go.Callee.value (Go.Operand.func 17), args := #[Go.Operand.tmp 127, Go.Operand.tmp 128, Go.Operand.tmp 130, Go.Operand.tmp 131], argTypes := #[25, 23, 23, 26] }, type := 4, pos := "law.go:131", after := #[{ on := 48, ground := Go.Ground.data }, { on := 49, ground := Go.Ground.data }, { on := 51, ground := Go.Ground.data }, { on := 52, ground := Go.Ground.data }, { on := 47, ground := Go.Ground.chain }, { on := 41, ground := Go.Ground.guard }], guard := some (41, true) }) rfl (fun K hK => ?_) AllReadyH.nil
      go_simp
      refine (HC3.out _ _ _ (HCP.out _ H23.out) HC16.out.1).mono ?_
      rintro e w24 ⟨rfl, hB24⟩
      have H24 := Aside0.mk (H23.out.step hB24)
      clear hB24
      go_wp2_with fail
      refine hK.out _ _ ?_ (fun hHeld => ?_)
      · exact HSS.out _ H24.out
      clear hK K
      try simp only [Act.put, List.setIfInBounds_toArray, List.set_cons_zero, List.set_cons_succ]
      refine wpAnyH_take (i := 54) (oi := { dst := some 133, op := Go.Op.binOp Go.BinOp.eql 4 (Go.Operand.tmp 126) (Go.Operand.tmp 132) 4, type := 4, pos := "law.go:131", after := #[{ on := 47, ground := Go.Ground.data }, { on := 53, ground := Go.Ground.data }, { on := 41, ground := Go.Ground.guard }], guard := some (41, true) }) (v := ?_) rfl (by kernel_rfl) (by kernel_rfl) (by kernel_rfl) (fun _ _ _ h => h) (Or.inl ⟨by rfl, ?_⟩) (by assumption) ?_
      rotate_left
      · intro wS hSw; (try dsimp only at hSw); go_simp; (try with_reducible rfl)
      try simp only [Act.put, List.setIfInBounds_toArray, List.set_cons_zero, List.set_cons_succ]
      refine wpAnyH_take (i := 55) (oi := { dst := some 134, op := Go.Op.pick (Go.Operand.tmp 120) (Go.Operand.tmp 133) (Go.Operand.const (Go.Value.bool false)), type := 4, pos := "law.go:131", after := #[{ on := 41, ground := Go.Ground.data }, { on := 54, ground := Go.Ground.data }], guard := none }) (v := ?_) rfl (by kernel_rfl) (by kernel_rfl) (by kernel_rfl) (fun _ _ _ h => h) (Or.inl ⟨by rfl, ?_⟩) (by assumption) ?_
      rotate_left
      · intro wS hSw; (try dsimp only at hSw); go_simp; (try with_reducible rfl)
      try simp only [Act.put, List.setIfInBounds_toArray, List.set_cons_zero, List.set_cons_succ]
      refine wpAnyH_take (i := 56) (oi := { dst := some 6, op := Go.Op.assign (Go.Operand.tmp 134), type := 4, pos := "law.go:131", after := #[{ on := 55, ground := Go.Ground.data }, { on := 53, ground := Go.Ground.chain }, { on := 0, ground := Go.Ground.phase }, { on := 1, ground := Go.Ground.phase }, { on := 2, ground := Go.Ground.phase }, { on := 3, ground := Go.Ground.phase }, { on := 4, ground := Go.Ground.phase }, { on := 5, ground := Go.Ground.phase }, { on := 6, ground := Go.Ground.phase }, { on := 7, ground := Go.Ground.phase }, { on := 8, ground := Go.Ground.phase }, { on := 9, ground := Go.Ground.phase }, { on := 10, ground := Go.Ground.phase }, { on := 11, ground := Go.Ground.phase }, { on := 12, ground := Go.Ground.phase }, { on := 13, ground := Go.Ground.phase }, { on := 14, ground := Go.Ground.phase }, { on := 15, ground := Go.Ground.phase }, { on := 16, ground := Go.Ground.phase }, { on := 17, ground := Go.Ground.phase }, { on := 18, ground := Go.Ground.phase }, { on := 19, ground := Go.Ground.phase }, { on := 20, ground := Go.Ground.phase }, { on := 21, ground := Go.Ground.phase }, { on := 22, ground := Go.Ground.phase }, { on := 23, ground := Go.Ground.phase }, { on := 24, ground := Go.Ground.phase }, { on := 25, ground := Go.Ground.phase }, { on := 26, ground := Go.Ground.phase }, { on := 27, ground := Go.Ground.phase }, { on := 28, ground := Go.Ground.phase }, { on := 29, ground := Go.Ground.phase }, { on := 30, ground := Go.Ground.phase }, { on := 31, ground := Go.Ground.phase }, { on := 32, ground := Go.Ground.phase }, { on := 33, ground := Go.Ground.phase }, { on := 34, ground := Go.Ground.phase }, { on := 35, ground := Go.Ground.phase }, { on := 36, ground := Go.Ground.phase }, { on := 37, ground := Go.Ground.phase }, { on := 38, ground := Go.Ground.phase }, { on := 39, ground := Go.Ground.phase }, { on := 40, ground := Go.Ground.phase }, { on := 41, ground := Go.Ground.phase }, { on := 42, ground := Go.Ground.phase }, { on := 43, ground := Go.Ground.phase }, { on := 44, ground := Go.Ground.phase }, { on := 45, ground := Go.Ground.phase }, { on := 46, ground := Go.Ground.phase }, { on := 47, ground := Go.Ground.phase }, { on := 48, ground := Go.Ground.phase }, { on := 49, ground := Go.Ground.phase }, { on := 50, ground := Go.Ground.phase }, { on := 51, ground := Go.Ground.phase }, { on := 52, ground := Go.Ground.phase }, { on := 53, ground := Go.Ground.phase }, { on := 54, ground := Go.Ground.phase }, { on := 55, ground := Go.Ground.phase }], guard := none }) (v := ?_) rfl (by kernel_rfl) (by kernel_rfl) (by kernel_rfl) (fun _ _ _ h => h) (Or.inl ⟨by rfl, ?_⟩) (by assumption) ?_
      rotate_left
      · intro wS hSw; (try dsimp only at hSw); go_simp; (try with_reducible rfl)
      try simp only [Act.put, List.setIfInBounds_toArray, List.set_cons_zero, List.set_cons_succ]
      refine wpAnyH_done (by kernel_rfl) ?_ _
      clear hHeld
      go_wp2_with fail
      go_ret
      exact ⟨rfl, H24.out.below⟩
theorem proves_law (ws : List Int) (hw : Wrd ws) (A : Option Addr) (c : Nat) (hc : ws.length ≤ c) (w : World) (hC : Kd.C kU w A ws.length ws)
    (sc : List (Int × Int × Int)) (hsc : ∀ y ∈ sc, OpOk y) (A2 : Option Addr) (c2 : Nat) (hC2 : Kd.C kOp w A2 sc.length sc) (a : Nat) (ha : a ≤ 65535) :
    Calls Try.prog 7 #[.slice A ws.length c, .slice A2 sc.length c2, .int .u16 (a : Int)] w fun e w' => e = .returned (.bool true) ∧ Below w.heap.size w w' := by
  rcases size_ways ws.length with hs | ⟨D, hD, hl⟩
  · exact proves_no ws hs A c w hC.2.1 _ _
  · exact proves_yes D hD ws hl hw A c hc w hC sc hsc A2 c2 hC2 a ha
end Go.Proofs.Ytocphkfkdadhaaa.H

