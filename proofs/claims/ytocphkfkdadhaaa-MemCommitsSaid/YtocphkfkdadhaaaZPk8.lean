import Derived.Test.YtocphkfkdadhaaaZPk7
namespace Go.Proofs.Ytocphkfkdadhaaa.H
open Go.RowKit Go.Proofs.YtocphkfkdadhaaaW.PrintWords Go.Proofs.YtocphkfkdadhaaaW.PrintLast Go.Proofs.YtocphkfkdadhaaaW.PrintMore
set_option linter.unusedVariables false
set_option linter.unusedSimpArgs false
theorem sized_any (n : Nat) (hn : n ≤ 9223372036854775807) (w : World) :
    Calls Try.prog 120 #[.int .i64 (n : Int)] w fun e w' => e = .returned (.bool (sizeB n)) ∧ w' = w := by
  obtain ⟨b, hb⟩ : ∃ b, b = sizeB n := ⟨_, rfl⟩
  rw [← hb]
  by_cases h1 : 1 ≤ n
  · have hd1 : decide (1 ≤ (n : Int)) = true := decide_eq_true (by omega)
    by_cases h2 : n ≤ 4096
    · have hd2 : decide ((n : Int) ≤ 4096) = true := decide_eq_true (by omega)
      have hand := size_and n h2 h1
      rw [← hb] at hand
      have HB := Aside0.mk hb
      clear hb
      go_enter Try.func120, Try.ntmps120
      go_wp2_with fail
      go_ret
      exact ⟨rfl, rfl⟩
    · have hd2 : decide ((n : Int) ≤ 4096) = false := decide_eq_false (by omega)
      have HB : Aside0 (b = false) := ⟨by
        rw [hb]
        cases h : sizeB n with
        | false => rfl
        | true => exact absurd (sizeB_le h).2 h2⟩
      clear hb
      go_enter Try.func120, Try.ntmps120
      go_wp2_with fail
      go_ret
      exact ⟨by rw [HB.out]; rfl, rfl⟩
  · have hd1 : decide (1 ≤ (n : Int)) = false := decide_eq_false (by omega)
    have HB : Aside0 (b = false) := ⟨by
      rw [hb]
      cases h : sizeB n with
      | false => rfl
      | true => exact absurd (sizeB_le h).1 h1⟩
    clear hb
    go_enter Try.func120, Try.ntmps120
    go_wp2_with fail
    go_ret
    exact ⟨by rw [HB.out]; rfl, rfl⟩
set_option maxRecDepth 100000 in
theorem len64_any (D : Nat) (hD : D ≤ 12) (w : World) : Calls Try.prog 122 #[.int .u64 ((2 ^ D : Nat) : Int)] w fun e w' => e = .returned (.int .i64 ((D : Int) + 1)) ∧ w' = w := by
  have h : D = 0 ∨ D = 1 ∨ D = 2 ∨ D = 3 ∨ D = 4 ∨ D = 5 ∨ D = 6 ∨ D = 7 ∨ D = 8 ∨ D = 9 ∨ D = 10 ∨ D = 11 ∨ D = 12 := by omega
  rcases h with rfl | rfl | rfl | rfl | rfl | rfl | rfl | rfl | rfl | rfl | rfl | rfl | rfl
  all_goals
    go_enter Try.func122, Try.ntmps122
    go_wp2_with fail
    go_ret
    exact ⟨by kernel_rfl, rfl⟩
theorem len_any (D : Nat) (hD : D ≤ 12) (w : World) : Calls Try.prog 75 #[.int .u64 ((2 ^ D : Nat) : Int)] w fun e w' => e = .returned (.int .i64 ((D : Int) + 1)) ∧ w' = w := by
  have HL := Aside0.mk (fun W => len64_any D hD W)
  generalize 2 ^ D = p at *
  go_enter Try.func75, Try.ntmps75
  go_wp2_with fail
  refine (HL.out _).mono ?_
  rintro e w1 ⟨rfl, rfl⟩
  go_wp2_with fail
  go_ret
  exact ⟨rfl, rfl⟩
abbrev kMach : Kd (Int × List Int × Int × List Int) := Kd.pair kU (Kd.pair (kA 16 .u64) (Kd.pair (Kd.int .u8) (Kd.slice 23 kU)))
def machC (pc : Int) (regs : List Int) (s : Int) (A : Option Addr) (n c : Nat) : Array Value := ([Value.int .u64 pc] ++ (regs.map (Value.int .u64) ++ [Value.int .u8 s, Value.slice A n c])).toArray
theorem kMach_open {W : World} {y : Int × List Int × Int × List Int} {cs : Array Value} (h : kMach.K W y cs.toList) :
    ∃ A c, cs = machC y.1 y.2.1 y.2.2.1 A y.2.2.2.length c ∧ y.2.1.length = 16 ∧ y.2.2.2.length ≤ c ∧ Kd.C kU W A y.2.2.2.length y.2.2.2 := by
  obtain ⟨c0, c1, hcs, h0, c2, c3, rfl, h2, c4, c5, rfl, h4, A, c, h5, h6, h7⟩ := h
  have e0 : c0 = [.int .u64 y.1] := h0
  have e2 : c2 = y.2.1.map (Value.int .u64) := h2.2
  have e4 : c4 = [.int .u8 y.2.2.1] := h4
  have e5 : c5 = [.slice A y.2.2.2.length c] := h5
  refine ⟨A, c, ?_, h2.1, h6, h7⟩
  apply Array.toList_inj.1
  rw [hcs, e0, e2, e4, e5]
  rfl
theorem machC_at {pc : Int} {regs : List Int} {s : Int} {A : Option Addr} {n c : Nat} (hl : regs.length = 16) :
    (machC pc regs s A n c)[0]? = some (.int .u64 pc) ∧ (machC pc regs s A n c)[17]? = some (.int .u8 s) ∧ (machC pc regs s A n c)[18]? = some (.slice A n c) ∧ ∀ j u, (regs.map (Value.int .u64))[j]? = some u → (machC pc regs s A n c)[1 + j]? = some u := by
  have hm : (regs.map (Value.int .u64)).length = 16 := by rw [List.length_map]; exact hl
  unfold machC
  simp only [List.getElem?_toArray]
  refine ⟨rfl, ?_, ?_, fun j u hj => ?_⟩
  · rw [List.getElem?_append_right (by simp), List.getElem?_append_right (by rw [hm]; simp), hm]; rfl
  · rw [List.getElem?_append_right (by simp), List.getElem?_append_right (by rw [hm]; simp), hm]; rfl
  · rw [List.getElem?_append_right (by simp), show 1 + j - ([Value.int .u64 pc]).length = j by simp, List.getElem?_append_left ((List.getElem?_eq_some_iff.1 hj).1)]
    exact hj
abbrev TMach : TypeId := 64
set_option maxHeartbeats 1000000 in
set_option maxRecDepth 100000 in
theorem may_any (pc : Int) (regs : List Int) (hl : regs.length = 16) (s : Nat) (A : Option Addr) (n c : Nat) (hn : n ≤ 9223372036854775807) (w : World) :
    Calls Try.prog 74 #[.agg (machC pc regs (s : Int) A n c)] w fun e w' => e = .returned (.bool (sizeB n && decide (s ≤ 2))) ∧ Below w.heap.size w w' := by
  have H0 := Aside0.mk (Own.start w)
  obtain ⟨_, m1, m2, _⟩ := machC_at (pc := pc) (s := (s : Int)) (A := A) (n := n) (c := c) hl
  have HM := Aside0.mk (And.intro m1 m2)
  have HS := Aside0.mk (fun W => sized_any n hn W)
  clear m1 m2
  obtain ⟨res, hres⟩ : ∃ b, b = (sizeB n && decide (s ≤ 2)) := ⟨_, rfl⟩
  rw [← hres]
  have HR := Aside0.mk hres
  clear hres
  generalize machC pc regs (s : Int) A n c = mc at *
  cases hb : sizeB n with
  | true =>
    rw [hb] at HS HR
    clear hb
    go_enter Try.func74, Try.ntmps74
    go_upto_region 1 with (first
      | fail
      | ((with_reducible refine gate_dst (N := 1) rfl ?_); refine own_box H0.out rfl (N := 1) rfl (t := TMach) rfl (.agg mc) rfl ?_; intro g1 w1 H1 B1; replace H1 := Aside0.mk H1; replace B1 := Aside0.mk B1)
      )
    have q1 : w1.cell? ⟨g1, 17, none⟩ = _ := H1.out.cell 0 rfl 17 HM.out.1
    have q2 : w1.cell? ⟨g1, 18, none⟩ = _ := H1.out.cell 0 rfl 18 HM.out.2
    cases hd : decide (s ≤ 2) with
    | true =>
      rw [hd] at HR
      have hd2 : decide ((s : Int) ≤ 2) = true := decide_eq_true (by have := of_decide_eq_true hd; omega)
      clear hd
      go_wp2_with (first
        | fail
        | (go_at_call 120; refine (HS.out _).mono ?_; rintro e w2 ⟨rfl, rfl⟩)
        )
      go_ret
      exact ⟨by rw [HR.out]; rfl, H1.out.below⟩
    | false =>
      rw [hd] at HR
      have hd2 : decide ((s : Int) ≤ 2) = false := decide_eq_false (by have := of_decide_eq_false hd; omega)
      clear hd
      go_wp2_with (first
        | fail
        | (go_at_call 120; refine (HS.out _).mono ?_; rintro e w2 ⟨rfl, rfl⟩)
        )
      go_ret
      exact ⟨by rw [HR.out]; rfl, H1.out.below⟩
  | false =>
    rw [hb] at HS HR
    clear hb
    rw [Bool.false_and] at HR
    go_enter Try.func74, Try.ntmps74
    go_upto_region 1 with (first
      | fail
      | ((with_reducible refine gate_dst (N := 1) rfl ?_); refine own_box H0.out rfl (N := 1) rfl (t := TMach) rfl (.agg mc) rfl ?_; intro g1 w1 H1 B1; replace H1 := Aside0.mk H1; replace B1 := Aside0.mk B1)
      )
    have q1 : w1.cell? ⟨g1, 17, none⟩ = _ := H1.out.cell 0 rfl 17 HM.out.1
    have q2 : w1.cell? ⟨g1, 18, none⟩ = _ := H1.out.cell 0 rfl 18 HM.out.2
    go_wp2_with (first
      | fail
      | (go_at_call 120; refine (HS.out _).mono ?_; rintro e w2 ⟨rfl, rfl⟩)
      )
    go_ret
    exact ⟨by rw [HR.out]; rfl, H1.out.below⟩
set_option maxHeartbeats 1000000 in
set_option maxRecDepth 100000 in
theorem rmay_any (pc : Int) (regs : List Int) (hl : regs.length = 16) (s : Nat) (A : Option Addr) (n c : Nat) (hn : n ≤ 9223372036854775807) (w : World) :
    Calls Try.prog 76 #[.agg (machC pc regs (s : Int) A n c)] w fun e w' => e = .returned (.bool (sizeB n && decide (s ≤ 2))) ∧ Below w.heap.size w w' := by
  have H0 := Aside0.mk (Own.start w)
  obtain ⟨_, m1, m2, _⟩ := machC_at (pc := pc) (s := (s : Int)) (A := A) (n := n) (c := c) hl
  have HM := Aside0.mk (And.intro m1 m2)
  have HS := Aside0.mk (fun W => size_any n hn W)
  clear m1 m2
  obtain ⟨res, hres⟩ : ∃ b, b = (sizeB n && decide (s ≤ 2)) := ⟨_, rfl⟩
  rw [← hres]
  have HR := Aside0.mk hres
  clear hres
  generalize machC pc regs (s : Int) A n c = mc at *
  cases hb : sizeB n with
  | true =>
    rw [hb] at HS HR
    clear hb
    go_enter Try.func76, Try.ntmps76
    go_upto_region 1 with (first
      | fail
      | ((with_reducible refine gate_dst (N := 1) rfl ?_); refine own_box H0.out rfl (N := 1) rfl (t := TMach) rfl (.agg mc) rfl ?_; intro g1 w1 H1 B1; replace H1 := Aside0.mk H1; replace B1 := Aside0.mk B1)
      )
    have q1 : w1.cell? ⟨g1, 17, none⟩ = _ := H1.out.cell 0 rfl 17 HM.out.1
    have q2 : w1.cell? ⟨g1, 18, none⟩ = _ := H1.out.cell 0 rfl 18 HM.out.2
    cases hd : decide (s ≤ 2) with
    | true =>
      rw [hd] at HR
      have hd2 : decide ((s : Int) ≤ 2) = true := decide_eq_true (by have := of_decide_eq_true hd; omega)
      clear hd
      go_wp2_with (first
        | fail
        | (go_at_call 20; refine (HS.out _).mono ?_; rintro e w2 ⟨rfl, rfl⟩)
        )
      go_ret
      exact ⟨by rw [HR.out]; rfl, H1.out.below⟩
    | false =>
      rw [hd] at HR
      have hd2 : decide ((s : Int) ≤ 2) = false := decide_eq_false (by have := of_decide_eq_false hd; omega)
      clear hd
      go_wp2_with (first
        | fail
        | (go_at_call 20; refine (HS.out _).mono ?_; rintro e w2 ⟨rfl, rfl⟩)
        )
      go_ret
      exact ⟨by rw [HR.out]; rfl, H1.out.below⟩
  | false =>
    rw [hb] at HS HR
    clear hb
    rw [Bool.false_and] at HR
    go_enter Try.func76, Try.ntmps76
    go_upto_region 1 with (first
      | fail
      | ((with_reducible refine gate_dst (N := 1) rfl ?_); refine own_box H0.out rfl (N := 1) rfl (t := TMach) rfl (.agg mc) rfl ?_; intro g1 w1 H1 B1; replace H1 := Aside0.mk H1; replace B1 := Aside0.mk B1)
      )
    have q1 : w1.cell? ⟨g1, 17, none⟩ = _ := H1.out.cell 0 rfl 17 HM.out.1
    have q2 : w1.cell? ⟨g1, 18, none⟩ = _ := H1.out.cell 0 rfl 18 HM.out.2
    go_wp2_with (first
      | fail
      | (go_at_call 20; refine (HS.out _).mono ?_; rintro e w2 ⟨rfl, rfl⟩)
      )
    go_ret
    exact ⟨by rw [HR.out]; rfl, H1.out.below⟩
end Go.Proofs.Ytocphkfkdadhaaa.H

namespace Go.Proofs.Ytocphkfkdadhaaa.H
open Go.RowKit Go.Proofs.YtocphkfkdadhaaaW.PrintWords Go.Proofs.YtocphkfkdadhaaaW.PrintLast Go.Proofs.YtocphkfkdadhaaaW.PrintMore
set_option linter.unusedVariables false
set_option linter.unusedSimpArgs false
def cellsU (l : List Int) : Array Value := (l.map (Value.int .u64)).toArray
theorem C_blkU {W : World} {g : Nat} {t : TypeId} {xs : List Int} (h : W.heap[g]? = some (.cells (cellsU xs) t (0, 0))) (hm : xs.length ≤ 9223372036854775807) : Kd.C kU W (some ⟨g, 0, none⟩) xs.length xs := by
  refine ⟨rfl, hm, fun _ => ⟨_, rfl, fun j p hj => ⟨_, rfl, rfl, fun i u hu => ?_⟩⟩⟩
  have h0 : i = 0 := by
    have := (List.getElem?_eq_some_iff.1 hu).1
    simpa using this
  subst h0
  obtain rfl : Value.int .u64 p = u := by simpa using hu
  have hk : (kU : Kd Int).sz = 1 := rfl
  rw [hk, Nat.mul_one, Nat.add_zero, add_plain, blk_cell h]
  simp [cellsU, hj]
def partsL (pc : Nat) (regs : List Int) (s d : Nat) (root : List Int) : List Int := [2] ++ be8I pc ++ bigI regs ++ [(s : Int), (d : Int)] ++ root
def partsI (pc : Nat) (regs : List Int) (s d : Nat) (root : List Int) : List Int := shaI (partsL pc regs s d root)
theorem partsL_len (pc : Nat) (regs : List Int) (s d : Nat) (root : List Int) (hl : regs.length = 16) (hr : root.length = 32) : (partsL pc regs s d root).length = 171 := by
  simp [partsL, be8I_len, bigI_len, hl, hr]
theorem partsL_byt (pc : Nat) (regs : List Int) (s d : Nat) (root : List Int) (hs : s ≤ 2) (hd : d ≤ 12) (hr : Byt root) : Byt (partsL pc regs s d root) := by
  refine Byt_append (Byt_append (Byt_append (Byt_append ?_ (be8I_byt pc)) (bigI_byt regs)) ?_) hr
  · intro x hx; rw [List.mem_singleton.1 hx]; decide
  · intro x hx
    rcases List.mem_cons.1 hx with rfl | hx
    · omega
    · rw [List.mem_singleton.1 hx]; omega
theorem Hsh_parts (pc : Nat) (regs : List Int) (s d : Nat) (root : List Int) : Hsh (partsI pc regs s d root) := ⟨shaI_len _, shaI_byt _⟩
theorem bigI_one (m : Nat) : bigI [(m : Int)] = be8I m := by simp [bigI]
set_option maxHeartbeats 2000000 in
set_option maxRecDepth 100000 in
theorem parts_ok (pc : Nat) (hpc : pc ≤ 18446744073709551615) (regs : List Int) (hl : regs.length = 16) (hrg : Wrd regs) (s d : Nat) (hs : s ≤ 2) (hd : d ≤ 12) (root : List Int) (hro : Hsh root) (w : World) :
    Calls Try.prog 31 #[.int .u64 (pc : Int), .agg (cellsU regs), .int .u8 (s : Int), .int .i64 (d : Int), .agg (cellsB root)] w fun e w' => e = .returned (.tuple #[.agg (cellsB (partsI pc regs s d root)), .int .i64 0]) ∧ Below w.heap.size w w' := by
  have H0 := Aside0.mk (Own.start w)
  have R32 : Aside0 (Arr 32 (Array.replicate 32 (.int .u8 0))) := ⟨Arr_rep _ _ rfl⟩
  have HA := Aside0.mk (Arr_B (Hsh_parts pc regs s d root).1)
  have HLR := Aside0.mk hl
  have HRO := Aside0.mk hro.1
  have HL := Aside0.mk (partsL_len pc regs s d root hl hro.1)
  have HSM := Aside0.mk (fun A c W hC hc => sum_any A c (partsL pc regs s d root) W (partsL_byt pc regs s d root hs hd hro.2) hC hc (by rw [HL.out]; decide))
  have HE : Aside0 (partsL pc regs s d root = [2] ++ bigI [(pc : Int)] ++ bigI regs ++ [(s : Int), (d : Int)] ++ root) := ⟨by rw [bigI_one]; rfl⟩
  have HW1 : Aside0 (Wrd [(pc : Int)]) := ⟨by intro x hx; rw [List.mem_singleton.1 hx]; omega⟩
  have HW2 := Aside0.mk hrg
  have HB1 : Aside0 ((bigI [(pc : Int)]).length = 8) := ⟨by rw [bigI_len]; rfl⟩
  have HB2 : Aside0 ((bigI regs).length = 128) := ⟨by rw [bigI_len, hl]⟩
  rw [HL.out] at HSM
  have HRES : Aside0 (shaI (partsL pc regs s d root) = partsI pc regs s d root) := ⟨rfl⟩
  rw [HRES.out] at HSM
  generalize partsI pc regs s d root = res at *
  generalize partsL pc regs s d root = pl at *
  have hd1 : decide ((d : Int) < 0) = false := decide_eq_false (by omega)
  have hd2 : decide (12 < (d : Int)) = false := decide_eq_false (by omega)
  have hd3 : decide (2 < (s : Int)) = false := decide_eq_false (by omega)
  have hwd : IntKind.u8.wrap (d : Int) = (d : Int) := by rw [IntKind.wrap_u8]; omega
  clear hl hrg hro
  go_enter Try.func31, Try.ntmps31
  go_upto_region 3 with (first
    | fail
    | ((with_reducible refine gate_dst (N := 6) rfl ?_); refine own_box H0.out rfl (N := 6) rfl (t := 61) rfl (.agg (cellsU regs)) rfl ?_; intro g6 w1 H1 B1; replace H1 := Aside0.mk H1; replace B1 := Aside0.mk B1)
    | ((with_reducible refine gate_dst (N := 9) rfl ?_); refine own_box H1.out rfl (N := 9) rfl (t := 25) rfl (.agg (cellsB root)) rfl ?_; intro g9 w2 H2 B2; replace H2 := Aside0.mk H2; replace B2 := Aside0.mk B2)
    | ((with_reducible refine gate_dst (N := 10) rfl ?_); refine own_alloc H2.out rfl (N := 10) rfl (t := 25) rfl (Array.replicate 32 (.int .u8 0)) 32 (by kernel_rfl) ?_; intro g10 w3 H3 B3; replace H3 := Aside0.mk H3; replace B3 := Aside0.mk B3)
    )
  go_wp2_with (first
    | fail
    | ((with_reducible refine gate_dst (N := 24) rfl ?_); refine own_lit kB Flat_B H3.out 5 rfl (N := 24) rfl (xs := ([2] : List Int)) (inner := (([2] : List Int)).map (Value.int .u8)) ?hr24 (Kd.reps_scalar _) (by simp) ?_; (case hr24 => first | (go_simp; done) | (go_simp; rfl)); intro A24 c24 w4 H4 B4; replace H4 := Aside0.mk H4; replace B4 := Aside0.mk B4)
    | ((with_reducible refine gate_dst (N := 26) rfl ?_); refine own_lit kU Flat_U H4.out 23 rfl (N := 26) rfl (xs := ([(pc : Int)] : List Int)) (inner := (([(pc : Int)] : List Int)).map (Value.int .u64)) ?hr26 (Kd.reps_scalar _) (by simp) ?_; (case hr26 => first | (go_simp; done) | (go_simp; rfl)); intro A26 c26 w5 H5 B5; replace H5 := Aside0.mk H5; replace B5 := Aside0.mk B5)
    )
  have H6 := Aside0.mk (H5.out.bring 1 rfl)
  obtain ⟨A', c', he, hc4, _⟩ := H5.out.reads 0 rfl
  injection he with e1 e2 e3
  subst e1; subst e3
  refine (big_any _ [2] [(pc : Int)] A26 c26 w.heap.size w w5 _ H6.out HW1.out hc4 (fun v' xs' W' h => h.C_of 1 rfl) (by simp)).mono ?_
  rintro e w6 ⟨v6, rfl, H7'⟩
  have H7 := Aside0.mk H7'
  obtain ⟨A7, c7, rfl, _, _⟩ := H7'.reads 0 rfl
  clear H7' hc4
  obtain ⟨b1, hb1⟩ : ∃ b1, b1 = [2] ++ bigI [(pc : Int)] := ⟨_, rfl⟩
  rw [← hb1] at H7 ⊢
  have HBL1 : Aside0 (b1.length = 9) := ⟨by rw [hb1, List.length_append, HB1.out]; rfl⟩
  have HE1 := Aside0.mk hb1
  rw [HBL1.out] at H7 ⊢
  clear hb1
  go_wp2_with fail
  have hCR : ∀ (v' : Value) (xs' : List Int) (W' : World), Own w.heap.size w W' (.row kB 5 v' xs' :: [.row kU 23 (.slice A26 [(pc : Int)].length c26) [(pc : Int)], .blk g10 (Array.replicate 32 (.int .u8 0)) 25, .blk g9 (cellsB root) 25, .blk g6 (cellsU regs) 61]) → Kd.C kU W' (some ⟨g6, 0, none⟩) 16 regs := fun v' xs' W' h => by
    have := C_blkU (h.get 4 rfl) (by rw [HLR.out]; decide)
    rwa [HLR.out] at this
  have HB := Aside0.mk (big_any (.slice A7 9 c7) b1 regs (some ⟨g6, 0, none⟩) 16 w.heap.size w w6 _ H7.out HW2.out (by rw [HLR.out]; decide) (fun v' xs' W' h => by rw [HLR.out]; exact hCR v' xs' W' h) (by rw [HBL1.out, HLR.out]; decide))
  clear hCR
  rw [HLR.out] at HB
  refine HB.out.mono ?_
  rintro e w8 ⟨v8, rfl, H8'⟩
  have H8 := Aside0.mk H8'
  obtain ⟨A8, c8, rfl, _, _⟩ := H8'.reads 0 rfl
  clear H8' HB
  obtain ⟨b2, hb2⟩ : ∃ b2, b2 = b1 ++ bigI regs := ⟨_, rfl⟩
  rw [← hb2] at H8 ⊢
  have HBL2 : Aside0 (b2.length = 137) := ⟨by rw [hb2, List.length_append, HBL1.out, HB2.out]⟩
  have HE2 := Aside0.mk hb2
  rw [HBL2.out] at H8 ⊢
  clear hb2
  have hRT : Aside0 (∀ (W : World) (L : List Item) (k : Nat), Own w.heap.size w W L → L[k]? = some (.blk g9 (cellsB root) 25) → Kd.C kB W (some ⟨g9, 0, none⟩) 32 root) := ⟨fun W L k h hk => by
    have := C_blkB (h.get k hk) (by rw [HRO.out]; decide)
    rwa [HRO.out] at this⟩
  go_upto_region 6 with (first
    | fail
    | ((with_reducible refine gate_dst (N := 35) rfl ?_); refine own_lit kB Flat_B H8.out 5 rfl (N := 35) rfl (xs := [(s : Int), (d : Int)]) (inner := ([(s : Int), (d : Int)]).map (Value.int .u8)) ?hr35 (Kd.reps_scalar _) (by simp) ?_; (case hr35 => first | (go_simp; done) | (go_simp; rfl)); intro A35 c35 w9 H9 B9; replace H9 := Aside0.mk H9; replace B9 := Aside0.mk B9)
    | ((with_reducible refine gate_dst (N := 36) rfl ?_); (with_reducible refine gate_builtin (b := .append) (xs := #[.tmp 31, .tmp 35]) rfl ?_); refine own_append_row kB Flat_B H9.out 1 rfl rfl (.tmp 31) (.tmp 35) 74 (.int .u8 0) 1 rfl Try.underlying74 infoB rfl (by decide) (by decide) ([(s : Int), (d : Int)]) _ _ _ rfl rfl ((H9.out.C_of 0 rfl)) ?_ ?_; (case _ => (rw [HBL2.out]; simp)); intro v10 w10 H10; replace H10 := Aside0.mk H10)
    )
  obtain ⟨A10, c10, rfl, _, _⟩ := H10.out.reads 1 rfl
  obtain ⟨b3, hb3⟩ : ∃ b3, b3 = b2 ++ [(s : Int), (d : Int)] := ⟨_, rfl⟩
  rw [← hb3] at H10 ⊢
  have HBL3 : Aside0 (b3.length = 139) := ⟨by rw [hb3, List.length_append, HBL2.out]; rfl⟩
  have HE3 := Aside0.mk hb3
  rw [HBL3.out] at H10 ⊢
  clear hb3
  go_wp2_with (first
    | fail
    | ((with_reducible refine gate_dst (N := 39) rfl ?_); (with_reducible refine gate_builtin (b := .append) (xs := #[.tmp 37, .tmp 38]) rfl ?_); refine own_append_row kB Flat_B H10.out 1 rfl rfl (.tmp 37) (.tmp 38) 74 (.int .u8 0) 1 rfl Try.underlying74 infoB rfl (by decide) (by decide) (root) _ _ _ rfl rfl ((hRT.out _ _ 4 H10.out rfl)) ?_ ?_; (case _ => (rw [HBL3.out]; decide)); intro v11 w11 H11; replace H11 := Aside0.mk H11)
    )
  obtain ⟨A11, c11, rfl, hc11, hC11⟩ := H11.out.reads 1 rfl
  have HE4 : Aside0 (b3 ++ root = pl) := ⟨by rw [HE.out, HE3.out, HE2.out, HE1.out]⟩
  rw [HE4.out, HL.out] at H11 hc11 hC11 ⊢
  have HX := Aside0.mk (HSM.out A11 c11 w11 hC11 hc11)
  clear hc11 hC11
  go_wp2_with fail
  refine HX.out.mono ?_
  rintro e w12 ⟨rfl, hB12⟩
  have H12 := Aside0.mk (H11.out.step hB12)
  clear hB12
  go_wp2_with (first
    | fail
    | ((with_reducible refine own_store H12.out 3 g10 _ 25 rfl rfl (.tmp 10) (.tmp 40) rfl (cellsB res) ?_ ?_ 32 R32.out HA.out (by kernel_rfl) ?_); (case _ => rfl); (case _ => rfl); intro w13 H13; replace H13 := Aside0.mk H13)
    )
  refine bodyPost_ret (own_result_ct rfl _ H13.out 3 g10 (cellsB res) rfl rfl Try.underlying25 32 HA.out (by kernel_rfl) (.int .i64 0) rfl) rfl ?_
  exact ⟨rfl, H13.out.below⟩
end Go.Proofs.Ytocphkfkdadhaaa.H

namespace Go.Proofs.Ytocphkfkdadhaaa.H
open Go.RowKit Go.Proofs.YtocphkfkdadhaaaW.PrintWords Go.Proofs.YtocphkfkdadhaaaW.PrintLast Go.Proofs.YtocphkfkdadhaaaW.PrintMore
set_option linter.unusedVariables false
set_option linter.unusedSimpArgs false
set_option maxHeartbeats 1000000 in
set_option maxRecDepth 100000 in
theorem parts_no (pc : Int) (regs : List Int) (s : Nat) (d : Int) (hb : d < 0 ∨ 12 < d ∨ 2 < s) (root : List Int) (w : World) :
    Calls Try.prog 31 #[.int .u64 pc, .agg (cellsU regs), .int .u8 (s : Int), .int .i64 d, .agg (cellsB root)] w fun e w' => e = .returned (.tuple #[.agg (cellsB zero32), .int .i64 2]) ∧ Below w.heap.size w w' := by
  have H0 := Aside0.mk (Own.start w)
  have R32 : Aside0 (Arr 32 (Array.replicate 32 (.int .u8 0))) := ⟨Arr_rep _ _ rfl⟩
  have HZ : Aside0 (Arr 32 (cellsB zero32)) := ⟨Arr_B Hsh_zero.1⟩
  by_cases h1 : d < 0
  · have hd1 : decide (d < 0) = true := decide_eq_true h1
    go_enter Try.func31, Try.ntmps31
    go_wp2_with (first
      | fail
      | ((with_reducible refine gate_dst (N := 6) rfl ?_); refine own_box H0.out rfl (N := 6) rfl (t := 61) rfl (.agg (cellsU regs)) rfl ?_; intro g6 w1 H1 B1; replace H1 := Aside0.mk H1; replace B1 := Aside0.mk B1)
      | ((with_reducible refine gate_dst (N := 9) rfl ?_); refine own_box H1.out rfl (N := 9) rfl (t := 25) rfl (.agg (cellsB root)) rfl ?_; intro g9 w2 H2 B2; replace H2 := Aside0.mk H2; replace B2 := Aside0.mk B2)
      | ((with_reducible refine gate_dst (N := 10) rfl ?_); refine own_alloc H2.out rfl (N := 10) rfl (t := 25) rfl (Array.replicate 32 (.int .u8 0)) 32 (by kernel_rfl) ?_; intro g10 w3 H3 B3; replace H3 := Aside0.mk H3; replace B3 := Aside0.mk B3)
      | ((with_reducible refine own_store H3.out 0 g10 _ 25 rfl rfl (.tmp 10) (.tmp 23) rfl (cellsB zero32) ?_ ?_ 32 R32.out HZ.out (by kernel_rfl) ?_); (case _ => rfl); (case _ => rfl); intro w4 H4; replace H4 := Aside0.mk H4)
      )
    refine bodyPost_ret (own_result_ct rfl _ H4.out 0 g10 (cellsB zero32) rfl rfl Try.underlying25 32 HZ.out (by kernel_rfl) (.int .i64 2) rfl) rfl ?_
    exact ⟨rfl, H4.out.below⟩
  have hd1 : decide (d < 0) = false := decide_eq_false h1
  by_cases h2 : 12 < d
  · have hd2 : decide (12 < d) = true := decide_eq_true h2
    go_enter Try.func31, Try.ntmps31
    go_wp2_with (first
      | fail
      | ((with_reducible refine gate_dst (N := 6) rfl ?_); refine own_box H0.out rfl (N := 6) rfl (t := 61) rfl (.agg (cellsU regs)) rfl ?_; intro g6 w1 H1 B1; replace H1 := Aside0.mk H1; replace B1 := Aside0.mk B1)
      | ((with_reducible refine gate_dst (N := 9) rfl ?_); refine own_box H1.out rfl (N := 9) rfl (t := 25) rfl (.agg (cellsB root)) rfl ?_; intro g9 w2 H2 B2; replace H2 := Aside0.mk H2; replace B2 := Aside0.mk B2)
      | ((with_reducible refine gate_dst (N := 10) rfl ?_); refine own_alloc H2.out rfl (N := 10) rfl (t := 25) rfl (Array.replicate 32 (.int .u8 0)) 32 (by kernel_rfl) ?_; intro g10 w3 H3 B3; replace H3 := Aside0.mk H3; replace B3 := Aside0.mk B3)
      | ((with_reducible refine own_store H3.out 0 g10 _ 25 rfl rfl (.tmp 10) (.tmp 23) rfl (cellsB zero32) ?_ ?_ 32 R32.out HZ.out (by kernel_rfl) ?_); (case _ => rfl); (case _ => rfl); intro w4 H4; replace H4 := Aside0.mk H4)
      )
    refine bodyPost_ret (own_result_ct rfl _ H4.out 0 g10 (cellsB zero32) rfl rfl Try.underlying25 32 HZ.out (by kernel_rfl) (.int .i64 2) rfl) rfl ?_
    exact ⟨rfl, H4.out.below⟩
  have hd2 : decide (12 < d) = false := decide_eq_false h2
  have hd3 : decide (2 < (s : Int)) = true := decide_eq_true (by omega)
  go_enter Try.func31, Try.ntmps31
  go_wp2_with (first
    | fail
    | ((with_reducible refine gate_dst (N := 6) rfl ?_); refine own_box H0.out rfl (N := 6) rfl (t := 61) rfl (.agg (cellsU regs)) rfl ?_; intro g6 w1 H1 B1; replace H1 := Aside0.mk H1; replace B1 := Aside0.mk B1)
    | ((with_reducible refine gate_dst (N := 9) rfl ?_); refine own_box H1.out rfl (N := 9) rfl (t := 25) rfl (.agg (cellsB root)) rfl ?_; intro g9 w2 H2 B2; replace H2 := Aside0.mk H2; replace B2 := Aside0.mk B2)
    | ((with_reducible refine gate_dst (N := 10) rfl ?_); refine own_alloc H2.out rfl (N := 10) rfl (t := 25) rfl (Array.replicate 32 (.int .u8 0)) 32 (by kernel_rfl) ?_; intro g10 w3 H3 B3; replace H3 := Aside0.mk H3; replace B3 := Aside0.mk B3)
    | ((with_reducible refine own_store H3.out 0 g10 _ 25 rfl rfl (.tmp 10) (.tmp 23) rfl (cellsB zero32) ?_ ?_ 32 R32.out HZ.out (by kernel_rfl) ?_); (case _ => rfl); (case _ => rfl); intro w4 H4; replace H4 := Aside0.mk H4)
    )
  refine bodyPost_ret (own_result_ct rfl _ H4.out 0 g10 (cellsB zero32) rfl rfl Try.underlying25 32 HZ.out (by kernel_rfl) (.int .i64 2) rfl) rfl ?_
  exact ⟨rfl, H4.out.below⟩
set_option maxHeartbeats 1000000 in
set_option maxRecDepth 100000 in
theorem rparts_no (pc : Int) (regs : List Int) (s : Nat) (d : Int) (hb : d < 0 ∨ 12 < d ∨ 2 < s) (root : List Int) (w : World) :
    Calls Try.prog 32 #[.int .u64 pc, .agg (cellsU regs), .int .u8 (s : Int), .int .i64 d, .agg (cellsB root)] w fun e w' => e = .returned (.tuple #[.agg (cellsB zero32), .int .i64 2]) ∧ Below w.heap.size w w' := by
  have H0 := Aside0.mk (Own.start w)
  have R32 : Aside0 (Arr 32 (Array.replicate 32 (.int .u8 0))) := ⟨Arr_rep _ _ rfl⟩
  have HZ : Aside0 (Arr 32 (cellsB zero32)) := ⟨Arr_B Hsh_zero.1⟩
  by_cases h1 : d < 0
  · have hd1 : decide (d < 0) = true := decide_eq_true h1
    go_enter Try.func32, Try.ntmps32
    go_wp2_with (first
      | fail
      | ((with_reducible refine gate_dst (N := 6) rfl ?_); refine own_box H0.out rfl (N := 6) rfl (t := 61) rfl (.agg (cellsU regs)) rfl ?_; intro g6 w1 H1 B1; replace H1 := Aside0.mk H1; replace B1 := Aside0.mk B1)
      | ((with_reducible refine gate_dst (N := 9) rfl ?_); refine own_box H1.out rfl (N := 9) rfl (t := 25) rfl (.agg (cellsB root)) rfl ?_; intro g9 w2 H2 B2; replace H2 := Aside0.mk H2; replace B2 := Aside0.mk B2)
      | ((with_reducible refine gate_dst (N := 10) rfl ?_); refine own_alloc H2.out rfl (N := 10) rfl (t := 25) rfl (Array.replicate 32 (.int .u8 0)) 32 (by kernel_rfl) ?_; intro g10 w3 H3 B3; replace H3 := Aside0.mk H3; replace B3 := Aside0.mk B3)
      | ((with_reducible refine own_store H3.out 0 g10 _ 25 rfl rfl (.tmp 10) (.tmp 24) rfl (cellsB zero32) ?_ ?_ 32 R32.out HZ.out (by kernel_rfl) ?_); (case _ => rfl); (case _ => rfl); intro w4 H4; replace H4 := Aside0.mk H4)
      )
    refine bodyPost_ret (own_result_ct rfl _ H4.out 0 g10 (cellsB zero32) rfl rfl Try.underlying25 32 HZ.out (by kernel_rfl) (.int .i64 2) rfl) rfl ?_
    exact ⟨rfl, H4.out.below⟩
  have hd1 : decide (d < 0) = false := decide_eq_false h1
  by_cases h2 : 12 < d
  · have hd2 : decide (12 < d) = true := decide_eq_true h2
    go_enter Try.func32, Try.ntmps32
    go_wp2_with (first
      | fail
      | ((with_reducible refine gate_dst (N := 6) rfl ?_); refine own_box H0.out rfl (N := 6) rfl (t := 61) rfl (.agg (cellsU regs)) rfl ?_; intro g6 w1 H1 B1; replace H1 := Aside0.mk H1; replace B1 := Aside0.mk B1)
      | ((with_reducible refine gate_dst (N := 9) rfl ?_); refine own_box H1.out rfl (N := 9) rfl (t := 25) rfl (.agg (cellsB root)) rfl ?_; intro g9 w2 H2 B2; replace H2 := Aside0.mk H2; replace B2 := Aside0.mk B2)
      | ((with_reducible refine gate_dst (N := 10) rfl ?_); refine own_alloc H2.out rfl (N := 10) rfl (t := 25) rfl (Array.replicate 32 (.int .u8 0)) 32 (by kernel_rfl) ?_; intro g10 w3 H3 B3; replace H3 := Aside0.mk H3; replace B3 := Aside0.mk B3)
      | ((with_reducible refine own_store H3.out 0 g10 _ 25 rfl rfl (.tmp 10) (.tmp 24) rfl (cellsB zero32) ?_ ?_ 32 R32.out HZ.out (by kernel_rfl) ?_); (case _ => rfl); (case _ => rfl); intro w4 H4; replace H4 := Aside0.mk H4)
      )
    refine bodyPost_ret (own_result_ct rfl _ H4.out 0 g10 (cellsB zero32) rfl rfl Try.underlying25 32 HZ.out (by kernel_rfl) (.int .i64 2) rfl) rfl ?_
    exact ⟨rfl, H4.out.below⟩
  have hd2 : decide (12 < d) = false := decide_eq_false h2
  have hd3 : decide (2 < (s : Int)) = true := decide_eq_true (by omega)
  go_enter Try.func32, Try.ntmps32
  go_wp2_with (first
    | fail
    | ((with_reducible refine gate_dst (N := 6) rfl ?_); refine own_box H0.out rfl (N := 6) rfl (t := 61) rfl (.agg (cellsU regs)) rfl ?_; intro g6 w1 H1 B1; replace H1 := Aside0.mk H1; replace B1 := Aside0.mk B1)
    | ((with_reducible refine gate_dst (N := 9) rfl ?_); refine own_box H1.out rfl (N := 9) rfl (t := 25) rfl (.agg (cellsB root)) rfl ?_; intro g9 w2 H2 B2; replace H2 := Aside0.mk H2; replace B2 := Aside0.mk B2)
    | ((with_reducible refine gate_dst (N := 10) rfl ?_); refine own_alloc H2.out rfl (N := 10) rfl (t := 25) rfl (Array.replicate 32 (.int .u8 0)) 32 (by kernel_rfl) ?_; intro g10 w3 H3 B3; replace H3 := Aside0.mk H3; replace B3 := Aside0.mk B3)
    | ((with_reducible refine own_store H3.out 0 g10 _ 25 rfl rfl (.tmp 10) (.tmp 24) rfl (cellsB zero32) ?_ ?_ 32 R32.out HZ.out (by kernel_rfl) ?_); (case _ => rfl); (case _ => rfl); intro w4 H4; replace H4 := Aside0.mk H4)
    )
  refine bodyPost_ret (own_result_ct rfl _ H4.out 0 g10 (cellsB zero32) rfl rfl Try.underlying25 32 HZ.out (by kernel_rfl) (.int .i64 2) rfl) rfl ?_
  exact ⟨rfl, H4.out.below⟩
set_option maxHeartbeats 2000000 in
set_option maxRecDepth 100000 in
theorem rparts_ok (pc : Nat) (hpc : pc ≤ 18446744073709551615) (regs : List Int) (hl : regs.length = 16) (hrg : Wrd regs) (s d : Nat) (hs : s ≤ 2) (hd : d ≤ 12) (root : List Int) (hro : Hsh root) (w : World) :
    Calls Try.prog 32 #[.int .u64 (pc : Int), .agg (cellsU regs), .int .u8 (s : Int), .int .i64 (d : Int), .agg (cellsB root)] w fun e w' => e = .returned (.tuple #[.agg (cellsB (partsI pc regs s d root)), .int .i64 0]) ∧ Below w.heap.size w w' := by
  have H0 := Aside0.mk (Own.start w)
  have R32 : Aside0 (Arr 32 (Array.replicate 32 (.int .u8 0))) := ⟨Arr_rep _ _ rfl⟩
  have HA := Aside0.mk (Arr_B (Hsh_parts pc regs s d root).1)
  have HLR := Aside0.mk hl
  have HRO := Aside0.mk hro.1
  have HL := Aside0.mk (partsL_len pc regs s d root hl hro.1)
  have HSM := Aside0.mk (fun A c W hC hc => rsum_any A c (partsL pc regs s d root) W (partsL_byt pc regs s d root hs hd hro.2) hC hc (by rw [HL.out]; decide))
  have HE : Aside0 (partsL pc regs s d root = [2] ++ be8I pc ++ bigI regs ++ [(s : Int), (d : Int)] ++ root) := ⟨rfl⟩
  have HW2 := Aside0.mk hrg
  have HB1 : Aside0 ((be8I pc).length = 8) := ⟨be8I_len _⟩
  have HE8 := Aside0.mk (fun W => eight_any pc hpc W)
  rw [HL.out] at HSM
  have HRES : Aside0 (shaI (partsL pc regs s d root) = partsI pc regs s d root) := ⟨rfl⟩
  rw [HRES.out] at HSM
  generalize partsI pc regs s d root = res at *
  generalize partsL pc regs s d root = pl at *
  have hd1 : decide ((d : Int) < 0) = false := decide_eq_false (by omega)
  have hd2 : decide (12 < (d : Int)) = false := decide_eq_false (by omega)
  have hd3 : decide (2 < (s : Int)) = false := decide_eq_false (by omega)
  have hwd : IntKind.u8.wrap (d : Int) = (d : Int) := by rw [IntKind.wrap_u8]; omega
  clear hl hrg hro
  go_enter Try.func32, Try.ntmps32
  go_upto_region 3 with (first
    | fail
    | ((with_reducible refine gate_dst (N := 6) rfl ?_); refine own_box H0.out rfl (N := 6) rfl (t := 61) rfl (.agg (cellsU regs)) rfl ?_; intro g6 w1 H1 B1; replace H1 := Aside0.mk H1; replace B1 := Aside0.mk B1)
    | ((with_reducible refine gate_dst (N := 9) rfl ?_); refine own_box H1.out rfl (N := 9) rfl (t := 25) rfl (.agg (cellsB root)) rfl ?_; intro g9 w2 H2 B2; replace H2 := Aside0.mk H2; replace B2 := Aside0.mk B2)
    | ((with_reducible refine gate_dst (N := 10) rfl ?_); refine own_alloc H2.out rfl (N := 10) rfl (t := 25) rfl (Array.replicate 32 (.int .u8 0)) 32 (by kernel_rfl) ?_; intro g10 w3 H3 B3; replace H3 := Aside0.mk H3; replace B3 := Aside0.mk B3)
    )
  go_wp2_with (first
    | fail
    | ((with_reducible refine gate_dst (N := 25) rfl ?_); refine own_lit kB Flat_B H3.out 5 rfl (N := 25) rfl (xs := ([2] : List Int)) (inner := (([2] : List Int)).map (Value.int .u8)) ?hr25 (Kd.reps_scalar _) (by simp) ?_; (case hr25 => first | (go_simp; done) | (go_simp; rfl)); intro A25 c25 w4 H4 B4; replace H4 := Aside0.mk H4; replace B4 := Aside0.mk B4)
    )
  refine (HE8.out _).mono ?_
  rintro e w5 ⟨v5, rfl, hO5⟩
  have H5 := Aside0.mk (H4.out.call hO5)
  obtain ⟨A5, c5, rfl, _, _⟩ := hO5.reads 0 rfl
  clear hO5
  rw [HB1.out] at H5 ⊢
  go_upto_region 4 with (first
    | fail
    | ((with_reducible refine gate_dst (N := 28) rfl ?_); (with_reducible refine gate_builtin (b := .append) (xs := #[.tmp 25, .tmp 27]) rfl ?_); refine own_append_row kB Flat_B H5.out 1 rfl rfl (.tmp 25) (.tmp 27) 74 (.int .u8 0) 1 rfl Try.underlying74 infoB rfl (by decide) (by decide) ((be8I pc)) _ _ _ rfl rfl ((by have h := H5.out.C_of 0 rfl; exact h)) ?_ ?_; (case _ => simp); intro v6 w6 H6; replace H6 := Aside0.mk H6)
    )
  obtain ⟨A6, c6, rfl, _, _⟩ := H6.out.reads 1 rfl
  have HLEN0 : Aside0 (([2] ++ be8I pc).length = 9) := ⟨by rw [List.length_append, HB1.out]; rfl⟩
  have HLN : Aside0 (∀ i, i ≤ 16 → ([2] ++ be8I pc ++ bigI (regs.take i)).length = 9 + 8 * i) := ⟨fun i hi => by rw [List.length_append, HLEN0.out, bigI_len, List.length_take, HLR.out, Nat.min_eq_left hi]⟩
  have H7 : Aside0 (Own w.heap.size w w6 [.row kB 5 (.slice A6 9 c6) ([2] ++ be8I pc), .blk g10 (Array.replicate 32 (.int .u8 0)) 25, .blk g9 (cellsB root) 25, .blk g6 (cellsU regs) 61]) := ⟨by have h := H6.out.erase 0; rw [HLEN0.out] at h; exact h⟩
  rw [HLEN0.out]
  have HBT := Aside0.mk (fun i h => bigI_take regs i h)
  go_wp2_with fail
  go_loopw [12, 13] (fun v12 v13 wr => ∃ (i : Nat) (A1 : Option Addr) (c1 : Nat), i ≤ 16 ∧ v13 = .int .i64 (i : Int) ∧ v12 = .slice A1 (9 + 8 * i) c1 ∧ Aside0 (Own w.heap.size w wr [.row kB 5 (.slice A1 (9 + 8 * i) c1) ([2] ++ be8I pc ++ bigI (regs.take i)), .blk g10 (Array.replicate 32 (.int .u8 0)) 25, .blk g9 (cellsB root) 25, .blk g6 (cellsU regs) 61])) (fun _ v13 _ => 16 - (intOf v13).toNat)
  case atStart => exact ⟨0, A6, c6, by decide, rfl, rfl, ⟨by rw [List.take_zero, show bigI [] = [] from rfl, List.append_nil]; exact H7.out⟩⟩
  case round =>
    clear H7
    obtain ⟨i, A1, c1, hi, rfl, rfl, HI⟩ := hrel
    by_cases hlt : i < 16
    · have hdl : decide ((i : Int) < 16) = true := decide_eq_true (by omega)
      have hil : i < regs.length := by rw [HLR.out]; exact hlt
      have hcell : wr.cell? ⟨g6, i, none⟩ = some (.int .u64 (regs.getD i 0)) := HI.out.cell 3 rfl i (by simp [cellsU, hil])
      have HTi := Aside0.mk (HBT.out i hil)
      obtain ⟨b1, b2⟩ := HW2.out (regs.getD i 0) (by rw [List.getD_eq_getElem?_getD, List.getElem?_eq_getElem hil]; exact List.getElem_mem hil)
      generalize regs.getD i 0 = x at *
      obtain ⟨m, rfl⟩ := Int.eq_ofNat_of_zero_le b1
      rw [Int.toNat_natCast] at HTi
      have HE9 := Aside0.mk (fun W => eight_any m (by omega) W)
      have HL8 : Aside0 ((be8I m).length = 8) := ⟨be8I_len _⟩
      have HLI := Aside0.mk (HLN.out i hi)
      have HLI2 := Aside0.mk (HLN.out (i + 1) hlt)
      have hi0 : (0 : Int) ≤ (i : Int) ∧ (i : Int) < 16 := by omega
      go_wp2_with fail
      refine (HE9.out _).mono ?_
      rintro e w7 ⟨v7, rfl, hO7⟩
      have H8 := Aside0.mk (HI.out.call hO7)
      obtain ⟨A7, c7, rfl, _, _⟩ := hO7.reads 0 rfl
      clear hO7 hcell
      rw [HL8.out] at H8 ⊢
      go_wp2_with (first
        | fail
        | ((with_reducible refine gate_dst (N := 38) rfl ?_); (with_reducible refine gate_builtin (b := .append) (xs := #[.tmp 33, .tmp 37]) rfl ?_); refine own_append_row kB Flat_B H8.out 1 rfl rfl (.tmp 33) (.tmp 37) 74 (.int .u8 0) 1 rfl Try.underlying74 infoB rfl (by decide) (by decide) ((be8I m)) _ _ _ rfl rfl ((by have h := H8.out.C_of 0 rfl; exact h)) ?_ ?_; (case _ => (rw [HLI.out]; omega)); intro v9 w9 H9; replace H9 := Aside0.mk H9)
        )
      obtain ⟨A9, c9, rfl, _, _⟩ := H9.out.reads 1 rfl
      have HEQ : Aside0 ([2] ++ be8I pc ++ bigI (regs.take i) ++ be8I m = [2] ++ be8I pc ++ bigI (regs.take (i + 1))) := ⟨by rw [HTi.out, List.append_assoc ([2] ++ be8I pc)]⟩
      rw [HEQ.out, HLI2.out] at H9 ⊢
      have H10 := Aside0.mk (H9.out.erase 0)
      go_wp2_with fail
      go_roundw
      case rel => exact ⟨i + 1, A9, c9, hlt, by go_num, rfl, H10⟩
      case measure => simp [intOf]; omega
    · obtain rfl : i = 16 := by omega
      have HTK : Aside0 (regs.take 16 = regs) := ⟨List.take_of_length_le (by rw [HLR.out]; exact Nat.le_refl _)⟩
      have HLN16 : Aside0 (([2] ++ be8I pc ++ bigI regs).length = 137) := ⟨by have h := HLN.out 16 (by decide); rw [HTK.out] at h; exact h⟩
      rw [HTK.out] at HI
      obtain ⟨b2, hb2⟩ : ∃ b2, b2 = [2] ++ be8I pc ++ bigI regs := ⟨_, rfl⟩
      rw [← hb2] at HI HLN16
      have HE2 := Aside0.mk hb2
      clear hb2
      have hRT : Aside0 (∀ (W : World) (L : List Item) (k : Nat), Own w.heap.size w W L → L[k]? = some (.blk g9 (cellsB root) 25) → Kd.C kB W (some ⟨g9, 0, none⟩) 32 root) := ⟨fun W L k h hk => by
        have := C_blkB (h.get k hk) (by rw [HRO.out]; decide)
        rwa [HRO.out] at this⟩
      go_upto_region 9 with (first
        | fail
        | ((with_reducible refine gate_dst (N := 43) rfl ?_); refine own_lit kB Flat_B HI.out 5 rfl (N := 43) rfl (xs := [(s : Int), (d : Int)]) (inner := ([(s : Int), (d : Int)]).map (Value.int .u8)) ?hr43 (Kd.reps_scalar _) (by simp) ?_; (case hr43 => first | (go_simp; done) | (go_simp; rfl)); intro A35 c35 w9 H9 B9; replace H9 := Aside0.mk H9; replace B9 := Aside0.mk B9)
        | ((with_reducible refine gate_dst (N := 44) rfl ?_); (with_reducible refine gate_builtin (b := .append) (xs := #[.tmp 39, .tmp 43]) rfl ?_); refine own_append_row kB Flat_B H9.out 1 rfl rfl (.tmp 39) (.tmp 43) 74 (.int .u8 0) 1 rfl Try.underlying74 infoB rfl (by decide) (by decide) ([(s : Int), (d : Int)]) _ _ _ rfl rfl ((H9.out.C_of 0 rfl)) ?_ ?_; (case _ => (rw [HLN16.out]; simp)); intro v10 w10 H10; replace H10 := Aside0.mk H10)
        )
      obtain ⟨A10, c10, rfl, _, _⟩ := H10.out.reads 1 rfl
      obtain ⟨b3, hb3⟩ : ∃ b3, b3 = b2 ++ [(s : Int), (d : Int)] := ⟨_, rfl⟩
      rw [← hb3] at H10 ⊢
      have HBL3 : Aside0 (b3.length = 139) := ⟨by rw [hb3, List.length_append, HLN16.out]; rfl⟩
      have HE3 := Aside0.mk hb3
      rw [HBL3.out] at H10 ⊢
      clear hb3
      go_wp2_with (first
        | fail
        | ((with_reducible refine gate_dst (N := 47) rfl ?_); (with_reducible refine gate_builtin (b := .append) (xs := #[.tmp 45, .tmp 46]) rfl ?_); refine own_append_row kB Flat_B H10.out 1 rfl rfl (.tmp 45) (.tmp 46) 74 (.int .u8 0) 1 rfl Try.underlying74 infoB rfl (by decide) (by decide) (root) _ _ _ rfl rfl ((hRT.out _ _ 3 H10.out rfl)) ?_ ?_; (case _ => (rw [HBL3.out]; decide)); intro v11 w11 H11; replace H11 := Aside0.mk H11)
        )
      obtain ⟨A11, c11, rfl, hc11, hC11⟩ := H11.out.reads 1 rfl
      have HE4 : Aside0 (b3 ++ root = pl) := ⟨by rw [HE.out, HE3.out, HE2.out]⟩
      rw [HE4.out, HL.out] at H11 hc11 hC11 ⊢
      have HX := Aside0.mk (HSM.out A11 c11 w11 hC11 hc11)
      clear hc11 hC11
      go_wp2_with fail
      refine HX.out.mono ?_
      rintro e w12 ⟨rfl, hB12⟩
      have H12 := Aside0.mk (H11.out.step hB12)
      clear hB12
      go_wp2_with (first
        | fail
        | ((with_reducible refine own_store H12.out 2 g10 _ 25 rfl rfl (.tmp 10) (.tmp 48) rfl (cellsB res) ?_ ?_ 32 R32.out HA.out (by kernel_rfl) ?_); (case _ => rfl); (case _ => rfl); intro w13 H13; replace H13 := Aside0.mk H13)
        )
      refine bodyPost_ret (own_result_ct rfl _ H13.out 2 g10 (cellsB res) rfl rfl Try.underlying25 32 HA.out (by kernel_rfl) (.int .i64 0) rfl) rfl ?_
      exact ⟨rfl, H13.out.below⟩
end Go.Proofs.Ytocphkfkdadhaaa.H

namespace Go.Proofs.Ytocphkfkdadhaaa.H
open Go.RowKit Go.Proofs.YtocphkfkdadhaaaW.PrintWords Go.Proofs.YtocphkfkdadhaaaW.PrintLast Go.Proofs.YtocphkfkdadhaaaW.PrintMore
set_option linter.unusedVariables false
set_option linter.unusedSimpArgs false
theorem yif_load_at {P : Program} {ops : Array Oper} {S : World → Prop} {o : Oper} {a : Act} (hw : Region.wanted o (yielded ops a.tmps) = true) (ty : TypeId) (x : Operand) (ho : o.op = .load ty x) (p : Addr) (cs : List Value) (hx : a.eval x = .pointer (some p))
    (hS : ∀ w, S w → ∀ j v, cs[j]? = some v → w.cell? (p.add j) = some v) {n : Nat} {el : TypeId} (hu : P.underlying ty = some (.array n el)) (hi : (P.info? ty).map (·.size) = some cs.length) : YieldsIf P ops S o (.agg cs.toArray) a :=
  .inl ⟨hw, fun w h => by
    unfold execOp
    simp only [ho, hx, Instr.loadAt, Instr.sureAddr, Sem.run_bind, Sem.run_pure, Result.andThen_ok, run_loadVar_at (P := P) (W := w) p ty cs _ (hS w h) hu rfl hi]⟩
set_option maxHeartbeats 1000000 in
set_option maxRecDepth 100000 in
theorem commit_no (pc : Int) (regs : List Int) (hl : regs.length = 16) (s : Nat) (A : Option Addr) (n c : Nat) (hn : n ≤ 9223372036854775807) (hb : (sizeB n && decide (s ≤ 2)) = false) (w : World) :
    Calls Try.prog 29 #[.agg (machC pc regs (s : Int) A n c)] w fun e w' => e = .returned (.tuple #[.agg (cellsB zero32), .int .i64 2]) ∧ Below w.heap.size w w' := by
  have H0 := Aside0.mk (Own.start w)
  have R32 : Aside0 (Arr 32 (Array.replicate 32 (.int .u8 0))) := ⟨Arr_rep _ _ rfl⟩
  have HZ : Aside0 (Arr 32 (cellsB zero32)) := ⟨Arr_B Hsh_zero.1⟩
  have HM := Aside0.mk (fun W => may_any pc regs hl s A n c hn W)
  rw [hb] at HM
  have HSZ : Aside0 ((Try.prog.info? TMach).map (·.size) = some (machC pc regs (s : Int) A n c).size) := ⟨by rw [show (machC pc regs (s : Int) A n c).size = 19 by simp [machC, hl]]; kernel_rfl⟩
  clear hb
  generalize machC pc regs (s : Int) A n c = mc at *
  go_enter Try.func29, Try.ntmps29
  go_wp2_with (first
    | fail
    | ((with_reducible refine gate_dst (N := 1) rfl ?_); refine own_box H0.out rfl (N := 1) rfl (t := TMach) rfl (.agg mc) rfl ?_; intro g1 w1 H1 B1; replace H1 := Aside0.mk H1; replace B1 := Aside0.mk B1)
    | ((with_reducible refine gate_dst (N := 2) rfl ?_); refine own_alloc H1.out rfl (N := 2) rfl (t := 25) rfl (Array.replicate 32 (.int .u8 0)) 32 (by kernel_rfl) ?_; intro g2 w2 H2 B2; replace H2 := Aside0.mk H2; replace B2 := Aside0.mk B2)
    | ((with_reducible refine gate_dst (N := 6) rfl ?_); refine own_loadV H2.out 1 g1 mc TMach rfl rfl (.tmp 1) rfl _ rfl Try.underlying64 rfl HSZ.out ?_)
    | (go_at_call 74; refine (HM.out _).mono ?_; rintro e w3 ⟨rfl, hB3⟩; have H3 := Aside0.mk (H2.out.step hB3); clear hB3)
    | ((with_reducible refine own_store H3.out 0 g2 _ 25 rfl rfl (.tmp 2) (.tmp 9) rfl (cellsB zero32) ?_ ?_ 32 R32.out HZ.out (by kernel_rfl) ?_); (case _ => rfl); (case _ => rfl); intro w4 H4; replace H4 := Aside0.mk H4)
    )
  refine bodyPost_ret (own_result_ct rfl _ H4.out 0 g2 (cellsB zero32) rfl rfl Try.underlying25 32 HZ.out (by kernel_rfl) (.int .i64 2) rfl) rfl ?_
  exact ⟨rfl, H4.out.below⟩
set_option maxHeartbeats 1000000 in
set_option maxRecDepth 100000 in
theorem rcommit_no (pc : Int) (regs : List Int) (hl : regs.length = 16) (s : Nat) (A : Option Addr) (n c : Nat) (hn : n ≤ 9223372036854775807) (hb : (sizeB n && decide (s ≤ 2)) = false) (w : World) :
    Calls Try.prog 30 #[.agg (machC pc regs (s : Int) A n c)] w fun e w' => e = .returned (.tuple #[.agg (cellsB zero32), .int .i64 2]) ∧ Below w.heap.size w w' := by
  have H0 := Aside0.mk (Own.start w)
  have R32 : Aside0 (Arr 32 (Array.replicate 32 (.int .u8 0))) := ⟨Arr_rep _ _ rfl⟩
  have HZ : Aside0 (Arr 32 (cellsB zero32)) := ⟨Arr_B Hsh_zero.1⟩
  have HM := Aside0.mk (fun W => rmay_any pc regs hl s A n c hn W)
  rw [hb] at HM
  have HSZ : Aside0 ((Try.prog.info? TMach).map (·.size) = some (machC pc regs (s : Int) A n c).size) := ⟨by rw [show (machC pc regs (s : Int) A n c).size = 19 by simp [machC, hl]]; kernel_rfl⟩
  clear hb
  generalize machC pc regs (s : Int) A n c = mc at *
  go_enter Try.func30, Try.ntmps30
  go_wp2_with (first
    | fail
    | ((with_reducible refine gate_dst (N := 1) rfl ?_); refine own_box H0.out rfl (N := 1) rfl (t := TMach) rfl (.agg mc) rfl ?_; intro g1 w1 H1 B1; replace H1 := Aside0.mk H1; replace B1 := Aside0.mk B1)
    | ((with_reducible refine gate_dst (N := 2) rfl ?_); refine own_alloc H1.out rfl (N := 2) rfl (t := 25) rfl (Array.replicate 32 (.int .u8 0)) 32 (by kernel_rfl) ?_; intro g2 w2 H2 B2; replace H2 := Aside0.mk H2; replace B2 := Aside0.mk B2)
    | ((with_reducible refine gate_dst (N := 6) rfl ?_); refine own_loadV H2.out 1 g1 mc TMach rfl rfl (.tmp 1) rfl _ rfl Try.underlying64 rfl HSZ.out ?_)
    | (go_at_call 76; refine (HM.out _).mono ?_; rintro e w3 ⟨rfl, hB3⟩; have H3 := Aside0.mk (H2.out.step hB3); clear hB3)
    | ((with_reducible refine own_store H3.out 0 g2 _ 25 rfl rfl (.tmp 2) (.tmp 9) rfl (cellsB zero32) ?_ ?_ 32 R32.out HZ.out (by kernel_rfl) ?_); (case _ => rfl); (case _ => rfl); intro w4 H4; replace H4 := Aside0.mk H4)
    )
  refine bodyPost_ret (own_result_ct rfl _ H4.out 0 g2 (cellsB zero32) rfl rfl Try.underlying25 32 HZ.out (by kernel_rfl) (.int .i64 2) rfl) rfl ?_
  exact ⟨rfl, H4.out.below⟩
set_option maxHeartbeats 4000000 in
set_option maxRecDepth 100000 in
theorem commit_yes (pc : Nat) (hpc : pc ≤ 18446744073709551615) (regs : List Int) (hl : regs.length = 16) (hrg : Wrd regs) (s D : Nat) (hs : s ≤ 2) (hD : D ≤ 12) (ws : List Int) (hws : ws.length = 2 ^ D) (hw : Wrd ws) (A : Option Addr) (c : Nat) (hc : ws.length ≤ c) (w : World) (hC : Kd.C kU w A ws.length ws) :
    Calls Try.prog 29 #[.agg (machC pc regs (s : Int) A ws.length c)] w fun e w' => e = .returned (.tuple #[.agg (cellsB (partsI pc regs s D (memroot D ws))), .int .i64 0]) ∧ Below w.heap.size w w' := by
  have hn4 : ws.length ≤ 4096 := by rw [hws]; exact Nat.pow_le_pow_right (by decide) hD
  have H0 := Aside0.mk (Own.start w)
  have R32 : Aside0 (Arr 32 (Array.replicate 32 (.int .u8 0))) := ⟨Arr_rep _ _ rfl⟩
  have HM := Aside0.mk (fun W => may_any (pc : Int) regs hl s A ws.length c (by omega) W)
  rw [show (sizeB ws.length && decide (s ≤ 2)) = true by rw [hws, sizeB_of hD, decide_eq_true hs]; rfl] at HM
  have HRT := Aside0.mk (fun W h => memroot_yes D hD ws hws hw A c hc W h)
  have hHr := Hsh_memroot D ws
  have HP := Aside0.mk (fun W => parts_ok pc hpc regs hl hrg s D hs hD (memroot D ws) hHr W)
  have HPH := Aside0.mk (Hsh_parts pc regs s D (memroot D ws))
  generalize partsI pc regs s D (memroot D ws) = res at *
  generalize memroot D ws = r at *
  have HH := Aside0.mk hHr
  have HAR := Aside0.mk (Arr_B hHr.1)
  have HAS := Aside0.mk (Arr_B HPH.out.1)
  have HC := Aside0.mk hC
  have HSZ : Aside0 ((Try.prog.info? TMach).map (·.size) = some (machC (pc : Int) regs (s : Int) A ws.length c).size) := ⟨by rw [show (machC (pc : Int) regs (s : Int) A ws.length c).size = 19 by simp [machC, hl]]; kernel_rfl⟩
  have HAT := Aside0.mk (machC_at (pc := (pc : Int)) (s := (s : Int)) (A := A) (n := ws.length) (c := c) hl)
  have HLN := Aside0.mk (fun W => len_any D hD W)
  rw [← hws] at HLN
  have hwl : IntKind.u64.wrap (ws.length : Int) = (ws.length : Int) := by rw [IntKind.wrap_u64]; omega
  have hwd : IntKind.i64.wrap (D : Int) = (D : Int) := IntWalk.i64_in _ (by omega)
  have HLR := Aside0.mk hl
  generalize machC (pc : Int) regs (s : Int) A ws.length c = mc at *
  clear hC hl hrg hHr hws
  generalize ws.length = n at *
  go_enter Try.func29, Try.ntmps29
  go_upto_region 3 with (first
    | fail
    | ((with_reducible refine gate_dst (N := 1) rfl ?_); refine own_box H0.out rfl (N := 1) rfl (t := TMach) rfl (.agg mc) rfl ?_; intro g1 w1 H1 B1; replace H1 := Aside0.mk H1; replace B1 := Aside0.mk B1)
    | ((with_reducible refine gate_dst (N := 2) rfl ?_); refine own_alloc H1.out rfl (N := 2) rfl (t := 25) rfl (Array.replicate 32 (.int .u8 0)) 32 (by kernel_rfl) ?_; intro g2 w2 H2 B2; replace H2 := Aside0.mk H2; replace B2 := Aside0.mk B2)
    | ((with_reducible refine gate_dst (N := 6) rfl ?_); refine own_loadV H2.out 1 g1 mc TMach rfl rfl (.tmp 1) rfl _ rfl Try.underlying64 rfl HSZ.out ?_)
    | (go_at_call 74; refine (HM.out _).mono ?_; rintro e w3 ⟨rfl, hB3⟩; have H3 := Aside0.mk (H2.out.step hB3); clear hB3)
    )
  have q18 : w3.cell? ⟨g1, 18, none⟩ = _ := H3.out.cell 1 rfl 18 HAT.out.2.2.1
  go_wp2_with (first
    | fail
    | (go_at_call 14; refine (HRT.out _ (Kd.C_below HC.out H3.out.below)).mono ?_; rintro e w5 ⟨rfl, hB5⟩; have H5 := Aside0.mk (H3.out.step hB5); clear hB5)
    | ((with_reducible refine gate_dst (N := 4) rfl ?_); refine own_alloc H5.out rfl (N := 4) rfl (t := 25) rfl (Array.replicate 32 (.int .u8 0)) 32 (by kernel_rfl) ?_; intro g4 w6 H6 B6; replace H6 := Aside0.mk H6; replace B6 := Aside0.mk B6)
    | ((with_reducible refine own_store H6.out 0 g4 _ 25 rfl rfl (.tmp 4) (.tmp 14) rfl (cellsB r) ?_ ?_ 32 R32.out HAR.out (by kernel_rfl) ?_); (case _ => rfl); (case _ => rfl); intro w7 H7; replace H7 := Aside0.mk H7)
    )
  clear q18
  have hhp := Try.underlying25
  have HZ : Aside0 (∀ xs : List Int, Hsh xs → (Try.prog.info? 25).map (·.size) = some (cellsB xs).size) := ⟨fun xs h => by rw [(Arr_B h.1).1]; kernel_rfl⟩
  have HS : Aside0 (∀ W, Own w.heap.size w W [.blk g4 (cellsB r) 25, .blk g2 (Array.replicate 32 (.int .u8 0)) 25, .blk g1 mc TMach] → (W.heap[g4]? = some (.cells (cellsB r) 25 (0, 0)) ∧ W.heap[g1]? = some (.cells mc TMach (0, 0))) ∧ W.cell? ⟨g1, 0, none⟩ = some (.int .u64 (pc : Int)) ∧ W.cell? ⟨g1, 17, none⟩ = some (.int .u8 (s : Int)) ∧ W.cell? ⟨g1, 18, none⟩ = some (.slice A n c)) :=
    ⟨fun W h => ⟨⟨h.get 0 rfl, h.get 2 rfl⟩, h.cell 2 rfl 0 HAT.out.1, h.cell 2 rfl 17 HAT.out.2.1, h.cell 2 rfl 18 HAT.out.2.2.1⟩⟩
  have HS2 : Aside0 (∀ W, Own w.heap.size w W [.blk g4 (cellsB r) 25, .blk g2 (cellsB res) 25, .blk g1 mc TMach] → (W.heap[g4]? = some (.cells (cellsB r) 25 (0, 0)) ∧ W.heap[g1]? = some (.cells mc TMach (0, 0))) ∧ W.cell? ⟨g1, 0, none⟩ = some (.int .u64 (pc : Int)) ∧ W.cell? ⟨g1, 17, none⟩ = some (.int .u8 (s : Int)) ∧ W.cell? ⟨g1, 18, none⟩ = some (.slice A n c)) :=
    ⟨fun W h => ⟨⟨h.get 0 rfl, h.get 2 rfl⟩, h.cell 2 rfl 0 HAT.out.1, h.cell 2 rfl 17 HAT.out.2.1, h.cell 2 rfl 18 HAT.out.2.2.1⟩⟩
  have HRG : Aside0 (∀ W : World, W.heap[g1]? = some (.cells mc TMach (0, 0)) → ∀ j u, (regs.map (Value.int .u64))[j]? = some u → W.cell? ((⟨g1, 1, none⟩ : Addr).add j) = some u) := ⟨fun W h j u hj => by rw [add_at]; exact (blk_cell h _).trans (HAT.out.2.2.2 j u hj)⟩
  refine wp_region_held_drew (S := (fun W => (W.heap[g4]? = some (.cells (cellsB r) 25 (0, 0)) ∧ W.heap[g1]? = some (.cells mc TMach (0, 0))) ∧ W.cell? ⟨g1, 0, none⟩ = some (.int .u64 (pc : Int)) ∧ W.cell? ⟨g1, 17, none⟩ = some (.int .u8 (s : Int)) ∧ W.cell? ⟨g1, 18, none⟩ = some (.slice A n c))) (by kernel_rfl) ?_ (fun hHeld => ?_)
  · exact HS.out _ H7.out.drew
  refine wpAnyH_take (i := 0) (oi := { dst := some 20, op := Go.Op.fieldAddr 64 (Go.Operand.tmp 1) 0, type := 0, pos := "mem.go:172", after := #[], guard := none }) (v := ?_) rfl (by kernel_rfl) (by kernel_rfl) (by kernel_rfl) (fun _ _ _ h => h) (Or.inl ⟨by rfl, ?_⟩) (by assumption) ?_
  rotate_left
  · intro wS hSw; (try dsimp only at hSw); go_simp; (try with_reducible rfl)
  try simp only [Act.put, List.setIfInBounds_toArray, List.set_cons_zero, List.set_cons_succ]
  refine wpAnyH_take (i := 1) (oi := { dst := some 21, op := Go.Op.load 23 (Go.Operand.tmp 20), type := 23, pos := "mem.go:172", after := #[{ on := 0, ground := Go.Ground.data }], guard := none }) (v := ?_) rfl (by kernel_rfl) (by kernel_rfl) (by kernel_rfl) (fun _ _ _ h => h) (Or.inl ⟨by rfl, ?_⟩) (by assumption) ?_
  rotate_left
  · intro wS hSw; (try dsimp only at hSw); go_simp; (try with_reducible rfl)
  try simp only [Act.put, List.setIfInBounds_toArray, List.set_cons_zero, List.set_cons_succ]
  refine wpAnyH_take (i := 2) (oi := { dst := some 22, op := Go.Op.fieldAddr 64 (Go.Operand.tmp 1) 1, type := 0, pos := "mem.go:172", after := #[], guard := none }) (v := ?_) rfl (by kernel_rfl) (by kernel_rfl) (by kernel_rfl) (fun _ _ _ h => h) (Or.inl ⟨by rfl, ?_⟩) (by assumption) ?_
  rotate_left
  · intro wS hSw; (try dsimp only at hSw); go_simp; (try with_reducible rfl)
  try simp only [Act.put, List.setIfInBounds_toArray, List.set_cons_zero, List.set_cons_succ]
  refine wpAnyH_take (i := 3) (oi := { dst := some 23, op := Go.Op.load 61 (Go.Operand.tmp 22), type := 61, pos := "mem.go:172", after := #[{ on := 2, ground := Go.Ground.data }], guard := none }) (v := .agg (cellsU regs)) rfl (by kernel_rfl) (by kernel_rfl) (by kernel_rfl) (fun _ _ _ h => h) (yif_load_at (by rfl) 61 (.tmp 22) rfl ⟨g1, 1, none⟩ (regs.map (Value.int .u64)) rfl (fun W h => HRG.out W h.1.2) Try.underlying61 (by rw [List.length_map, HLR.out]; kernel_rfl)) (by assumption) ?_
  try simp only [Act.put, List.setIfInBounds_toArray, List.set_cons_zero, List.set_cons_succ]
  refine wpAnyH_take (i := 4) (oi := { dst := some 24, op := Go.Op.fieldAddr 64 (Go.Operand.tmp 1) 2, type := 0, pos := "mem.go:172", after := #[], guard := none }) (v := ?_) rfl (by kernel_rfl) (by kernel_rfl) (by kernel_rfl) (fun _ _ _ h => h) (Or.inl ⟨by rfl, ?_⟩) (by assumption) ?_
  rotate_left
  · intro wS hSw; (try dsimp only at hSw); go_simp; (try with_reducible rfl)
  try simp only [Act.put, List.setIfInBounds_toArray, List.set_cons_zero, List.set_cons_succ]
  refine wpAnyH_take (i := 5) (oi := { dst := some 25, op := Go.Op.load 62 (Go.Operand.tmp 24), type := 62, pos := "mem.go:172", after := #[{ on := 4, ground := Go.Ground.data }], guard := none }) (v := ?_) rfl (by kernel_rfl) (by kernel_rfl) (by kernel_rfl) (fun _ _ _ h => h) (Or.inl ⟨by rfl, ?_⟩) (by assumption) ?_
  rotate_left
  · intro wS hSw; (try dsimp only at hSw); go_simp; (try with_reducible rfl)
  try simp only [Act.put, List.setIfInBounds_toArray, List.set_cons_zero, List.set_cons_succ]
  refine wpAnyH_take (i := 6) (oi := { dst := some 26, op := Go.Op.fieldAddr 64 (Go.Operand.tmp 1) 3, type := 0, pos := "mem.go:172", after := #[], guard := none }) (v := ?_) rfl (by kernel_rfl) (by kernel_rfl) (by kernel_rfl) (fun _ _ _ h => h) (Or.inl ⟨by rfl, ?_⟩) (by assumption) ?_
  rotate_left
  · intro wS hSw; (try dsimp only at hSw); go_simp; (try with_reducible rfl)
  try simp only [Act.put, List.setIfInBounds_toArray, List.set_cons_zero, List.set_cons_succ]
  refine wpAnyH_take (i := 7) (oi := { dst := some 27, op := Go.Op.load 22 (Go.Operand.tmp 26), type := 22, pos := "mem.go:172", after := #[{ on := 6, ground := Go.Ground.data }], guard := none }) (v := ?_) rfl (by kernel_rfl) (by kernel_rfl) (by kernel_rfl) (fun _ _ _ h => h) (Or.inl ⟨by rfl, ?_⟩) (by assumption) ?_
  rotate_left
  · intro wS hSw; (try dsimp only at hSw); go_simp; (try with_reducible rfl)
  try simp only [Act.put, List.setIfInBounds_toArray, List.set_cons_zero, List.set_cons_succ]
  refine wpAnyH_take (i := 8) (oi := { dst := some 28, op := Go.Op.call { callee := Go.Callee.builtin Go.Builtin.len, args := #[Go.Operand.tmp 27], argTypes := #[22] }, type := 3, pos := "mem.go:172", after := #[{ on := 7, ground := Go.Ground.data }], guard := none }) (v := ?_) rfl (by kernel_rfl) (by kernel_rfl) (by kernel_rfl) (fun _ _ _ h => h) (Or.inl ⟨by rfl, ?_⟩) (by assumption) ?_
  rotate_left
  · intro wS hSw; (try dsimp only at hSw); go_simp; (try with_reducible rfl)
  try simp only [Act.put, List.setIfInBounds_toArray, List.set_cons_zero, List.set_cons_succ]
  refine wpAnyH_take (i := 9) (oi := { dst := some 29, op := Go.Op.convert 3 122 (Go.Operand.tmp 28), type := 122, pos := "mem.go:172", after := #[{ on := 8, ground := Go.Ground.data }], guard := none }) (v := ?_) rfl (by kernel_rfl) (by kernel_rfl) (by kernel_rfl) (fun _ _ _ h => h) (Or.inl ⟨by rfl, ?_⟩) (by assumption) ?_
  rotate_left
  · intro wS hSw; (try dsimp only at hSw); go_simp; (try with_reducible rfl)
  try simp only [Act.put, List.setIfInBounds_toArray, List.set_cons_zero, List.set_cons_succ]
  refine wpAnyH_take (i := 12) (oi := { dst := some 32, op := Go.Op.load 25 (Go.Operand.tmp 4), type := 25, pos := "mem.go:172", after := #[], guard := none }) (v := .agg (cellsB r)) rfl (by kernel_rfl) (by kernel_rfl) (by kernel_rfl) (fun _ _ _ h => h) (yif_loadV (by rfl) 25 (.tmp 4) rfl g4 _ rfl (fun W h => h.1.1) _ hhp rfl (HZ.out r HH.out)) (by assumption) ?_
  try simp only [Act.put, List.setIfInBounds_toArray, List.set_cons_zero, List.set_cons_succ]
  refine wpAnyH_ready (rs := [10]) (by kernel_rfl) (by simp) ?_
  refine AllReadyH.cons (o := { dst := some 30, op := Go.Op.call { callee := Go.Callee.value (Go.Operand.func 75), args := #[Go.Operand.tmp 29], argTypes := #[122] }, type := 3, pos := "mem.go:172", after := #[{ on := 9, ground := Go.Ground.data }], guard := none }) rfl (fun K hK => ?_) AllReadyH.nil
  go_simp
  refine (HLN.out _).mono ?_
  rintro e w19 ⟨rfl, rfl⟩
  go_wp2_with fail
  refine hK.out _ _ ?_ (fun hHeld => ?_)
  · exact HS.out _ H7.out.drew
  clear hK K
  try simp only [Act.put, List.setIfInBounds_toArray, List.set_cons_zero, List.set_cons_succ]
  refine wpAnyH_take (i := 11) (oi := { dst := some 31, op := Go.Op.binOp Go.BinOp.sub 3 (Go.Operand.tmp 30) (Go.Operand.const (Go.Value.int Go.IntKind.i64 1)) 3, type := 3, pos := "mem.go:172", after := #[{ on := 10, ground := Go.Ground.data }], guard := none }) (v := ?_) rfl (by kernel_rfl) (by kernel_rfl) (by kernel_rfl) (fun _ _ _ h => h) (Or.inl ⟨by rfl, ?_⟩) (by assumption) ?_
  rotate_left
  · intro wS hSw; (try dsimp only at hSw); go_simp; (try with_reducible rfl)
  try simp only [Act.put, List.setIfInBounds_toArray, List.set_cons_zero, List.set_cons_succ]
  refine wpAnyH_ready (rs := [13]) (by kernel_rfl) (by simp) ?_
  refine AllReadyH.cons (o := { dst := some 33, op := Go.Op.call { callee := Go.Callee.value (Go.Operand.func 31), args := #[Go.Operand.tmp 21, Go.Operand.tmp 23, Go.Operand.tmp 25, Go.Operand.tmp 31, Go.Operand.tmp 32], argTypes := #[23, 61, 62, 3, 25] }, type := 30, pos := "mem.go:172", after := #[{ on := 1, ground := Go.Ground.data }, { on := 3, ground := Go.Ground.data }, { on := 5, ground := Go.Ground.data }, { on := 11, ground := Go.Ground.data }, { on := 12, ground := Go.Ground.data }, { on := 10, ground := Go.Ground.chain }], guard := none }) rfl (fun K hK => ?_) AllReadyH.nil
  go_simp
  refine (HP.out _).mono ?_
  rintro e w20 ⟨rfl, hB20⟩
  have H20 := Aside0.mk (H7.out.drew.step hB20)
  clear hB20
  go_wp2_with fail
  refine hK.out _ _ ?_ (fun hHeld => ?_)
  · exact HS.out _ H20.out
  clear hK K
  try simp only [Act.put, List.setIfInBounds_toArray, List.set_cons_zero, List.set_cons_succ]
  refine wpAnyH_take (i := 14) (oi := { dst := some 34, op := Go.Op.extract (Go.Operand.tmp 33) 0, type := 25, pos := "mem.go:172", after := #[{ on := 13, ground := Go.Ground.data }], guard := none }) (v := ?_) rfl (by kernel_rfl) (by kernel_rfl) (by kernel_rfl) (fun _ _ _ h => h) (Or.inl ⟨by rfl, ?_⟩) (by assumption) ?_
  rotate_left
  · intro wS hSw; (try dsimp only at hSw); go_simp; (try with_reducible rfl)
  try simp only [Act.put, List.setIfInBounds_toArray, List.set_cons_zero, List.set_cons_succ]
  refine wpAnyH_take (i := 15) (oi := { dst := some 35, op := Go.Op.extract (Go.Operand.tmp 33) 1, type := 29, pos := "mem.go:172", after := #[{ on := 13, ground := Go.Ground.data }], guard := none }) (v := ?_) rfl (by kernel_rfl) (by kernel_rfl) (by kernel_rfl) (fun _ _ _ h => h) (Or.inl ⟨by rfl, ?_⟩) (by assumption) ?_
  rotate_left
  · intro wS hSw; (try dsimp only at hSw); go_simp; (try with_reducible rfl)
  try simp only [Act.put, List.setIfInBounds_toArray, List.set_cons_zero, List.set_cons_succ]
  have H21 : Aside0 (Own w.heap.size w (w20.setCells g2 0 (res.map (Value.int .u8))) [.blk g4 (cellsB r) 25, .blk g2 (cellsB res) 25, .blk g1 mc TMach]) := ⟨H20.out.setCells 1 rfl (res.map (Value.int .u8)) (by rw [List.length_map, HPH.out.1]; simp)⟩
  refine wpAnyH_ready (rs := [16]) (by kernel_rfl) (by simp) ?_
  refine AllReadyH.cons (o := { dst := none, op := Go.Op.store 25 (Go.Operand.tmp 2) (Go.Operand.tmp 34), type := 0, pos := "mem.go:172", after := #[{ on := 14, ground := Go.Ground.data }, { on := 13, ground := Go.Ground.chain }, { on := 0, ground := Go.Ground.phase }, { on := 1, ground := Go.Ground.phase }, { on := 2, ground := Go.Ground.phase }, { on := 3, ground := Go.Ground.phase }, { on := 4, ground := Go.Ground.phase }, { on := 5, ground := Go.Ground.phase }, { on := 6, ground := Go.Ground.phase }, { on := 7, ground := Go.Ground.phase }, { on := 8, ground := Go.Ground.phase }, { on := 9, ground := Go.Ground.phase }, { on := 10, ground := Go.Ground.phase }, { on := 11, ground := Go.Ground.phase }, { on := 12, ground := Go.Ground.phase }, { on := 13, ground := Go.Ground.phase }, { on := 14, ground := Go.Ground.phase }, { on := 15, ground := Go.Ground.phase }], guard := none }) rfl (fun K hK => ?_) AllReadyH.nil
  rw [if_pos (by rfl)]
  refine wp_store_mid _ _ _ rfl _ _ (List.toArray _) rfl rfl ?_ ?_ (all_oneCell_toArray (fun v hv => by obtain ⟨z, _, rfl⟩ := List.mem_map.1 hv; rfl)) ?_
  · (rw [show (List.toArray (res.map (Value.int .u8))).size = 32 by simp [HPH.out.1]]; exact there_blk (H20.out.get 1 rfl) 32 (by simp))
  · (rw [show (List.toArray (res.map (Value.int .u8))).size = 32 by simp [HPH.out.1]]; kernel_rfl)
  simp only [Act.put, List.setIfInBounds_toArray, List.set_cons_zero, List.set_cons_succ, List.toList_toArray]
  refine hK.out _ _ ?_ (fun hHeld => ?_)
  · exact HS2.out _ H21.out
  clear hK K
  try simp only [Act.put, List.setIfInBounds_toArray, List.set_cons_zero, List.set_cons_succ]
  refine wpAnyH_take (i := 17) (oi := { dst := some 3, op := Go.Op.assign (Go.Operand.tmp 35), type := 29, pos := "mem.go:172", after := #[{ on := 15, ground := Go.Ground.data }, { on := 16, ground := Go.Ground.chain }, { on := 0, ground := Go.Ground.phase }, { on := 1, ground := Go.Ground.phase }, { on := 2, ground := Go.Ground.phase }, { on := 3, ground := Go.Ground.phase }, { on := 4, ground := Go.Ground.phase }, { on := 5, ground := Go.Ground.phase }, { on := 6, ground := Go.Ground.phase }, { on := 7, ground := Go.Ground.phase }, { on := 8, ground := Go.Ground.phase }, { on := 9, ground := Go.Ground.phase }, { on := 10, ground := Go.Ground.phase }, { on := 11, ground := Go.Ground.phase }, { on := 12, ground := Go.Ground.phase }, { on := 13, ground := Go.Ground.phase }, { on := 14, ground := Go.Ground.phase }, { on := 15, ground := Go.Ground.phase }, { on := 16, ground := Go.Ground.phase }], guard := none }) (v := ?_) rfl (by kernel_rfl) (by kernel_rfl) (by kernel_rfl) (fun _ _ _ h => h) (Or.inl ⟨by rfl, ?_⟩) (by assumption) ?_
  rotate_left
  · intro wS hSw; (try dsimp only at hSw); go_simp; (try with_reducible rfl)
  try simp only [Act.put, List.setIfInBounds_toArray, List.set_cons_zero, List.set_cons_succ]
  refine wpAnyH_done (by kernel_rfl) ?_ _
  clear hHeld
  go_wp2_with fail
  refine bodyPost_ret (own_result_ct rfl _ H21.out 1 g2 (cellsB res) rfl rfl Try.underlying25 32 HAS.out (by kernel_rfl) (.int .i64 0) rfl) rfl ?_
  exact ⟨rfl, H21.out.below⟩
set_option maxHeartbeats 4000000 in
set_option maxRecDepth 100000 in
theorem rcommit_yes (pc : Nat) (hpc : pc ≤ 18446744073709551615) (regs : List Int) (hl : regs.length = 16) (hrg : Wrd regs) (s D : Nat) (hs : s ≤ 2) (hD : D ≤ 12) (ws : List Int) (hws : ws.length = 2 ^ D) (hw : Wrd ws) (A : Option Addr) (c : Nat) (hc : ws.length ≤ c) (w : World) (hC : Kd.C kU w A ws.length ws) :
    Calls Try.prog 30 #[.agg (machC pc regs (s : Int) A ws.length c)] w fun e w' => e = .returned (.tuple #[.agg (cellsB (partsI pc regs s D (memroot D ws))), .int .i64 0]) ∧ Below w.heap.size w w' := by
  have hn4 : ws.length ≤ 4096 := by rw [hws]; exact Nat.pow_le_pow_right (by decide) hD
  have H0 := Aside0.mk (Own.start w)
  have R32 : Aside0 (Arr 32 (Array.replicate 32 (.int .u8 0))) := ⟨Arr_rep _ _ rfl⟩
  have HM := Aside0.mk (fun W => rmay_any (pc : Int) regs hl s A ws.length c (by omega) W)
  rw [show (sizeB ws.length && decide (s ≤ 2)) = true by rw [hws, sizeB_of hD, decide_eq_true hs]; rfl] at HM
  have HRT := Aside0.mk (fun W h => rroot_yes D hD ws hws hw A c hc W h)
  have hHr := Hsh_memroot D ws
  have HP := Aside0.mk (fun W => rparts_ok pc hpc regs hl hrg s D hs hD (memroot D ws) hHr W)
  have HPH := Aside0.mk (Hsh_parts pc regs s D (memroot D ws))
  generalize partsI pc regs s D (memroot D ws) = res at *
  generalize memroot D ws = r at *
  have HH := Aside0.mk hHr
  have HAR := Aside0.mk (Arr_B hHr.1)
  have HAS := Aside0.mk (Arr_B HPH.out.1)
  have HC := Aside0.mk hC
  have HSZ : Aside0 ((Try.prog.info? TMach).map (·.size) = some (machC (pc : Int) regs (s : Int) A ws.length c).size) := ⟨by rw [show (machC (pc : Int) regs (s : Int) A ws.length c).size = 19 by simp [machC, hl]]; kernel_rfl⟩
  have HAT := Aside0.mk (machC_at (pc := (pc : Int)) (s := (s : Int)) (A := A) (n := ws.length) (c := c) hl)
  have HLN := Aside0.mk (fun W => depth_any D ws.length hD hws.symm W)
  have HLR := Aside0.mk hl
  generalize machC (pc : Int) regs (s : Int) A ws.length c = mc at *
  clear hC hl hrg hHr hws
  generalize ws.length = n at *
  go_enter Try.func30, Try.ntmps30
  go_upto_region 3 with (first
    | fail
    | ((with_reducible refine gate_dst (N := 1) rfl ?_); refine own_box H0.out rfl (N := 1) rfl (t := TMach) rfl (.agg mc) rfl ?_; intro g1 w1 H1 B1; replace H1 := Aside0.mk H1; replace B1 := Aside0.mk B1)
    | ((with_reducible refine gate_dst (N := 2) rfl ?_); refine own_alloc H1.out rfl (N := 2) rfl (t := 25) rfl (Array.replicate 32 (.int .u8 0)) 32 (by kernel_rfl) ?_; intro g2 w2 H2 B2; replace H2 := Aside0.mk H2; replace B2 := Aside0.mk B2)
    | ((with_reducible refine gate_dst (N := 6) rfl ?_); refine own_loadV H2.out 1 g1 mc TMach rfl rfl (.tmp 1) rfl _ rfl Try.underlying64 rfl HSZ.out ?_)
    | (go_at_call 76; refine (HM.out _).mono ?_; rintro e w3 ⟨rfl, hB3⟩; have H3 := Aside0.mk (H2.out.step hB3); clear hB3)
    )
  have q18 : w3.cell? ⟨g1, 18, none⟩ = _ := H3.out.cell 1 rfl 18 HAT.out.2.2.1
  go_wp2_with (first
    | fail
    | (go_at_call 15; refine (HRT.out _ (Kd.C_below HC.out H3.out.below)).mono ?_; rintro e w5 ⟨rfl, hB5⟩; have H5 := Aside0.mk (H3.out.step hB5); clear hB5)
    | ((with_reducible refine gate_dst (N := 4) rfl ?_); refine own_alloc H5.out rfl (N := 4) rfl (t := 25) rfl (Array.replicate 32 (.int .u8 0)) 32 (by kernel_rfl) ?_; intro g4 w6 H6 B6; replace H6 := Aside0.mk H6; replace B6 := Aside0.mk B6)
    | ((with_reducible refine own_store H6.out 0 g4 _ 25 rfl rfl (.tmp 4) (.tmp 14) rfl (cellsB r) ?_ ?_ 32 R32.out HAR.out (by kernel_rfl) ?_); (case _ => rfl); (case _ => rfl); intro w7 H7; replace H7 := Aside0.mk H7)
    )
  clear q18
  have hhp := Try.underlying25
  have HZ : Aside0 (∀ xs : List Int, Hsh xs → (Try.prog.info? 25).map (·.size) = some (cellsB xs).size) := ⟨fun xs h => by rw [(Arr_B h.1).1]; kernel_rfl⟩
  have HS : Aside0 (∀ W, Own w.heap.size w W [.blk g4 (cellsB r) 25, .blk g2 (Array.replicate 32 (.int .u8 0)) 25, .blk g1 mc TMach] → (W.heap[g4]? = some (.cells (cellsB r) 25 (0, 0)) ∧ W.heap[g1]? = some (.cells mc TMach (0, 0))) ∧ W.cell? ⟨g1, 0, none⟩ = some (.int .u64 (pc : Int)) ∧ W.cell? ⟨g1, 17, none⟩ = some (.int .u8 (s : Int)) ∧ W.cell? ⟨g1, 18, none⟩ = some (.slice A n c)) :=
    ⟨fun W h => ⟨⟨h.get 0 rfl, h.get 2 rfl⟩, h.cell 2 rfl 0 HAT.out.1, h.cell 2 rfl 17 HAT.out.2.1, h.cell 2 rfl 18 HAT.out.2.2.1⟩⟩
  have HS2 : Aside0 (∀ W, Own w.heap.size w W [.blk g4 (cellsB r) 25, .blk g2 (cellsB res) 25, .blk g1 mc TMach] → (W.heap[g4]? = some (.cells (cellsB r) 25 (0, 0)) ∧ W.heap[g1]? = some (.cells mc TMach (0, 0))) ∧ W.cell? ⟨g1, 0, none⟩ = some (.int .u64 (pc : Int)) ∧ W.cell? ⟨g1, 17, none⟩ = some (.int .u8 (s : Int)) ∧ W.cell? ⟨g1, 18, none⟩ = some (.slice A n c)) :=
    ⟨fun W h => ⟨⟨h.get 0 rfl, h.get 2 rfl⟩, h.cell 2 rfl 0 HAT.out.1, h.cell 2 rfl 17 HAT.out.2.1, h.cell 2 rfl 18 HAT.out.2.2.1⟩⟩
  have HRG : Aside0 (∀ W : World, W.heap[g1]? = some (.cells mc TMach (0, 0)) → ∀ j u, (regs.map (Value.int .u64))[j]? = some u → W.cell? ((⟨g1, 1, none⟩ : Addr).add j) = some u) := ⟨fun W h j u hj => by rw [add_at]; exact (blk_cell h _).trans (HAT.out.2.2.2 j u hj)⟩
  refine wp_region_held_drew (S := (fun W => (W.heap[g4]? = some (.cells (cellsB r) 25 (0, 0)) ∧ W.heap[g1]? = some (.cells mc TMach (0, 0))) ∧ W.cell? ⟨g1, 0, none⟩ = some (.int .u64 (pc : Int)) ∧ W.cell? ⟨g1, 17, none⟩ = some (.int .u8 (s : Int)) ∧ W.cell? ⟨g1, 18, none⟩ = some (.slice A n c))) (by kernel_rfl) ?_ (fun hHeld => ?_)
  · exact HS.out _ H7.out.drew
  refine wpAnyH_take (i := 0) (oi := { dst := some 16, op := Go.Op.fieldAddr 64 (Go.Operand.tmp 1) 0, type := 0, pos := "ref.go:81", after := #[], guard := none }) (v := ?_) rfl (by kernel_rfl) (by kernel_rfl) (by kernel_rfl) (fun _ _ _ h => h) (Or.inl ⟨by rfl, ?_⟩) (by assumption) ?_
  rotate_left
  · intro wS hSw; (try dsimp only at hSw); go_simp; (try with_reducible rfl)
  try simp only [Act.put, List.setIfInBounds_toArray, List.set_cons_zero, List.set_cons_succ]
  refine wpAnyH_take (i := 1) (oi := { dst := some 17, op := Go.Op.load 23 (Go.Operand.tmp 16), type := 23, pos := "ref.go:81", after := #[{ on := 0, ground := Go.Ground.data }], guard := none }) (v := ?_) rfl (by kernel_rfl) (by kernel_rfl) (by kernel_rfl) (fun _ _ _ h => h) (Or.inl ⟨by rfl, ?_⟩) (by assumption) ?_
  rotate_left
  · intro wS hSw; (try dsimp only at hSw); go_simp; (try with_reducible rfl)
  try simp only [Act.put, List.setIfInBounds_toArray, List.set_cons_zero, List.set_cons_succ]
  refine wpAnyH_take (i := 2) (oi := { dst := some 18, op := Go.Op.fieldAddr 64 (Go.Operand.tmp 1) 1, type := 0, pos := "ref.go:81", after := #[], guard := none }) (v := ?_) rfl (by kernel_rfl) (by kernel_rfl) (by kernel_rfl) (fun _ _ _ h => h) (Or.inl ⟨by rfl, ?_⟩) (by assumption) ?_
  rotate_left
  · intro wS hSw; (try dsimp only at hSw); go_simp; (try with_reducible rfl)
  try simp only [Act.put, List.setIfInBounds_toArray, List.set_cons_zero, List.set_cons_succ]
  refine wpAnyH_take (i := 3) (oi := { dst := some 19, op := Go.Op.load 61 (Go.Operand.tmp 18), type := 61, pos := "ref.go:81", after := #[{ on := 2, ground := Go.Ground.data }], guard := none }) (v := .agg (cellsU regs)) rfl (by kernel_rfl) (by kernel_rfl) (by kernel_rfl) (fun _ _ _ h => h) (yif_load_at (by rfl) 61 (.tmp 18) rfl ⟨g1, 1, none⟩ (regs.map (Value.int .u64)) rfl (fun W h => HRG.out W h.1.2) Try.underlying61 (by rw [List.length_map, HLR.out]; kernel_rfl)) (by assumption) ?_
  try simp only [Act.put, List.setIfInBounds_toArray, List.set_cons_zero, List.set_cons_succ]
  refine wpAnyH_take (i := 4) (oi := { dst := some 20, op := Go.Op.fieldAddr 64 (Go.Operand.tmp 1) 2, type := 0, pos := "ref.go:81", after := #[], guard := none }) (v := ?_) rfl (by kernel_rfl) (by kernel_rfl) (by kernel_rfl) (fun _ _ _ h => h) (Or.inl ⟨by rfl, ?_⟩) (by assumption) ?_
  rotate_left
  · intro wS hSw; (try dsimp only at hSw); go_simp; (try with_reducible rfl)
  try simp only [Act.put, List.setIfInBounds_toArray, List.set_cons_zero, List.set_cons_succ]
  refine wpAnyH_take (i := 5) (oi := { dst := some 21, op := Go.Op.load 62 (Go.Operand.tmp 20), type := 62, pos := "ref.go:81", after := #[{ on := 4, ground := Go.Ground.data }], guard := none }) (v := ?_) rfl (by kernel_rfl) (by kernel_rfl) (by kernel_rfl) (fun _ _ _ h => h) (Or.inl ⟨by rfl, ?_⟩) (by assumption) ?_
  rotate_left
  · intro wS hSw; (try dsimp only at hSw); go_simp; (try with_reducible rfl)
  try simp only [Act.put, List.setIfInBounds_toArray, List.set_cons_zero, List.set_cons_succ]
  refine wpAnyH_take (i := 6) (oi := { dst := some 22, op := Go.Op.fieldAddr 64 (Go.Operand.tmp 1) 3, type := 0, pos := "ref.go:81", after := #[], guard := none }) (v := ?_) rfl (by kernel_rfl) (by kernel_rfl) (by kernel_rfl) (fun _ _ _ h => h) (Or.inl ⟨by rfl, ?_⟩) (by assumption) ?_
  rotate_left
  · intro wS hSw; (try dsimp only at hSw); go_simp; (try with_reducible rfl)
  try simp only [Act.put, List.setIfInBounds_toArray, List.set_cons_zero, List.set_cons_succ]
  refine wpAnyH_take (i := 7) (oi := { dst := some 23, op := Go.Op.load 22 (Go.Operand.tmp 22), type := 22, pos := "ref.go:81", after := #[{ on := 6, ground := Go.Ground.data }], guard := none }) (v := ?_) rfl (by kernel_rfl) (by kernel_rfl) (by kernel_rfl) (fun _ _ _ h => h) (Or.inl ⟨by rfl, ?_⟩) (by assumption) ?_
  rotate_left
  · intro wS hSw; (try dsimp only at hSw); go_simp; (try with_reducible rfl)
  try simp only [Act.put, List.setIfInBounds_toArray, List.set_cons_zero, List.set_cons_succ]
  refine wpAnyH_take (i := 8) (oi := { dst := some 24, op := Go.Op.call { callee := Go.Callee.builtin Go.Builtin.len, args := #[Go.Operand.tmp 23], argTypes := #[22] }, type := 3, pos := "ref.go:81", after := #[{ on := 7, ground := Go.Ground.data }], guard := none }) (v := ?_) rfl (by kernel_rfl) (by kernel_rfl) (by kernel_rfl) (fun _ _ _ h => h) (Or.inl ⟨by rfl, ?_⟩) (by assumption) ?_
  rotate_left
  · intro wS hSw; (try dsimp only at hSw); go_simp; (try with_reducible rfl)
  try simp only [Act.put, List.setIfInBounds_toArray, List.set_cons_zero, List.set_cons_succ]
  refine wpAnyH_take (i := 10) (oi := { dst := some 26, op := Go.Op.load 25 (Go.Operand.tmp 4), type := 25, pos := "ref.go:81", after := #[], guard := none }) (v := .agg (cellsB r)) rfl (by kernel_rfl) (by kernel_rfl) (by kernel_rfl) (fun _ _ _ h => h) (yif_loadV (by rfl) 25 (.tmp 4) rfl g4 _ rfl (fun W h => h.1.1) _ hhp rfl (HZ.out r HH.out)) (by assumption) ?_
  try simp only [Act.put, List.setIfInBounds_toArray, List.set_cons_zero, List.set_cons_succ]
  refine wpAnyH_ready (rs := [9]) (by kernel_rfl) (by simp) ?_
  refine AllReadyH.cons (o := { dst := some 25, op := Go.Op.call { callee := Go.Callee.value (Go.Operand.func 59), args := #[Go.Operand.tmp 24], argTypes := #[3] }, type := 3, pos := "ref.go:81", after := #[{ on := 8, ground := Go.Ground.data }], guard := none }) rfl (fun K hK => ?_) AllReadyH.nil
  go_simp
  refine (HLN.out _).mono ?_
  rintro e w19 ⟨rfl, rfl⟩
  go_wp2_with fail
  refine hK.out _ _ ?_ (fun hHeld => ?_)
  · exact HS.out _ H7.out.drew
  clear hK K
  try simp only [Act.put, List.setIfInBounds_toArray, List.set_cons_zero, List.set_cons_succ]
  refine wpAnyH_ready (rs := [11]) (by kernel_rfl) (by simp) ?_
  refine AllReadyH.cons (o := { dst := some 27, op := Go.Op.call { callee := Go.Callee.value (Go.Operand.func 32), args := #[Go.Operand.tmp 17, Go.Operand.tmp 19, Go.Operand.tmp 21, Go.Operand.tmp 25, Go.Operand.tmp 26], argTypes := #[23, 61, 62, 3, 25] }, type := 32, pos := "ref.go:81", after := #[{ on := 1, ground := Go.Ground.data }, { on := 3, ground := Go.Ground.data }, { on := 5, ground := Go.Ground.data }, { on := 9, ground := Go.Ground.data }, { on := 10, ground := Go.Ground.data }, { on := 9, ground := Go.Ground.chain }], guard := none }) rfl (fun K hK => ?_) AllReadyH.nil
  go_simp
  refine (HP.out _).mono ?_
  rintro e w20 ⟨rfl, hB20⟩
  have H20 := Aside0.mk (H7.out.drew.step hB20)
  clear hB20
  go_wp2_with fail
  refine hK.out _ _ ?_ (fun hHeld => ?_)
  · exact HS.out _ H20.out
  clear hK K
  try simp only [Act.put, List.setIfInBounds_toArray, List.set_cons_zero, List.set_cons_succ]
  refine wpAnyH_take (i := 12) (oi := { dst := some 28, op := Go.Op.extract (Go.Operand.tmp 27) 0, type := 25, pos := "ref.go:81", after := #[{ on := 11, ground := Go.Ground.data }], guard := none }) (v := ?_) rfl (by kernel_rfl) (by kernel_rfl) (by kernel_rfl) (fun _ _ _ h => h) (Or.inl ⟨by rfl, ?_⟩) (by assumption) ?_
  rotate_left
  · intro wS hSw; (try dsimp only at hSw); go_simp; (try with_reducible rfl)
  try simp only [Act.put, List.setIfInBounds_toArray, List.set_cons_zero, List.set_cons_succ]
  refine wpAnyH_take (i := 13) (oi := { dst := some 29, op := Go.Op.extract (Go.Operand.tmp 27) 1, type := 3, pos := "ref.go:81", after := #[{ on := 11, ground := Go.Ground.data }], guard := none }) (v := ?_) rfl (by kernel_rfl) (by kernel_rfl) (by kernel_rfl) (fun _ _ _ h => h) (Or.inl ⟨by rfl, ?_⟩) (by assumption) ?_
  rotate_left
  · intro wS hSw; (try dsimp only at hSw); go_simp; (try with_reducible rfl)
  try simp only [Act.put, List.setIfInBounds_toArray, List.set_cons_zero, List.set_cons_succ]
  have H21 : Aside0 (Own w.heap.size w (w20.setCells g2 0 (res.map (Value.int .u8))) [.blk g4 (cellsB r) 25, .blk g2 (cellsB res) 25, .blk g1 mc TMach]) := ⟨H20.out.setCells 1 rfl (res.map (Value.int .u8)) (by rw [List.length_map, HPH.out.1]; simp)⟩
  refine wpAnyH_ready (rs := [14]) (by kernel_rfl) (by simp) ?_
  refine AllReadyH.cons (o := { dst := none, op := Go.Op.store 25 (Go.Operand.tmp 2) (Go.Operand.tmp 28), type := 0, pos := "ref.go:81", after := #[{ on := 12, ground := Go.Ground.data }, { on := 11, ground := Go.Ground.chain }, { on := 0, ground := Go.Ground.phase }, { on := 1, ground := Go.Ground.phase }, { on := 2, ground := Go.Ground.phase }, { on := 3, ground := Go.Ground.phase }, { on := 4, ground := Go.Ground.phase }, { on := 5, ground := Go.Ground.phase }, { on := 6, ground := Go.Ground.phase }, { on := 7, ground := Go.Ground.phase }, { on := 8, ground := Go.Ground.phase }, { on := 9, ground := Go.Ground.phase }, { on := 10, ground := Go.Ground.phase }, { on := 11, ground := Go.Ground.phase }, { on := 12, ground := Go.Ground.phase }, { on := 13, ground := Go.Ground.phase }], guard := none }) rfl (fun K hK => ?_) AllReadyH.nil
  rw [if_pos (by rfl)]
  refine wp_store_mid _ _ _ rfl _ _ (List.toArray _) rfl rfl ?_ ?_ (all_oneCell_toArray (fun v hv => by obtain ⟨z, _, rfl⟩ := List.mem_map.1 hv; rfl)) ?_
  · (rw [show (List.toArray (res.map (Value.int .u8))).size = 32 by simp [HPH.out.1]]; exact there_blk (H20.out.get 1 rfl) 32 (by simp))
  · (rw [show (List.toArray (res.map (Value.int .u8))).size = 32 by simp [HPH.out.1]]; kernel_rfl)
  simp only [Act.put, List.setIfInBounds_toArray, List.set_cons_zero, List.set_cons_succ, List.toList_toArray]
  refine hK.out _ _ ?_ (fun hHeld => ?_)
  · exact HS2.out _ H21.out
  clear hK K
  try simp only [Act.put, List.setIfInBounds_toArray, List.set_cons_zero, List.set_cons_succ]
  refine wpAnyH_take (i := 15) (oi := { dst := some 3, op := Go.Op.assign (Go.Operand.tmp 29), type := 3, pos := "ref.go:81", after := #[{ on := 13, ground := Go.Ground.data }, { on := 14, ground := Go.Ground.chain }, { on := 0, ground := Go.Ground.phase }, { on := 1, ground := Go.Ground.phase }, { on := 2, ground := Go.Ground.phase }, { on := 3, ground := Go.Ground.phase }, { on := 4, ground := Go.Ground.phase }, { on := 5, ground := Go.Ground.phase }, { on := 6, ground := Go.Ground.phase }, { on := 7, ground := Go.Ground.phase }, { on := 8, ground := Go.Ground.phase }, { on := 9, ground := Go.Ground.phase }, { on := 10, ground := Go.Ground.phase }, { on := 11, ground := Go.Ground.phase }, { on := 12, ground := Go.Ground.phase }, { on := 13, ground := Go.Ground.phase }, { on := 14, ground := Go.Ground.phase }], guard := none }) (v := ?_) rfl (by kernel_rfl) (by kernel_rfl) (by kernel_rfl) (fun _ _ _ h => h) (Or.inl ⟨by rfl, ?_⟩) (by assumption) ?_
  rotate_left
  · intro wS hSw; (try dsimp only at hSw); go_simp; (try with_reducible rfl)
  try simp only [Act.put, List.setIfInBounds_toArray, List.set_cons_zero, List.set_cons_succ]
  refine wpAnyH_done (by kernel_rfl) ?_ _
  clear hHeld
  go_wp2_with fail
  refine bodyPost_ret (own_result_ct rfl _ H21.out 1 g2 (cellsB res) rfl rfl Try.underlying25 32 HAS.out (by kernel_rfl) (.int .i64 0) rfl) rfl ?_
  exact ⟨rfl, H21.out.below⟩
end Go.Proofs.Ytocphkfkdadhaaa.H

namespace Go.Proofs.Ytocphkfkdadhaaa.H
open Go.RowKit Go.Proofs.YtocphkfkdadhaaaW.PrintWords Go.Proofs.YtocphkfkdadhaaaW.PrintLast Go.Proofs.YtocphkfkdadhaaaW.PrintMore
set_option linter.unusedVariables false
set_option linter.unusedSimpArgs false
theorem o_u64 : Opens 23 kU (fun n => (Lit.int .u64 n).wf = true) := opens_int Try.underlying23
theorem o_H : Opens 25 kH (fun l => l.length = 32 ∧ ∀ y ∈ l, (Lit.int .u8 y).wf = true) := opens_H Try.underlying25 Try.underlying5 (by kernel_rfl) (by kernel_rfl)
theorem Wrd_of {l : List Int} (h : ∀ y ∈ l, (Lit.int .u64 y).wf = true) : Wrd l := fun x hx => wf_u64 (h x hx)
theorem Hsh_of {l : List Int} (h : l.length = 32 ∧ ∀ y ∈ l, (Lit.int .u8 y).wf = true) : Hsh l := ⟨h.1, fun x hx => wf_u8 (h.2 x hx)⟩
end Go.Proofs.Ytocphkfkdadhaaa.H

namespace Go.Proofs.Ytocphkfkdadhaaa.H
open Go.RowKit Go.Proofs.YtocphkfkdadhaaaW.PrintWords Go.Proofs.YtocphkfkdadhaaaW.PrintLast Go.Proofs.YtocphkfkdadhaaaW.PrintMore
set_option linter.unusedVariables false
set_option linter.unusedSimpArgs false
theorem geqb_H {P : Program} {ops : Array Oper} {rest : List Oper} {o : Oper} {a : Act} {Q : Exit → Act → World → Prop} {W : World} (b : Bool) (hw : Region.wanted o (yielded ops a.tmps) = true) (t u : TypeId) (x y : Operand) (ho : o.op = .binOp .eql t x y u) (xs ys : List Int) (hx : a.eval x = .agg (cellsB xs)) (hy : a.eval y = .agg (cellsB ys)) {n : Nat} {e : TypeId} (ht : P.underlying t = some (.array n e)) (he : P.underlying e = some (.int .u8)) (hs : (P.info? e).map (·.size) = some 1) (hg : P.eqGuardType P.depth t = false) (lx : xs.length = n) (ly : ys.length = n) (hb : (xs == ys) = b)
    (h : wpList P ops Q rest (a.put o.dst (.bool b)) W) : wpList P ops Q (o :: rest) a W := by
  subst hb
  exact geq_H hw t u x y ho xs ys hx hy ht he hs hg lx ly h
end Go.Proofs.Ytocphkfkdadhaaa.H

