import Derived.Test.YtocphkfkdadhaaaZPk6
import Derived.Test.YtocphkfkdadhaaaZPk2
import Derived.Test.YtocphkfkdadhaaaZPk0
import Derived.Lib.SmallJoins
import Derived.ChangeSlices
import Derived.ChangeArms
import Derived.OpenShut
import Derived.SizedLaws
import Derived.ProofKit
namespace Go.Proofs.Ytocphkfkdadhaaa.H
open Go.RowKit Go.Proofs.YtocphkfkdadhaaaW.PrintWords Go.Proofs.YtocphkfkdadhaaaW.PrintLast Go.Proofs.YtocphkfkdadhaaaW.PrintMore
set_option linter.unusedVariables false
set_option linter.unusedSimpArgs false
section
variable {P : Program} {ops : Array Oper} {S : World → Prop} {o : Oper} {a : Act}
theorem yif_load_H (hw : Region.wanted o (yielded ops a.tmps) = true) (ty : TypeId) (x : Operand) (ho : o.op = .load ty x) (p : Addr) (xs : List Int) (hx : a.eval x = .pointer (some p))
    (hS : ∀ w, S w → ∀ j v, (xs.map (Value.int .u8))[j]? = some v → w.cell? (p.add j) = some v) {n : Nat} {el : TypeId} (hu : P.underlying ty = some (.array n el)) (hi : (P.info? ty).map (·.size) = some xs.length) : YieldsIf P ops S o (.agg (cellsB xs)) a :=
  .inl ⟨hw, fun w h => by
    unfold execOp
    simp only [ho, hx, Sem.run_bind, Sem.run_pure, Result.andThen_ok, loadAt_H (P := P) (W := w) ty p xs (hS w h) hu hi]⟩
theorem yif_loadV (hw : Region.wanted o (yielded ops a.tmps) = true) (ty : TypeId) (x : Operand) (ho : o.op = .load ty x) (g : Nat) (cs : Array Value) (hx : a.eval x = .pointer (some ⟨g, 0, none⟩))
    (hS : ∀ w, S w → w.heap[g]? = some (.cells cs ty (0, 0))) (d : TypeDesc) (hu : P.underlying ty = some d) (hd : isAggD d = true) (hi : (P.info? ty).map (·.size) = some cs.size) : YieldsIf P ops S o (.agg cs) a :=
  .inl ⟨hw, fun w h => by
    unfold execOp
    simp only [ho, hx, Instr.loadAt, Instr.sureAddr, Sem.run_bind, Sem.run_pure, Result.andThen_ok, run_loadVar_row w g ty ty cs (0, 0) d (hS w h) hu (by cases d <;> first | rfl | cases hd) hi]⟩
theorem yif_eq_H (hw : Region.wanted o (yielded ops a.tmps) = true) (t u : TypeId) (x y : Operand) (ho : o.op = .binOp .eql t x y u) (xs ys : List Int) (hx : a.eval x = .agg (cellsB xs)) (hy : a.eval y = .agg (cellsB ys)) {n : Nat} {e : TypeId} (ht : P.underlying t = some (.array n e)) (he : P.underlying e = some (.int .u8)) (hs : (P.info? e).map (·.size) = some 1) (hg : P.eqGuardType P.depth t = false) (lx : xs.length = n) (ly : ys.length = n) :
    YieldsIf P ops S o (.bool (xs == ys)) a :=
  .inl ⟨hw, fun w _ => by
    unfold execOp
    have := (run_eqH (P := P) 0 t e n ht he hs hg xs ys lx ly x y w).1
    simp only [Sem.run_bind] at this
    simp only [ho, hx, hy, Sem.run_bind, Sem.run_pure]
    rw [this]
    rfl⟩
theorem yif_neq_H (hw : Region.wanted o (yielded ops a.tmps) = true) (t u : TypeId) (x y : Operand) (ho : o.op = .binOp .neq t x y u) (xs ys : List Int) (hx : a.eval x = .agg (cellsB xs)) (hy : a.eval y = .agg (cellsB ys)) {n : Nat} {e : TypeId} (ht : P.underlying t = some (.array n e)) (he : P.underlying e = some (.int .u8)) (hs : (P.info? e).map (·.size) = some 1) (hg : P.eqGuardType P.depth t = false) (lx : xs.length = n) (ly : ys.length = n) :
    YieldsIf P ops S o (.bool (!(xs == ys))) a :=
  .inl ⟨hw, fun w _ => by
    unfold execOp
    have := (run_eqH (P := P) 0 t e n ht he hs hg xs ys lx ly x y w).2
    simp only [Sem.run_bind] at this
    simp only [ho, hx, hy, Sem.run_bind, Sem.run_pure]
    rw [this]
    rfl⟩
end
theorem yif_eqb {P : Program} {ops : Array Oper} {S : World → Prop} {o : Oper} {a : Act} (b : Bool) (hw : Region.wanted o (yielded ops a.tmps) = true) (t u : TypeId) (x y : Operand) (ho : o.op = .binOp .eql t x y u) (xs ys : List Int) (hx : a.eval x = .agg (cellsB xs)) (hy : a.eval y = .agg (cellsB ys)) {n : Nat} {e : TypeId} (ht : P.underlying t = some (.array n e)) (he : P.underlying e = some (.int .u8)) (hs : (P.info? e).map (·.size) = some 1) (hg : P.eqGuardType P.depth t = false) (lx : xs.length = n) (ly : ys.length = n) (hb : (xs == ys) = b) :
    YieldsIf P ops S o (.bool b) a := by
  rw [← hb]
  exact yif_eq_H hw t u x y ho xs ys hx hy ht he hs hg lx ly
theorem reps_H1 (W : World) (x : List Int) (hx : x.length = 32) : Reps (kH.K W) kH.sz [x] (x.map (Value.int .u8)) := by
  refine ⟨by simp [hx, kH], fun j p hj => ?_⟩
  have hj0 : j = 0 := by
    have := (List.getElem?_eq_some_iff.1 hj).1
    simpa using this
  subst hj0
  obtain rfl : x = p := by simpa using hj
  refine ⟨hx, ?_⟩
  rw [Nat.zero_mul, List.drop_zero]
  exact List.take_of_length_le (by rw [List.length_map, hx]; exact Nat.le_refl _)
theorem eq_of_all {α : Type} [DecidableEq α] (d : α) (xs ys : List α) (hl : xs.length = ys.length) (h : ∀ j, j < xs.length → xs.getD j d = ys.getD j d) : xs = ys := by
  refine List.ext_getElem hl fun i h1 h2 => ?_
  have := h i h1
  rwa [List.getD_eq_getElem?_getD, List.getD_eq_getElem?_getD, List.getElem?_eq_getElem h1, List.getElem?_eq_getElem h2] at this
set_option maxHeartbeats 2000000 in
set_option maxRecDepth 100000 in
theorem same04_any (xs ys : List (List Int)) (hxs : Hshs xs) (hys : Hshs ys) (A1 A2 : Option Addr) (c1 c2 : Nat) (w : World) (hC1 : Kd.C kH w A1 xs.length xs) (hC2 : Kd.C kH w A2 ys.length ys) :
    Calls Try.prog 26 #[.slice A1 xs.length c1, .slice A2 ys.length c2] w fun e w' => e = .returned (.bool (decide (xs = ys))) ∧ Below w.heap.size w w' := by
  have HA := Aside0.mk hC1
  have HB := Aside0.mk hC2
  have hm1 := hC1.2.1
  have HX := Aside0.mk hxs
  have HY := Aside0.mk hys
  clear hC1 hC2 hxs hys
  obtain ⟨res, hres⟩ : ∃ b, b = decide (xs = ys) := ⟨_, rfl⟩
  rw [← hres]
  have HR := Aside0.mk hres
  clear hres
  by_cases hl : xs.length = ys.length
  · obtain ⟨n, hn⟩ : ∃ n, n = xs.length := ⟨_, rfl⟩
    rw [← hl] at HB ⊢
    rw [← hn] at HA HB hm1 ⊢
    have HL := Aside0.mk (And.intro hn (hn.trans hl))
    clear hn hl
    have hbn : ((n : Int) != (n : Int)) = false := by simp
    go_enter Try.func26, Try.ntmps26
    go_wp2_with fail
    go_loopw [5] (fun v5 wr => ∃ i : Nat, i ≤ n ∧ v5 = .int .i64 (i : Int) ∧ Aside0 (∀ j, j < i → at0 xs j = at0 ys j) ∧ Aside0 (Below w.heap.size w wr)) (fun v5 _ => n - (intOf v5).toNat)
    case atStart => exact ⟨0, Nat.zero_le _, rfl, ⟨fun j hj => by omega⟩, ⟨Below.refl _ _⟩⟩
    case round =>
      obtain ⟨i, hi, rfl, HE, HW⟩ := hrel
      by_cases hlt : i < n
      · have hdl : decide (i < n) = true := decide_eq_true hlt
        obtain ⟨b1, o1, rfl, hel1⟩ := elem_H HA.out (by omega)
        obtain ⟨b2, o2, rfl, hel2⟩ := elem_H HB.out (by omega)
        have hHx : Aside0 (Hsh (at0 xs i)) := ⟨Hshs_at HX.out i (by have := HL.out.1; omega)⟩
        have hHy : Aside0 (Hsh (at0 ys i)) := ⟨Hshs_at HY.out i (by have := HL.out.2; omega)⟩
        have hx := Aside0.mk (fun W (hb : Below w.heap.size w W) => (hel1 W (Kd.C_below HA.out hb) i hlt).2)
        have hy := Aside0.mk (fun W (hb : Below w.heap.size w W) => (hel2 W (Kd.C_below HB.out hb) i hlt).2)
        obtain ⟨x, hxe⟩ : ∃ x, x = at0 xs i := ⟨_, rfl⟩
        obtain ⟨y, hye⟩ : ∃ y, y = at0 ys i := ⟨_, rfl⟩
        have HXE := Aside0.mk hxe
        have HYE := Aside0.mk hye
        rw [← hxe] at hHx
        rw [← hye] at hHy
        rw [show xs.getD i [] = x from hxe.symm] at hx
        rw [show ys.getD i [] = y from hye.symm] at hy
        clear hel1 hel2 hxe hye
        have hi0 : (0 : Int) ≤ (i : Int) ∧ (i : Int) < (n : Int) := by omega
        obtain ⟨nb, hnb⟩ : ∃ nb : Bool, nb = !(x == y) := ⟨_, rfl⟩
        have HNB := Aside0.mk hnb
        clear hnb
        go_wp2_with fail
        refine wp_region_held_drew (S := (fun W => Below w.heap.size w W)) (by kernel_rfl) ?_ (fun hHeld => ?_)
        · exact below_drew HW.out
        refine wpAnyH_take (i := 0) (oi := { dst := some 17, op := Go.Op.move (Go.Operand.tmp 0), type := 26, pos := "ref.go:116", after := #[], guard := none }) (v := ?_) rfl (by kernel_rfl) (by kernel_rfl) (by kernel_rfl) (fun _ _ _ h => h) (Or.inl ⟨by rfl, ?_⟩) (by assumption) ?_
        rotate_left
        · intro wS hSw; (try dsimp only at hSw); go_simp; (try with_reducible rfl)
        try simp only [Act.put, List.setIfInBounds_toArray, List.set_cons_zero, List.set_cons_succ]
        refine wpAnyH_take (i := 1) (oi := { dst := some 18, op := Go.Op.move (Go.Operand.tmp 5), type := 3, pos := "ref.go:116", after := #[], guard := none }) (v := ?_) rfl (by kernel_rfl) (by kernel_rfl) (by kernel_rfl) (fun _ _ _ h => h) (Or.inl ⟨by rfl, ?_⟩) (by assumption) ?_
        rotate_left
        · intro wS hSw; (try dsimp only at hSw); go_simp; (try with_reducible rfl)
        try simp only [Act.put, List.setIfInBounds_toArray, List.set_cons_zero, List.set_cons_succ]
        refine wpAnyH_take (i := 2) (oi := { dst := some 19, op := Go.Op.indexAddr 26 (Go.Operand.tmp 17) (Go.Operand.tmp 18), type := 0, pos := "ref.go:116", after := #[{ on := 0, ground := Go.Ground.data }, { on := 1, ground := Go.Ground.data }], guard := none }) (v := ?_) rfl (by kernel_rfl) (by kernel_rfl) (by kernel_rfl) (fun _ _ _ h => h) (Or.inl ⟨by rfl, ?_⟩) (by assumption) ?_
        rotate_left
        · intro wS hSw; (try dsimp only at hSw); go_simp; (try with_reducible rfl)
        try simp only [Act.put, List.setIfInBounds_toArray, List.set_cons_zero, List.set_cons_succ]
        refine wpAnyH_take (i := 3) (oi := { dst := some 20, op := Go.Op.load 25 (Go.Operand.tmp 19), type := 25, pos := "ref.go:116", after := #[{ on := 2, ground := Go.Ground.data }], guard := none }) (v := .agg (cellsB x)) rfl (by kernel_rfl) (by kernel_rfl) (by kernel_rfl) (fun _ _ _ h => h) (yif_load_H (by rfl) 25 (.tmp 19) rfl ⟨b1, o1 + i * 32, none⟩ x rfl (fun W h => hx.out W h) Try.underlying25 (by rw [hHx.out.1]; kernel_rfl)) (by assumption) ?_
        try simp only [Act.put, List.setIfInBounds_toArray, List.set_cons_zero, List.set_cons_succ]
        refine wpAnyH_take (i := 4) (oi := { dst := some 21, op := Go.Op.move (Go.Operand.tmp 1), type := 26, pos := "ref.go:116", after := #[], guard := none }) (v := ?_) rfl (by kernel_rfl) (by kernel_rfl) (by kernel_rfl) (fun _ _ _ h => h) (Or.inl ⟨by rfl, ?_⟩) (by assumption) ?_
        rotate_left
        · intro wS hSw; (try dsimp only at hSw); go_simp; (try with_reducible rfl)
        try simp only [Act.put, List.setIfInBounds_toArray, List.set_cons_zero, List.set_cons_succ]
        refine wpAnyH_take (i := 5) (oi := { dst := some 22, op := Go.Op.move (Go.Operand.tmp 5), type := 3, pos := "ref.go:116", after := #[], guard := none }) (v := ?_) rfl (by kernel_rfl) (by kernel_rfl) (by kernel_rfl) (fun _ _ _ h => h) (Or.inl ⟨by rfl, ?_⟩) (by assumption) ?_
        rotate_left
        · intro wS hSw; (try dsimp only at hSw); go_simp; (try with_reducible rfl)
        try simp only [Act.put, List.setIfInBounds_toArray, List.set_cons_zero, List.set_cons_succ]
        refine wpAnyH_take (i := 6) (oi := { dst := some 23, op := Go.Op.indexAddr 26 (Go.Operand.tmp 21) (Go.Operand.tmp 22), type := 0, pos := "ref.go:116", after := #[{ on := 4, ground := Go.Ground.data }, { on := 5, ground := Go.Ground.data }], guard := none }) (v := ?_) rfl (by kernel_rfl) (by kernel_rfl) (by kernel_rfl) (fun _ _ _ h => h) (Or.inl ⟨by rfl, ?_⟩) (by assumption) ?_
        rotate_left
        · intro wS hSw; (try dsimp only at hSw); go_simp; (try with_reducible rfl)
        try simp only [Act.put, List.setIfInBounds_toArray, List.set_cons_zero, List.set_cons_succ]
        refine wpAnyH_take (i := 7) (oi := { dst := some 24, op := Go.Op.load 25 (Go.Operand.tmp 23), type := 25, pos := "ref.go:116", after := #[{ on := 6, ground := Go.Ground.data }], guard := none }) (v := .agg (cellsB y)) rfl (by kernel_rfl) (by kernel_rfl) (by kernel_rfl) (fun _ _ _ h => h) (yif_load_H (by rfl) 25 (.tmp 23) rfl ⟨b2, o2 + i * 32, none⟩ y rfl (fun W h => hy.out W h) Try.underlying25 (by rw [hHy.out.1]; kernel_rfl)) (by assumption) ?_
        try simp only [Act.put, List.setIfInBounds_toArray, List.set_cons_zero, List.set_cons_succ]
        refine wpAnyH_take (i := 8) (oi := { dst := some 25, op := Go.Op.binOp Go.BinOp.neq 25 (Go.Operand.tmp 20) (Go.Operand.tmp 24) 25, type := 4, pos := "ref.go:116", after := #[{ on := 3, ground := Go.Ground.data }, { on := 7, ground := Go.Ground.data }], guard := none }) (v := .bool nb) rfl (by kernel_rfl) (by kernel_rfl) (by kernel_rfl) (fun _ _ _ h => h) (by rw [HNB.out]; exact yif_neq_H (by rfl) 25 _ (.tmp 20) (.tmp 24) rfl x y rfl rfl Try.underlying25 Try.underlying5 size1B guardH hHx.out.1 hHy.out.1) (by assumption) ?_
        try simp only [Act.put, List.setIfInBounds_toArray, List.set_cons_zero, List.set_cons_succ]
        refine wpAnyH_done (by kernel_rfl) ?_ _
        have HW2 := Aside0.mk (below_drew HW.out)
        clear hi0
        cases nb with
        | false =>
          have HE3 : Aside0 (∀ j, j < i + 1 → at0 xs j = at0 ys j) := ⟨fun j hj => by
            by_cases e : j = i
            · rw [e, ← HXE.out, ← HYE.out]; have := HNB.out; simpa using this.symm
            · exact HE.out j (by omega)⟩
          go_wp2_with fail
          go_roundw
          case rel => exact ⟨i + 1, hlt, by go_num, HE3, HW2⟩
          case measure => simp [intOf]; omega
        | true =>
          have HE3 : Aside0 (res = false) := ⟨by rw [HR.out]; exact decide_eq_false fun e => by have h := HNB.out; rw [HXE.out, HYE.out, e] at h; simp at h⟩
          go_wp2_with fail
          go_ret
          exact ⟨by rw [HE3.out]; rfl, HW2.out⟩
      · have hdl : decide (i < n) = false := decide_eq_false hlt
        obtain rfl : i = n := by omega
        have HE2 : Aside0 (res = true) := ⟨by rw [HR.out]; exact decide_eq_true (eq_of_all [] xs ys (by rw [← HL.out.1, ← HL.out.2]) (by rw [← HL.out.1]; exact HE.out))⟩
        go_wp2_with fail
        go_ret
        exact ⟨by rw [HE2.out]; rfl, HW.out⟩
  · have HE2 : Aside0 (res = false) := ⟨by rw [HR.out]; exact decide_eq_false fun e => hl (by rw [e])⟩
    rw [HE2.out]
    have hbn : ((xs.length : Int) != (ys.length : Int)) = true := by rw [bne_iff_ne]; omega
    clear hl HR HA HB
    generalize xs.length = n1 at *
    generalize ys.length = n2 at *
    go_enter Try.func26, Try.ntmps26
    go_wp2_with fail
    go_ret
    exact ⟨rfl, Below.refl _ _⟩
set_option maxHeartbeats 2000000 in
set_option maxRecDepth 100000 in
theorem same11_any (xs ys : List Int) (A1 A2 : Option Addr) (c1 c2 : Nat) (w : World) (hC1 : Kd.C kU w A1 xs.length xs) (hC2 : Kd.C kU w A2 ys.length ys) :
    Calls Try.prog 24 #[.slice A1 xs.length c1, .slice A2 ys.length c2] w fun e w' => e = .returned (.bool (decide (xs = ys))) ∧ Below w.heap.size w w' := by
  have HA := Aside0.mk hC1
  have HB := Aside0.mk hC2
  have hm1 := hC1.2.1
  clear hC1 hC2
  obtain ⟨res, hres⟩ : ∃ b, b = decide (xs = ys) := ⟨_, rfl⟩
  rw [← hres]
  have HR := Aside0.mk hres
  clear hres
  by_cases hl : xs.length = ys.length
  · obtain ⟨n, hn⟩ : ∃ n, n = xs.length := ⟨_, rfl⟩
    rw [← hl] at HB ⊢
    rw [← hn] at HA HB hm1 ⊢
    have HL := Aside0.mk (And.intro hn (hn.trans hl))
    clear hn hl
    have hbn : ((n : Int) != (n : Int)) = false := by simp
    go_enter Try.func24, Try.ntmps24
    go_wp2_with fail
    go_loopw [5] (fun v5 wr => ∃ i : Nat, i ≤ n ∧ v5 = .int .i64 (i : Int) ∧ Aside0 (∀ j, j < i → xs.getD j 0 = ys.getD j 0) ∧ Aside0 (Below w.heap.size w wr)) (fun v5 _ => n - (intOf v5).toNat)
    case atStart => exact ⟨0, Nat.zero_le _, rfl, ⟨fun j hj => by omega⟩, ⟨Below.refl _ _⟩⟩
    case round =>
      obtain ⟨i, hi, rfl, HE, HW⟩ := hrel
      by_cases hlt : i < n
      · have hdl : decide (i < n) = true := decide_eq_true hlt
        obtain ⟨a1, rfl, hx⟩ := Kd.at_int (Kd.C_below HA.out HW.out) (i : Int) (Int.natCast_nonneg i) (by omega)
        obtain ⟨a2, rfl, hy⟩ := Kd.at_int (Kd.C_below HB.out HW.out) (i : Int) (Int.natCast_nonneg i) (by omega)
        rw [Int.toNat_natCast] at hx hy
        have HXE : Aside0 (rd xs (i : Int) = xs.getD i 0) := ⟨by simp [rd]⟩
        have HYE : Aside0 (rd ys (i : Int) = ys.getD i 0) := ⟨by simp [rd]⟩
        generalize rd xs (i : Int) = x at *
        generalize rd ys (i : Int) = y at *
        have hi0 : (0 : Int) ≤ (i : Int) ∧ (i : Int) < (n : Int) := by omega
        obtain ⟨nb, hnb⟩ : ∃ nb : Bool, nb = (x != y) := ⟨_, rfl⟩
        have hnb' := hnb.symm
        have HNB := Aside0.mk hnb
        clear hnb
        go_wp2_with fail
        refine wp_region_held_drew (S := (fun W => W.cell? (a1.add i) = some (.int .u64 x) ∧ W.cell? (a2.add i) = some (.int .u64 y))) (by kernel_rfl) ?_ (fun hHeld => ?_)
        · exact ⟨hx, hy⟩
        refine wpAnyH_take (i := 0) (oi := { dst := some 17, op := Go.Op.move (Go.Operand.tmp 0), type := 22, pos := "law.go:32", after := #[], guard := none }) (v := ?_) rfl (by kernel_rfl) (by kernel_rfl) (by kernel_rfl) (fun _ _ _ h => h) (Or.inl ⟨by rfl, ?_⟩) (by assumption) ?_
        rotate_left
        · intro wS hSw; (try dsimp only at hSw); go_simp; (try with_reducible rfl)
        try simp only [Act.put, List.setIfInBounds_toArray, List.set_cons_zero, List.set_cons_succ]
        refine wpAnyH_take (i := 1) (oi := { dst := some 18, op := Go.Op.move (Go.Operand.tmp 5), type := 3, pos := "law.go:32", after := #[], guard := none }) (v := ?_) rfl (by kernel_rfl) (by kernel_rfl) (by kernel_rfl) (fun _ _ _ h => h) (Or.inl ⟨by rfl, ?_⟩) (by assumption) ?_
        rotate_left
        · intro wS hSw; (try dsimp only at hSw); go_simp; (try with_reducible rfl)
        try simp only [Act.put, List.setIfInBounds_toArray, List.set_cons_zero, List.set_cons_succ]
        refine wpAnyH_take (i := 2) (oi := { dst := some 19, op := Go.Op.indexAddr 22 (Go.Operand.tmp 17) (Go.Operand.tmp 18), type := 0, pos := "law.go:32", after := #[{ on := 0, ground := Go.Ground.data }, { on := 1, ground := Go.Ground.data }], guard := none }) (v := ?_) rfl (by kernel_rfl) (by kernel_rfl) (by kernel_rfl) (fun _ _ _ h => h) (Or.inl ⟨by rfl, ?_⟩) (by assumption) ?_
        rotate_left
        · intro wS hSw; (try dsimp only at hSw); go_simp; (try with_reducible rfl)
        try simp only [Act.put, List.setIfInBounds_toArray, List.set_cons_zero, List.set_cons_succ]
        refine wpAnyH_take (i := 3) (oi := { dst := some 20, op := Go.Op.load 23 (Go.Operand.tmp 19), type := 23, pos := "law.go:32", after := #[{ on := 2, ground := Go.Ground.data }], guard := none }) (v := ?_) rfl (by kernel_rfl) (by kernel_rfl) (by kernel_rfl) (fun _ _ _ h => h) (Or.inl ⟨by rfl, ?_⟩) (by assumption) ?_
        rotate_left
        · intro wS hSw; (try dsimp only at hSw); go_simp; (try with_reducible rfl)
        try simp only [Act.put, List.setIfInBounds_toArray, List.set_cons_zero, List.set_cons_succ]
        refine wpAnyH_take (i := 4) (oi := { dst := some 21, op := Go.Op.move (Go.Operand.tmp 1), type := 22, pos := "law.go:32", after := #[], guard := none }) (v := ?_) rfl (by kernel_rfl) (by kernel_rfl) (by kernel_rfl) (fun _ _ _ h => h) (Or.inl ⟨by rfl, ?_⟩) (by assumption) ?_
        rotate_left
        · intro wS hSw; (try dsimp only at hSw); go_simp; (try with_reducible rfl)
        try simp only [Act.put, List.setIfInBounds_toArray, List.set_cons_zero, List.set_cons_succ]
        refine wpAnyH_take (i := 5) (oi := { dst := some 22, op := Go.Op.move (Go.Operand.tmp 5), type := 3, pos := "law.go:32", after := #[], guard := none }) (v := ?_) rfl (by kernel_rfl) (by kernel_rfl) (by kernel_rfl) (fun _ _ _ h => h) (Or.inl ⟨by rfl, ?_⟩) (by assumption) ?_
        rotate_left
        · intro wS hSw; (try dsimp only at hSw); go_simp; (try with_reducible rfl)
        try simp only [Act.put, List.setIfInBounds_toArray, List.set_cons_zero, List.set_cons_succ]
        refine wpAnyH_take (i := 6) (oi := { dst := some 23, op := Go.Op.indexAddr 22 (Go.Operand.tmp 21) (Go.Operand.tmp 22), type := 0, pos := "law.go:32", after := #[{ on := 4, ground := Go.Ground.data }, { on := 5, ground := Go.Ground.data }], guard := none }) (v := ?_) rfl (by kernel_rfl) (by kernel_rfl) (by kernel_rfl) (fun _ _ _ h => h) (Or.inl ⟨by rfl, ?_⟩) (by assumption) ?_
        rotate_left
        · intro wS hSw; (try dsimp only at hSw); go_simp; (try with_reducible rfl)
        try simp only [Act.put, List.setIfInBounds_toArray, List.set_cons_zero, List.set_cons_succ]
        refine wpAnyH_take (i := 7) (oi := { dst := some 24, op := Go.Op.load 23 (Go.Operand.tmp 23), type := 23, pos := "law.go:32", after := #[{ on := 6, ground := Go.Ground.data }], guard := none }) (v := ?_) rfl (by kernel_rfl) (by kernel_rfl) (by kernel_rfl) (fun _ _ _ h => h) (Or.inl ⟨by rfl, ?_⟩) (by assumption) ?_
        rotate_left
        · intro wS hSw; (try dsimp only at hSw); go_simp; (try with_reducible rfl)
        try simp only [Act.put, List.setIfInBounds_toArray, List.set_cons_zero, List.set_cons_succ]
        refine wpAnyH_take (i := 8) (oi := { dst := some 25, op := Go.Op.binOp Go.BinOp.neq 23 (Go.Operand.tmp 20) (Go.Operand.tmp 24) 23, type := 4, pos := "law.go:32", after := #[{ on := 3, ground := Go.Ground.data }, { on := 7, ground := Go.Ground.data }], guard := none }) (v := ?_) rfl (by kernel_rfl) (by kernel_rfl) (by kernel_rfl) (fun _ _ _ h => h) (Or.inl ⟨by rfl, ?_⟩) (by assumption) ?_
        rotate_left
        · intro wS hSw; (try dsimp only at hSw); go_simp; (try with_reducible rfl)
        try simp only [Act.put, List.setIfInBounds_toArray, List.set_cons_zero, List.set_cons_succ]
        refine wpAnyH_done (by kernel_rfl) ?_ _
        have HW2 := Aside0.mk (below_drew HW.out)
        clear hi0 hHeld hx hy hnb'
        cases nb with
        | false =>
          have HE3 : Aside0 (∀ j, j < i + 1 → xs.getD j 0 = ys.getD j 0) := ⟨fun j hj => by
            by_cases e : j = i
            · rw [e, ← HXE.out, ← HYE.out]; have := HNB.out; simpa using this.symm
            · exact HE.out j (by omega)⟩
          go_wp2_with fail
          go_roundw
          case rel => exact ⟨i + 1, hlt, by go_num, HE3, HW2⟩
          case measure => simp [intOf]; omega
        | true =>
          have HE3 : Aside0 (res = false) := ⟨by rw [HR.out]; exact decide_eq_false fun e => by have h := HNB.out; rw [HXE.out, HYE.out, e] at h; simp at h⟩
          go_wp2_with fail
          go_ret
          exact ⟨by rw [HE3.out]; rfl, HW2.out⟩
      · have hdl : decide (i < n) = false := decide_eq_false hlt
        obtain rfl : i = n := by omega
        have HE2 : Aside0 (res = true) := ⟨by rw [HR.out]; exact decide_eq_true (eq_of_all 0 xs ys (by rw [← HL.out.1, ← HL.out.2]) (by rw [← HL.out.1]; exact HE.out))⟩
        go_wp2_with fail
        go_ret
        exact ⟨by rw [HE2.out]; rfl, HW.out⟩
  · have HE2 : Aside0 (res = false) := ⟨by rw [HR.out]; exact decide_eq_false fun e => hl (by rw [e])⟩
    rw [HE2.out]
    have hbn : ((xs.length : Int) != (ys.length : Int)) = true := by rw [bne_iff_ne]; omega
    clear hl HR HA HB
    generalize xs.length = n1 at *
    generalize ys.length = n2 at *
    go_enter Try.func24, Try.ntmps24
    go_wp2_with fail
    go_ret
    exact ⟨rfl, Below.refl _ _⟩
set_option maxHeartbeats 1000000 in
set_option maxRecDepth 100000 in
theorem prove11_yes (D : Nat) (hD : D ≤ 12) (ws : List Int) (hl : ws.length = 2 ^ D) (hw : Wrd ws) (at_ : Nat) (ha : at_ < ws.length) (A : Option Addr) (c : Nat) (hc : ws.length ≤ c) (w : World) (hC : Kd.C kU w A ws.length ws) :
    Calls Try.prog 23 #[.slice A ws.length c, .int .u64 (at_ : Int)] w fun e w' => ∃ v, e = .returned (.tuple #[v, .int .i64 0]) ∧ Own w.heap.size w w' [.row kH 25 v (proofP D (leavesW ws) at_)] := by
  have hn4 : ws.length ≤ 4096 := by rw [hl]; exact Nat.pow_le_pow_right (by decide) hD
  have HD := Aside0.mk (fun W => depth_any D ws.length hD hl.symm W)
  have HLV := Aside0.mk (leaves_any ws hw A c w hC hc (by omega))
  have HPF := Aside0.mk (fun A c hc W h => proof04_ok D (by omega) (leavesW ws) (by rw [leavesW_len, hl]) at_ (by rw [← hl]; exact ha) (Hshs_leaves ws) A c hc W h)
  rw [leavesW_len] at HPF
  have H0 := Aside0.mk (Own.start w)
  have hd : decide (ws.length ≤ at_) = false := decide_eq_false (by omega)
  have hw : IntKind.u64.wrap (ws.length : Int) = (ws.length : Int) := by rw [IntKind.wrap_u64]; omega
  have hwa : IntKind.i64.wrap (at_ : Int) = (at_ : Int) := IntWalk.i64_in _ (by omega)
  generalize proofP D (leavesW ws) at_ = pf at *
  have HLL := Aside0.mk (leavesW_len ws)
  generalize leavesW ws = ls at *
  clear hC hl
  generalize ws.length = n at *
  go_enter Try.func23, Try.ntmps23
  go_wp2_with fail
  refine (HD.out _).mono ?_
  rintro e w1 ⟨rfl, rfl⟩
  go_wp2_with fail
  refine HLV.out.mono ?_
  rintro e w2 ⟨v, rfl, hO⟩
  obtain ⟨A2, c2, rfl, hc2, hC2⟩ := hO.reads 0 rfl
  rw [HLL.out] at hc2 hC2 hO ⊢
  have HX := Aside0.mk (HPF.out A2 c2 hc2 w2 hC2)
  have H2 := Aside0.mk (hO.erase 0)
  clear hc2 hC2 hO
  go_wp2_with fail
  refine HX.out.mono ?_
  rintro e w3 ⟨v, rfl, hO⟩
  have H3 := Aside0.mk (H2.out.call hO)
  clear hO
  go_wp2_with fail
  go_ret2
  exact ⟨v, rfl, H3.out⟩
end Go.Proofs.Ytocphkfkdadhaaa.H

namespace Go.Proofs.Ytocphkfkdadhaaa.H
open Go.RowKit Go.Proofs.YtocphkfkdadhaaaW.PrintWords Go.Proofs.YtocphkfkdadhaaaW.PrintLast Go.Proofs.YtocphkfkdadhaaaW.PrintMore
set_option linter.unusedVariables false
set_option linter.unusedSimpArgs false
theorem step_of_run {P : Program} {ops : Array Oper} {o : Oper} {a : Act} {Q : Exit → Act → World → Prop} {Kc : Act → World → Prop} {W W1 : World} {v : Value} (hw : Region.wanted o (yielded ops a.tmps) = true) (hrun : (execOp a.eval o).run P W = .ok (.value v) W1) (h : Kc (a.put o.dst v) W1) :
    if Region.wanted o (yielded ops a.tmps) = true then Oper.wp P o a W Kc Q else Kc (a.put o.dst undef) W := by
  rw [if_pos hw]
  unfold Oper.wp
  rw [hrun]
  exact h
theorem be8I_1 : be8I 1 = [0, 0, 0, 0, 0, 0, 0, 1] := by decide
theorem be8I_2 : be8I 2 = [0, 0, 0, 0, 0, 0, 0, 2] := by decide
theorem anch_root : memroot 1 [1, 2] = pairI (leafW 1) (leafW 2) := by
  show rootP 1 (leavesW [1, 2]) = _
  simp [rootP, leavesW]
theorem anch_yes : chkI (pairI (leafW 1) (leafW 2)) 1 2 [leafW 1] = true := by
  unfold chkI
  have : foldI 1 (leafW 2) [leafW 1] = pairI (leafW 1) (leafW 2) := rfl
  rw [this]; simp
theorem anch_no : chkI (pairI (leafW 1) (leafW 2)) 1 3 [leafW 1] = false := by
  decide +kernel
set_option maxHeartbeats 2000000 in
set_option maxRecDepth 100000 in
theorem anchored11 (w : World) : Calls Try.prog 18 #[] w fun e w' => e = .returned (.bool true) ∧ Below w.heap.size w w' := by
  have H0 := Aside0.mk (Own.start w)
  have R32 : Aside0 (Arr 32 (Array.replicate 32 (.int .u8 0))) := ⟨Arr_rep _ _ rfl⟩
  have HL1 := Aside0.mk (fun A c W hC hc => rleaf_any A c [0, 0, 0, 0, 0, 0, 0, 1] W (by unfold Byt; decide) hC hc (by decide))
  have HL2 := Aside0.mk (fun A c W hC hc => rleaf_any A c [0, 0, 0, 0, 0, 0, 0, 2] W (by unfold Byt; decide) hC hc (by decide))
  rw [← be8I_1] at HL1
  rw [← be8I_2] at HL2
  have e1 : leafI (be8I 1) = leafW 1 := rfl
  have e2 : leafI (be8I 2) = leafW 2 := rfl
  rw [e1] at HL1
  rw [e2] at HL2
  have HR : Aside0 (∀ A c W, Kd.C kU W A 2 [1, 2] → 2 ≤ c → Calls Try.prog 14 #[.slice A 2 c] W fun e w' => e = .returned (.tuple #[.agg (cellsB (pairI (leafW 1) (leafW 2))), .int .i64 0]) ∧ Below W.heap.size W w') := ⟨fun A c W hC hc => by
    have h := memroot_yes 1 (by decide) [1, 2] rfl (by unfold Wrd; decide) A c hc W hC
    rw [anch_root] at h
    exact h⟩
  have ha : Hsh (leafW 1) := Hsh_leaf 1
  have hb : Hsh (leafW 2) := Hsh_leaf 2
  have hr : Hsh (pairI (leafW 1) (leafW 2)) := Hsh_pair _ _
  have hps : Hshs [leafW 1] := by intro x hx; rw [List.mem_singleton.1 hx]; exact ha
  have HP := Aside0.mk (fun W => rpair_any (leafW 1) (leafW 2) ha.1 hb.1 ha.2 hb.2 W)
  have HY : Aside0 (∀ A c W, Kd.C kH W A 1 [leafW 1] → 1 ≤ c → Calls Try.prog 16 #[.agg (cellsB (pairI (leafW 1) (leafW 2))), .int .u64 1, .int .u64 2, .slice A 1 c] W fun e w' => e = .returned (.bool true) ∧ Below W.heap.size W w') := ⟨fun A c W hC hc => by
    have h := memcheck_any (pairI (leafW 1) (leafW 2)) 1 2 [leafW 1] (by decide) (by decide) hr hps A c hc W hC
    rw [anch_yes] at h
    exact h⟩
  have HN : Aside0 (∀ A c W, Kd.C kH W A 1 [leafW 1] → 1 ≤ c → Calls Try.prog 16 #[.agg (cellsB (pairI (leafW 1) (leafW 2))), .int .u64 1, .int .u64 3, .slice A 1 c] W fun e w' => e = .returned (.bool false) ∧ Below W.heap.size W w') := ⟨fun A c W hC hc => by
    have h := memcheck_any (pairI (leafW 1) (leafW 2)) 1 3 [leafW 1] (by decide) (by decide) hr hps A c hc W hC
    rw [anch_no] at h
    exact h⟩
  have HH := Aside0.mk (And.intro ha (And.intro hb hr))
  have HA := Aside0.mk (Arr_B ha.1)
  have HB := Aside0.mk (Arr_B hb.1)
  have HRA := Aside0.mk (Arr_B hr.1)
  have hl8 : (be8I 1).length = 8 := rfl
  have hl9 : (be8I 2).length = 8 := rfl
  rw [hl8] at HL1
  rw [hl9] at HL2
  rw [be8I_1] at HL1
  rw [be8I_2] at HL2
  clear e1 e2 ha hb hr hps hl8 hl9
  generalize leafW 1 = la at *
  generalize leafW 2 = lb at *
  generalize pairI la lb = r at *
  go_enter Try.func18, Try.ntmps18
  go_wp2_with (first
    | fail
    | ((with_reducible refine gate_dst (N := 5) rfl ?_); refine own_lit kB Flat_B H0.out 5 rfl (N := 5) rfl (xs := [0, 0, 0, 0, 0, 0, 0, 1]) (inner := ([0, 0, 0, 0, 0, 0, 0, 1]).map (Value.int .u8)) ?hr5 (Kd.reps_scalar _) (by simp) ?_; (case hr5 => first | (go_simp; done) | (go_simp; rfl)); intro A5 c5 w5 H5 B5; replace H5 := Aside0.mk H5; replace B5 := Aside0.mk B5)
    )
  refine (HL1.out A5 c5 w5 (H5.out.C_of 0 rfl) (by obtain ⟨A', c', he, hc', _⟩ := H5.out.reads 0 rfl; injection he with e1 e2 e3; subst e3; exact hc')).mono ?_
  rintro e w6 ⟨rfl, hB6⟩
  have H6 := Aside0.mk (H5.out.step hB6)
  clear hB6
  go_wp2_with (first
    | fail
    | ((with_reducible refine gate_dst (N := 7) rfl ?_); refine own_lit kB Flat_B H6.out 5 rfl (N := 7) rfl (xs := [0, 0, 0, 0, 0, 0, 0, 2]) (inner := ([0, 0, 0, 0, 0, 0, 0, 2]).map (Value.int .u8)) ?hr7 (Kd.reps_scalar _) (by simp) ?_; (case hr7 => first | (go_simp; done) | (go_simp; rfl)); intro A7 c7 w7 H7 B7; replace H7 := Aside0.mk H7; replace B7 := Aside0.mk B7)
    )
  refine (HL2.out A7 c7 w7 (H7.out.C_of 0 rfl) (by obtain ⟨A', c', he, hc', _⟩ := H7.out.reads 0 rfl; injection he with e1 e2 e3; subst e3; exact hc')).mono ?_
  rintro e w8 ⟨rfl, hB8⟩
  have H8 := Aside0.mk ((H7.out.step hB8).erase 0)
  clear hB8
  go_wp2_with (first
    | fail
    | ((with_reducible refine gate_dst (N := 1) rfl ?_); refine own_alloc H8.out rfl (N := 1) rfl (t := 25) rfl (Array.replicate 32 (.int .u8 0)) 32 (by kernel_rfl) ?_; intro g1 w9 H9 B9; replace H9 := Aside0.mk H9; replace B9 := Aside0.mk B9)
    | ((with_reducible refine gate_dst (N := 2) rfl ?_); refine own_alloc H9.out rfl (N := 2) rfl (t := 25) rfl (Array.replicate 32 (.int .u8 0)) 32 (by kernel_rfl) ?_; intro g2 w10 H10 B10; replace H10 := Aside0.mk H10; replace B10 := Aside0.mk B10)
    | ((with_reducible refine own_store H10.out 1 g1 _ 25 rfl rfl (.tmp 1) (.tmp 6) rfl (cellsB la) ?_ ?_ 32 R32.out HA.out (by kernel_rfl) ?_); (case _ => rfl); (case _ => rfl); intro w11 H11; replace H11 := Aside0.mk H11)
    | ((with_reducible refine own_store H11.out 0 g2 _ 25 rfl rfl (.tmp 2) (.tmp 8) rfl (cellsB lb) ?_ ?_ 32 R32.out HB.out (by kernel_rfl) ?_); (case _ => rfl); (case _ => rfl); intro w12 H12; replace H12 := Aside0.mk H12)
    | ((with_reducible refine gate_dst (N := 10) rfl ?_); refine own_lit kU Flat_U H12.out 23 rfl (N := 10) rfl (xs := ([1, 2] : List Int)) (inner := (([1, 2] : List Int)).map (Value.int .u64)) ?hr10 (Kd.reps_scalar _) (by simp) ?_; (case hr10 => first | (go_simp; done) | (go_simp; rfl)); intro A13 c13 w13 H13 B13; replace H13 := Aside0.mk H13; replace B13 := Aside0.mk B13)
    )
  refine (HR.out A13 c13 w13 (H13.out.C_of 0 rfl) (by obtain ⟨A', c', he, hc', _⟩ := H13.out.reads 0 rfl; injection he with e1 e2 e3; subst e3; exact hc')).mono ?_
  rintro e w14 ⟨rfl, hB14⟩
  have H14 := Aside0.mk ((H13.out.step hB14).erase 0)
  clear hB14
  go_wp2_with (first
    | fail
    | ((with_reducible refine gate_dst (N := 3) rfl ?_); refine own_alloc H14.out rfl (N := 3) rfl (t := 25) rfl (Array.replicate 32 (.int .u8 0)) 32 (by kernel_rfl) ?_; intro g3 w15 H15 B15; replace H15 := Aside0.mk H15; replace B15 := Aside0.mk B15)
    | ((with_reducible refine own_store H15.out 0 g3 _ 25 rfl rfl (.tmp 3) (.tmp 12) rfl (cellsB r) ?_ ?_ 32 R32.out HRA.out (by kernel_rfl) ?_); (case _ => rfl); (case _ => rfl); intro w16 H16; replace H16 := Aside0.mk H16)
    )
  have hhp := Try.underlying25
  have HS : Aside0 (∀ W L, Own w.heap.size w W (.blk g3 (cellsB r) 25 :: .blk g2 (cellsB lb) 25 :: .blk g1 (cellsB la) 25 :: L) → W.heap[g3]? = some (.cells (cellsB r) 25 (0, 0)) ∧ W.heap[g2]? = some (.cells (cellsB lb) 25 (0, 0)) ∧ W.heap[g1]? = some (.cells (cellsB la) 25 (0, 0))) := ⟨fun W L h => ⟨h.get 0 rfl, h.get 1 rfl, h.get 2 rfl⟩⟩
  have HZ : Aside0 (∀ xs : List Int, Hsh xs → (Try.prog.info? 25).map (·.size) = some (cellsB xs).size) := ⟨fun xs h => by rw [(Arr_B h.1).1]; kernel_rfl⟩
  refine wp_region_held_drew (S := (fun W => W.heap[g3]? = some (.cells (cellsB r) 25 (0, 0)) ∧ W.heap[g2]? = some (.cells (cellsB lb) 25 (0, 0)) ∧ W.heap[g1]? = some (.cells (cellsB la) 25 (0, 0)))) (by kernel_rfl) ?_ (fun hHeld => ?_)
  · exact HS.out _ _ H16.out.drew
  refine wpAnyH_take (i := 0) (oi := { dst := some 14, op := Go.Op.move (Go.Operand.tmp 4), type := 29, pos := "law.go:17", after := #[], guard := none }) (v := ?_) rfl (by kernel_rfl) (by kernel_rfl) (by kernel_rfl) (fun _ _ _ h => h) (Or.inl ⟨by rfl, ?_⟩) (by assumption) ?_
  rotate_left
  · intro wS hSw; (try dsimp only at hSw); go_simp; (try with_reducible rfl)
  try simp only [Act.put, List.setIfInBounds_toArray, List.set_cons_zero, List.set_cons_succ]
  refine wpAnyH_take (i := 1) (oi := { dst := some 15, op := Go.Op.binOp Go.BinOp.eql 29 (Go.Operand.tmp 14) (Go.Operand.const (Go.Value.int Go.IntKind.i64 0)) 29, type := 4, pos := "law.go:17", after := #[{ on := 0, ground := Go.Ground.data }], guard := none }) (v := ?_) rfl (by kernel_rfl) (by kernel_rfl) (by kernel_rfl) (fun _ _ _ h => h) (Or.inl ⟨by rfl, ?_⟩) (by assumption) ?_
  rotate_left
  · intro wS hSw; (try dsimp only at hSw); go_simp; (try with_reducible rfl)
  try simp only [Act.put, List.setIfInBounds_toArray, List.set_cons_zero, List.set_cons_succ]
  refine wpAnyH_take (i := 2) (oi := { dst := some 16, op := Go.Op.move (Go.Operand.tmp 15), type := 4, pos := "law.go:17", after := #[{ on := 1, ground := Go.Ground.data }], guard := none }) (v := ?_) rfl (by kernel_rfl) (by kernel_rfl) (by kernel_rfl) (fun _ _ _ h => h) (Or.inl ⟨by rfl, ?_⟩) (by assumption) ?_
  rotate_left
  · intro wS hSw; (try dsimp only at hSw); go_simp; (try with_reducible rfl)
  try simp only [Act.put, List.setIfInBounds_toArray, List.set_cons_zero, List.set_cons_succ]
  refine wpAnyH_take (i := 3) (oi := { dst := some 17, op := Go.Op.load 25 (Go.Operand.tmp 3), type := 25, pos := "law.go:17", after := #[{ on := 2, ground := Go.Ground.guard }], guard := some (2, true) }) (v := .agg (cellsB r)) rfl (by kernel_rfl) (by kernel_rfl) (by kernel_rfl) (fun _ _ _ h => h) (yif_loadV (by rfl) 25 (.tmp 3) rfl g3 _ rfl (fun W h => h.1) _ hhp rfl (HZ.out r HH.out.2.2)) (by assumption) ?_
  try simp only [Act.put, List.setIfInBounds_toArray, List.set_cons_zero, List.set_cons_succ]
  refine wpAnyH_take (i := 4) (oi := { dst := some 18, op := Go.Op.load 25 (Go.Operand.tmp 1), type := 25, pos := "law.go:17", after := #[{ on := 2, ground := Go.Ground.guard }], guard := some (2, true) }) (v := .agg (cellsB la)) rfl (by kernel_rfl) (by kernel_rfl) (by kernel_rfl) (fun _ _ _ h => h) (yif_loadV (by rfl) 25 (.tmp 1) rfl g1 _ rfl (fun W h => h.2.2) _ hhp rfl (HZ.out la HH.out.1)) (by assumption) ?_
  try simp only [Act.put, List.setIfInBounds_toArray, List.set_cons_zero, List.set_cons_succ]
  refine wpAnyH_take (i := 5) (oi := { dst := some 19, op := Go.Op.load 25 (Go.Operand.tmp 2), type := 25, pos := "law.go:17", after := #[{ on := 2, ground := Go.Ground.guard }], guard := some (2, true) }) (v := .agg (cellsB lb)) rfl (by kernel_rfl) (by kernel_rfl) (by kernel_rfl) (fun _ _ _ h => h) (yif_loadV (by rfl) 25 (.tmp 2) rfl g2 _ rfl (fun W h => h.2.1) _ hhp rfl (HZ.out lb HH.out.2.1)) (by assumption) ?_
  try simp only [Act.put, List.setIfInBounds_toArray, List.set_cons_zero, List.set_cons_succ]
  refine wpAnyH_ready (rs := [6]) (by kernel_rfl) (by simp) ?_
  refine AllReadyH.cons (o := { dst := some 20, op := Go.Op.call { callee := Go.Callee.value (Go.Operand.func 66), args := #[Go.Operand.tmp 18, Go.Operand.tmp 19], argTypes := #[25, 25] }, type := 25, pos := "law.go:17", after := #[{ on := 4, ground := Go.Ground.data }, { on := 5, ground := Go.Ground.data }, { on := 2, ground := Go.Ground.chain }, { on := 2, ground := Go.Ground.guard }], guard := some (2, true) }) rfl (fun K hK => ?_) AllReadyH.nil
  go_simp
  refine (HP.out _).mono ?_
  rintro e w20 ⟨rfl, hB20⟩
  have H20 := Aside0.mk (H16.out.drew.step hB20)
  clear hB20
  go_wp2_with fail
  refine hK.out _ _ ?_ (fun hHeld => ?_)
  · exact HS.out _ _ H20.out
  clear hK K
  try simp only [Act.put, List.setIfInBounds_toArray, List.set_cons_zero, List.set_cons_succ]
  refine wpAnyH_take (i := 7) (oi := { dst := some 21, op := Go.Op.binOp Go.BinOp.eql 25 (Go.Operand.tmp 17) (Go.Operand.tmp 20) 25, type := 4, pos := "law.go:17", after := #[{ on := 3, ground := Go.Ground.data }, { on := 6, ground := Go.Ground.data }, { on := 2, ground := Go.Ground.guard }], guard := some (2, true) }) (v := .bool true) rfl (by kernel_rfl) (by kernel_rfl) (by kernel_rfl) (fun _ _ _ h => h) (yif_eqb true (by rfl) 25 _ (.tmp 17) (.tmp 20) rfl r r rfl rfl Try.underlying25 Try.underlying5 size1B guardH HH.out.2.2.1 HH.out.2.2.1 (beq_self_eq_true r)) (by assumption) ?_
  try simp only [Act.put, List.setIfInBounds_toArray, List.set_cons_zero, List.set_cons_succ]
  refine wpAnyH_take (i := 8) (oi := { dst := some 22, op := Go.Op.pick (Go.Operand.tmp 16) (Go.Operand.tmp 21) (Go.Operand.const (Go.Value.bool false)), type := 4, pos := "law.go:17", after := #[{ on := 2, ground := Go.Ground.data }, { on := 7, ground := Go.Ground.data }], guard := none }) (v := ?_) rfl (by kernel_rfl) (by kernel_rfl) (by kernel_rfl) (fun _ _ _ h => h) (Or.inl ⟨by rfl, ?_⟩) (by assumption) ?_
  rotate_left
  · intro wS hSw; (try dsimp only at hSw); go_simp; (try with_reducible rfl)
  try simp only [Act.put, List.setIfInBounds_toArray, List.set_cons_zero, List.set_cons_succ]
  refine wpAnyH_take (i := 9) (oi := { dst := some 23, op := Go.Op.move (Go.Operand.tmp 22), type := 4, pos := "law.go:17", after := #[{ on := 8, ground := Go.Ground.data }, { on := 6, ground := Go.Ground.chain }], guard := none }) (v := ?_) rfl (by kernel_rfl) (by kernel_rfl) (by kernel_rfl) (fun _ _ _ h => h) (Or.inl ⟨by rfl, ?_⟩) (by assumption) ?_
  rotate_left
  · intro wS hSw; (try dsimp only at hSw); go_simp; (try with_reducible rfl)
  try simp only [Act.put, List.setIfInBounds_toArray, List.set_cons_zero, List.set_cons_succ]
  refine wpAnyH_take (i := 10) (oi := { dst := some 24, op := Go.Op.load 25 (Go.Operand.tmp 3), type := 25, pos := "law.go:17", after := #[{ on := 9, ground := Go.Ground.guard }], guard := some (9, true) }) (v := .agg (cellsB r)) rfl (by kernel_rfl) (by kernel_rfl) (by kernel_rfl) (fun _ _ _ h => h) (yif_loadV (by rfl) 25 (.tmp 3) rfl g3 _ rfl (fun W h => h.1) _ hhp rfl (HZ.out r HH.out.2.2)) (by assumption) ?_
  try simp only [Act.put, List.setIfInBounds_toArray, List.set_cons_zero, List.set_cons_succ]
  refine wpAnyH_take (i := 11) (oi := { dst := some 25, op := Go.Op.load 25 (Go.Operand.tmp 1), type := 25, pos := "law.go:17", after := #[{ on := 9, ground := Go.Ground.guard }], guard := some (9, true) }) (v := .agg (cellsB la)) rfl (by kernel_rfl) (by kernel_rfl) (by kernel_rfl) (fun _ _ _ h => h) (yif_loadV (by rfl) 25 (.tmp 1) rfl g1 _ rfl (fun W h => h.2.2) _ hhp rfl (HZ.out la HH.out.1)) (by assumption) ?_
  try simp only [Act.put, List.setIfInBounds_toArray, List.set_cons_zero, List.set_cons_succ]
  refine wpAnyH_ready (rs := [12]) (by kernel_rfl) (by simp) ?_
  refine AllReadyH.cons (o := { dst := some 26, op := Go.Op.buildSlice 26 1 #[(0, Go.Operand.tmp 25)], type := 26, pos := "law.go:17", after := #[{ on := 11, ground := Go.Ground.data }, { on := 9, ground := Go.Ground.guard }], guard := some (9, true) }) rfl (fun K hK => ?_) AllReadyH.nil
  refine step_of_run (by rfl) (lit_H_run (.tmp 25) rfl la rfl HH.out.1.1) ?_
  have H22 := Aside0.mk ((H20.out.lit kH Flat_H 25 [la] (la.map (Value.int .u8)) (reps_H1 _ la HH.out.1.1) (by simp)))
  have K22 := Aside0.mk (And.intro (H22.out.get 1 rfl) (And.intro (H22.out.get 2 rfl) (H22.out.get 3 rfl)))
  refine hK.out _ _ ?_ (fun hHeld => ?_)
  · exact K22.out
  clear hK K
  try simp only [Act.put, List.setIfInBounds_toArray, List.set_cons_zero, List.set_cons_succ]
  refine wpAnyH_ready (rs := [13]) (by kernel_rfl) (by simp) ?_
  refine AllReadyH.cons (o := { dst := some 27, op := Go.Op.call { callee := Go.Callee.value (Go.Operand.func 16), args := #[Go.Operand.tmp 24, Go.Operand.const (Go.Value.int Go.IntKind.u64 1), Go.Operand.const (Go.Value.int Go.IntKind.u64 2), Go.Operand.tmp 26], argTypes := #[25, 23, 23, 26] }, type := 4, pos := "law.go:17", after := #[{ on := 10, ground := Go.Ground.data }, { on := 12, ground := Go.Ground.data }, { on := 9, ground := Go.Ground.chain }, { on := 9, ground := Go.Ground.guard }], guard := some (9, true) }) rfl (fun K hK => ?_) AllReadyH.nil
  go_simp
  refine (HY.out _ _ _ (H22.out.C_of 0 rfl) (Nat.le_refl _)).mono ?_
  rintro e w23 ⟨rfl, hB23⟩
  have H23 := Aside0.mk ((H22.out.step hB23).erase 0)
  clear hB23
  go_wp2_with fail
  refine hK.out _ _ ?_ (fun hHeld => ?_)
  · exact HS.out _ _ H23.out
  clear hK K
  try simp only [Act.put, List.setIfInBounds_toArray, List.set_cons_zero, List.set_cons_succ]
  refine wpAnyH_take (i := 14) (oi := { dst := some 28, op := Go.Op.pick (Go.Operand.tmp 23) (Go.Operand.tmp 27) (Go.Operand.const (Go.Value.bool false)), type := 4, pos := "law.go:17", after := #[{ on := 9, ground := Go.Ground.data }, { on := 13, ground := Go.Ground.data }], guard := none }) (v := ?_) rfl (by kernel_rfl) (by kernel_rfl) (by kernel_rfl) (fun _ _ _ h => h) (Or.inl ⟨by rfl, ?_⟩) (by assumption) ?_
  rotate_left
  · intro wS hSw; (try dsimp only at hSw); go_simp; (try with_reducible rfl)
  try simp only [Act.put, List.setIfInBounds_toArray, List.set_cons_zero, List.set_cons_succ]
  refine wpAnyH_take (i := 15) (oi := { dst := some 29, op := Go.Op.move (Go.Operand.tmp 28), type := 4, pos := "law.go:17", after := #[{ on := 14, ground := Go.Ground.data }, { on := 13, ground := Go.Ground.chain }], guard := none }) (v := ?_) rfl (by kernel_rfl) (by kernel_rfl) (by kernel_rfl) (fun _ _ _ h => h) (Or.inl ⟨by rfl, ?_⟩) (by assumption) ?_
  rotate_left
  · intro wS hSw; (try dsimp only at hSw); go_simp; (try with_reducible rfl)
  try simp only [Act.put, List.setIfInBounds_toArray, List.set_cons_zero, List.set_cons_succ]
  refine wpAnyH_take (i := 16) (oi := { dst := some 30, op := Go.Op.load 25 (Go.Operand.tmp 3), type := 25, pos := "law.go:17", after := #[{ on := 15, ground := Go.Ground.guard }], guard := some (15, true) }) (v := .agg (cellsB r)) rfl (by kernel_rfl) (by kernel_rfl) (by kernel_rfl) (fun _ _ _ h => h) (yif_loadV (by rfl) 25 (.tmp 3) rfl g3 _ rfl (fun W h => h.1) _ hhp rfl (HZ.out r HH.out.2.2)) (by assumption) ?_
  try simp only [Act.put, List.setIfInBounds_toArray, List.set_cons_zero, List.set_cons_succ]
  refine wpAnyH_take (i := 17) (oi := { dst := some 31, op := Go.Op.load 25 (Go.Operand.tmp 1), type := 25, pos := "law.go:17", after := #[{ on := 15, ground := Go.Ground.guard }], guard := some (15, true) }) (v := .agg (cellsB la)) rfl (by kernel_rfl) (by kernel_rfl) (by kernel_rfl) (fun _ _ _ h => h) (yif_loadV (by rfl) 25 (.tmp 1) rfl g1 _ rfl (fun W h => h.2.2) _ hhp rfl (HZ.out la HH.out.1)) (by assumption) ?_
  try simp only [Act.put, List.setIfInBounds_toArray, List.set_cons_zero, List.set_cons_succ]
  refine wpAnyH_ready (rs := [18]) (by kernel_rfl) (by simp) ?_
  refine AllReadyH.cons (o := { dst := some 32, op := Go.Op.buildSlice 26 1 #[(0, Go.Operand.tmp 31)], type := 26, pos := "law.go:17", after := #[{ on := 17, ground := Go.Ground.data }, { on := 15, ground := Go.Ground.guard }], guard := some (15, true) }) rfl (fun K hK => ?_) AllReadyH.nil
  refine step_of_run (by rfl) (lit_H_run (.tmp 31) rfl la rfl HH.out.1.1) ?_
  have H32 := Aside0.mk ((H23.out.lit kH Flat_H 25 [la] (la.map (Value.int .u8)) (reps_H1 _ la HH.out.1.1) (by simp)))
  have K32 := Aside0.mk (And.intro (H32.out.get 1 rfl) (And.intro (H32.out.get 2 rfl) (H32.out.get 3 rfl)))
  refine hK.out _ _ ?_ (fun hHeld => ?_)
  · exact K32.out
  clear hK K
  try simp only [Act.put, List.setIfInBounds_toArray, List.set_cons_zero, List.set_cons_succ]
  refine wpAnyH_ready (rs := [19]) (by kernel_rfl) (by simp) ?_
  refine AllReadyH.cons (o := { dst := some 33, op := Go.Op.call { callee := Go.Callee.value (Go.Operand.func 16), args := #[Go.Operand.tmp 30, Go.Operand.const (Go.Value.int Go.IntKind.u64 1), Go.Operand.const (Go.Value.int Go.IntKind.u64 3), Go.Operand.tmp 32], argTypes := #[25, 23, 23, 26] }, type := 4, pos := "law.go:17", after := #[{ on := 16, ground := Go.Ground.data }, { on := 18, ground := Go.Ground.data }, { on := 15, ground := Go.Ground.chain }, { on := 15, ground := Go.Ground.guard }], guard := some (15, true) }) rfl (fun K hK => ?_) AllReadyH.nil
  go_simp
  refine (HN.out _ _ _ (H32.out.C_of 0 rfl) (Nat.le_refl _)).mono ?_
  rintro e w33 ⟨rfl, hB33⟩
  have H33 := Aside0.mk ((H32.out.step hB33).erase 0)
  clear hB33
  go_wp2_with fail
  refine hK.out _ _ ?_ (fun hHeld => ?_)
  · exact HS.out _ _ H33.out
  clear hK K
  try simp only [Act.put, List.setIfInBounds_toArray, List.set_cons_zero, List.set_cons_succ]
  refine wpAnyH_take (i := 20) (oi := { dst := some 34, op := Go.Op.unOp Go.UnOp.not 4 (Go.Operand.tmp 33), type := 4, pos := "law.go:17", after := #[{ on := 19, ground := Go.Ground.data }, { on := 15, ground := Go.Ground.guard }], guard := some (15, true) }) (v := ?_) rfl (by kernel_rfl) (by kernel_rfl) (by kernel_rfl) (fun _ _ _ h => h) (Or.inl ⟨by rfl, ?_⟩) (by assumption) ?_
  rotate_left
  · intro wS hSw; (try dsimp only at hSw); go_simp; (try with_reducible rfl)
  try simp only [Act.put, List.setIfInBounds_toArray, List.set_cons_zero, List.set_cons_succ]
  refine wpAnyH_take (i := 21) (oi := { dst := some 35, op := Go.Op.pick (Go.Operand.tmp 29) (Go.Operand.tmp 34) (Go.Operand.const (Go.Value.bool false)), type := 4, pos := "law.go:17", after := #[{ on := 15, ground := Go.Ground.data }, { on := 20, ground := Go.Ground.data }], guard := none }) (v := ?_) rfl (by kernel_rfl) (by kernel_rfl) (by kernel_rfl) (fun _ _ _ h => h) (Or.inl ⟨by rfl, ?_⟩) (by assumption) ?_
  rotate_left
  · intro wS hSw; (try dsimp only at hSw); go_simp; (try with_reducible rfl)
  try simp only [Act.put, List.setIfInBounds_toArray, List.set_cons_zero, List.set_cons_succ]
  refine wpAnyH_take (i := 22) (oi := { dst := some 0, op := Go.Op.assign (Go.Operand.tmp 35), type := 4, pos := "law.go:17", after := #[{ on := 21, ground := Go.Ground.data }, { on := 19, ground := Go.Ground.chain }, { on := 0, ground := Go.Ground.phase }, { on := 1, ground := Go.Ground.phase }, { on := 2, ground := Go.Ground.phase }, { on := 3, ground := Go.Ground.phase }, { on := 4, ground := Go.Ground.phase }, { on := 5, ground := Go.Ground.phase }, { on := 6, ground := Go.Ground.phase }, { on := 7, ground := Go.Ground.phase }, { on := 8, ground := Go.Ground.phase }, { on := 9, ground := Go.Ground.phase }, { on := 10, ground := Go.Ground.phase }, { on := 11, ground := Go.Ground.phase }, { on := 12, ground := Go.Ground.phase }, { on := 13, ground := Go.Ground.phase }, { on := 14, ground := Go.Ground.phase }, { on := 15, ground := Go.Ground.phase }, { on := 16, ground := Go.Ground.phase }, { on := 17, ground := Go.Ground.phase }, { on := 18, ground := Go.Ground.phase }, { on := 19, ground := Go.Ground.phase }, { on := 20, ground := Go.Ground.phase }, { on := 21, ground := Go.Ground.phase }], guard := none }) (v := ?_) rfl (by kernel_rfl) (by kernel_rfl) (by kernel_rfl) (fun _ _ _ h => h) (Or.inl ⟨by rfl, ?_⟩) (by assumption) ?_
  rotate_left
  · intro wS hSw; (try dsimp only at hSw); go_simp; (try with_reducible rfl)
  try simp only [Act.put, List.setIfInBounds_toArray, List.set_cons_zero, List.set_cons_succ]
  refine wpAnyH_done (by kernel_rfl) ?_ _
  clear hHeld
  go_wp2_with fail
  go_ret
  exact ⟨rfl, H33.out.below⟩
end Go.Proofs.Ytocphkfkdadhaaa.H

namespace Go.Proofs.Ytocphkfkdadhaaa.H
open Go.RowKit Go.Proofs.YtocphkfkdadhaaaW.PrintWords Go.Proofs.YtocphkfkdadhaaaW.PrintLast Go.Proofs.YtocphkfkdadhaaaW.PrintMore
open Go.ChangeShapes Go.WideShapes Go.ChangeAt
set_option linter.unusedVariables false
set_option linter.unusedSimpArgs false
theorem choose_list {α : Type} (Q : Nat → α → Prop) : ∀ n : Nat, (∀ i, i < n → ∃ y, Q i y) → ∃ xs : List α, xs.length = n ∧ ∀ i p, xs[i]? = some p → Q i p
  | 0, _ => ⟨[], rfl, fun i p h => by simp at h⟩
  | n + 1, h => by
    obtain ⟨xs, hl, hx⟩ := choose_list Q n (fun i hi => h i (by omega))
    obtain ⟨y, hy⟩ := h n (by omega)
    refine ⟨xs ++ [y], by rw [List.length_append, hl]; rfl, fun i p hp => ?_⟩
    by_cases hi : i < xs.length
    · rw [List.getElem?_append_left hi] at hp
      exact hx i p hp
    · rw [List.getElem?_append_right (by omega)] at hp
      by_cases h0 : i - xs.length = 0
      · rw [h0] at hp
        simp at hp
        subst hp
        rw [show i = n by omega]
        exact hy
      · rw [List.getElem?_eq_none (by simp; omega)] at hp
        cases hp
def Opens {α : Type} (T : TypeId) (d : Kd α) (ok : α → Prop) : Prop :=
  ∀ {H : Type} {enc : TypeId × Value → H} {W : World} {fuel : Nat} {cs : List Value} {x : DataW H × List MemPlace}, DataW.trod enc Try.prog W 0 (fun _ => true) true fuel T cs = some x → ∃ y, d.K W y cs ∧ ok y
theorem opens_int {T : TypeId} {k : IntKind} (hT : Try.prog.underlying T = some (.int k)) : Opens T (Kd.int k) (fun n => (Lit.int k n).wf = true) := by
  intro H enc W fuel cs x h
  obtain ⟨n, e, _, w⟩ := DataW.trod_int hT h
  exact ⟨n, e, w⟩
theorem opens_row {α : Type} {T e : TypeId} {d : Kd α} {ok : α → Prop} (hT : Try.prog.underlying T = some (.slice e)) (hs : Try.prog.cellsOf e = d.sz) (he : Opens e d ok)
    {H : Type} {enc : TypeId × Value → H} {W : World} {fuel : Nat} {cs : List Value} {x : DataW H × List MemPlace} (h : DataW.trod enc Try.prog W 0 (fun _ => true) true fuel T cs = some x) :
    ∃ A l c, cs = [.slice A l.length c] ∧ l.length ≤ c ∧ d.C W A l.length l ∧ (∀ y ∈ l, ok y) ∧ ((l = [] ∧ x.1 = .nil) ∨ ∃ es rs : List (DataW H), x.1 = .slice es rs ∧ es.length = l.length) := by
  rcases DataW.trod_slice hT h with ⟨hc2, hx⟩ | ⟨a, len, cap, elems, rest, m, hm, hc2, hx, _, hlc, hcm, hle, hel, _, _⟩
  · exact ⟨none, [], 0, hc2, Nat.le_refl _, Kd.C_nil _ _, by simp, .inl ⟨rfl, by rw [hx]⟩⟩
  · rw [hs] at hel
    have each : ∀ i, i < len → ∃ y : α, (∃ c, c.length = d.sz ∧ d.K W y c ∧ ∀ j u, c[j]? = some u → W.cell? (a.add (i * d.sz + j)) = some u) ∧ ok y := by
      intro i hi
      have h3 := hel i hi
      rw [List.getElem?_eq_getElem (by omega), Option.bind_eq_some_iff] at h3
      obtain ⟨c, hc, ht⟩ := h3
      obtain ⟨y, hK, hBy⟩ := he ht
      obtain ⟨_, hcl, hcc⟩ := World.cells?_some hc
      refine ⟨y, ⟨c, hcl, hK, fun j u hj => ?_⟩, hBy⟩
      have hj3 : j < d.sz := by have := (List.getElem?_eq_some_iff.1 hj).1; omega
      rw [← hj, ← hcc j hj3, Addr.add_add]
    obtain ⟨ys, hyl, hys⟩ := choose_list _ len each
    subst hyl
    refine ⟨some a, ys, cap, hc2, hlc, ⟨rfl, ?_, fun _ => ⟨a, rfl, fun j p hj => (hys j p hj).1⟩⟩, ?_, .inr ⟨elems.map (·.1), rest.map (·.1), by rw [hx], by rw [List.length_map]; exact hle⟩⟩
    · have : maxLen ≤ 9223372036854775807 := by decide
      show ys.length ≤ 9223372036854775807
      omega
    · intro y hy
      obtain ⟨i, hi⟩ := List.getElem?_of_mem hy
      exact (hys i y hi).2
set_option maxRecDepth 100000 in
theorem open_row {α : Type} {T e : TypeId} {d : Kd α} {ok : α → Prop} (hT : Try.prog.underlying T = some (.slice e)) (hs : Try.prog.cellsOf e = d.sz) (ho : Opens e d ok) {H : Type} {enc : TypeId × Value → H} {W : World} {r : Reach} {b0 : Nat} {v : Value} {x : DataW H} {p : List MemPlace}
    (hv : Value.okWide Try.prog W r b0 T v) (h : DataW.Trod enc Try.prog W 0 (fun _ => true) true T v x p) {ts : List TypeId} {ds : List (DataW H)} {j : Nat} (hsz : (DataW.weightsEach Try.prog ts ds).all (· ≤ reachBytes) = true) (ht : ts[j]? = some T) (hd : ds[j]? = some x) :
    ∃ (A : Option Addr) (l : List α) (c : Nat), v = .slice A l.length c ∧ l.length ≤ c ∧ d.C W A l.length l ∧ (∀ y ∈ l, ok y) ∧ l.length * Try.prog.bytesOf e ≤ 140737488351232 := by
  obtain ⟨a, len, cap, rfl⟩ := okWide_slice hT hv
  obtain ⟨fuel, hf⟩ := h
  obtain ⟨A, l, c, hc, h1, h2, h3, h4⟩ := opens_row hT hs ho hf
  simp only [Value.cells, List.cons.injEq, and_true] at hc
  refine ⟨A, l, c, hc, h1, h2, h3, ?_⟩
  rcases h4 with ⟨rfl, _⟩ | ⟨es, rs, hx, hl⟩
  · simp
  · have h5 := sized_slice hsz ht (by rw [hd]; exact congrArg some hx) hT
    have h6 : reachBytes = 140737488351232 := rfl
    rw [hl, h6] at h5
    exact Nat.le_trans (Nat.mul_le_mul_right _ (Nat.le_add_right _ _)) h5
end Go.Proofs.Ytocphkfkdadhaaa.H

namespace Go.Proofs.Ytocphkfkdadhaaa.H
open Go.RowKit Go.Proofs.YtocphkfkdadhaaaW.PrintWords Go.Proofs.YtocphkfkdadhaaaW.PrintLast Go.Proofs.YtocphkfkdadhaaaW.PrintMore
set_option linter.unusedVariables false
set_option linter.unusedSimpArgs false
theorem wf_u64 {n : Int} (h : (Lit.int .u64 n).wf = true) : 0 ≤ n ∧ n ≤ 18446744073709551615 := by
  simp [Lit.wf, IntKind.min, IntKind.max, IntKind.signed, IntKind.bits] at h
  omega
theorem size_ways (n : Nat) : sizeB n = false ∨ ∃ D, D ≤ 12 ∧ n = 2 ^ D := by
  cases h : sizeB n with
  | false => exact .inl rfl
  | true => exact .inr (sizeB_yes h)
end Go.Proofs.Ytocphkfkdadhaaa.H

namespace Go.Proofs.Ytocphkfkdadhaaa.H
open Go.RowKit Go.Proofs.YtocphkfkdadhaaaW.PrintWords Go.Proofs.YtocphkfkdadhaaaW.PrintLast Go.Proofs.YtocphkfkdadhaaaW.PrintMore
set_option linter.unusedVariables false
set_option linter.unusedSimpArgs false
theorem o_u64 : Opens 23 kU (fun n => (Lit.int .u64 n).wf = true) := opens_int Try.underlying23
theorem Wrd_of {l : List Int} (h : ∀ y ∈ l, (Lit.int .u64 y).wf = true) : Wrd l := fun x hx => wf_u64 (h x hx)
end Go.Proofs.Ytocphkfkdadhaaa.H

namespace Go.Proofs.Ytocphkfkdadhaaa.H
open Go.RowKit Go.Proofs.YtocphkfkdadhaaaW.PrintWords Go.Proofs.YtocphkfkdadhaaaW.PrintLast Go.Proofs.YtocphkfkdadhaaaW.PrintMore
set_option linter.unusedVariables false
set_option linter.unusedSimpArgs false
theorem Own.under {B : Nat} {w0 W : World} {L : List Item} {g : Nat} {v1 v2 : Value} {ws : List Int} {ss : List (List Int)} {it : Item} (h : Own B w0 W (it :: memL g v1 v2 ws ss L)) : Own B w0 W (memL g v1 v2 ws ss (it :: L)) :=
  h.perm (List.perm_middle (l₁ := [Item.blk g #[v1, v2, leafF] TM, Item.row kU 23 v1 ws, Item.row kH 25 v2 ss])).symm
set_option maxHeartbeats 2000000 in
set_option maxRecDepth 100000 in
theorem fresh_no (ws : List Int) (hs : sizeB ws.length = false) (hb : ws.length * 8 ≤ 140737488351232) (A : Option Addr) (c : Nat) (hc : ws.length ≤ c) (w : World) (hC : Kd.C kU w A ws.length ws) :
    Calls Try.prog 4 #[.slice A ws.length c] w fun e w' => e = .returned (.bool true) ∧ Below w.heap.size w w' := by
  have H0 := Aside0.mk (Own.start w)
  have HC := Aside0.mk hC
  have HN := Aside0.mk (fun A c W => new_no ws.length hC.2.1 hs A c W)
  have HS := Aside0.mk (fun W => size_any ws.length hC.2.1 W)
  rw [hs] at HS
  have HA := Aside0.mk (fun W => anchored11 W)
  have HBD := Aside0.mk hb
  have HX : Aside0 (ws.length = ws.length) := ⟨rfl⟩
  clear hs hC hb
  go_enter Try.func4, Try.ntmps4
  go_upto_region 2 with (first
    | fail
    | ((with_reducible refine gate_dst (N := 18) rfl ?_); refine own_lit kU Flat_U H0.out 23 rfl (N := 18) rfl (xs := ([] : List Int)) (inner := (([] : List Int)).map (Value.int .u64)) ?hr18 (Kd.reps_scalar _) (by simp) ?_; (case hr18 => first | (go_simp; done) | (go_simp; rfl)); intro A1 c1 w1 H1 B1; replace H1 := Aside0.mk H1; replace B1 := Aside0.mk B1)
    | ((with_reducible refine gate_dst (N := 20) rfl ?_); (with_reducible refine gate_builtin (b := .append) (xs := #[.tmp 18, .tmp 19]) rfl ?_); refine own_append_row kU Flat_U H1.out 0 rfl rfl (.tmp 18) (.tmp 19) 22 (.int .u64 0) 8 rfl Try.underlying22 infoU rfl (by decide) (by decide) ws _ _ _ rfl rfl (Kd.C_below HC.out B1.out) ?_ ?_; (case _ => have := HBD.out; simp only [List.length_nil]; omega); intro v2 w2 H2; replace H2 := Aside0.mk H2)
    )
  rw [List.nil_append] at H2
  obtain ⟨A2, c2, rfl, _, _⟩ := H2.out.reads 0 rfl
  have HB2 : Aside0 (Below w.heap.size w w2) := ⟨H2.out.below⟩
  go_wp2_with fail
  refine (HN.out _ _ _).mono ?_
  rintro e w3 ⟨rfl, hB3⟩
  have H3 := Aside0.mk (H2.out.step hB3)
  clear hB3
  go_wp2_with (first
    | fail
    | (go_at_call 18; refine (HA.out _).mono ?_; rintro e w5 ⟨rfl, hB5⟩; have H5 := Aside0.mk (H3.out.step hB5); clear hB5)
    | (go_at_call 20; refine (HS.out _).mono ?_; rintro e w6 ⟨rfl, rfl⟩)
    )
  go_ret
  exact ⟨rfl, H5.out.below⟩
set_option maxHeartbeats 8000000 in
set_option maxRecDepth 100000 in
theorem fresh_yes (D : Nat) (hD : D ≤ 12) (ws : List Int) (hl : ws.length = 2 ^ D) (hw : Wrd ws) (A : Option Addr) (c : Nat) (hc : ws.length ≤ c) (w : World) (hC : Kd.C kU w A ws.length ws) :
    Calls Try.prog 4 #[.slice A ws.length c] w fun e w' => e = .returned (.bool true) ∧ Below w.heap.size w w' := by
  have hn4 : 1 ≤ ws.length ∧ ws.length ≤ 4096 := by rw [hl]; exact ⟨Nat.two_pow_pos D, Nat.pow_le_pow_right (by decide) hD⟩
  have H0 := Aside0.mk (Own.start w)
  have HC := Aside0.mk hC
  have R32 : Aside0 (Arr 32 (Array.replicate 32 (.int .u8 0))) := ⟨Arr_rep _ _ rfl⟩
  have HHR := Aside0.mk (Hsh_memroot D ws)
  have HAR := Aside0.mk (Arr_B (Hsh_memroot D ws).1)
  have HNW := Aside0.mk (fun A c W hC hc => new_ok D hD ws hl hw A c hc W hC)
  have HWD := Aside0.mk (fun B w0 W L g v1 v2 ss (hM : MemAt D ws ss) (h : Own B w0 W (memL g v1 v2 ws ss L)) => words_mem hD hM h)
  have HPV : Aside0 (∀ B w0 W L g v1 v2 ss, MemAt D ws ss → Own B w0 W (memL g v1 v2 ws ss L) → Calls Try.prog 22 #[.pointer (some ⟨g, 0, none⟩), .int .u64 0] W fun e w' => ∃ v, e = .returned (.tuple #[v, .int .i64 0]) ∧ Own B w0 w' (.row kH 25 v (proofP D (leavesW ws) 0) :: memL g v1 v2 ws ss L)) := ⟨fun B w0 W L g v1 v2 ss hM h => prove_yes hD hM h 0 (by omega)⟩
  have HRT := Aside0.mk (fun B w0 W L g v1 v2 ss (hM : MemAt D ws ss) (h : Own B w0 W (memL g v1 v2 ws ss L)) => mroot_mem hD hM h)
  have HRR := Aside0.mk (fun W h => rroot_yes D hD ws hl hw A c hc W h)
  have HRP : Aside0 (∀ W, Kd.C kU W A ws.length ws → Calls Try.prog 23 #[.slice A ws.length c, .int .u64 0] W fun e w' => ∃ v, e = .returned (.tuple #[v, .int .i64 0]) ∧ Own W.heap.size W w' [.row kH 25 v (proofP D (leavesW ws) 0)]) := ⟨fun W h => prove11_yes D hD ws hl hw 0 (by omega) A c hc W h⟩
  have HPL : Aside0 ((proofP D (leavesW ws) 0).length = D ∧ Hshs (proofP D (leavesW ws) 0)) := ⟨proofP_len _ _ _, Hshs_proof _ _ _ (Hshs_leaves ws)⟩
  have HA := Aside0.mk (fun W => anchored11 W)
  generalize memroot D ws = r at *
  generalize proofP D (leavesW ws) 0 = pf at *
  clear hC hl
  obtain ⟨n, hn⟩ : ∃ n, n = ws.length := ⟨_, rfl⟩
  rw [← hn] at HC HNW HRR HRP hn4 hc ⊢
  have HN := Aside0.mk hn
  clear hn
  go_enter Try.func4, Try.ntmps4
  go_upto_region 2 with (first
    | fail
    | ((with_reducible refine gate_dst (N := 18) rfl ?_); refine own_lit kU Flat_U H0.out 23 rfl (N := 18) rfl (xs := ([] : List Int)) (inner := (([] : List Int)).map (Value.int .u64)) ?hr18 (Kd.reps_scalar _) (by simp) ?_; (case hr18 => first | (go_simp; done) | (go_simp; rfl)); intro A1 c1 w1 H1 B1; replace H1 := Aside0.mk H1; replace B1 := Aside0.mk B1)
    | ((with_reducible refine gate_dst (N := 20) rfl ?_); (with_reducible refine gate_builtin (b := .append) (xs := #[.tmp 18, .tmp 19]) rfl ?_); refine own_append_row kU Flat_U H1.out 0 rfl rfl (.tmp 18) (.tmp 19) 22 (.int .u64 0) 8 rfl Try.underlying22 infoU rfl (by decide) (by decide) ws _ _ _ rfl rfl (Kd.C_below HC.out B1.out) ?_ ?_; (case _ => simp only [List.length_nil]; omega); intro v2 w2 H2; replace H2 := Aside0.mk H2)
    )
  rw [List.nil_append] at H2
  obtain ⟨g2, c2, rfl, hc2⟩ := H2.out.form 0 rfl (by rw [← HN.out]; omega)
  rw [← HN.out] at H2 hc2 ⊢
  go_wp2_with fail
  have HX := Aside0.mk (HNW.out _ c2 w2 (by have h := H2.out.C_of 0 rfl; exact h) hc2)
  refine HX.out.mono ?_
  rintro e w3 ⟨g, v1, v2, ss, rfl, hM, hO⟩
  have HM := Aside0.mk hM
  have H3 := Aside0.mk (H2.out.call hO)
  clear hM hO HX
  go_wp2_with fail
  go_loopw [6] (fun v6 wr => ∃ (i : Nat) (xs : List Int), i ≤ n ∧ v6 = .int .i64 (i : Int) ∧ Aside0 (Own w.heap.size w wr (memL g v1 v2 ws ss [.row kU 23 (.slice (some ⟨g2, 0, none⟩) n c2) xs]))) (fun v6 _ => n - (intOf v6).toNat)
  case atStart => exact ⟨0, ws, Nat.zero_le _, rfl, H3⟩
  case round =>
    clear H3
    obtain ⟨i, xs, hi, rfl, HI⟩ := hrel
    by_cases hlt : i < n
    · have hdl : decide (i < n) = true := decide_eq_true hlt
      have hi0 : (0 : Int) ≤ (i : Int) ∧ (i : Int) < (n : Int) := by omega
      obtain ⟨ad, he, hcell⟩ := Kd.at_int (HI.out.C_of 3 rfl) (i : Int) (Int.natCast_nonneg i) (by omega)
      injection he with he
      subst he
      rw [Int.toNat_natCast, add_plain] at hcell
      generalize rd xs (i : Int) = x at *
      have hfz := (HI.out.there1 3 rfl i hlt rfl).2
      have H4 := Aside0.mk (HI.out.putS 3 rfl i hlt (x := IntKind.u64.wrap (x + 1)) (v := .int .u64 (IntKind.u64.wrap (x + 1))) Flat_U rfl (fun _ => rfl))
      have hw1 : IntKind.u64.wrap (x + 1) = IntKind.u64.wrap (x + 1) := rfl
      generalize hz : IntKind.u64.wrap (x + 1) = z at *
      have hz2 : (x + 1) % 18446744073709551616 = z := by rw [← hz, IntKind.wrap_u64]
      go_wp2_with fail
      go_roundw
      case rel => exact ⟨i + 1, _, hlt, by go_num, H4⟩
      case measure => simp [intOf]; omega
    · have hdl : decide (i < n) = false := decide_eq_false hlt
      obtain rfl : i = n := by omega
      go_wp2_with fail
      refine (HWD.out _ _ _ _ _ _ _ _ HM.out HI.out).mono ?_
      rintro e w4 ⟨v7, rfl, hO4⟩
      obtain ⟨g7, c7, rfl, _⟩ := hO4.form 0 rfl (by rw [← HN.out]; omega)
      rw [← HN.out] at hO4 ⊢
      have H4 := Aside0.mk hO4
      clear hO4 HI
      go_wp2_with fail
      go_loopw [8] (fun v8 wr => ∃ (k : Nat) (ys : List Int), k ≤ i ∧ v8 = .int .i64 (k : Int) ∧ Aside0 (Own w.heap.size w wr (.row kU 23 (.slice (some ⟨g7, 0, none⟩) i c7) ys :: memL g v1 v2 ws ss [.row kU 23 (.slice (some ⟨g2, 0, none⟩) i c2) xs]))) (fun v8 _ => i - (intOf v8).toNat)
      case atStart => exact ⟨0, ws, Nat.zero_le _, rfl, H4⟩
      case round =>
        clear H4
        obtain ⟨k, ys, hk, rfl, HI⟩ := hrel
        by_cases hlt2 : k < i
        · have hdl : decide (k < i) = true := decide_eq_true hlt2
          have hi0 : (0 : Int) ≤ (k : Int) ∧ (k : Int) < (i : Int) := by omega
          obtain ⟨hth, hfz⟩ := HI.out.there1 0 rfl k hlt2 rfl
          obtain ⟨u0, hu0⟩ := Option.isSome_iff_exists.1 hth
          have H5 := Aside0.mk (HI.out.putS 0 rfl k hlt2 (x := 5) (v := .int .u64 5) Flat_U rfl (fun _ => rfl))
          go_wp2_with fail
          go_roundw
          case rel => exact ⟨k + 1, _, hlt2, by go_num, H5⟩
          case measure => simp [intOf]; omega
        · have hdl : decide (k < i) = false := decide_eq_false hlt2
          obtain rfl : k = i := by omega
          have H5 := Aside0.mk (HI.out.erase 0)
          clear HI
          go_wp2_with fail
          refine (HPV.out _ _ _ _ _ _ _ _ HM.out H5.out).mono ?_
          rintro e w6 ⟨v9, rfl, hO6⟩
          obtain ⟨A9, c9, rfl, _, _⟩ := hO6.reads 0 rfl
          have HF9 : Aside0 (0 < pf.length → ∃ g9, A9 = some ⟨g9, 0, none⟩) := ⟨fun hp => by
            obtain ⟨g9, cap, he, _⟩ := hO6.form 0 rfl hp
            injection he with h1 h2 h3
            exact ⟨g9, h1⟩⟩
          have H6 := Aside0.mk hO6
          clear hO6
          obtain ⟨m, hm⟩ : ∃ m, m = pf.length := ⟨_, rfl⟩
          rw [← hm] at H6 HF9 ⊢
          have HMM := Aside0.mk hm
          have hm12 : m ≤ 12 := by rw [hm, HPL.out.1]; exact hD
          clear hm
          go_wp2_with fail
          go_loopw [11] (fun v11 wr => ∃ (j : Nat) (ps : List (List Int)), j ≤ m ∧ v11 = .int .i64 (j : Int) ∧ Aside0 (Own w.heap.size w wr (.row kH 25 (.slice A9 m c9) ps :: memL g v1 v2 ws ss [.row kU 23 (.slice (some ⟨g2, 0, none⟩) k c2) xs]))) (fun v11 _ => m - (intOf v11).toNat)
          case atStart => exact ⟨0, pf, Nat.zero_le _, rfl, H6⟩
          case round =>
            clear H6
            obtain ⟨j, ps, hj, rfl, HI⟩ := hrel
            by_cases hlt3 : j < m
            · have hdl : decide (j < m) = true := decide_eq_true hlt3
              have hi0 : (0 : Int) ≤ (j : Int) ∧ (j : Int) < (m : Int) := by omega
              obtain ⟨g9, rfl⟩ := HF9.out (by omega)
              go_wp2_with (first
                | fail
                | ((with_reducible refine own_putH HI.out 0 rfl j hlt3 rfl 25 (.tmp 72) (.tmp 71) rfl (6 :: List.replicate 31 0) ?_ ?_ rfl (by kernel_rfl) ?_); (case _ => rfl); (case _ => rfl); intro w7 H7; replace H7 := Aside0.mk H7)
                )
              go_roundw
              case rel => exact ⟨j + 1, _, hlt3, by go_num, H7⟩
              case measure => simp [intOf]; omega
            · have hdl : decide (j < m) = false := decide_eq_false hlt3
              obtain rfl : j = m := by omega
              have H7 := Aside0.mk (HI.out.erase 0)
              clear HI
              go_wp2_with fail
              refine (HRR.out _ (Kd.C_below HC.out H7.out.below)).mono ?_
              rintro e w8 ⟨rfl, hB8⟩
              have H8 := Aside0.mk (H7.out.step hB8)
              clear hB8
              go_wp2_with (first
                | fail
                | ((with_reducible refine gate_dst (N := 12) rfl ?_); refine own_alloc H8.out rfl (N := 12) rfl (t := 25) rfl (Array.replicate 32 (.int .u8 0)) 32 (by kernel_rfl) ?_; intro g12 w10 H10 B10; replace H10 := Aside0.mk H10; replace B10 := Aside0.mk B10)
                | ((with_reducible refine own_store H10.out 0 g12 _ 25 rfl rfl (.tmp 12) (.tmp 76) rfl (cellsB r) ?_ ?_ 32 R32.out HAR.out (by kernel_rfl) ?_); (case _ => rfl); (case _ => rfl); intro w11 H11; replace H11 := Aside0.mk H11)
                )
              have H12 := Aside0.mk (H11.out.under)
              refine (HPV.out _ _ _ _ _ _ _ _ HM.out H12.out).mono ?_
              rintro e w13 ⟨v14, rfl, hO13⟩
              obtain ⟨A14, c14, rfl, hc14, hC14⟩ := hO13.reads 0 rfl
              have H13 := Aside0.mk hO13.under
              clear hO13 hc14 hC14
              go_wp2_with fail
              refine (HRP.out _ (Kd.C_below HC.out H13.out.below)).mono ?_
              rintro e w15 ⟨v16, rfl, hO15⟩
              obtain ⟨A16, c16, rfl, hc16, hC16⟩ := hO15.reads 0 rfl
              have H15 : Aside0 (Own w.heap.size w w15 (memL g v1 v2 ws ss [.row kH 25 (.slice A16 pf.length c16) pf, .row kH 25 (.slice A14 pf.length c14) pf, .blk g12 (cellsB r) 25, .row kU 23 (.slice (some ⟨g2, 0, none⟩) k c2) xs])) := ⟨(H13.out.call hO15).under⟩
              clear hO15 hc16 hC16
              have HSM : Aside0 (∀ W L, Own w.heap.size w W (memL g v1 v2 ws ss (.row kH 25 (.slice A16 pf.length c16) pf :: .row kH 25 (.slice A14 pf.length c14) pf :: L)) → Calls Try.prog 26 #[.slice A14 pf.length c14, .slice A16 pf.length c16] W fun e w' => e = .returned (.bool true) ∧ Below W.heap.size W w') := ⟨fun W L h => by
                have := same04_any pf pf HPL.out.2 HPL.out.2 A14 A16 c14 c16 W (h.C_of 4 rfl) (h.C_of 3 rfl)
                rwa [decide_eq_true (show pf = pf from rfl)] at this⟩
              have HSU : Aside0 (∀ (W : World) (A1 : Option Addr) (c1 : Nat), Kd.C kU W A1 k ws → Kd.C kU W A k ws → Calls Try.prog 24 #[.slice A1 k c1, .slice A k c] W fun e w' => e = .returned (.bool true) ∧ Below W.heap.size W w') := ⟨fun W A1 c1 h1 h2 => by
                have := same11_any ws ws A1 A c1 c W (by rw [← HN.out]; exact h1) (by rw [← HN.out]; exact h2)
                rwa [decide_eq_true (show ws = ws from rfl), ← HN.out] at this⟩
              have hhp := Try.underlying25
              have HZR : Aside0 ((Try.prog.info? 25).map (·.size) = some (cellsB r).size) := ⟨by rw [HAR.out.1]; kernel_rfl⟩
              go_wp2_with fail
              refine wp_region_held_drew (S := (fun W => W.heap[g12]? = some (.cells (cellsB r) 25 (0, 0)))) (by kernel_rfl) ?_ (fun hHeld => ?_)
              · exact H15.out.drew.get 5 rfl
              refine wpAnyH_ready (rs := [0]) (by kernel_rfl) (by simp) ?_
              refine AllReadyH.cons (o := { dst := some 88, op := Go.Op.call { callee := Go.Callee.value (Go.Operand.func 18), args := #[], argTypes := #[] }, type := 4, pos := "law.go:155", after := #[], guard := none }) rfl (fun K hK => ?_) AllReadyH.nil
              go_simp
              refine (HA.out _).mono ?_
              rintro e w20 ⟨rfl, hB20⟩
              have H20 := Aside0.mk (H15.out.drew.step hB20)
              clear hB20
              go_wp2_with fail
              refine hK.out _ _ ?_ (fun hHeld => ?_)
              · exact H20.out.get 5 rfl
              clear hK K
              try simp only [Act.put, List.setIfInBounds_toArray, List.set_cons_zero, List.set_cons_succ]
              refine wpAnyH_take (i := 1) (oi := { dst := some 89, op := Go.Op.move (Go.Operand.tmp 88), type := 4, pos := "law.go:155", after := #[{ on := 0, ground := Go.Ground.data }, { on := 0, ground := Go.Ground.chain }], guard := none }) (v := ?_) rfl (by kernel_rfl) (by kernel_rfl) (by kernel_rfl) (fun _ _ _ h => h) (Or.inl ⟨by rfl, ?_⟩) (by assumption) ?_
              rotate_left
              · intro wS hSw; (try dsimp only at hSw); go_simp; (try with_reducible rfl)
              try simp only [Act.put, List.setIfInBounds_toArray, List.set_cons_zero, List.set_cons_succ]
              refine wpAnyH_take (i := 2) (oi := { dst := some 90, op := Go.Op.move (Go.Operand.tmp 15), type := 29, pos := "law.go:155", after := #[{ on := 1, ground := Go.Ground.guard }], guard := some (1, true) }) (v := ?_) rfl (by kernel_rfl) (by kernel_rfl) (by kernel_rfl) (fun _ _ _ h => h) (Or.inl ⟨by rfl, ?_⟩) (by assumption) ?_
              rotate_left
              · intro wS hSw; (try dsimp only at hSw); go_simp; (try with_reducible rfl)
              try simp only [Act.put, List.setIfInBounds_toArray, List.set_cons_zero, List.set_cons_succ]
              refine wpAnyH_take (i := 3) (oi := { dst := some 91, op := Go.Op.binOp Go.BinOp.eql 29 (Go.Operand.tmp 90) (Go.Operand.const (Go.Value.int Go.IntKind.i64 0)) 29, type := 4, pos := "law.go:155", after := #[{ on := 2, ground := Go.Ground.data }, { on := 1, ground := Go.Ground.guard }], guard := some (1, true) }) (v := ?_) rfl (by kernel_rfl) (by kernel_rfl) (by kernel_rfl) (fun _ _ _ h => h) (Or.inl ⟨by rfl, ?_⟩) (by assumption) ?_
              rotate_left
              · intro wS hSw; (try dsimp only at hSw); go_simp; (try with_reducible rfl)
              try simp only [Act.put, List.setIfInBounds_toArray, List.set_cons_zero, List.set_cons_succ]
              refine wpAnyH_take (i := 4) (oi := { dst := some 92, op := Go.Op.pick (Go.Operand.tmp 89) (Go.Operand.tmp 91) (Go.Operand.const (Go.Value.bool false)), type := 4, pos := "law.go:155", after := #[{ on := 1, ground := Go.Ground.data }, { on := 3, ground := Go.Ground.data }], guard := none }) (v := ?_) rfl (by kernel_rfl) (by kernel_rfl) (by kernel_rfl) (fun _ _ _ h => h) (Or.inl ⟨by rfl, ?_⟩) (by assumption) ?_
              rotate_left
              · intro wS hSw; (try dsimp only at hSw); go_simp; (try with_reducible rfl)
              try simp only [Act.put, List.setIfInBounds_toArray, List.set_cons_zero, List.set_cons_succ]
              refine wpAnyH_take (i := 5) (oi := { dst := some 93, op := Go.Op.move (Go.Operand.tmp 92), type := 4, pos := "law.go:155", after := #[{ on := 4, ground := Go.Ground.data }, { on := 1, ground := Go.Ground.chain }], guard := none }) (v := ?_) rfl (by kernel_rfl) (by kernel_rfl) (by kernel_rfl) (fun _ _ _ h => h) (Or.inl ⟨by rfl, ?_⟩) (by assumption) ?_
              rotate_left
              · intro wS hSw; (try dsimp only at hSw); go_simp; (try with_reducible rfl)
              try simp only [Act.put, List.setIfInBounds_toArray, List.set_cons_zero, List.set_cons_succ]
              refine wpAnyH_take (i := 6) (oi := { dst := some 94, op := Go.Op.move (Go.Operand.tmp 4), type := 38, pos := "law.go:155", after := #[{ on := 5, ground := Go.Ground.guard }], guard := some (5, true) }) (v := ?_) rfl (by kernel_rfl) (by kernel_rfl) (by kernel_rfl) (fun _ _ _ h => h) (Or.inl ⟨by rfl, ?_⟩) (by assumption) ?_
              rotate_left
              · intro wS hSw; (try dsimp only at hSw); go_simp; (try with_reducible rfl)
              try simp only [Act.put, List.setIfInBounds_toArray, List.set_cons_zero, List.set_cons_succ]
              refine wpAnyH_take (i := 8) (oi := { dst := some 96, op := Go.Op.move (Go.Operand.tmp 0), type := 22, pos := "law.go:155", after := #[{ on := 5, ground := Go.Ground.guard }], guard := some (5, true) }) (v := ?_) rfl (by kernel_rfl) (by kernel_rfl) (by kernel_rfl) (fun _ _ _ h => h) (Or.inl ⟨by rfl, ?_⟩) (by assumption) ?_
              rotate_left
              · intro wS hSw; (try dsimp only at hSw); go_simp; (try with_reducible rfl)
              try simp only [Act.put, List.setIfInBounds_toArray, List.set_cons_zero, List.set_cons_succ]
              refine wpAnyH_ready (rs := [7]) (by kernel_rfl) (by simp) ?_
              refine AllReadyH.cons (o := { dst := some 95, op := Go.Op.call { callee := Go.Callee.value (Go.Operand.func 21), args := #[Go.Operand.tmp 94], argTypes := #[38] }, type := 22, pos := "law.go:155", after := #[{ on := 6, ground := Go.Ground.data }, { on := 5, ground := Go.Ground.chain }, { on := 5, ground := Go.Ground.guard }], guard := some (5, true) }) rfl (fun K hK => ?_) AllReadyH.nil
              go_simp
              refine (HWD.out _ _ _ _ _ _ _ _ HM.out H20.out).mono ?_
              rintro e w21 ⟨v95, rfl, hO21⟩
              obtain ⟨A95, c95, rfl, _, hC95⟩ := hO21.reads 0 rfl
              rw [← HN.out] at hC95 ⊢
              have H21 := Aside0.mk (hO21.erase 0)
              replace hC95 := Aside0.mk hC95
              clear hO21
              go_wp2_with fail
              refine hK.out _ _ ?_ (fun hHeld => ?_)
              · exact H21.out.get 5 rfl
              clear hK K
              try simp only [Act.put, List.setIfInBounds_toArray, List.set_cons_zero, List.set_cons_succ]
              refine wpAnyH_ready (rs := [9]) (by kernel_rfl) (by simp) ?_
              refine AllReadyH.cons (o := { dst := some 97, op := Go.Op.call { callee := Go.Callee.value (Go.Operand.func 24), args := #[Go.Operand.tmp 95, Go.Operand.tmp 96], argTypes := #[22, 22] }, type := 4, pos := "law.go:155", after := #[{ on := 7, ground := Go.Ground.data }, { on := 8, ground := Go.Ground.data }, { on := 7, ground := Go.Ground.chain }, { on := 5, ground := Go.Ground.guard }], guard := some (5, true) }) rfl (fun K hK => ?_) AllReadyH.nil
              go_simp
              refine (HSU.out _ _ _ hC95.out (Kd.C_below HC.out H21.out.below)).mono ?_
              rintro e w22 ⟨rfl, hB22⟩
              have H22 := Aside0.mk (H21.out.step hB22)
              clear hB22
              go_wp2_with fail
              refine hK.out _ _ ?_ (fun hHeld => ?_)
              · exact H22.out.get 5 rfl
              clear hK K
              try simp only [Act.put, List.setIfInBounds_toArray, List.set_cons_zero, List.set_cons_succ]
              refine wpAnyH_take (i := 10) (oi := { dst := some 98, op := Go.Op.pick (Go.Operand.tmp 93) (Go.Operand.tmp 97) (Go.Operand.const (Go.Value.bool false)), type := 4, pos := "law.go:155", after := #[{ on := 5, ground := Go.Ground.data }, { on := 9, ground := Go.Ground.data }], guard := none }) (v := ?_) rfl (by kernel_rfl) (by kernel_rfl) (by kernel_rfl) (fun _ _ _ h => h) (Or.inl ⟨by rfl, ?_⟩) (by assumption) ?_
              rotate_left
              · intro wS hSw; (try dsimp only at hSw); go_simp; (try with_reducible rfl)
              try simp only [Act.put, List.setIfInBounds_toArray, List.set_cons_zero, List.set_cons_succ]
              refine wpAnyH_take (i := 11) (oi := { dst := some 99, op := Go.Op.move (Go.Operand.tmp 98), type := 4, pos := "law.go:155", after := #[{ on := 10, ground := Go.Ground.data }, { on := 9, ground := Go.Ground.chain }], guard := none }) (v := ?_) rfl (by kernel_rfl) (by kernel_rfl) (by kernel_rfl) (fun _ _ _ h => h) (Or.inl ⟨by rfl, ?_⟩) (by assumption) ?_
              rotate_left
              · intro wS hSw; (try dsimp only at hSw); go_simp; (try with_reducible rfl)
              try simp only [Act.put, List.setIfInBounds_toArray, List.set_cons_zero, List.set_cons_succ]
              refine wpAnyH_take (i := 12) (oi := { dst := some 100, op := Go.Op.move (Go.Operand.tmp 4), type := 38, pos := "law.go:155", after := #[{ on := 11, ground := Go.Ground.guard }], guard := some (11, true) }) (v := ?_) rfl (by kernel_rfl) (by kernel_rfl) (by kernel_rfl) (fun _ _ _ h => h) (Or.inl ⟨by rfl, ?_⟩) (by assumption) ?_
              rotate_left
              · intro wS hSw; (try dsimp only at hSw); go_simp; (try with_reducible rfl)
              try simp only [Act.put, List.setIfInBounds_toArray, List.set_cons_zero, List.set_cons_succ]
              refine wpAnyH_take (i := 14) (oi := { dst := some 102, op := Go.Op.load 25 (Go.Operand.tmp 12), type := 25, pos := "law.go:155", after := #[{ on := 11, ground := Go.Ground.guard }], guard := some (11, true) }) (v := .agg (cellsB r)) rfl (by kernel_rfl) (by kernel_rfl) (by kernel_rfl) (fun _ _ _ h => h) (yif_loadV (by rfl) 25 (.tmp 12) rfl g12 _ rfl (fun W h => h) _ hhp rfl HZR.out) (by assumption) ?_
              try simp only [Act.put, List.setIfInBounds_toArray, List.set_cons_zero, List.set_cons_succ]
              refine wpAnyH_ready (rs := [13]) (by kernel_rfl) (by simp) ?_
              refine AllReadyH.cons (o := { dst := some 101, op := Go.Op.call { callee := Go.Callee.value (Go.Operand.func 25), args := #[Go.Operand.tmp 100], argTypes := #[38] }, type := 25, pos := "law.go:155", after := #[{ on := 12, ground := Go.Ground.data }, { on := 11, ground := Go.Ground.chain }, { on := 11, ground := Go.Ground.guard }], guard := some (11, true) }) rfl (fun K hK => ?_) AllReadyH.nil
              go_simp
              refine (HRT.out _ _ _ _ _ _ _ _ HM.out H22.out).mono ?_
              rintro e w23 ⟨rfl, hB23⟩
              have H23 := Aside0.mk (H22.out.step hB23)
              clear hB23
              go_wp2_with fail
              refine hK.out _ _ ?_ (fun hHeld => ?_)
              · exact H23.out.get 5 rfl
              clear hK K
              try simp only [Act.put, List.setIfInBounds_toArray, List.set_cons_zero, List.set_cons_succ]
              refine wpAnyH_take (i := 15) (oi := { dst := some 103, op := Go.Op.binOp Go.BinOp.eql 25 (Go.Operand.tmp 101) (Go.Operand.tmp 102) 25, type := 4, pos := "law.go:155", after := #[{ on := 13, ground := Go.Ground.data }, { on := 14, ground := Go.Ground.data }, { on := 11, ground := Go.Ground.guard }], guard := some (11, true) }) (v := .bool true) rfl (by kernel_rfl) (by kernel_rfl) (by kernel_rfl) (fun _ _ _ h => h) (yif_eqb true (by rfl) 25 _ (.tmp 101) (.tmp 102) rfl r r rfl rfl Try.underlying25 Try.underlying5 size1B guardH HHR.out.1 HHR.out.1 (beq_self_eq_true r)) (by assumption) ?_
              try simp only [Act.put, List.setIfInBounds_toArray, List.set_cons_zero, List.set_cons_succ]
              refine wpAnyH_take (i := 16) (oi := { dst := some 104, op := Go.Op.pick (Go.Operand.tmp 99) (Go.Operand.tmp 103) (Go.Operand.const (Go.Value.bool false)), type := 4, pos := "law.go:155", after := #[{ on := 11, ground := Go.Ground.data }, { on := 15, ground := Go.Ground.data }], guard := none }) (v := ?_) rfl (by kernel_rfl) (by kernel_rfl) (by kernel_rfl) (fun _ _ _ h => h) (Or.inl ⟨by rfl, ?_⟩) (by assumption) ?_
              rotate_left
              · intro wS hSw; (try dsimp only at hSw); go_simp; (try with_reducible rfl)
              try simp only [Act.put, List.setIfInBounds_toArray, List.set_cons_zero, List.set_cons_succ]
              refine wpAnyH_take (i := 17) (oi := { dst := some 105, op := Go.Op.move (Go.Operand.tmp 104), type := 4, pos := "law.go:155", after := #[{ on := 16, ground := Go.Ground.data }, { on := 13, ground := Go.Ground.chain }], guard := none }) (v := ?_) rfl (by kernel_rfl) (by kernel_rfl) (by kernel_rfl) (fun _ _ _ h => h) (Or.inl ⟨by rfl, ?_⟩) (by assumption) ?_
              rotate_left
              · intro wS hSw; (try dsimp only at hSw); go_simp; (try with_reducible rfl)
              try simp only [Act.put, List.setIfInBounds_toArray, List.set_cons_zero, List.set_cons_succ]
              refine wpAnyH_take (i := 18) (oi := { dst := some 106, op := Go.Op.move (Go.Operand.tmp 14), type := 26, pos := "law.go:155", after := #[{ on := 17, ground := Go.Ground.guard }], guard := some (17, true) }) (v := ?_) rfl (by kernel_rfl) (by kernel_rfl) (by kernel_rfl) (fun _ _ _ h => h) (Or.inl ⟨by rfl, ?_⟩) (by assumption) ?_
              rotate_left
              · intro wS hSw; (try dsimp only at hSw); go_simp; (try with_reducible rfl)
              try simp only [Act.put, List.setIfInBounds_toArray, List.set_cons_zero, List.set_cons_succ]
              refine wpAnyH_take (i := 19) (oi := { dst := some 107, op := Go.Op.move (Go.Operand.tmp 16), type := 26, pos := "law.go:155", after := #[{ on := 17, ground := Go.Ground.guard }], guard := some (17, true) }) (v := ?_) rfl (by kernel_rfl) (by kernel_rfl) (by kernel_rfl) (fun _ _ _ h => h) (Or.inl ⟨by rfl, ?_⟩) (by assumption) ?_
              rotate_left
              · intro wS hSw; (try dsimp only at hSw); go_simp; (try with_reducible rfl)
              try simp only [Act.put, List.setIfInBounds_toArray, List.set_cons_zero, List.set_cons_succ]
              refine wpAnyH_ready (rs := [20]) (by kernel_rfl) (by simp) ?_
              refine AllReadyH.cons (o := { dst := some 108, op := Go.Op.call { callee := Go.Callee.value (Go.Operand.func 26), args := #[Go.Operand.tmp 106, Go.Operand.tmp 107], argTypes := #[26, 26] }, type := 4, pos := "law.go:155", after := #[{ on := 18, ground := Go.Ground.data }, { on := 19, ground := Go.Ground.data }, { on := 17, ground := Go.Ground.chain }, { on := 17, ground := Go.Ground.guard }], guard := some (17, true) }) rfl (fun K hK => ?_) AllReadyH.nil
              go_simp
              refine (HSM.out _ _ H23.out).mono ?_
              rintro e w24 ⟨rfl, hB24⟩
              have H24 := Aside0.mk (H23.out.step hB24)
              clear hB24
              go_wp2_with fail
              refine hK.out _ _ ?_ (fun hHeld => ?_)
              · exact H24.out.get 5 rfl
              clear hK K
              try simp only [Act.put, List.setIfInBounds_toArray, List.set_cons_zero, List.set_cons_succ]
              refine wpAnyH_take (i := 21) (oi := { dst := some 109, op := Go.Op.pick (Go.Operand.tmp 105) (Go.Operand.tmp 108) (Go.Operand.const (Go.Value.bool false)), type := 4, pos := "law.go:155", after := #[{ on := 17, ground := Go.Ground.data }, { on := 20, ground := Go.Ground.data }], guard := none }) (v := ?_) rfl (by kernel_rfl) (by kernel_rfl) (by kernel_rfl) (fun _ _ _ h => h) (Or.inl ⟨by rfl, ?_⟩) (by assumption) ?_
              rotate_left
              · intro wS hSw; (try dsimp only at hSw); go_simp; (try with_reducible rfl)
              try simp only [Act.put, List.setIfInBounds_toArray, List.set_cons_zero, List.set_cons_succ]
              refine wpAnyH_take (i := 22) (oi := { dst := some 2, op := Go.Op.assign (Go.Operand.tmp 109), type := 4, pos := "law.go:155", after := #[{ on := 21, ground := Go.Ground.data }, { on := 20, ground := Go.Ground.chain }, { on := 0, ground := Go.Ground.phase }, { on := 1, ground := Go.Ground.phase }, { on := 2, ground := Go.Ground.phase }, { on := 3, ground := Go.Ground.phase }, { on := 4, ground := Go.Ground.phase }, { on := 5, ground := Go.Ground.phase }, { on := 6, ground := Go.Ground.phase }, { on := 7, ground := Go.Ground.phase }, { on := 8, ground := Go.Ground.phase }, { on := 9, ground := Go.Ground.phase }, { on := 10, ground := Go.Ground.phase }, { on := 11, ground := Go.Ground.phase }, { on := 12, ground := Go.Ground.phase }, { on := 13, ground := Go.Ground.phase }, { on := 14, ground := Go.Ground.phase }, { on := 15, ground := Go.Ground.phase }, { on := 16, ground := Go.Ground.phase }, { on := 17, ground := Go.Ground.phase }, { on := 18, ground := Go.Ground.phase }, { on := 19, ground := Go.Ground.phase }, { on := 20, ground := Go.Ground.phase }, { on := 21, ground := Go.Ground.phase }], guard := none }) (v := ?_) rfl (by kernel_rfl) (by kernel_rfl) (by kernel_rfl) (fun _ _ _ h => h) (Or.inl ⟨by rfl, ?_⟩) (by assumption) ?_
              rotate_left
              · intro wS hSw; (try dsimp only at hSw); go_simp; (try with_reducible rfl)
              try simp only [Act.put, List.setIfInBounds_toArray, List.set_cons_zero, List.set_cons_succ]
              refine wpAnyH_done (by kernel_rfl) ?_ _
              clear hHeld
              go_wp2_with fail
              go_ret
              exact ⟨rfl, H24.out.below⟩
theorem fresh11_law (ws : List Int) (hw : Wrd ws) (hb : ws.length * 8 ≤ 140737488351232) (A : Option Addr) (c : Nat) (hc : ws.length ≤ c) (w : World) (hC : Kd.C kU w A ws.length ws) :
    Calls Try.prog 4 #[.slice A ws.length c] w fun e w' => e = .returned (.bool true) ∧ Below w.heap.size w w' := by
  rcases size_ways ws.length with hs | ⟨D, hD, hl⟩
  · exact fresh_no ws hs hb A c hc w hC
  · exact fresh_yes D hD ws hl hw A c hc w hC
end Go.Proofs.Ytocphkfkdadhaaa.H

