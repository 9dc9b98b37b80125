import Derived.Test.YtdjoekckhmggbaaH11
import Derived.Lib.SlBytesConst
namespace Go.Proofs.Ytdjoekckhmggbaa.H
open Go.RowKit Go.Proofs.YtdjoekckhmggbaaW.PrintWords Go.Proofs.YtdjoekckhmggbaaW.PrintLast Go.Proofs.YtdjoekckhmggbaaW.PrintMore Go.Proofs.Ytdjoekckhmggbaa.PRF
attribute [local go_sem] max2_int min2_int max_two min_two max_three min_three max_four min_four
set_option linter.unusedVariables false
set_option linter.unusedSimpArgs false

theorem bytes_C {w : World} {g : Nat} {t : TypeId} {fr : Nat × Nat} (xs : List Int) (hm : xs.length ≤ 9223372036854775807) (h : w.heap[g]? = some (.cells (xs.map (Value.int .u8)).toArray t fr)) :
    Kd.C (Kd.int .u8) w (some ⟨g, 0, none⟩) xs.length xs := by
  refine Kd.C_of_reads (d := 0) ⟨rfl, hm, fun _ => ⟨_, rfl, fun j hj => ?_⟩⟩
  have := cell_of_row w g j _ t fr h
  have e : (⟨g, 0, none⟩ : Addr).add j = ⟨g, j, none⟩ := by
    unfold Addr.add
    split
    · rename_i h0; rw [h0]
    · simp
  rw [e, this]
  simp [List.getD_eq_getElem?_getD, hj]
theorem blk_new (w : World) (o : Obj) (n : Nat) (hn : n = w.heap.size) : (w.alloc o).heap[n]? = some o := by
  subst hn
  show (w.heap.push o)[w.heap.size]? = _
  simp
theorem size_new (w : World) (o : Obj) : (w.alloc o).heap.size = w.heap.size + 1 := by
  show (w.heap.push o).size = _
  simp
theorem items2_C {w : World} {g : Nat} {t : TypeId} {fr : Nat × Nat} (x y : S47) {a b c a' b' c' : Value} (hx : k47.K w x [a, b, c]) (hy : k47.K w y [a', b', c']) (h : w.heap[g]? = some (.cells #[a, b, c, a', b', c'] t fr)) :
    Kd.C k47 w (some ⟨g, 0, none⟩) 2 [x, y] := by
  refine ⟨rfl, by omega, fun _ => ⟨_, rfl, fun j p hj => ?_⟩⟩
  have hc := fun k => cell_of_row w g k _ t fr h
  match j, hj with
  | 0, hj =>
    simp only [List.getElem?_cons_zero, Option.some.injEq] at hj
    subst hj
    refine ⟨_, rfl, hx, fun i u hu => ?_⟩
    match i, hu with
    | 0, hu => rw [← hu]; exact hc 0
    | 1, hu => rw [← hu]; exact hc 1
    | 2, hu => rw [← hu]; exact hc 2
  | 1, hj =>
    simp only [List.getElem?_cons_succ, List.getElem?_cons_zero, Option.some.injEq] at hj
    subst hj
    refine ⟨_, rfl, hy, fun i u hu => ?_⟩
    match i, hu with
    | 0, hu => rw [← hu]; exact hc 3
    | 1, hu => rw [← hu]; exact hc 4
    | 2, hu => rw [← hu]; exact hc 5

def dogP : S47 := ⟨true, [], [⟨false, [100, 111, 103], []⟩, ⟨false, [0], []⟩]⟩
theorem dog_enc : encP dogP = ([197, 131, 100, 111, 103, 0], 0) := by
  simp [dogP, encP, vP, wfP, formP, formsP, strP, aheadP]
theorem bad_dec : decodeP [129, 5] = .error 8 := by
  simp [decodeP, itemP, itemF, bodyP, cutP, Except.bind]

set_option maxHeartbeats 2000000 in
set_option maxRecDepth 100000 in
theorem anchored2 (w : World) : Calls Try.prog 27 #[] w fun e w' => e = .returned (.bool true) ∧ Below w.heap.size w w' := by
  have HB := Aside0.mk (Below.refl w.heap.size w)
  have kc := fun (w : World) (C : Array Value) (n c : Nat) => Lib.run_convert_bytes_const (P := Try.prog) w 24 5 C n c Try.underlying24 Try.underlying5
  go_enter Try.func27, Try.ntmps27
  go_wp2_with fail
  have hw1 : ∀ W1 : World, W1 = (((w.alloc (Obj.cells #[Value.int IntKind.u8 100, Value.int IntKind.u8 111, Value.int IntKind.u8 103] 5 (3, 4))).alloc
        (Obj.cells #[Value.int IntKind.u8 0] 5)).alloc
    (Obj.cells
      #[Value.bool false, Value.slice (some { block := w.heap.size, off := 0 }) 3 3, Value.slice none 0 0,
        Value.bool false, Value.slice (some { block := w.heap.size + 1, off := 0 }) 1 1, Value.slice none 0 0]
      47)) → Below w.heap.size w W1 ∧ Kd.C k47 W1 (some ⟨w.heap.size + 1 + 1, 0, none⟩) 2 [⟨false, [100, 111, 103], []⟩, ⟨false, [0], []⟩] := by
    rintro W1 rfl
    refine ⟨below_alloc (below_alloc (below_alloc HB.out _) _) _, items2_C _ _ (t := 47) (fr := (0, 0)) (k47_mk _ ⟨false, [100, 111, 103], []⟩ (A1 := some ⟨w.heap.size, 0, none⟩) (c1 := 3) (by simp) (bytes_C (t := 5) (fr := (3, 4)) [100, 111, 103] (by simp) ?_) (A2 := none) (c2 := 0) (by simp) (Kd.C_nil _ _)) (k47_mk _ ⟨false, [0], []⟩ (A1 := some ⟨w.heap.size + 1, 0, none⟩) (c1 := 1) (by simp) (bytes_C (t := 5) (fr := (0, 0)) [0] (by simp) ?_) (A2 := none) (c2 := 0) (by simp) (Kd.C_nil _ _)) ?_⟩
    · exact blk_alloc (blk_alloc (blk_new _ _ _ rfl) _) _
    · exact blk_alloc (blk_new _ _ _ (size_new _ _).symm) _
    · exact blk_new _ _ _ (by rw [size_new, size_new])
  generalize hW1 : (World.alloc _ _ : World) = W1
  have hw2 := hw1 W1 hW1.symm
  have HB1 := Aside0.mk hw2.1
  have HC1 := Aside0.mk hw2.2
  clear hw1 hw2 hW1 kc
  generalize w.heap.size + 1 + 1 = g3 at HC1 ⊢
  refine (encode_any dogP none (some ⟨g3, 0, none⟩) 0 2 W1 (Kd.C_nil _ _) (by simp [dogP]) HC1.out (by simp [dogP])).mono ?_
  rw [dog_enc]
  rintro e w2 ⟨v, rfl, hR2, hE2⟩
  obtain ⟨Av, nv, cv, rfl, hnv⟩ := R_shape hR2
  have HR2 := Aside0.mk hR2
  have HNV := Aside0.mk hnv
  have HB2 := Aside0.mk (below_step HB1.out hE2)
  clear hR2 hE2 hnv
  go_wp2_with fail
  have HV2 := Aside0.mk (bytes_C (g := w2.heap.size) (t := 5) (fr := (0, 0)) (w := w2.alloc (Obj.cells #[Value.int IntKind.u8 129, Value.int IntKind.u8 5] 5)) [129, 5] (by simp) (blk_new _ _ _ rfl))
  have HB2' := Aside0.mk (below_alloc HB2.out (Obj.cells #[Value.int IntKind.u8 129, Value.int IntKind.u8 5] 5))
  have HR2' := Aside0.mk (Kd.R_alloc HR2.out (Obj.cells #[Value.int IntKind.u8 129, Value.int IntKind.u8 5] 5))
  generalize (w2.alloc (Obj.cells #[Value.int IntKind.u8 129, Value.int IntKind.u8 5] 5)) = w3 at *
  generalize w2.heap.size = g2 at HV2 ⊢
  refine (decode_any (some ⟨g2, 0, none⟩) 2 [129, 5] w3 HV2.out (by simp) (by intro x hx; simp at hx; omega)).mono ?_
  rw [bad_dec]
  rintro e w4 ⟨hb4, rfl⟩
  have HB4 := Aside0.mk (below_step HB2'.out hb4)
  have HR4 := Aside0.mk (Kd.R_reads' (Kd.R_below HR2'.out hb4))
  clear hb4
  go_wp2_with fail
  obtain rfl : nv = 6 := HNV.out
  have HC5 := Aside0.mk (bytes_C (g := w4.heap.size + 1) (t := 5) (fr := (0, 0)) (w := (w4.alloc (Obj.cells #[Value.bool false, Value.slice none 0 0, Value.slice none 0 0] 47)).alloc
    (Obj.cells
      #[Value.int IntKind.u8 197, Value.int IntKind.u8 131, Value.int IntKind.u8 100, Value.int IntKind.u8 111,
        Value.int IntKind.u8 103, Value.int IntKind.u8 0]
      5)) [197, 131, 100, 111, 103, 0] (by simp) (blk_new _ _ _ (size_new _ _).symm))
  refine (proctorref01_Same.calls Av cv [197, 131, 100, 111, 103, 0] _ 6 [197, 131, 100, 111, 103, 0] true _ (Kd.C_alloc (Kd.C_alloc HR4.out.2.2 _) _) HR4.out.2.1 HC5.out (by simp) (by unfold proctorref01_Same.f; simp)).mono ?_
  rintro e w6 ⟨rfl, hd⟩
  have HB6 := Aside0.mk (below_step (below_alloc (below_alloc HB4.out _) _) hd.below)
  clear hd
  go_wp2
  go_ret
  exact ⟨rfl, HB6.out⟩
end Go.Proofs.Ytdjoekckhmggbaa.H
