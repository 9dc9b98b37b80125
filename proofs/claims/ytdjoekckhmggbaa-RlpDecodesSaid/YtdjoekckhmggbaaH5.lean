import Derived.Test.YtdjoekckhmggbaaH4
namespace Go.Proofs.Ytdjoekckhmggbaa.H
open Go.RowKit Go.Proofs.YtdjoekckhmggbaaW.PrintWords Go.Proofs.YtdjoekckhmggbaaW.PrintLast Go.Proofs.YtdjoekckhmggbaaW.PrintMore Go.Proofs.Ytdjoekckhmggbaa.PRF
attribute [local go_sem] max2_int min2_int max_two min_two max_three min_three max_four min_four
set_option linter.unusedVariables false
set_option linter.unusedSimpArgs false

section
variable {ops : Array Oper} {rest : List Oper} {o : Oper} {a : Act} {Q : Exit → Act → World → Prop}
/-- append(v, x), x an item -/
theorem app_item {w0 W : World} (hgd : o.guard = none) (s x : Operand)
    (ho : o.op = .call { callee := .builtin .append, args := #[s, x], argTypes := #[45, 45] })
    (v : Value) (xs : List S47) (y : S47) (v1 v2 : Value) (ok okp : Nat → Prop) (hs : a.eval s = v) {B : Nat} (hx : a.eval x = .slice (some ⟨B, 0, none⟩) 1 1) (hB : W.heap.size = B)
    (h1 : Kd.R (Kd.int .u8) 5 W w0.heap.size okp v1 y.f1) (h2 : Kd.R k47 47 W w0.heap.size okp v2 y.f2)
    (HB : Aside0 (Below w0.heap.size w0 W)) (HO : Kd.R k47 47 W w0.heap.size ok v xs) (hokp : ∀ k, okp k → ok k ∧ some k ≠ v.ownBlock) (hfresh : ∀ k, W.heap.size ≤ k → ok k)
    (hl : xs.length ≤ 70000)
    (h : ∀ A1 c1 w1, Aside0 (Kd.R k47 47 w1 w0.heap.size ok (.slice A1 (xs ++ [y]).length c1) (xs ++ [y])) → Aside0 (Below w0.heap.size w0 w1) → Aside0 (W.grownBy w1 v.ownBlock) → wpList Try.prog ops Q rest (a.put o.dst (.slice A1 (xs ++ [y]).length c1)) w1) :
    wpList Try.prog ops Q (o :: rest) a (W.alloc (.cells #[.bool y.f0, v1, v2] 47)) :=
  Kd.R_append k47 (w0 := w0) (W := W) w0.heap.size hgd s x 45 47 (.agg #[.bool false, .slice none 0 0, .slice none 0 0]) 56 ho Try.underlying45 info47 rfl (by decide) (by omega) v xs y [.bool y.f0, v1, v2] ok okp hs (by rw [hB]; exact hx) (k47_mkM W w0.heap.size okp y h1 h2) hokp hfresh HO HB.out (below_size HB.out) (by omega)
    fun v1 w1 h1 h2 h3 _ => by
      obtain ⟨A1, c1, rfl⟩ := Kd.R_slice h1
      exact h A1 c1 w1 ⟨h1⟩ ⟨h2⟩ ⟨h3⟩
end

theorem R_keep3 {α : Type} {d : Kd α} {e b : Nat} {w2 w3 : World} {ok : Nat → Prop} {v : Value} {xs : List α} {g : Nat} {o : Obj} {x y z : Value} (h : d.R e w3 w2.heap.size ok v xs) (hg : w2.heap[g]? = some o) (hle : b ≤ w2.heap.size) :
    d.R e (((w3.setCell ⟨g, 0, none⟩ x).setCell ⟨g, 1, none⟩ y).setCell ⟨g, 2, none⟩ z) b (fun k => w2.heap.size ≤ k) v xs :=
  Kd.R_lower (Kd.R_mono (Kd.R_bound (Kd.R_keep (Kd.R_newB h hg) keep3 (fun k hk => hk.2))) (fun k hk => hk.2.1)) hle
theorem bodyP_byt {f : Nat} {b x y : List Int} (hb : Byt b) (h : bodyP f b = .ok (x, y)) : Byt x := by
  unfold bodyP at h
  split at h
  · obtain ⟨h1, rfl, rfl⟩ := cutP_ok h
    exact hb.take _
  · split at h
    · split at h
      · cases h
      · obtain ⟨h1, rfl, rfl⟩ := cutP_ok h
        exact (hb.drop _).take _
    · cases h
def listF (f : List Int → Except Int (S47 × List Int)) (q : List Int × List Int) : Except Int (S47 × List Int) := (itemsP f q.1.length q.1).bind fun xs => .ok (⟨true, [], xs⟩, q.2)

set_option maxHeartbeats 2000000 in
set_option maxRecDepth 100000 in
theorem item_deep (A : Option Addr) (c n : Nat) (c0 : Int) (rest : List Int) (w : World) (hr : Kd.C (Kd.int .u8) w A n (c0 :: rest)) (hc : n ≤ c) (hlo : 192 ≤ c0) :
    Calls Try.prog 50 #[.slice A n c, .int .i64 0] w (ItemPost A (c0 :: rest) (.error 8) w) := by
  have HB := Aside0.mk (Below.refl w.heap.size w)
  have HR := Aside0.mk hr
  have hn : 0 < n := by have := hr.1; simp at this; omega
  have hm : n ≤ 9223372036854775807 := hr.2.1
  obtain ⟨ad, rfl, hcell⟩ := Kd.at_int hr 0 (by omega) (by omega)
  obtain ⟨A', hcut, hC0⟩ := tail_cut (A := some ad) hr.1 (by omega) hc
  clear hr hC0
  simp only [Int.toNat_zero, Addr.add_zero', rd, List.getD_cons_zero] at hcell
  have hcw : ∀ w1, Below w.heap.size w w1 → w1.cell? ad = some (.int .u8 c0) := fun w1 hb => pw_cell_below hb hcell
  have HCW := Aside0.mk hcw
  clear hcw
  have hd : decide (c0 < 128) = false := decide_eq_false (by omega)
  have hd2 : decide (c0 < 192) = false := decide_eq_false (by omega)
  go_enter Try.func50, Try.ntmps50
  go_wp2_with (first | ((with_reducible refine gate_dst (N := 4) rfl ?_); refine alloc_ev rfl (N := 4) rfl (cs := #[.bool false, .slice none 0 0, .slice none 0 0]) (t := 47) HB ?hr ?_; (case hr => first | (go_simp; done) | (go_simp; rfl)); intro g4 w1 HG HGe HE HB1; have hcw1 := HCW.out w1 HB1.out))
  refine (need_ok 7 _).mono ?_
  rintro e w' ⟨rfl, rfl⟩
  go_wp2_with fail
  refine (need_no 8 _).mono ?_
  rintro e w' ⟨rfl, rfl⟩
  exact ⟨rfl, HB1.out, rfl⟩

set_option maxHeartbeats 4000000 in
set_option maxRecDepth 100000 in
theorem item_list (A : Option Addr) (c n lv : Nat) (c0 : Int) (rest : List Int) (w : World) (hr : Kd.C (Kd.int .u8) w A n (c0 :: rest)) (hc : n ≤ c) (hlo : 192 ≤ c0) (h255 : c0 ≤ 255) (hb : Byt rest) (hn65 : n ≤ 65536) (hlv : lv ≤ 15)
    (ih : ∀ (A : Option Addr) (l : List Int) (w : World), Kd.C (Kd.int .u8) w A l.length l → Byt l → l.length ≤ 65536 → Calls Try.prog 50 #[.slice A l.length l.length, .int .i64 (lv : Int)] w (ItemPost A l (itemP lv l) w)) :
    Calls Try.prog 50 #[.slice A n c, .int .i64 ((lv : Int) + 1)] w (ItemPost A (c0 :: rest) ((bodyP (c0 - 192).toNat rest).bind (listF (itemP lv))) w) := by
  have IH := Aside0.mk ih
  clear ih
  have HB := Aside0.mk (Below.refl w.heap.size w)
  have HR := Aside0.mk hr
  have hn : 0 < n := by have := hr.1; simp at this; omega
  have hm : n ≤ 9223372036854775807 := hr.2.1
  have hn1 : rest.length = n - 1 := by have hl := hr.1; simp only [List.length_cons] at hl; omega
  obtain ⟨ad, rfl, hcell⟩ := Kd.at_int hr 0 (by omega) (by omega)
  obtain ⟨A', hcut, hC0⟩ := tail_cut (A := some ad) hr.1 (by omega) hc
  have HC0 := Aside0.mk hC0
  have hC' := hC0 _ hr
  have HC' := Aside0.mk hC'
  simp only [List.drop_succ_cons, List.drop_zero] at HC' HC0
  clear hr hC' hC0
  simp only [Int.toNat_zero, Addr.add_zero', rd, List.getD_cons_zero] at hcell
  have hcw : ∀ w1, Below w.heap.size w w1 → w1.cell? ad = some (.int .u8 c0) := fun w1 hb => pw_cell_below hb hcell
  have HCW := Aside0.mk hcw
  clear hcw
  have hd : decide (c0 < 128) = false := decide_eq_false (by omega)
  have hd2 : decide (c0 < 192) = false := decide_eq_false (by omega)
  obtain ⟨r, hrr⟩ : ∃ r, r = bodyP (c0 - 192).toNat rest := ⟨_, rfl⟩
  have HBD := Aside0.mk (fun (W : World) (hbe : Below w.heap.size w W) => body_any c0 192 (c0 - 192).toNat A' (n - 1) rest W (by omega) (by omega) (by omega) (by omega) (by rw [hn1]; exact Kd.C_below HC'.out hbe) (by omega) hb)
  rw [hn1] at HBD
  rw [← hrr] at HBD ⊢
  obtain ⟨res, hres⟩ : ∃ res, res = r.bind (listF (itemP lv)) := ⟨_, rfl⟩
  rw [← hres]
  have HRES := Aside0.mk hres
  have HRR := Aside0.mk hrr
  have HN1 := Aside0.mk hn1
  have HBy := Aside0.mk hb
  clear hrr hn1 hb hres
  have hlp : decide ((0 : Int) < (lv : Int) + 1) = true := decide_eq_true (by omega)
  go_enter Try.func50, Try.ntmps50
  go_wp2_with (first | ((with_reducible refine gate_dst (N := 4) rfl ?_); refine alloc_ev rfl (N := 4) rfl (cs := #[.bool false, .slice none 0 0, .slice none 0 0]) (t := 47) HB ?hr ?_; (case hr => first | (go_simp; done) | (go_simp; rfl)); intro g4 w1 HG HGe HE HB1; have hcw1 := HCW.out w1 HB1.out))
  refine (need_ok 7 _).mono ?_
  rintro e w' ⟨rfl, rfl⟩
  go_wp2_with fail
  refine (need_ok 8 _).mono ?_
  rintro e w' ⟨rfl, rfl⟩
  go_wp2_with fail
  refine (HBD.out _ HB1.out).mono ?_
  rintro e w' ⟨hdr, hp⟩
  obtain ⟨m, rfl⟩ := hdr.out
  clear hdr
  cases r with
  | error k =>
    obtain rfl := hp
    obtain rfl : res = .error k := HRES.out
    exact ⟨rfl, pw_below_drewN HB1.out m, rfl⟩
  | ok q =>
    obtain ⟨inner, left⟩ := q
    obtain ⟨A1, A2, rfl, hc12⟩ := hp
    have HC12 := Aside0.mk hc12
    clear hc12
    simp only [Except.bind, listF] at HRES HC12
    have hcf := cf3 HG
    go_wp2_with fail
    have hg0 : w.heap.size ≤ g4 := Nat.le_of_eq HGe.out
    have hg1 : g4 < w1.heap.size := blk_lt HG.out
    have hil : inner.length ≤ 65535 := by have := bodyP_len HRR.out.symm; have := HN1.out; omega
    have hC1 := (HC12.out w (by rw [HN1.out]; exact HC'.out)).1
    have hBi : Byt inner := bodyP_byt HBy.out HRR.out.symm
    go_loopw [10] (fun v10 wr => ∃ (done : List S47) (l' : List Int) (A' : Option Addr) (v2 : Value), v10 = .slice A' l'.length l'.length ∧ Aside0 (wr.heap[g4]? = some (.cells #[.bool true, .slice none 0 0, v2] 47 (0, 0))) ∧
        Aside0 (Kd.R k47 47 wr w.heap.size (fun k => k ≠ g4) v2 done) ∧ Aside0 (Kd.C (Kd.int .u8) w A' l'.length l') ∧ Aside0 (Below w.heap.size w wr) ∧ Aside0 (Byt l') ∧ Aside0 (done.length + l'.length ≤ 65535) ∧
        Aside0 (itemsP (itemP lv) inner.length inner = (itemsP (itemP lv) l'.length l').bind fun xs => .ok (done ++ xs)))
      (fun v10 _ => match v10 with | .slice _ k _ => k | _ => 0)
    case atStart =>
      refine ⟨[], inner, A1, .slice none 0 0, rfl, ⟨?_⟩, ⟨Kd.R_nil _ _ _ _ _⟩, ⟨hC1⟩, ⟨below_set (pw_below_drewN HB1.out m) hg0⟩, ⟨hBi⟩, ⟨by show 0 + inner.length ≤ 65535; omega⟩, ⟨?_⟩⟩
      · exact blk_put (w := w1.drewN m) HG.out 0 _ rfl
      · cases itemsP (itemP lv) inner.length inner <;> rfl
    case round =>
      clear hC1 hBi hcf
      obtain ⟨done, l', A3, v2, rfl, HG4, HO, HC3, HBr, HBy3, HL, HI⟩ := hrel
      by_cases hl0 : 0 < l'.length
      · have hlt : decide (0 < l'.length) = true := decide_eq_true hl0
        go_wp2_with (first | ((with_reducible refine gate_dst (N := 11) rfl ?_); refine alloc_ev rfl (N := 11) rfl (cs := #[.bool false, .slice none 0 0, .slice none 0 0]) (t := 47) HBr ?hr ?_; (case hr => first | (go_simp; done) | (go_simp; rfl)); intro g11 w2 HG11 HGe11 HE2 HB2))
        have HS := Aside0.mk (items_step lv l' hl0)
        refine (IH.out A3 l' w2 (Kd.C_below HC3.out HB2.out) HBy3.out (by have := HL.out; omega)).mono ?_
        rintro e w3 ⟨hbe, hp⟩
        generalize hit : itemP lv l' = r1 at hp HS
        cases r1 with
        | error k =>
          obtain rfl := hp
          obtain rfl : res = .error k := by rw [HRES.out, HI.out, HS.out]; rfl
          exact ⟨rfl, below_step HB2.out hbe, rfl⟩
        | ok q2 =>
          obtain ⟨x, l2⟩ := q2
          obtain ⟨b1, b2, A4, rfl, hR1, hR2, hC4⟩ := hp
          have hlen := itemP_len hit
          obtain ⟨Ab1, cb1, rfl⟩ := Kd.R_slice hR1
          obtain ⟨Ab2, cb2, rfl⟩ := Kd.R_slice hR2
          have HR1 := Aside0.mk hR1
          have HR2 := Aside0.mk hR2
          have HC4 := Aside0.mk hC4
          have HBe := Aside0.mk hbe
          have HIt := Aside0.mk hit
          obtain ⟨A5, c5, rfl⟩ := Kd.R_slice HO.out
          have HG11b := Aside0.mk (blk_below HG11.out hbe)
          have HG4b := Aside0.mk (blk_below (blk_below HG4.out HE2.out) hbe)
          have hcf11 := cf3 HG11b
          have hcf4 := cf3 HG4b
          clear hR1 hR2 hC4 hbe hit
          have hne1 : ¬ g4 = g11 := by have := blk_lt HG4.out; have := HGe11.out; omega
          have hne2 : ¬ g11 = g4 := fun h => hne1 h.symm
          have hge1 : w.heap.size ≤ g11 := by have := HGe11.out; have := HBr.out.size; omega
          have hw2 : g11 < w2.heap.size := blk_lt HG11.out
          have K1 := Aside0.mk (fun (x1 y1 z1 : Value) => R_keep3 (x := x1) (y := y1) (z := z1) HR1.out HG11.out HB2.out.size)
          have K2 := Aside0.mk (fun (x1 y1 z1 : Value) => R_keep3 (x := x1) (y := y1) (z := z1) HR2.out HG11.out HB2.out.size)
          have K3 := Aside0.mk (fun (x1 y1 z1 : Value) => below3 (x := x1) (y := y1) (z := z1) (below_step HB2.out HBe.out) hge1)
          have K4 := Aside0.mk (fun (x1 y1 z1 : Value) => Kd.R_below HO.out (below3 (x := x1) (y := y1) (z := z1) (below_step HE2.out HBe.out) (Nat.le_of_eq HGe11.out)))
          have K5 : Aside0 (∀ k, w2.heap.size ≤ k → k ≠ g4 ∧ some k ≠ (Value.slice A5 done.length c5).ownBlock) := ⟨fun k hk => ⟨by have := HGe11.out; have := blk_lt HG4.out; omega, fun he => by have := Kd.R_lt HO.out k he.symm; have := HGe11.out; omega⟩⟩
          have K6 : Aside0 (∀ (x1 y1 z1 : Value), (((w3.setCell ⟨g11, 0, none⟩ x1).setCell ⟨g11, 1, none⟩ y1).setCell ⟨g11, 2, none⟩ z1).heap[g4]? = some (.cells #[.bool true, .slice none 0 0, .slice A5 done.length c5] 47 (0, 0))) :=
            ⟨fun x1 y1 z1 => ((keep3 (x := x1) (y := y1) (z := z1)).2 g4 (blk_lt HG4b.out) hne1 (by simp)).trans HG4b.out⟩
          go_wp2_with (first | ((with_reducible refine gate_builtin (b := .append) (xs := #[.tmp 76, .tmp 78]) rfl ?_); refine app_item (w0 := w) rfl (.tmp 76) (.tmp 78) rfl (.slice A5 done.length c5) done x (.slice Ab1 x.f1.length cb1) (.slice Ab2 x.f2.length cb2) (fun k => k ≠ g4) (fun k => w2.heap.size ≤ k) rfl rfl (by simp) (K1.out _ _ _) (K2.out _ _ _) ⟨K3.out _ _ _⟩ (Kd.R_mono (K4.out _ _ _) (fun _ h => h)) K5.out (fun k hk => by have := blk_lt (K6.out (.bool x.f0) (.slice Ab1 x.f1.length cb1) (.slice Ab2 x.f2.length cb2)); omega) (by have := HL.out; omega) ?_; intro A6 c6 w5 HO5 HB5 hg5; have HG5 := Aside0.mk (blk_grown (K6.out _ _ _) hg5.out (fun he => HO.out.1 g4 he.symm rfl)); have hcf5 := cf3 HG5))
          go_roundw
          case rel =>
            refine ⟨done ++ [x], l2, A4, .slice A6 (done ++ [x]).length c6, rfl, ⟨?_⟩, ⟨?_⟩, ⟨HC4.out w HC3.out⟩, ⟨?_⟩, ⟨itemP_byt HBy3.out HIt.out⟩, ⟨?_⟩, ⟨?_⟩⟩
            · have := blk_put HG5.out 2 (.slice A6 (done ++ [x]).length c6) (cs' := #[.bool true, .slice none 0 0, .slice A6 (done ++ [x]).length c6]) rfl
              simpa using this
            · have := Kd.R_far (p := ⟨g4, 2, none⟩) HO5.out (fun k hk => hk) (.slice A6 (done ++ [x]).length c6)
              simpa using this
            · exact below_set HB5.out hg0
            · have := HL.out; simp only [List.length_append, List.length_singleton]; omega
            · rw [HI.out, HS.out]
              simp only [Except.bind]
              cases itemsP (itemP lv) l2.length l2 with
              | error e => rfl
              | ok xs => simp
          case measure => exact hlen
      · have hlt : decide (0 < l'.length) = false := decide_eq_false hl0
        obtain rfl : l' = [] := List.eq_nil_of_length_eq_zero (by omega)
        obtain rfl : res = .ok (⟨true, [], done⟩, left) := by
          rw [HRES.out, HI.out]; simp [itemsP, Except.bind]
        obtain ⟨A5, c5, rfl⟩ := Kd.R_slice HO.out
        have hcf4 := cf3 HG4
        go_wp2
        refine bodyPost_ret (results_ct rfl _ _ g4 47 #[.bool true, .slice none 0 0, .slice A5 done.length c5] (0, 0) _ rfl (put3 HG4.out) Try.underlying47 rfl (by kernel_rfl)) rfl ?_
        refine ⟨below3 HBr.out hg0, .slice none 0 0, .slice A5 done.length c5, A2, rfl, Kd.R_nil _ _ _ _ _, ?_, ?_⟩
        · exact Kd.R_mono (Kd.R_keep HO.out keep3 (fun k hk => hk)) (fun _ _ => trivial)
        · intro W hW; rw [HR.out.1] at hW; exact (HC12.out W (by rw [HN1.out]; exact HC0.out W hW)).2

/-- AN ITEM FROM THE FRONT, of whatever bytes. -/
theorem item_any (lv : Nat) (hlv : lv ≤ 16) : ∀ (A : Option Addr) (c : Nat) (l : List Int) (w : World), Kd.C (Kd.int .u8) w A l.length l → l.length ≤ c → Byt l → l.length ≤ 65536 →
    Calls Try.prog 50 #[.slice A l.length c, .int .i64 (lv : Int)] w (ItemPost A l (itemP lv l) w) := by
  induction lv with
  | zero =>
    intro A c l w hC hc hB hl
    cases l with
    | nil => exact (item_empty A c 0 w).mono fun e w' h => ⟨h.2, h.1⟩
    | cons c0 rest =>
      have h255 := hB.head.2
      simp only [itemP, itemF]
      split
      · exact item_byte A _ _ 0 c0 rest w hC hc (by omega)
      · split
        · exact item_str A _ _ 0 c0 rest w hC hc (by omega) (by omega) hB.tail hl
        · exact item_deep A _ _ c0 rest w hC hc (by omega)
  | succ lv ih =>
    intro A c l w hC hc hB hl
    cases l with
    | nil => exact (item_empty A c (lv + 1) w).mono fun e w' h => ⟨h.2, h.1⟩
    | cons c0 rest =>
      have h255 := hB.head.2
      simp only [itemP, itemF]
      split
      · exact item_byte A _ _ (lv + 1) c0 rest w hC hc (by omega)
      · split
        · exact item_str A _ _ (lv + 1) c0 rest w hC hc (by omega) (by omega) hB.tail hl
        · exact item_list A _ _ lv c0 rest w hC hc (by omega) (by omega) hB.tail hl (by omega) (fun A l w h1 h2 h3 => ih (by omega) A _ l w h1 (Nat.le_refl _) h2 h3)
end Go.Proofs.Ytdjoekckhmggbaa.H
