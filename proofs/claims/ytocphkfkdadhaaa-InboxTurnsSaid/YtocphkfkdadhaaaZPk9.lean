import Derived.Test.YtocphkfkdadhaaaZPk8
import Derived.Recover
import Derived.Defers
import Derived.Laws.Pointers
import Derived.Test.YtocphkfkdadhaaaZPk6
import Derived.Test.YtocphkfkdadhaaaZPk7
import Derived.Test.YtocphkfkdadhaaaZPk5
set_option maxHeartbeats 4000000
set_option linter.unusedVariables false
set_option linter.unusedSimpArgs false
set_option maxRecDepth 100000
namespace Go.Proofs.Ytocphkfkdadhaaa.K
open Go.RowKit Go.Proofs.YtocphkfkdadhaaaW.PrintWords Go.Proofs.YtocphkfkdadhaaaW.PrintLast Go.Proofs.YtocphkfkdadhaaaW.PrintMore Go.Proofs.Ytocphkfkdadhaaa.PRF
attribute [local go_sem] max2_int min2_int max_two min_two max_three min_three max_four min_four
section
variable {ops : Array Oper} {rest : List Oper} {o : Oper} {a : Act} {Q : Exit → Act → World → Prop}
theorem app_item {w0 W : World} (hgd : o.guard = none) (s x : Operand)
 (ho : o.op = .call { callee := .builtin .append, args := #[s, x], argTypes := #[157, 157] })
 (v : Value) (xs : List S159) (y : S159) (v1 v2 : Value) (ok okp : Nat → Prop) (hs : a.eval s = v) {B : Nat} (hx : a.eval x = .slice (some ⟨B, 0, none⟩) 1 1) (hB : W.heap.size = B)
 (h1 : Kd.R (Kd.int .u8) 5 W w0.heap.size okp v1 y.f1) (h2 : Kd.R k159 159 W w0.heap.size okp v2 y.f2)
 (HB : Aside0 (Below w0.heap.size w0 W)) (HO : Kd.R k159 159 W w0.heap.size ok v xs) (hokp : ∀ k, okp k → ok k ∧ some k ≠ v.ownBlock) (hfresh : ∀ k, W.heap.size ≤ k → ok k)
 (hl : xs.length ≤ 70000)
 (h : ∀ A1 c1 w1, Aside0 (Kd.R k159 159 w1 w0.heap.size ok (.slice A1 (xs ++ [y]).length c1) (xs ++ [y])) → Aside0 (Below w0.heap.size w0 w1) → Aside0 (W.grownBy w1 v.ownBlock) → wpList Try.prog ops Q rest (a.put o.dst (.slice A1 (xs ++ [y]).length c1)) w1) :
 wpList Try.prog ops Q (o :: rest) a (W.alloc (.cells #[.bool y.f0, v1, v2] 159)) :=
 Kd.R_append k159 (w0 := w0) (W := W) w0.heap.size hgd s x 157 159 (.agg #[.bool false, .slice none 0 0, .slice none 0 0]) 56 ho Try.underlying157 info159 rfl (by decide) (by omega) v xs y [.bool y.f0, v1, v2] ok okp hs (by rw [hB]; exact hx) (k159_mkM W w0.heap.size okp y h1 h2) hokp hfresh HO HB.out (below_size HB.out) (by omega)
  fun v1 w1 h1 h2 h3 _ => by
   obtain ⟨A1, c1, rfl⟩ := Kd.R_slice h1
   exact h A1 c1 w1 ⟨h1⟩ ⟨h2⟩ ⟨h3⟩
end
theorem R_keep3 {α : Type} {d : Kd α} {e b : Nat} {w2 w3 : World} {ok : Nat → Prop} {v : Value} {xs : List α} {g : Nat} {o : Obj} {x y z : Value} (h : d.R e w3 w2.heap.size ok v xs) (hg : w2.heap[g]? = some o) (hle : b ≤ w2.heap.size) :
 d.R e (((w3.setCell ⟨g, 0, none⟩ x).setCell ⟨g, 1, none⟩ y).setCell ⟨g, 2, none⟩ z) b (fun k => w2.heap.size ≤ k) v xs :=
 Kd.R_lower (Kd.R_mono (Kd.R_bound (Kd.R_keep (Kd.R_newB h hg) keep3 (fun k hk => hk.2))) (fun k hk => hk.2.1)) hle
theorem bodyP_byt {f : Nat} {b x y : List Int} (hb : Byt b) (h : bodyP f b = .ok (x, y)) : Byt x := by
 unfold bodyP at h
 split at h
 ·obtain ⟨h1, rfl, rfl⟩ := cutP_ok h
  exact hb.take _
 ·split at h
  ·split at h
   ·cases h
   ·obtain ⟨h1, rfl, rfl⟩ := cutP_ok h
    exact (hb.drop _).take _
  ·cases h
def listF (f : List Int → Except Int (S159 × List Int)) (q : List Int × List Int) : Except Int (S159 × List Int) := (itemsP f q.1.length q.1).bind fun xs => .ok (⟨true, [], xs⟩, q.2)
theorem item_deep (A : Option Addr) (c n : Nat) (c0 : Int) (rest : List Int) (w : World) (hr : Kd.C (Kd.int .u8) w A n (c0 :: rest)) (hc : n ≤ c) (hlo : 192 ≤ c0) :
 Calls Try.prog 145 #[.slice A n c, .int .i64 0] w (ItemPost A (c0 :: rest) (.error 8) w) := by
 have HB := Aside0.mk (Below.refl w.heap.size w)
 have HR := Aside0.mk hr
 have hn : 0 < n := by have := hr.1; simp at this; omega
 have hm : n ≤ 9223372036854775807 := hr.2.1
 obtain ⟨ad, rfl, hcell⟩ := Kd.at_int hr 0 (by omega) (by omega)
 obtain ⟨A', hcut, hC0⟩ := tail_cut (A := some ad) hr.1 (by omega) hc
 clear hr hC0
 simp only [Int.toNat_zero, Addr.add_zero', rd, List.getD_cons_zero] at hcell
 have hcw : ∀ w1, Below w.heap.size w w1 → w1.cell? ad = some (.int .u8 c0) := fun w1 hb => pw_cell_below hb hcell
 have HCW := Aside0.mk hcw
 clear hcw
 have hd : decide (c0 < 128) = false := decide_eq_false (by omega)
 have hd2 : decide (c0 < 192) = false := decide_eq_false (by omega)
 go_enter Try.func145, Try.ntmps145
 go_wp2_with (first | ((with_reducible refine gate_dst (N := 4) rfl ?_); refine alloc_ev rfl (N := 4) rfl (cs := #[.bool false, .slice none 0 0, .slice none 0 0]) (t := 159) HB ?hr ?_; (case hr => first | (go_simp; done) | (go_simp; rfl)); intro g4 w1 HG HGe HE HB1; have hcw1 := HCW.out w1 HB1.out))
 refine (need_ok 7 _).mono ?_
 rintro e w' ⟨rfl, rfl⟩
 go_wp2_with fail
 refine (need_no 8 _).mono ?_
 rintro e w' ⟨rfl, rfl⟩
 exact ⟨rfl, HB1.out, rfl⟩
theorem item_list (A : Option Addr) (c n lv : Nat) (c0 : Int) (rest : List Int) (w : World) (hr : Kd.C (Kd.int .u8) w A n (c0 :: rest)) (hc : n ≤ c) (hlo : 192 ≤ c0) (h255 : c0 ≤ 255) (hb : Byt rest) (hn65 : n ≤ 65536) (hlv : lv ≤ 15)
 (ih : ∀ (A : Option Addr) (l : List Int) (w : World), Kd.C (Kd.int .u8) w A l.length l → Byt l → l.length ≤ 65536 → Calls Try.prog 145 #[.slice A l.length l.length, .int .i64 (lv : Int)] w (ItemPost A l (itemP lv l) w)) :
 Calls Try.prog 145 #[.slice A n c, .int .i64 ((lv : Int) + 1)] w (ItemPost A (c0 :: rest) ((bodyP (c0 - 192).toNat rest).bind (listF (itemP lv))) w) := by
 have IH := Aside0.mk ih
 clear ih
 have HB := Aside0.mk (Below.refl w.heap.size w)
 have HR := Aside0.mk hr
 have hn : 0 < n := by have := hr.1; simp at this; omega
 have hm : n ≤ 9223372036854775807 := hr.2.1
 have hn1 : rest.length = n - 1 := by have hl := hr.1; simp only [List.length_cons] at hl; omega
 obtain ⟨ad, rfl, hcell⟩ := Kd.at_int hr 0 (by omega) (by omega)
 obtain ⟨A', hcut, hC0⟩ := tail_cut (A := some ad) hr.1 (by omega) hc
 have HC0 := Aside0.mk hC0
 have hC' := hC0 _ hr
 have HC' := Aside0.mk hC'
 simp only [List.drop_succ_cons, List.drop_zero] at HC' HC0
 clear hr hC' hC0
 simp only [Int.toNat_zero, Addr.add_zero', rd, List.getD_cons_zero] at hcell
 have hcw : ∀ w1, Below w.heap.size w w1 → w1.cell? ad = some (.int .u8 c0) := fun w1 hb => pw_cell_below hb hcell
 have HCW := Aside0.mk hcw
 clear hcw
 have hd : decide (c0 < 128) = false := decide_eq_false (by omega)
 have hd2 : decide (c0 < 192) = false := decide_eq_false (by omega)
 obtain ⟨r, hrr⟩ : ∃ r, r = bodyP (c0 - 192).toNat rest := ⟨_, rfl⟩
 have HBD := Aside0.mk (fun (W : World) (hbe : Below w.heap.size w W) => body_any c0 192 (c0 - 192).toNat A' (n - 1) rest W (by omega) (by omega) (by omega) (by omega) (by rw [hn1]; exact Kd.C_below HC'.out hbe) (by omega) hb)
 rw [hn1] at HBD
 rw [← hrr] at HBD ⊢
 obtain ⟨res, hres⟩ : ∃ res, res = r.bind (listF (itemP lv)) := ⟨_, rfl⟩
 rw [← hres]
 have HRES := Aside0.mk hres
 have HRR := Aside0.mk hrr
 have HN1 := Aside0.mk hn1
 have HBy := Aside0.mk hb
 clear hrr hn1 hb hres
 have hlp : decide ((0 : Int) < (lv : Int) + 1) = true := decide_eq_true (by omega)
 go_enter Try.func145, Try.ntmps145
 go_wp2_with (first | ((with_reducible refine gate_dst (N := 4) rfl ?_); refine alloc_ev rfl (N := 4) rfl (cs := #[.bool false, .slice none 0 0, .slice none 0 0]) (t := 159) HB ?hr ?_; (case hr => first | (go_simp; done) | (go_simp; rfl)); intro g4 w1 HG HGe HE HB1; have hcw1 := HCW.out w1 HB1.out))
 refine (need_ok 7 _).mono ?_
 rintro e w' ⟨rfl, rfl⟩
 go_wp2_with fail
 refine (need_ok 8 _).mono ?_
 rintro e w' ⟨rfl, rfl⟩
 go_wp2_with fail
 refine (HBD.out _ HB1.out).mono ?_
 rintro e w' ⟨hdr, hp⟩
 obtain ⟨m, rfl⟩ := hdr.out
 clear hdr
 cases r with
 | error k =>
  obtain rfl := hp
  obtain rfl : res = .error k := HRES.out
  exact ⟨rfl, pw_below_drewN HB1.out m, rfl⟩
 | ok q =>
  obtain ⟨inner, left⟩ := q
  obtain ⟨A1, A2, rfl, hc12⟩ := hp
  have HC12 := Aside0.mk hc12
  clear hc12
  simp only [Except.bind, listF] at HRES HC12
  have hcf := cf3 HG
  go_wp2_with fail
  have hg0 : w.heap.size ≤ g4 := Nat.le_of_eq HGe.out
  have hg1 : g4 < w1.heap.size := blk_lt HG.out
  have hil : inner.length ≤ 65535 := by have := bodyP_len HRR.out.symm; have := HN1.out; omega
  have hC1 := (HC12.out w (by rw [HN1.out]; exact HC'.out)).1
  have hBi : Byt inner := bodyP_byt HBy.out HRR.out.symm
  go_loopw [10] (fun v10 wr => ∃ (done : List S159) (l' : List Int) (A' : Option Addr) (v2 : Value), v10 = .slice A' l'.length l'.length ∧ Aside0 (wr.heap[g4]? = some (.cells #[.bool true, .slice none 0 0, v2] 159 (0, 0))) ∧
   Aside0 (Kd.R k159 159 wr w.heap.size (fun k => k ≠ g4) v2 done) ∧ Aside0 (Kd.C (Kd.int .u8) w A' l'.length l') ∧ Aside0 (Below w.heap.size w wr) ∧ Aside0 (Byt l') ∧ Aside0 (done.length + l'.length ≤ 65535) ∧
   Aside0 (itemsP (itemP lv) inner.length inner = (itemsP (itemP lv) l'.length l').bind fun xs => .ok (done ++ xs)))
   (fun v10 _ => match v10 with | .slice _ k _ => k | _ => 0)
  case atStart =>
   refine ⟨[], inner, A1, .slice none 0 0, rfl, ⟨?_⟩, ⟨Kd.R_nil _ _ _ _ _⟩, ⟨hC1⟩, ⟨below_set (pw_below_drewN HB1.out m) hg0⟩, ⟨hBi⟩, ⟨by show 0 + inner.length ≤ 65535; omega⟩, ⟨?_⟩⟩
   ·exact blk_put (w := w1.drewN m) HG.out 0 _ rfl
   ·cases itemsP (itemP lv) inner.length inner <;> rfl
  case round =>
   clear hC1 hBi hcf
   obtain ⟨done, l', A3, v2, rfl, HG4, HO, HC3, HBr, HBy3, HL, HI⟩ := hrel
   by_cases hl0 : 0 < l'.length
   ·have hlt : decide (0 < l'.length) = true := decide_eq_true hl0
    go_wp2_with (first | ((with_reducible refine gate_dst (N := 11) rfl ?_); refine alloc_ev rfl (N := 11) rfl (cs := #[.bool false, .slice none 0 0, .slice none 0 0]) (t := 159) HBr ?hr ?_; (case hr => first | (go_simp; done) | (go_simp; rfl)); intro g11 w2 HG11 HGe11 HE2 HB2))
    have HS := Aside0.mk (items_step lv l' hl0)
    refine (IH.out A3 l' w2 (Kd.C_below HC3.out HB2.out) HBy3.out (by have := HL.out; omega)).mono ?_
    rintro e w3 ⟨hbe, hp⟩
    generalize hit : itemP lv l' = r1 at hp HS
    cases r1 with
    | error k =>
     obtain rfl := hp
     obtain rfl : res = .error k := by rw [HRES.out, HI.out, HS.out]; rfl
     exact ⟨rfl, below_step HB2.out hbe, rfl⟩
    | ok q2 =>
     obtain ⟨x, l2⟩ := q2
     obtain ⟨b1, b2, A4, rfl, hR1, hR2, hC4⟩ := hp
     have hlen := itemP_len hit
     obtain ⟨Ab1, cb1, rfl⟩ := Kd.R_slice hR1
     obtain ⟨Ab2, cb2, rfl⟩ := Kd.R_slice hR2
     have HR1 := Aside0.mk hR1
     have HR2 := Aside0.mk hR2
     have HC4 := Aside0.mk hC4
     have HBe := Aside0.mk hbe
     have HIt := Aside0.mk hit
     obtain ⟨A5, c5, rfl⟩ := Kd.R_slice HO.out
     have HG11b := Aside0.mk (blk_below HG11.out hbe)
     have HG4b := Aside0.mk (blk_below (blk_below HG4.out HE2.out) hbe)
     have hcf11 := cf3 HG11b
     have hcf4 := cf3 HG4b
     clear hR1 hR2 hC4 hbe hit
     have hne1 : ¬ g4 = g11 := by have := blk_lt HG4.out; have := HGe11.out; omega
     have hne2 : ¬ g11 = g4 := fun h => hne1 h.symm
     have hge1 : w.heap.size ≤ g11 := by have := HGe11.out; have := HBr.out.size; omega
     have hw2 : g11 < w2.heap.size := blk_lt HG11.out
     have K1 := Aside0.mk (fun (x1 y1 z1 : Value) => R_keep3 (x := x1) (y := y1) (z := z1) HR1.out HG11.out HB2.out.size)
     have K2 := Aside0.mk (fun (x1 y1 z1 : Value) => R_keep3 (x := x1) (y := y1) (z := z1) HR2.out HG11.out HB2.out.size)
     have K3 := Aside0.mk (fun (x1 y1 z1 : Value) => below3 (x := x1) (y := y1) (z := z1) (below_step HB2.out HBe.out) hge1)
     have K4 := Aside0.mk (fun (x1 y1 z1 : Value) => Kd.R_below HO.out (below3 (x := x1) (y := y1) (z := z1) (below_step HE2.out HBe.out) (Nat.le_of_eq HGe11.out)))
     have K5 : Aside0 (∀ k, w2.heap.size ≤ k → k ≠ g4 ∧ some k ≠ (Value.slice A5 done.length c5).ownBlock) := ⟨fun k hk => ⟨by have := HGe11.out; have := blk_lt HG4.out; omega, fun he => by have := Kd.R_lt HO.out k he.symm; have := HGe11.out; omega⟩⟩
     have K6 : Aside0 (∀ (x1 y1 z1 : Value), (((w3.setCell ⟨g11, 0, none⟩ x1).setCell ⟨g11, 1, none⟩ y1).setCell ⟨g11, 2, none⟩ z1).heap[g4]? = some (.cells #[.bool true, .slice none 0 0, .slice A5 done.length c5] 159 (0, 0))) :=
      ⟨fun x1 y1 z1 => ((keep3 (x := x1) (y := y1) (z := z1)).2 g4 (blk_lt HG4b.out) hne1 (by simp)).trans HG4b.out⟩
     go_wp2_with (first | ((with_reducible refine gate_builtin (b := .append) (xs := #[.tmp 76, .tmp 78]) rfl ?_); refine app_item (w0 := w) rfl (.tmp 76) (.tmp 78) rfl (.slice A5 done.length c5) done x (.slice Ab1 x.f1.length cb1) (.slice Ab2 x.f2.length cb2) (fun k => k ≠ g4) (fun k => w2.heap.size ≤ k) rfl rfl (by simp) (K1.out _ _ _) (K2.out _ _ _) ⟨K3.out _ _ _⟩ (Kd.R_mono (K4.out _ _ _) (fun _ h => h)) K5.out (fun k hk => by have := blk_lt (K6.out (.bool x.f0) (.slice Ab1 x.f1.length cb1) (.slice Ab2 x.f2.length cb2)); omega) (by have := HL.out; omega) ?_; intro A6 c6 w5 HO5 HB5 hg5; have HG5 := Aside0.mk (blk_grown (K6.out _ _ _) hg5.out (fun he => HO.out.1 g4 he.symm rfl)); have hcf5 := cf3 HG5))
     go_roundw
     case rel =>
      refine ⟨done ++ [x], l2, A4, .slice A6 (done ++ [x]).length c6, rfl, ⟨?_⟩, ⟨?_⟩, ⟨HC4.out w HC3.out⟩, ⟨?_⟩, ⟨itemP_byt HBy3.out HIt.out⟩, ⟨?_⟩, ⟨?_⟩⟩
      ·have := blk_put HG5.out 2 (.slice A6 (done ++ [x]).length c6) (cs' := #[.bool true, .slice none 0 0, .slice A6 (done ++ [x]).length c6]) rfl
       simpa using this
      ·have := Kd.R_far (p := ⟨g4, 2, none⟩) HO5.out (fun k hk => hk) (.slice A6 (done ++ [x]).length c6)
       simpa using this
      ·exact below_set HB5.out hg0
      ·have := HL.out; simp only [List.length_append, List.length_singleton]; omega
      ·rw [HI.out, HS.out]
       simp only [Except.bind]
       cases itemsP (itemP lv) l2.length l2 with
       | error e => rfl
       | ok xs => simp
     case measure => exact hlen
   ·have hlt : decide (0 < l'.length) = false := decide_eq_false hl0
    obtain rfl : l' = [] := List.eq_nil_of_length_eq_zero (by omega)
    obtain rfl : res = .ok (⟨true, [], done⟩, left) := by
     rw [HRES.out, HI.out]; simp [itemsP, Except.bind]
    obtain ⟨A5, c5, rfl⟩ := Kd.R_slice HO.out
    have hcf4 := cf3 HG4
    go_wp2
    refine bodyPost_ret (results_ct rfl _ _ g4 159 #[.bool true, .slice none 0 0, .slice A5 done.length c5] (0, 0) _ rfl (put3 HG4.out) Try.underlying159 rfl (by kernel_rfl)) rfl ?_
    refine ⟨below3 HBr.out hg0, .slice none 0 0, .slice A5 done.length c5, A2, rfl, Kd.R_nil _ _ _ _ _, ?_, ?_⟩
    ·exact Kd.R_mono (Kd.R_keep HO.out keep3 (fun k hk => hk)) (fun _ _ => trivial)
    ·intro W hW; rw [HR.out.1] at hW; exact (HC12.out W (by rw [HN1.out]; exact HC0.out W hW)).2
theorem item_any (lv : Nat) (hlv : lv ≤ 16) : ∀ (A : Option Addr) (c : Nat) (l : List Int) (w : World), Kd.C (Kd.int .u8) w A l.length l → l.length ≤ c → Byt l → l.length ≤ 65536 →
 Calls Try.prog 145 #[.slice A l.length c, .int .i64 (lv : Int)] w (ItemPost A l (itemP lv l) w) := by
 induction lv with
 | zero =>
  intro A c l w hC hc hB hl
  cases l with
  | nil => exact (item_empty A c 0 w).mono fun e w' h => ⟨h.2, h.1⟩
  | cons c0 rest =>
   have h255 := hB.head.2
   simp only [itemP, itemF]
   split
   ·exact item_byte A _ _ 0 c0 rest w hC hc (by omega)
   ·split
    ·exact item_str A _ _ 0 c0 rest w hC hc (by omega) (by omega) hB.tail hl
    ·exact item_deep A _ _ c0 rest w hC hc (by omega)
 | succ lv ih =>
  intro A c l w hC hc hB hl
  cases l with
  | nil => exact (item_empty A c (lv + 1) w).mono fun e w' h => ⟨h.2, h.1⟩
  | cons c0 rest =>
   have h255 := hB.head.2
   simp only [itemP, itemF]
   split
   ·exact item_byte A _ _ (lv + 1) c0 rest w hC hc (by omega)
   ·split
    ·exact item_str A _ _ (lv + 1) c0 rest w hC hc (by omega) (by omega) hB.tail hl
    ·exact item_list A _ _ lv c0 rest w hC hc (by omega) (by omega) hB.tail hl (by omega) (fun A l w h1 h2 h3 => ih (by omega) A _ l w h1 (Nat.le_refl _) h2 h3)
theorem eqlNil (W : World) : (binOp .eql 20 .nilIface .nilIface).run Try.prog W = .ok (.bool true) W := run_eql_nil_nil (P := Try.prog) W 20 (by kernel_rfl)
theorem eqlHeld (u : TypeId) (x : Value) (W : World) : (binOp .eql 20 (.iface u x) .nilIface).run Try.prog W = .ok (.bool false) W := run_eql_held_nil (P := Try.prog) W 20 u x (by kernel_rfl)
theorem catch_idle (g2 g3 : Nat) (w : World) :
 CallsD Try.prog 144 #[.pointer (some ⟨g2, 0, none⟩), .pointer (some ⟨g3, 0, none⟩)] .returning w fun e u' w' => e = .returned (.tuple #[]) ∧ u' = .returning ∧ w = w' := by
 refine callsD_of_wpS Try.func144 rfl fun c₀ cs hu => ?_
 apply wpS_seq
 apply wpS_region
 simp [wpOpsS, go_sem, recoverD, hu, Try.ntmps144, Exit.thenS]
 apply wpS_seq
 apply wpS_seq
 apply wpS_region
 simp [wpOpsS, go_sem, Exit.thenS, eqlNil]
 refine wpS_cond (t := true) (by simp [Act.eval]) ?_
 simp only [if_true]
 refine wpS_of_wp (wp_ret ?_)
 cases c₀
 simp_all [bodyPostS, Exit.thenS, results, Try.results144]
def CatchPost (w0 : World) (g2 g3 : Nat) (k : Int) (w' : World) : Prop :=
 w'.heap[g2]? = some (.cells #[.bool false, .slice none 0 0, .slice none 0 0] 159 (0, 0)) ∧ w'.heap[g3]? = some (.cells #[.int .i64 k] 29 (0, 0)) ∧ Below w0.heap.size w0 w'
theorem catch_wrong (w0 : World) (g2 g3 : Nat) (k z : Int) (a b c : Value) (w : World) (h2 : w.heap[g2]? = some (.cells #[a, b, c] 159 (0, 0))) (h3 : w.heap[g3]? = some (.cells #[.int .i64 z] 29 (0, 0))) (hne : g2 ≠ g3) (hB : Below w0.heap.size w0 w) (hg2 : w0.heap.size ≤ g2) (hg3 : w0.heap.size ≤ g3) :
 CallsD Try.prog 144 #[.pointer (some ⟨g2, 0, none⟩), .pointer (some ⟨g3, 0, none⟩)] (.panicking (wrongP k)) w fun e u' w' => e = .returned (.tuple #[]) ∧ u' = .panicking [{ v := .iface 206 (.agg #[.int .i64 k]), recovered := true }] ∧ CatchPost w0 g2 g3 k w' := by
 refine callsD_of_wpS Try.func144 rfl fun c₀ cs hu => ?_
 unfold wrongP at hu
 have hta : ∀ W, (Instr.typeAssert (.iface 206 (.agg #[.int .i64 k])) 20 206 true).run Try.prog W = .ok (.tuple #[.agg #[.int .i64 k], .bool true]) W := fun W => by simp [Instr.typeAssert, run_underlying Try.underlying206]
 simp only [Try.ntmps144, List.size_toArray, List.length_cons, List.length_nil, Nat.reduceAdd, Nat.reduceSub, Array.replicate_succ, Array.replicate_zero, List.push_toArray, List.append_toArray, List.nil_append, List.cons_append]
 apply wpS_seq
 apply wpS_region
 simp [wpOpsS, go_sem, recoverD, hu, Exit.thenS]
 apply wpS_seq
 apply wpS_seq
 apply wpS_region
 simp [wpOpsS, go_sem, Exit.thenS, eqlHeld]
 refine wpS_cond (t := false) (by simp [Act.eval]) ?_
 simp only [Bool.false_eq_true, if_false]
 refine wpS_of_wp (wp_skip ?_)
 simp only [Exit.thenS]
 refine wpS_of_wp ?_
 go_wp2_with fail
 have h2' := Aside0.mk (blk_alloc h2 (.cells #[.int .i64 k] 206))
 have h3' := Aside0.mk (blk_alloc h3 (.cells #[.int .i64 k] 206))
 have h4' := Aside0.mk (blk_new w (.cells #[.int .i64 k] 206))
 have hB' := Aside0.mk (below_alloc hB (.cells #[.int .i64 k] 206))
 have hl2 := blk_lt h2
 have hl3 := blk_lt h3
 obtain ⟨B, hBe⟩ : ∃ B, B = w.heap.size := ⟨_, rfl⟩
 rw [← hBe] at h4' hl2 hl3 ⊢
 obtain ⟨W, hW⟩ : ∃ W, W = w.alloc (.cells #[.int .i64 k] 206) := ⟨_, rfl⟩
 rw [← hW] at h2' h3' h4' hB' ⊢
 have hcf2 := cf3 h2'
 have hcf3 := cf1 h3'
 have hcf4 := cf1 h4'
 have n1 : ¬ g2 = g3 := hne
 have n2 : ¬ g3 = g2 := fun h => hne h.symm
 have n3 : ¬ g2 = B := by omega
 have n4 : ¬ B = g2 := by omega
 have n5 : ¬ g3 = B := by omega
 have n6 : ¬ B = g3 := by omega
 clear hW hBe
 go_region
 refine ⟨rfl, _, rfl, .tuple #[], results_none rfl _ _ _, rfl, rfl, ?_, ?_, ?_⟩
 ·have h := put3 (x := .bool false) (y := .slice none 0 0) (z := .slice none 0 0) h2'.out
  exact blk_far h n1 _
 ·have h := (keep3 (w := W) (g := g2) (x := .bool false) (y := .slice none 0 0) (z := .slice none 0 0)).2 g3 (blk_lt h3'.out) n2 (by simp)
  exact blk_put (h.trans h3'.out) 0 _ rfl
 ·exact below_drew (below_set (below3 hB'.out hg2) hg3)
def DecodePost (r : Except Int S159) (w : World) (e : Ending) (w' : World) : Prop :=
 Below w.heap.size w w' ∧ match r with
  | .ok x => ∃ v1 v2, e = .returned (.tuple #[.agg #[.bool x.f0, v1, v2], .int .i64 0]) ∧ Kd.R (Kd.int .u8) 5 w' w.heap.size (fun _ => True) v1 x.f1 ∧ Kd.R k159 159 w' w.heap.size (fun _ => True) v2 x.f2
  | .error k => e = .returned (.tuple #[.agg #[.bool false, .slice none 0 0, .slice none 0 0], .int .i64 k])
theorem res_decode {tmps : Array Value} {w : World} {g2 g3 : Nat} {a b c : Value} {d : Int} (h0 : tmps.getD 2 undef = .pointer (some ⟨g2, 0, none⟩)) (h1 : tmps.getD 3 undef = .pointer (some ⟨g3, 0, none⟩))
 (h2 : w.heap[g2]? = some (.cells #[a, b, c] 159 (0, 0))) (h3 : w.heap[g3]? = some (.cells #[.int .i64 d] 29 (0, 0))) :
 (results Try.f106 tmps).run Try.prog w = .ok (.tuple #[.agg #[a, b, c], .int .i64 d]) w := by
 have h0' : tmps[2]?.getD undef = .pointer (some ⟨g2, 0, none⟩) := by simpa using h0
 have h1' : tmps[3]?.getD undef = .pointer (some ⟨g3, 0, none⟩) := by simpa using h1
 have hc := (cf1 ⟨h3⟩).1
 have hl : (loadVar 29 ⟨g3, 0, none⟩).run Try.prog w = .ok (.int .i64 d) w := by
  simp [loadVar, run_underlying Try.underlying29, hc, go_sem]
 simp [hl, results, Try.results106, h0', h1', asAddr, run_loadVar_row w g2 159 159 #[a, b, c] (0, 0) _ h2 Try.underlying159 rfl (by kernel_rfl)]
theorem decode_any (A : Option Addr) (c : Nat) (l : List Int) (w : World) (hC : Kd.C (Kd.int .u8) w A l.length l) (hc : l.length ≤ c) (hB : Byt l) :
 Calls Try.prog 106 #[.slice A l.length c] w (DecodePost (decodeP l) w) := by
 have HB := Aside0.mk (Below.refl w.heap.size w)
 have HC := Aside0.mk hC
 have HBy := Aside0.mk hB
 have hm := hC.2.1
 clear hC hB
 have hmf : ∀ (fn : Fn) (first cap : Array Value) (w : World), (Instr.makeFunc fn first cap).run Try.prog w = .ok (.func fn first cap) w := fun _ _ _ _ => rfl
 obtain ⟨res, hres⟩ : ∃ res, res = decodeP l := ⟨_, rfl⟩
 rw [← hres]
 have HRES := Aside0.mk hres
 clear hres
 by_cases hbig : 65536 < l.length
 ·have hd : decide ((65536 : Int) < (l.length : Int)) = true := decide_eq_true (by omega)
  obtain rfl : res = .error 4 := by rw [HRES.out, decodeP, if_pos hbig]
  go_enter_defers Try.func106, Try.ntmps106
  go_wp2_with (first
   | ((with_reducible refine gate_dst (N := 2) rfl ?_); refine alloc_ev rfl (N := 2) rfl (cs := #[.bool false, .slice none 0 0, .slice none 0 0]) (t := 159) HB ?hr ?_; (case hr => first | (go_simp; done) | (go_simp; rfl)); intro g2 w1 HG2 HGe2 HE1 HB1; have hcf2 := cf3 HG2)
   | ((with_reducible refine gate_dst (N := 3) rfl ?_); refine alloc_ev rfl (N := 3) rfl (cs := #[.int .i64 0]) (t := 29) HB1 ?hr2 ?_; (case hr2 => first | (go_simp; done) | (go_simp; rfl)); intro g3 w2 HG3 HGe3 HE2 HB2; have HG2b := Aside0.mk (blk_below HG2.out HE2.out); have hcf3 := cf1 HG3; have hcf2b := cf3 HG2b; have n1 : ¬ g2 = g3 := (by have := blk_lt HG2.out; have := HGe3.out; omega); have n2 : ¬ g3 = g2 := fun h => n1 h.symm))
  have hg2 : w.heap.size ≤ g2 := Nat.le_of_eq HGe2.out
  have hg3 : w.heap.size ≤ g3 := by have := HGe3.out; have := HB1.out.size; omega
  refine ⟨_, res_decode rfl rfl (blk_far (put3 HG2b.out) n1 _) (blk_put (((keep3 (g := g2)).2 g3 (blk_lt HG3.out) n2 (by simp)).trans HG3.out) 0 _ rfl), ?_⟩
  exact ⟨below_set (below3 HB2.out hg2) hg3, rfl⟩
 ·have hd : decide ((65536 : Int) < (l.length : Int)) = false := decide_eq_false (by omega)
  have hl65 : l.length ≤ 65536 := by omega
  rw [decodeP, if_neg hbig] at HRES
  go_enter_defers Try.func106, Try.ntmps106
  go_wp2_with (first
   | ((with_reducible refine gate_dst (N := 2) rfl ?_); refine alloc_ev rfl (N := 2) rfl (cs := #[.bool false, .slice none 0 0, .slice none 0 0]) (t := 159) HB ?hr ?_; (case hr => first | (go_simp; done) | (go_simp; rfl)); intro g2 w1 HG2 HGe2 HE1 HB1; have hcf2 := cf3 HG2)
   | ((with_reducible refine gate_dst (N := 3) rfl ?_); refine alloc_ev rfl (N := 3) rfl (cs := #[.int .i64 0]) (t := 29) HB1 ?hr2 ?_; (case hr2 => first | (go_simp; done) | (go_simp; rfl)); intro g3 w2 HG3 HGe3 HE2 HB2; have HG2b := Aside0.mk (blk_below HG2.out HE2.out); have n1 : ¬ g2 = g3 := (by have := blk_lt HG2.out; have := HGe3.out; omega); have n2 : ¬ g3 = g2 := fun h => n1 h.symm))
  have hg2 : w.heap.size ≤ g2 := Nat.le_of_eq HGe2.out
  have hg3 : w.heap.size ≤ g3 := by have := HGe3.out; have := HB1.out.size; omega
  refine (item_any 16 (Nat.le_refl _) A c l w2 (Kd.C_below HC.out HB2.out) hc HBy.out hl65).mono ?_
  rintro e w3 ⟨hbe, hp⟩
  have HG2c := Aside0.mk (blk_below HG2b.out hbe)
  have HG3c := Aside0.mk (blk_below HG3.out hbe)
  have HB3 := Aside0.mk (below_step HB2.out hbe)
  cases hit : itemP 16 l with
  | error k =>
   rw [hit] at hp HRES
   obtain rfl := hp
   obtain rfl : res = .error k := HRES.out
   refine leaves_cons (f := 144) (args := #[.pointer (some ⟨g2, 0, none⟩), .pointer (some ⟨g3, 0, none⟩)]) (by simp) (by simp [go_sem]) ?_
   refine (catch_wrong w g2 g3 k 0 _ _ _ w3 HG2c.out HG3c.out n1 HB3.out hg2 hg3).mono ?_
   rintro e u' w4 ⟨rfl, rfl, h1, h2, h3⟩
   exact ⟨_, res_decode rfl rfl h1 h2, h3, rfl⟩
  | ok q =>
   rw [hit] at hp HRES
   obtain ⟨x, r⟩ := q
   obtain ⟨v1, v2, A4, rfl, hR1, hR2, hC4⟩ := hp
   obtain ⟨Ab1, cb1, rfl⟩ := Kd.R_slice hR1
   obtain ⟨Ab2, cb2, rfl⟩ := Kd.R_slice hR2
   have HR1 := Aside0.mk hR1
   have HR2 := Aside0.mk hR2
   have HBe := Aside0.mk hbe
   have hcf2 := cf3 HG2c
   have hcf3 := cf1 HG3c
   clear hR1 hR2 hC4 hbe hit
   by_cases hr0 : r = []
   ·subst hr0
    obtain rfl : res = .ok x := HRES.out
    go_wp2_with fail
    refine (need_ok 8 _).mono ?_
    rintro e w' ⟨rfl, rfl⟩
    go_wp2
    have hfar : ∀ k, w2.heap.size ≤ k → k ≠ g2 ∧ k ≠ g3 := fun k hk => ⟨by have := blk_lt HG2b.out; omega, by have := blk_lt HG3.out; omega⟩
    have p1 := put3 (x := .bool x.f0) (y := .slice Ab1 x.f1.length cb1) (z := .slice Ab2 x.f2.length cb2) HG2c.out
    have p2 := put3 (x := .bool x.f0) (y := .slice Ab1 x.f1.length cb1) (z := .slice Ab2 x.f2.length cb2) p1
    have q1 := ((keep3 (w := w3) (g := g2) (x := .bool x.f0) (y := .slice Ab1 x.f1.length cb1) (z := .slice Ab2 x.f2.length cb2)).2 g3 (blk_lt HG3c.out) n2 (by simp)).trans HG3c.out
    have q2 := ((keep3 (g := g2) (x := .bool x.f0) (y := .slice Ab1 x.f1.length cb1) (z := .slice Ab2 x.f2.length cb2)).2 g3 (blk_lt q1) n2 (by simp)).trans q1
    refine leaves_cons (f := 144) (args := #[.pointer (some ⟨g2, 0, none⟩), .pointer (some ⟨g3, 0, none⟩)]) (by simp) (by simp [go_sem]) ?_
    refine (catch_idle g2 g3 _).mono ?_
    rintro e u' w4 ⟨rfl, rfl, rfl⟩
    refine ⟨_, res_decode rfl rfl (blk_far p2 n1 _) (blk_put q2 0 _ rfl), below_set (below3 (below3 HB3.out hg2) hg2) hg3, _, _, rfl, ?_, ?_⟩
    ·refine Kd.R_lower (Kd.R_mono (Kd.R_step (Kd.R_mono (Kd.R_bound HR1.out) (ok' := fun k => w2.heap.size ≤ k) (fun k hk => hk.2.1)) (fun k hk _ => ?_)) (fun _ _ => trivial)) HB2.out.size
     iterate 7 rw [Below.heap_setCell _ _ _ _ (by first | exact (hfar k hk).1 | exact (hfar k hk).2)]
    ·refine Kd.R_lower (Kd.R_mono (Kd.R_step (Kd.R_mono (Kd.R_bound HR2.out) (ok' := fun k => w2.heap.size ≤ k) (fun k hk => hk.2.1)) (fun k hk _ => ?_)) (fun _ _ => trivial)) HB2.out.size
     iterate 7 rw [Below.heap_setCell _ _ _ _ (by first | exact (hfar k hk).1 | exact (hfar k hk).2)]
   ·obtain rfl : res = .error 8 := by rw [HRES.out]; simp [Except.bind, hr0]
    have hdl : ((r.length : Int) == 0) = false := by simpa using hr0
    have hdl2 : (r.length == 0) = false := by simpa using hr0
    go_wp2_with fail
    refine (need_no 8 _).mono ?_
    rintro e w' ⟨rfl, rfl⟩
    have p1 := put3 (x := .bool x.f0) (y := .slice Ab1 x.f1.length cb1) (z := .slice Ab2 x.f2.length cb2) HG2c.out
    have q1 := ((keep3 (w := w3) (g := g2) (x := .bool x.f0) (y := .slice Ab1 x.f1.length cb1) (z := .slice Ab2 x.f2.length cb2)).2 g3 (blk_lt HG3c.out) n2 (by simp)).trans HG3c.out
    refine leaves_cons (f := 144) (args := #[.pointer (some ⟨g2, 0, none⟩), .pointer (some ⟨g3, 0, none⟩)]) (by simp) (by simp [go_sem]) ?_
    refine (catch_wrong w g2 g3 8 0 _ _ _ _ p1 q1 n1 (below3 HB3.out hg2) hg2 hg3).mono ?_
    rintro e u' w4 ⟨rfl, rfl, h1, h2, h3⟩
    exact ⟨_, res_decode rfl rfl h1 h2, h3, rfl⟩
end Go.Proofs.Ytocphkfkdadhaaa.K
namespace Go.Proofs.Ytocphkfkdadhaaa.K
open Go.RowKit Go.Proofs.YtocphkfkdadhaaaW.PrintWords Go.Proofs.YtocphkfkdadhaaaW.PrintMore Go.Proofs.Ytocphkfkdadhaaa.PRF
def bigF : Nat → Nat → List Int
 | 0, _ => []
 | d + 1, n => if n = 0 then [] else bigF d (n / 256) ++ [((n % 256 : Nat) : Int)]
def bigP (n : Nat) : List Int := bigF 8 n
def aheadP (from_ : Int) (n : Nat) : List Int := if n ≤ 55 then [from_ + n] else (from_ + 55 + (bigP n).length) :: bigP n
theorem bigF_zero (d : Nat) : bigF d 0 = [] := by cases d <;> simp [bigF]
theorem bigF_byt : ∀ (d n : Nat), Byt (bigF d n)
 | 0, _ => Byt.nil
 | d + 1, n => by
  rw [bigF]
  split
  ·exact Byt.nil
  ·exact (bigF_byt d _).append (Byt.cons (by omega) Byt.nil)
theorem bigF_len : ∀ (d n : Nat), (bigF d n).length ≤ d
 | 0, _ => Nat.le_refl _
 | d + 1, n => by
  rw [bigF]
  split
  ·simp
  ·have := bigF_len d (n / 256); simp; omega
theorem bigF_num : ∀ (d n : Nat), n < 256 ^ d → num (bigF d n) = n
 | 0, n, h => by simp at h; simp [bigF, num, h]
 | d + 1, n, h => by
  rw [bigF]
  split
  ·rename_i h0; simp [num, h0]
  ·rw [num_snoc, bigF_num d (n / 256) (by rw [Nat.pow_succ] at h; omega)]
   have : ((n % 256 : Nat) : Int).toNat = n % 256 := by omega
   rw [this]; omega
theorem bigF_head : ∀ (d n : Nat), n < 256 ^ d → bigF d n ≠ [] → (bigF d n).headD 0 ≠ 0
 | 0, n, h, h1 => absurd rfl h1
 | d + 1, n, h, h1 => by
  rw [bigF] at h1 ⊢
  split at h1
  ·exact absurd rfl h1
  ·rename_i h0
   rw [if_neg h0]
   by_cases hb : bigF d (n / 256) = []
   ·rw [hb]
    have h3 := bigF_num d (n / 256) (by rw [Nat.pow_succ] at h; omega)
    rw [hb] at h3
    have : n / 256 = 0 := by rw [← h3]; rfl
    simp; omega
   ·have := bigF_head d (n / 256) (by rw [Nat.pow_succ] at h; omega) hb
    cases hbb : bigF d (n / 256) with
    | nil => exact absurd hbb hb
    | cons a l => rw [hbb] at this; simpa using this
theorem bigF_of_num (l : List Int) (hb : Byt l) (h0 : l ≠ [] → l.headD 0 ≠ 0) : ∀ d, l.length ≤ d → bigF d (num l) = l := by
 revert hb h0
 refine snoc_ind (P := fun l => Byt l → (l ≠ [] → l.headD 0 ≠ 0) → ∀ d, l.length ≤ d → bigF d (num l) = l) ?_ ?_ l
 ·intro _ _ d _; exact bigF_zero d
 ·intro l c ih hb h0 d hd
  rw [List.length_append, List.length_singleton] at hd
  obtain ⟨d, rfl⟩ : ∃ e, d = e + 1 := ⟨d - 1, by omega⟩
  have hc := hb c (by simp)
  have hbl : Byt l := fun x hx => hb x (List.mem_append_left _ hx)
  have h0l : l ≠ [] → l.headD 0 ≠ 0 := fun hn => by
   have := h0 (by simp)
   cases l with
   | nil => exact absurd rfl hn
   | cons a l => simpa using this
  have ih := ih hbl h0l d (by omega)
  rw [num_snoc, bigF]
  have hne : num l * 256 + c.toNat ≠ 0 := by
   intro hz
   have h1 : num l = 0 := by omega
   have h2 : c.toNat = 0 := by omega
   rw [h1, bigF_zero] at ih
   subst ih
   have := h0 (by simp)
   simp at this
   omega
  rw [if_neg hne]
  have e1 : (num l * 256 + c.toNat) / 256 = num l := by omega
  have e2 : (num l * 256 + c.toNat) % 256 = c.toNat := by omega
  rw [e1, e2, ih]
  congr 1
  have : ((c.toNat : Nat) : Int) = c := by omega
  rw [this]
theorem bigP_len (n : Nat) : (bigP n).length ≤ 8 := bigF_len 8 n
theorem bigP_byt (n : Nat) : Byt (bigP n) := bigF_byt 8 n
theorem bigP_num (n : Nat) (h : n ≤ 18446744073709551615) : num (bigP n) = n := bigF_num 8 n (by rw [pow256_8]; omega)
theorem bigP_head (n : Nat) (h : n ≤ 18446744073709551615) (h0 : n ≠ 0) : bigP n ≠ [] ∧ (bigP n).headD 0 ≠ 0 := by
 have h1 : bigP n ≠ [] := fun h2 => h0 (by rw [← bigP_num n h, h2]; rfl)
 exact ⟨h1, bigF_head 8 n (by rw [pow256_8]; omega) h1⟩
theorem bigP_of_num (l : List Int) (hb : Byt l) (hl : l.length ≤ 8) (h0 : l ≠ [] → l.headD 0 ≠ 0) : bigP (num l) = l := bigF_of_num l hb h0 8 hl
theorem shr_pow (n i : Nat) (hi : i ≤ 7) : shr .u64 (n : Int) ((8 * i : Nat) : Int) = ((n / 256 ^ i : Nat) : Int) := by
 unfold shr
 rw [Int.toNat_natCast, Nat.min_eq_left (by show 8 * i ≤ 64; omega)]
 have h : (2 : Nat) ^ (8 * i) = 256 ^ i := Nat.pow_mul 2 8 i
 rw [show (2 : Int) ^ (8 * i) = (((2 : Nat) ^ (8 * i) : Nat) : Int) by simp, h]
 rfl
theorem bigF_step (d m c : Nat) (hc : c < 256) (hm : m < 256 ^ d) : bigF (d + 1) (m * 256 + c) = if bigF d m = [] then (if c = 0 then [] else [(c : Int)]) else bigF d m ++ [(c : Int)] := by
 rw [bigF]
 have e1 : (m * 256 + c) / 256 = m := by omega
 have e2 : (m * 256 + c) % 256 = c := by omega
 rw [e1, e2]
 by_cases h0 : m = 0
 ·subst h0
  rw [bigF_zero, if_pos rfl]
  by_cases hc0 : c = 0
  ·simp [hc0]
  ·rw [if_neg (by omega), if_neg hc0]; rfl
 ·rw [if_neg (by omega), if_neg]
  intro hb
  have := bigF_num d m hm
  rw [hb] at this
  exact h0 this.symm
theorem high_l0 (n : Nat) (hn : n < 256 ^ 8) : ∀ (i : Nat), i ≤ 8 → proctorref02_high.l0 (i + 1) n (bigF (8 - i) (n / 256 ^ i)) ((i : Int) - 1) = some (bigP n)
 | 0, _ => by
  rw [proctorref02_high.l0, if_neg (by omega)]
  simp [bigP]
 | i + 1, hi => by
  rw [proctorref02_high.l0, if_pos (by omega)]
  have e0 : IntKind.u64.wrap (wrap64 (8 * (((i + 1 : Nat) : Int) - 1))) = ((8 * i : Nat) : Int) := by
   rw [wrap64_in _ (by omega), IntWalk.u64_in _ (by omega)]; omega
  rw [e0, if_pos (by omega), shr_pow n i (by omega)]
  have e3 : (((n / 256 ^ i : Nat) : Int) % 256) = ((n / 256 ^ i % 256 : Nat) : Int) := by omega
  have e4 : wrap64 (((i + 1 : Nat) : Int) - 1 - 1) = (i : Int) - 1 := by rw [wrap64_in _ (by omega)]; omega
  have e5 : n / 256 ^ (i + 1) = n / 256 ^ i / 256 := by rw [Nat.pow_succ, Nat.div_div_eq_div_mul]
  have hlt : n / 256 ^ (i + 1) < 256 ^ (8 - (i + 1)) := by
   rw [Nat.div_lt_iff_lt_mul (Nat.pow_pos (by omega)), ← Nat.pow_add]
   rwa [show 8 - (i + 1) + (i + 1) = 8 by omega]
  have hs := bigF_step (8 - (i + 1)) (n / 256 ^ (i + 1)) (n / 256 ^ i % 256) (by omega) hlt
  rw [show n / 256 ^ (i + 1) * 256 + n / 256 ^ i % 256 = n / 256 ^ i by omega, show 8 - (i + 1) + 1 = 8 - i by omega] at hs
  have ih := high_l0 n hn i (by omega)
  have hlen := bigF_len (8 - (i + 1)) (n / 256 ^ (i + 1))
  rw [e3, e4]
  by_cases hc : n / 256 ^ i % 256 = 0
  ·rw [if_pos (by omega)]
   by_cases hb : bigF (8 - (i + 1)) (n / 256 ^ (i + 1)) = []
   ·rw [hb] at hs ⊢
    rw [if_neg (by simp)]
    rw [if_pos rfl, if_pos hc] at hs
    rw [hs] at ih
    exact ih
   ·have : 0 < (bigF (8 - (i + 1)) (n / 256 ^ (i + 1))).length := List.length_pos_iff.2 hb
    rw [if_neg hb] at hs
    rw [if_pos (by omega), if_pos (by omega), ← hs]
    exact ih
  ·rw [if_neg (by omega), if_pos (by omega)]
   by_cases hb : bigF (8 - (i + 1)) (n / 256 ^ (i + 1)) = []
   ·rw [if_pos hb, if_neg hc] at hs
    rw [hb, List.nil_append, ← hs]
    exact ih
   ·rw [if_neg hb] at hs
    rw [← hs]
    exact ih
theorem high_f (n : Nat) (h : n ≤ 18446744073709551615) : proctorref02_high.f 9 n = some (bigP n) := by
 have hn : n < 256 ^ 8 := by rw [pow256_8]; omega
 have := high_l0 n hn 8 (Nat.le_refl _)
 rw [Nat.sub_self, show ((8 : Nat) : Int) - 1 = 7 from rfl] at this
 simpa [proctorref02_high.f, bigF] using this
theorem head_f (from_ : Int) (n : Nat) (h0 : 0 ≤ from_) (h1 : from_ ≤ 192) (hn : n ≤ 140737488355327) : proctorref02_head.f 9 from_ n = some (aheadP from_ n) := by
 unfold proctorref02_head.f aheadP
 by_cases h : n ≤ 55
 ·rw [if_pos (by omega), if_pos h]
  congr 2
  omega
 ·rw [if_neg (by omega), if_neg h, IntWalk.u64_in _ (by omega), high_f n (by omega)]
  have := bigP_len n
  simp only [Option.bind_some, List.length_singleton]
  rw [if_pos (by omega)]
  have e : ((from_ + 55) % 256 + ((bigP n).length : Int) % 256) % 256 = from_ + 55 + (bigP n).length := by omega
  rw [e]
  rfl
def strP (l : List Int) : List Int := if l.length = 1 ∧ l.headD 0 < 128 then l else aheadP 128 l.length ++ l
mutual
def formP : S159 → List Int
 | ⟨f0, f1, f2⟩ => if f0 = true then aheadP 192 (formsP f2).length ++ formsP f2 else strP f1
def formsP : List S159 → List Int
 | [] => []
 | x :: l => formP x ++ formsP l
end
theorem formsP_append : ∀ (l m : List S159), formsP (l ++ m) = formsP l ++ formsP m
 | [], m => by simp [formsP]
 | x :: l, m => by simp [formsP, formsP_append l m]
theorem formP_str (x : S159) (h : x.f0 = false) : formP x = strP x.f1 := by cases x; simp only at h; subst h; simp [formP]
theorem formP_list (x : S159) (h : x.f0 = true) : formP x = aheadP 192 (formsP x.f2).length ++ formsP x.f2 := by cases x; simp only at h; subst h; simp [formP]
theorem rd159 (l : List S159) (i : Nat) (h : i < l.length) : rd_T159 l (i : Int) = l[i] := by
 simp [rd_T159, List.getD_eq_getElem?_getD, List.getElem?_eq_getElem h]
theorem formsP_take (l : List S159) (i : Nat) (h : i < l.length) : formsP (l.take (i + 1)) = formsP (l.take i) ++ formP l[i] := by
 rw [List.take_succ_eq_append_getElem h, formsP_append]; simp [formsP]
theorem formsP_take_le (l : List S159) (i : Nat) : (formsP (l.take i)).length ≤ (formsP l).length := by
 have := formsP_append (l.take i) (l.drop i)
 rw [List.take_append_drop] at this
 rw [this, List.length_append]; omega
theorem size_f2 (x y : S159) (h : y ∈ x.f2) : SizeOf.sizeOf y < SizeOf.sizeOf x := by
 cases x
 have := List.sizeOf_lt_of_mem h
 simp at this ⊢
 omega
def Ev {α : Type} (g : Nat → Option α) (r : α) : Prop := ∃ K, ∀ k, K ≤ k → g k = some r
theorem Ev.of_mono {α : Type} {g : Nat → Option α} (hm : ∀ k, LeO (g k) (g (k + 1))) {K : Nat} {r : α} (h : g K = some r) : Ev g r := by
 refine ⟨K, fun k hk => ?_⟩
 induction k with
 | zero => obtain rfl : K = 0 := by omega
           exact h
 | succ k ih =>
  by_cases he : K = k + 1
  ·subst he; exact h
  ·exact hm k r (ih (by omega))
theorem aheadP_len (f : Int) (n : Nat) : 1 ≤ (aheadP f n).length ∧ (aheadP f n).length ≤ 9 := by
 unfold aheadP
 have := bigP_len n
 split <;> simp <;> omega
def wfP : Nat → S159 → Bool
 | 0, x => !x.f0 && x.f2.isEmpty
 | d + 1, x => if x.f0 = true then x.f1.isEmpty && x.f2.all (wfP d) else x.f2.isEmpty
theorem wfP_str (d : Nat) (x : S159) (h : x.f0 = false) : wfP d x = x.f2.isEmpty := by cases d <;> simp [wfP, h]
theorem wfP_list (d : Nat) (x : S159) (h : x.f0 = true) : wfP (d + 1) x = (x.f1.isEmpty && x.f2.all (wfP d)) := by simp [wfP, h]
theorem wfP_zero (x : S159) (h : x.f0 = true) : wfP 0 x = false := by simp [wfP, h]
theorem strP_ge (l : List Int) : l.length ≤ (strP l).length := by unfold strP; split <;> simp
theorem strP_pos (l : List Int) : 1 ≤ (strP l).length := by
 unfold strP
 split
 ·rename_i h; omega
 ·have := (aheadP_len 128 l.length).1
  simp; omega
theorem formP_pos (x : S159) : 1 ≤ (formP x).length := by
 cases hx : x.f0 with
 | false => rw [formP_str x hx]; exact strP_pos _
 | true =>
  rw [formP_list x hx]
  have := (aheadP_len 192 (formsP x.f2).length).1
  simp; omega
theorem formsP_ge : ∀ (l : List S159), l.length ≤ (formsP l).length
 | [] => by simp
 | x :: l => by have := formsP_ge l; have := formP_pos x; simp [formsP]; omega
def vP (d left : Nat) (x : S159) : Bool := wfP d x && decide ((formP x).length ≤ left)
theorem head_ev (f : Int) (n : Nat) (h0 : 0 ≤ f) (h1 : f ≤ 192) (hn : n ≤ 140737488355327) : ∀ k, 9 ≤ k → proctorref02_head.f k f n = some (aheadP f n) := by
 intro k hk
 have := head_f f n h0 h1 hn
 induction k with
 | zero => omega
 | succ k ih =>
  by_cases he : 9 = k + 1
  ·rw [← he]; exact this
  ·exact proctorref02_head.mono f n k _ (ih (by omega))
theorem copy_f (l : List Int) (h : l.length < 140737488355328) : proctorref01_Copy.f l = some l := by
 unfold proctorref01_Copy.f
 simp [h]
def FormAns (d left : Nat) (x : S159) (bs : List Int) (b : Bool) : Prop := (b = true → wfP d x = true ∧ bs = formP x ∧ bs.length ≤ left + 9) ∧ (vP d left x = true → b = true)
theorem rform_str (d left : Nat) (hl : left ≤ 65536) (x : S159) (hx : x.f0 = false) :
 ∃ bs b, (∀ k, 20 ≤ k → proctorref02_form.f k x.f0 x.f1 x.f2 left d = some (bs, b)) ∧ FormAns d left x bs b := by
 obtain ⟨f0, f1, f2⟩ := x
 simp only at hx
 subst hx
 unfold FormAns vP
 rw [wfP_str _ _ rfl, formP_str _ rfl]
 simp only
 by_cases h2 : f2 = []
 ·subst h2
  simp only [List.isEmpty_nil, Bool.true_and]
  by_cases hgt : f1.length > left
  ·refine ⟨[], false, fun k hk => ?_, by simp, fun h => ?_⟩
   ·obtain ⟨k, rfl⟩ : ∃ k', k = k' + 2 := ⟨k - 2, by omega⟩
    have hd2 : decide ((f1.length : Int) > (left : Int)) = true := decide_eq_true (by omega)
    rw [proctorref02_form.f, if_neg (by simp), if_neg (by simp), proctorref02_form.j0, hd2, if_pos rfl]
   ·have := strP_ge f1; simp at h; omega
  ·have hd2 : decide ((f1.length : Int) > (left : Int)) = false := decide_eq_false (by omega)
   have hsl : (strP f1).length ≤ left + 9 := by
    have := aheadP_len 128 f1.length
    unfold strP
    split
    ·omega
    ·rw [List.length_append]; omega
   refine ⟨strP f1, true, fun k hk => ?_, fun _ => ⟨trivial, rfl, hsl⟩, fun h => rfl⟩
   obtain ⟨k, rfl⟩ : ∃ k', k = k' + 3 := ⟨k - 3, by omega⟩
   rw [proctorref02_form.f, if_neg (by simp), if_neg (by simp), proctorref02_form.j0, hd2, if_neg (by simp)]
   have hj : ∀ b, (b = decide (f1.length = 1 ∧ f1.headD 0 < 128)) → proctorref02_form.j1 (k + 1) b false f1 [] = some (strP f1, true) := by
    intro b hb
    rw [proctorref02_form.j1, hb]
    by_cases h1 : f1.length = 1 ∧ f1.headD 0 < 128
    ·rw [if_pos (by simpa using h1), copy_f _ (by omega)]
     unfold strP
     rw [if_pos h1]
     rfl
    ·rw [if_neg (by simpa using h1), head_ev 128 f1.length (by omega) (by omega) (by omega) k (by omega)]
     have ha := aheadP_len 128 f1.length
     simp only [Option.bind_some]
     rw [if_pos (by omega)]
     unfold strP
     rw [if_neg h1]
   by_cases h11 : f1.length = 1
   ·obtain ⟨i0, rfl⟩ : ∃ i0, f1 = [i0] := by
     match f1, h11 with
     | [i0], _ => exact ⟨i0, rfl⟩
    rw [if_pos (by simp), if_pos (by simp)]
    refine hj _ ?_
    simp [rd]
   ·rw [if_neg (by omega)]
    refine hj _ ?_
    simp [h11]
 ·refine ⟨[], false, fun k hk => ?_, by simp, fun h => by simp [h2] at h⟩
  obtain ⟨k, rfl⟩ : ∃ k', k = k' + 2 := ⟨k - 2, by omega⟩
  have hl2 : 0 < f2.length := by cases f2; exact absurd rfl h2; simp
  rw [proctorref02_form.f, if_neg (by simp), if_pos (by omega), proctorref02_form.j0, if_pos rfl]
theorem rform_loop (d left : Nat) (hd : d + 1 ≤ 16) (hl : left ≤ 65536) (l : List S159) (hll : l.length ≤ left)
 (ih : ∀ (x : S159) (left : Nat), left ≤ 65536 → ∃ bs b, Ev (fun k => proctorref02_form.f k x.f0 x.f1 x.f2 left d) (bs, b) ∧ FormAns d left x bs b) :
 ∀ (m i : Nat), i + m = l.length → (formsP (l.take i)).length ≤ left →
 ∃ bs b, Ev (fun k => proctorref02_form.l0 k left ((d + 1 : Nat) : Int) (formsP (l.take i)) i true [] l) (bs, b)
  ∧ (b = true → (l.drop i).all (wfP d) = true ∧ bs = aheadP 192 (formsP l).length ++ formsP l ∧ bs.length ≤ left + 9)
  ∧ (((l.drop i).all (wfP d) && decide ((formsP l).length ≤ left)) = true → b = true)
 | 0, i, hi, hn => by
  obtain rfl : i = l.length := by omega
  simp only [List.take_length] at hn ⊢
  simp only [List.drop_length, List.all_nil, Bool.true_and]
  have ha := aheadP_len 192 (formsP l).length
  refine ⟨aheadP 192 (formsP l).length ++ formsP l, true, ⟨16, fun k hk => ?_⟩, fun _ => ⟨trivial, rfl, by rw [List.length_append]; omega⟩, fun _ => rfl⟩
  obtain ⟨k, rfl⟩ : ∃ k', k = k' + 1 := ⟨k - 1, by omega⟩
  have he := head_ev 192 (formsP l).length (by omega) (by omega) (by omega) k (by omega)
  simp only
  rw [proctorref02_form.l0, if_neg (by omega), he]
  simp only [Option.bind_some]
  rw [if_pos (by omega)]
 | m + 1, i, hi, hn => by
  have hlt : i < l.length := by omega
  obtain ⟨cs, c, ⟨K1, h1⟩, h2, h3⟩ := ih l[i] (left - (formsP (l.take i)).length) (by omega)
  have hdrop : l.drop i = l[i] :: l.drop (i + 1) := by rw [List.drop_eq_getElem_cons hlt]
  have htk := formsP_take l i hlt
  have hle := formsP_take_le l (i + 1)
  have hstep : ∀ k, K1 ≤ k → proctorref02_form.l0 (k + 1) left ((d + 1 : Nat) : Int) (formsP (l.take i)) i true [] l = (if c = true then (if (wrap64 (((formsP (l.take i)).length : Int) + (cs.length : Int))) > (left : Int) then (some (([] : List Int), false)) else (if (formsP (l.take i)).length + cs.length < 140737488355328 then (proctorref02_form.l0 k left ((d + 1 : Nat) : Int) (formsP (l.take i) ++ cs) (wrap64 ((i : Int) + 1)) true [] l) else (none))) else (some (([] : List Int), false))) := by
   intro k hk
   have := h1 k hk
   simp only at this
   rw [proctorref02_form.l0, if_pos (by omega), if_pos (by omega), rd159 l i hlt, wrap64_in ((left : Int) - _) (by omega), wrap64_in (((d + 1 : Nat) : Int) - 1) (by omega)]
   rw [show (((d + 1 : Nat) : Int) - 1) = (d : Int) by omega, show ((left : Int) - ((formsP (l.take i)).length : Int)) = ((left - (formsP (l.take i)).length : Nat) : Int) by omega, this]
   rfl
  by_cases hv : vP d (left - (formsP (l.take i)).length) l[i] = true
  ·have hc := h3 hv
   obtain ⟨hw, hcs, hcl⟩ := h2 hc
   have hv' := hv
   simp only [vP, Bool.and_eq_true, decide_eq_true_eq] at hv'
   obtain ⟨bs, b, ⟨K2, h4⟩, h5, h6⟩ := rform_loop d left hd hl l hll ih m (i + 1) (by omega) (by rw [htk, List.length_append]; omega)
   have hall : (l.drop i).all (wfP d) = (l.drop (i + 1)).all (wfP d) := by rw [hdrop, List.all_cons, hv'.1, Bool.true_and]
   rw [hall]
   refine ⟨bs, b, ⟨max K1 K2 + 1, fun k hk => ?_⟩, h5, h6⟩
   obtain ⟨k, rfl⟩ : ∃ k', k = k' + 1 := ⟨k - 1, by omega⟩
   have := h4 k (by omega)
   simp only at this ⊢
   rw [hstep k (by omega), hc, if_pos rfl, hcs, wrap64_in _ (by omega), wrap64_in _ (by omega), if_neg (by omega), if_pos (by omega)]
   rw [htk] at this
   rw [show ((i : Int) + 1) = ((i + 1 : Nat) : Int) by omega]
   exact this
  ·have hb : ((l.drop i).all (wfP d) && decide ((formsP l).length ≤ left)) = false := by
    rw [hdrop, List.all_cons]
    simp only [vP, Bool.and_eq_true, decide_eq_true_eq, not_and] at hv
    by_cases hw : wfP d l[i] = true
    ·have := hv hw
     rw [htk, List.length_append] at hle
     have : decide ((formsP l).length ≤ left) = false := decide_eq_false (by omega)
     rw [this]; simp
    ·simp only [Bool.not_eq_true] at hw
     rw [hw]; simp
   rw [hb]
   refine ⟨[], false, ⟨K1 + 1, fun k hk => ?_⟩, by simp, by simp⟩
   obtain ⟨k, rfl⟩ : ∃ k', k = k' + 1 := ⟨k - 1, by omega⟩
   simp only
   rw [hstep k (by omega)]
   cases hc : c with
   | false => rfl
   | true =>
    obtain ⟨hw, hcs, hcl⟩ := h2 hc
    have hbig : ¬ (formP l[i]).length ≤ left - (formsP (l.take i)).length := fun h => hv (by simp [vP, hw, h])
    rw [if_pos rfl]
    rw [hcs] at hcl ⊢
    rw [wrap64_in _ (by omega), if_pos (by omega)]
theorem rform_list (d left : Nat) (hd : d + 1 ≤ 16) (hl : left ≤ 65536) (x : S159) (hx : x.f0 = true)
 (ih : ∀ (x : S159) (left : Nat), left ≤ 65536 → ∃ bs b, Ev (fun k => proctorref02_form.f k x.f0 x.f1 x.f2 left d) (bs, b) ∧ FormAns d left x bs b) :
 ∃ bs b, Ev (fun k => proctorref02_form.f k x.f0 x.f1 x.f2 left ((d + 1 : Nat) : Int)) (bs, b) ∧ FormAns (d + 1) left x bs b := by
 obtain ⟨f0, f1, f2⟩ := x
 simp only at hx
 subst hx
 unfold FormAns vP
 rw [wfP_list _ _ rfl, formP_list _ rfl]
 simp only
 by_cases h1 : f1 = []
 ·subst h1
  by_cases h2 : f2.length ≤ left
  ·obtain ⟨bs, b, ⟨K, hK⟩, h4, h5⟩ := rform_loop d left hd hl f2 h2 ih f2.length 0 (by omega) (by simp [formsP])
   simp only [List.drop_zero, List.take_zero] at hK h4 h5
   simp only [List.isEmpty_nil, Bool.true_and]
   refine ⟨bs, b, ⟨K + 2, fun k hk => ?_⟩, h4, fun h => h5 ?_⟩
   ·obtain ⟨k, rfl⟩ : ∃ k', k = k' + 2 := ⟨k - 2, by omega⟩
    have := hK k (by omega)
    simp only [formsP] at this
    have hd2 : decide ((f2.length : Int) > (left : Int)) = false := decide_eq_false (by omega)
    simp only
    rw [proctorref02_form.f, if_pos rfl, if_neg (by simp), if_neg (by omega), proctorref02_form.j2, hd2, if_neg (by simp)]
    exact this
   ·simp only [Bool.and_eq_true, decide_eq_true_eq, List.length_append] at h ⊢
    exact ⟨h.1, by omega⟩
  ·have hg := formsP_ge f2
   have hb : decide ((aheadP 192 (formsP f2).length ++ formsP f2).length ≤ left) = false := decide_eq_false (by rw [List.length_append]; omega)
   rw [hb, Bool.and_false]
   refine ⟨[], false, ⟨2, fun k hk => ?_⟩, by simp, by simp⟩
   obtain ⟨k, rfl⟩ : ∃ k', k = k' + 2 := ⟨k - 2, by omega⟩
   have hd2 : decide ((f2.length : Int) > (left : Int)) = true := decide_eq_true (by omega)
   simp only
   rw [proctorref02_form.f, if_pos rfl, if_neg (by simp), if_neg (by omega), proctorref02_form.j2, hd2, if_pos rfl]
 ·have hl1 : 0 < f1.length := by cases f1; exact absurd rfl h1; simp
  have hie : f1.isEmpty = false := by cases f1; exact absurd rfl h1; rfl
  simp only [hie, Bool.false_and]
  refine ⟨[], false, ⟨2, fun k hk => ?_⟩, by simp, by simp⟩
  obtain ⟨k, rfl⟩ : ∃ k', k = k' + 2 := ⟨k - 2, by omega⟩
  simp only
  rw [proctorref02_form.f, if_pos rfl, if_pos (by omega), proctorref02_form.j2, if_pos rfl]
theorem rform_spec : ∀ (d : Nat), d ≤ 16 → ∀ (x : S159) (left : Nat), left ≤ 65536 →
 ∃ bs b, Ev (fun k => proctorref02_form.f k x.f0 x.f1 x.f2 left d) (bs, b) ∧ FormAns d left x bs b
 | d, hd, x, left, hl => by
  cases hx : x.f0 with
  | false =>
   obtain ⟨bs, b, h1, h2⟩ := rform_str d left hl x hx
   rw [hx] at h1
   exact ⟨bs, b, ⟨20, h1⟩, h2⟩
  | true =>
   cases d with
   | zero =>
    have hv : vP 0 left x = false := by unfold vP; rw [wfP_zero x hx]; rfl
    unfold FormAns
    rw [hv]
    refine ⟨[], false, ⟨2, fun k hk => ?_⟩, by simp, by simp⟩
    obtain ⟨k, rfl⟩ : ∃ k', k = k' + 2 := ⟨k - 2, by omega⟩
    simp only
    rw [proctorref02_form.f, if_pos rfl]
    by_cases hp : (x.f1.length : Int) > 0
    ·rw [if_pos hp, proctorref02_form.j2, if_pos rfl]
    ·rw [if_neg hp, if_pos (by omega), proctorref02_form.j2, if_pos rfl]
   | succ d =>
    have := rform_list d left hd hl x hx (fun y left' h' => rform_spec d (by omega) y left' h')
    rw [hx] at this
    exact this
theorem rmay_spec (x : S159) : Ev (fun k => proctorref02_May.f k x.f0 x.f1 x.f2) (vP 16 65536 x) := by
 obtain ⟨bs, b, ⟨K, h1⟩, h2, h3⟩ := rform_spec 16 (by omega) x 65536 (by omega)
 refine ⟨K, fun k hk => ?_⟩
 have h4 : proctorref02_form.f k x.f0 x.f1 x.f2 65536 16 = some (bs, b) := h1 k hk
 show proctorref02_May.f k x.f0 x.f1 x.f2 = _
 rw [proctorref02_May.f, h4]
 simp only [Option.bind_some]
 cases hb : b with
 | false =>
  have : vP 16 65536 x = false := by
   cases hv : vP 16 65536 x with
   | false => rfl
   | true => have := h3 hv; rw [hb] at this; cases this
  rw [this]; rfl
 | true =>
  obtain ⟨hw, hbs, _⟩ := h2 hb
  rw [if_pos rfl, hbs]
  unfold vP
  rw [hw, Bool.true_and]
  congr 1
  apply decide_eq_decide.mpr; omega
def encP (x : S159) : List Int × Int := if vP 16 65536 x = true then (formP x, 0) else ([], 2)
theorem renc_spec (x : S159) : Ev (fun k => proctorref02_Encode.f k x.f0 x.f1 x.f2) (encP x) := by
 obtain ⟨bs, b, ⟨K, h1⟩, h2, h3⟩ := rform_spec 16 (by omega) x 65536 (by omega)
 obtain ⟨K2, h5⟩ := rmay_spec x
 refine ⟨max K K2, fun k hk => ?_⟩
 have h4 : proctorref02_form.f k x.f0 x.f1 x.f2 65536 16 = some (bs, b) := h1 k (by omega)
 have h6 : proctorref02_May.f k x.f0 x.f1 x.f2 = some (vP 16 65536 x) := h5 k (by omega)
 show proctorref02_Encode.f k x.f0 x.f1 x.f2 = _
 rw [proctorref02_Encode.f, h4, h6]
 simp only [Option.bind_some]
 unfold encP
 by_cases hv : vP 16 65536 x = true
 ·rw [if_pos hv, if_pos hv, (h2 (h3 hv)).2.1]
 ·rw [if_neg hv, if_neg hv]
def lenR (f : Nat) (rest : List Int) : Int × Int × Int :=
 if f ≤ 55 then ((f : Int), 1, 0)
 else if rest.length < f - 55 then (0, 0, 7)
 else if (rest.take (f - 55)).headD 0 = 0 ∨ num (rest.take (f - 55)) ≤ 55 then (0, 0, 8)
 else if num (rest.take (f - 55)) > rest.length + 1 then (0, 0, 7)
 else ((num (rest.take (f - 55)) : Int), ((1 + (f - 55) : Nat) : Int), 0)
theorem length_l0 (c : Int) (rest : List Int) (hb : Byt rest) (hr : rest.length ≤ 65536) (kk : Nat) (hkl : kk ≤ rest.length) (hk8 : kk ≤ 8) : ∀ (d j : Nat), j + d = kk → ∀ k, d + 1 ≤ k →
 proctorref02_length.l0 k (c :: rest) (kk : Int) (num (rest.take j) : Int) ((j + 1 : Nat) : Int) =
  some (if num (rest.take kk) ≤ 55 then (0, 0, 8) else if num (rest.take kk) > rest.length + 1 then (0, 0, 7) else ((num (rest.take kk) : Int), ((1 + kk : Nat) : Int), 0))
 | 0, j, h, k, hk => by
  obtain ⟨k, rfl⟩ : ∃ k', k = k' + 1 := ⟨k - 1, by omega⟩
  obtain rfl : j = kk := by omega
  rw [proctorref02_length.l0, if_neg (by omega)]
  by_cases h1 : num (rest.take j) ≤ 55
  ·rw [if_pos (by omega), if_pos h1]
  ·rw [if_neg (by omega), if_neg h1, IntWalk.u64_in _ (by rw [List.length_cons]; omega)]
   by_cases h2 : num (rest.take j) > rest.length + 1
   ·rw [if_pos (by rw [List.length_cons]; omega), if_pos h2]
   ·rw [if_neg (by rw [List.length_cons]; omega), if_neg h2, wrap64_in _ (by omega), wrap64_in _ (by omega)]
    congr 2
 | d + 1, j, h, k, hk => by
  obtain ⟨k, rfl⟩ : ∃ k', k = k' + 1 := ⟨k - 1, by omega⟩
  rw [proctorref02_length.l0]
  rw [if_pos (by omega), if_pos (by omega), if_pos (by rw [List.length_cons]; omega), rd_nat (c :: rest) (j + 1) (by rw [List.length_cons]; omega), wrap64_in _ (by omega)]
  simp only [List.getElem_cons_succ]
  have h1 := hb rest[j] (List.getElem_mem (by omega))
  obtain ⟨c', hc⟩ := Int.eq_ofNat_of_zero_le h1.1
  have h2 := num_lt (rest.take j) (hb.take j)
  have h3 : (rest.take j).length ≤ 7 := by rw [List.length_take]; omega
  have h4 := pow256_le h3
  rw [pow256_7] at h4
  have h5 : num (rest.take (j + 1)) = num (rest.take j) * 256 + c' := by
   rw [take_snoc rest j (by omega), num_snoc, hc]; rfl
  rw [hc, num_step _ c' (by omega) (by omega), ← h5]
  exact length_l0 c rest hb hr kk hkl hk8 d (j + 1) (by omega) k (by omega)
theorem length_ev (c : Int) (rest : List Int) (hb : Byt rest) (hr : rest.length ≤ 65536) (base : Int) (h0 : base ≤ c) (h1 : c - base ≤ 63) :
 ∀ k, 20 ≤ k → proctorref02_length.f k (c :: rest) base = some (lenR (c - base).toNat rest) := by
 intro k hk
 obtain ⟨f, hf⟩ := Int.eq_ofNat_of_zero_le (show 0 ≤ c - base by omega)
 have hf' : (c - base) = (f : Int) := hf
 rw [hf', Int.toNat_natCast]
 rw [proctorref02_length.f]
 have hrd : rd (c :: rest) 0 = c := by simp [rd]
 rw [if_pos (by rw [List.length_cons]; omega), hrd, hf', show ((f : Int) % 256) = (f : Int) by omega]
 unfold lenR
 by_cases h2 : f ≤ 55
 ·rw [if_pos (by omega), if_pos h2]
 ·rw [if_neg (by omega), if_neg h2]
  by_cases h3 : rest.length < f - 55
  ·rw [if_pos (by rw [List.length_cons]; omega), if_pos h3]
  ·rw [if_neg (by rw [List.length_cons]; omega), if_neg h3, if_pos (by rw [List.length_cons]; omega)]
   have hrd1 : rd (c :: rest) 1 = (rest.take (f - 55)).headD 0 := by
    cases rest with
    | nil => simp at h3; omega
    | cons a l =>
     obtain ⟨q, hq⟩ : ∃ q, f - 55 = q + 1 := ⟨f - 56, by omega⟩
     rw [hq]
     simp [rd]
   rw [hrd1]
   by_cases h4 : (rest.take (f - 55)).headD 0 = 0
   ·rw [if_pos h4, if_pos (Or.inl h4)]
   ·rw [if_neg h4]
    have := length_l0 c rest hb hr (f - 55) (by omega) (by omega) (f - 55) 0 (by omega) k (by omega)
    simp only [List.take_zero] at this
    rw [show ((f : Int) - 55) = ((f - 55 : Nat) : Int) by omega]
    rw [show (num ([] : List Int) : Int) = 0 by simp [num], show ((0 + 1 : Nat) : Int) = 1 by omega] at this
    rw [this]
    by_cases h5 : num (rest.take (f - 55)) ≤ 55
    ·rw [if_pos h5, if_pos (Or.inr h5)]
    ·rw [if_neg h5, if_neg (show ¬ ((rest.take (f - 55)).headD 0 = 0 ∨ num (rest.take (f - 55)) ≤ 55) from not_or.mpr ⟨h4, h5⟩)]
theorem body_len (c : Int) (rest : List Int) (f : Nat) :
 (∀ e, bodyP f rest = .error e → ((lenR f rest).2.2 = e ∧ e ≠ 0) ∨ ((lenR f rest).2.2 = 0 ∧ e = 7 ∧ ∃ N A : Nat, (lenR f rest).1 = (N : Int) ∧ (lenR f rest).2.1 = (A : Int) ∧ 1 ≤ A ∧ A ≤ rest.length + 1 ∧ N + A > rest.length + 1 ∧ N ≤ rest.length + 64)) ∧
 (∀ x y, bodyP f rest = .ok (x, y) → (lenR f rest).2.2 = 0 ∧ ∃ N A : Nat, (lenR f rest).1 = (N : Int) ∧ (lenR f rest).2.1 = (A : Int) ∧ 1 ≤ A ∧ N + A ≤ rest.length + 1 ∧ x = ((c :: rest).take (A + N)).drop A ∧ y = (c :: rest).drop (A + N) ∧ N = x.length ∧ y.length + (A + N) = rest.length + 1) := by
 unfold bodyP lenR
 by_cases h1 : f ≤ 55
 ·simp only [if_pos h1, cutP]
  by_cases h2 : f ≤ rest.length
  ·simp only [if_pos h2]
   refine ⟨fun e h => (by cases h), fun x y h => ?_⟩
   cases h
   refine ⟨trivial, f, 1, rfl, rfl, by omega, by omega, ?_, ?_, ?_, ?_⟩
   ·rw [Nat.add_comm 1 f]; simp
   ·rw [Nat.add_comm 1 f]; simp
   ·rw [List.length_take]; omega
   ·rw [List.length_drop]; omega
  ·simp only [if_neg h2]
   refine ⟨fun e h => ?_, fun x y h => by cases h⟩
   cases h
   exact Or.inr ⟨trivial, rfl, f, 1, rfl, rfl, by omega, by omega, by omega, by omega⟩
 ·simp only [if_neg h1]
  by_cases h2 : f - 55 ≤ rest.length
  ·rw [if_pos h2, if_neg (show ¬ rest.length < f - 55 by omega)]
   by_cases h3 : (rest.take (f - 55)).headD 0 = 0 ∨ num (rest.take (f - 55)) ≤ 55
   ·rw [if_pos h3, if_pos h3]
    refine ⟨fun e h => ?_, fun x y h => by cases h⟩
    cases h
    exact Or.inl ⟨rfl, by decide⟩
   ·rw [if_neg h3, if_neg h3]
    generalize num (rest.take (f - 55)) = N at *
    by_cases h4 : N > rest.length + 1
    ·rw [if_pos h4]
     simp only [cutP]
     rw [if_neg (by rw [List.length_drop]; omega)]
     refine ⟨fun e h => ?_, fun x y h => by cases h⟩
     cases h
     exact Or.inl ⟨rfl, by decide⟩
    ·rw [if_neg h4]
     simp only [cutP]
     by_cases h5 : N ≤ (rest.drop (f - 55)).length
     ·rw [if_pos h5]
      rw [List.length_drop] at h5
      refine ⟨fun e h => (by cases h), fun x y h => ?_⟩
      cases h
      refine ⟨trivial, N, 1 + (f - 55), rfl, rfl, by omega, by omega, ?_, ?_, ?_, ?_⟩
      ·rw [show 1 + (f - 55) + N = ((f - 55) + N) + 1 by omega, show 1 + (f - 55) = (f - 55) + 1 by omega]
       simp only [List.take_succ_cons, List.drop_succ_cons]
       rw [List.drop_take, Nat.add_sub_cancel_left]
      ·rw [show 1 + (f - 55) + N = ((f - 55) + N) + 1 by omega]
       simp only [List.drop_succ_cons, List.drop_drop]
      ·rw [List.length_take, List.length_drop]; omega
      ·rw [List.length_drop, List.length_drop]; omega
     ·rw [if_neg h5]
      rw [List.length_drop] at h5
      refine ⟨fun e h => ?_, fun x y h => by cases h⟩
      cases h
      exact Or.inr ⟨trivial, rfl, N, 1 + (f - 55), rfl, rfl, by omega, by omega, by omega, by omega⟩
  ·rw [if_neg h2, if_pos (show rest.length < f - 55 by omega)]
   refine ⟨fun e h => ?_, fun x y h => by cases h⟩
   cases h
   exact Or.inl ⟨rfl, by decide⟩
def endR (e : Int) : Bool × List Int × List S159 × Int × Int := (false, [], [], 0, e)
theorem read_err (c : Int) (rest : List Int) (hb : Byt rest) (hr : rest.length ≤ 65536) (base : Int) (h0 : base ≤ c) (h1 : c - base ≤ 63) (lv : Int) (flag : Bool) (e : Int) (he : bodyP (c - base).toNat rest = .error e) :
 ∀ k, 30 ≤ k → proctorref02_read.j0 k (c :: rest) lv flag base = some (endR e) := by
 intro k hk
 obtain ⟨k, rfl⟩ : ∃ k', k = k' + 3 := ⟨k - 3, by omega⟩
 rw [proctorref02_read.j0, length_ev c rest hb hr base h0 h1 (k + 2) (by omega)]
 simp only [Option.bind_some]
 have hb1 := (body_len c rest (c - base).toNat).1 e he
 generalize lenR (c - base).toNat rest = q at *
 obtain ⟨n, at_, e0⟩ := q
 simp only at hb1 ⊢
 rcases hb1 with ⟨rfl, hne⟩ | ⟨rfl, rfl, N, A, rfl, rfl, hA, hA1, hNA, hN⟩
 ·rw [if_neg hne, proctorref02_read.j1, if_neg (by simp), proctorref02_read.j2, if_neg hne]
  rfl
 ·rw [if_pos rfl, wrap64_in _ (by rw [List.length_cons]; omega)]
  rw [show decide ((N : Int) > ((c :: rest).length : Int) - (A : Int)) = true from decide_eq_true (by rw [List.length_cons]; omega)]
  rw [proctorref02_read.j1, if_pos rfl, proctorref02_read.j2, if_neg (by decide)]
  rfl
theorem read_ok (c : Int) (rest : List Int) (hb : Byt rest) (hr : rest.length ≤ 65536) (base : Int) (h0 : base ≤ c) (h1 : c - base ≤ 63) (lv : Int) (flag : Bool) (x y : List Int) (he : bodyP (c - base).toNat rest = .ok (x, y)) :
 ∃ N A : Nat, N = x.length ∧ y.length + (A + N) = rest.length + 1 ∧ ∀ k, 30 ≤ k → proctorref02_read.j0 (k + 3) (c :: rest) lv flag base =
  if flag = true then proctorref02_read.l0 k lv N A x true [] else
  if x.length = 1 ∧ x.headD 0 < 128 then some (endR 8) else some (false, x, [], ((A + N : Nat) : Int), 0) := by
 have hb1 := (body_len c rest (c - base).toNat).2 x y he
 obtain ⟨h2, N, A, h3, h4, hA, hNA, hx, hy, hN, hyl⟩ := hb1
 refine ⟨N, A, hN, hyl, fun k hk => ?_⟩
 rw [proctorref02_read.j0, length_ev c rest hb hr base h0 h1 (k + 2) (by omega)]
 simp only [Option.bind_some]
 generalize lenR (c - base).toNat rest = q at *
 obtain ⟨n, at_, e0⟩ := q
 simp only at h2 h3 h4 ⊢
 subst h2 h3 h4
 have hxl : x.length ≤ 65536 := by omega
 rw [if_pos rfl, wrap64_in _ (by rw [List.length_cons]; omega)]
 rw [show decide ((N : Int) > ((c :: rest).length : Int) - (A : Int)) = false from decide_eq_false (by rw [List.length_cons]; omega)]
 rw [proctorref02_read.j1, if_neg (by simp), proctorref02_read.j2, if_pos rfl, if_pos (by omega), wrap64_in _ (by omega), if_pos (by omega), if_pos (by rw [List.length_cons]; omega)]
 rw [show (((A : Int) + (N : Int)).toNat) = A + N by omega, Int.toNat_natCast, ← hx]
 simp only [Option.bind_some]
 cases flag with
 | true => rw [if_pos rfl, if_pos rfl]
 | false =>
  rw [if_neg (show ¬ (false = true) by decide), if_neg (show ¬ (false = true) by decide)]
  have hc : ∀ b : Option (Bool × List Int × List S159 × Int × Int), ((proctorref01_Copy.f x).bind fun t => some (false, t, ([] : List S159), (A : Int) + (N : Int), (0 : Int))) = some (false, x, [], ((A + N : Nat) : Int), 0) := by
   intro _
   rw [copy_f x (by omega)]
   simp
  rw [hc none]
  by_cases h11 : x.length = 1
  ·obtain ⟨i0, rfl⟩ : ∃ i0, x = [i0] := by
    match x, h11 with
    | [i0], _ => exact ⟨i0, rfl⟩
   rw [if_pos (show (N : Int) = 1 by simp at hN; omega), if_pos (show (0 : Int) < ([i0].length : Int) by simp)]
   have hrd : rd [i0] 0 = i0 := by simp [rd]
   rw [hrd]
   simp only [List.length_singleton, List.headD_cons, true_and]
   rfl
  ·rw [if_neg (show ¬ (N : Int) = 1 by omega), if_neg (show ¬ (x.length = 1 ∧ x.headD 0 < 128) from fun h => h11 h.1)]
def resR (lv : Nat) (b : List Int) : Bool × List Int × List S159 × Int × Int :=
 match itemP lv b with
 | .ok q => (q.1.f0, q.1.f1, q.1.f2, (b.length : Int) - (q.2.length : Int), 0)
 | .error e => endR e
theorem itemP_suffix {lv : Nat} {l r : List Int} {x : S159} (h : itemP lv l = .ok (x, r)) : r = l.drop (l.length - r.length) := by
 have h1 := itemP_len h
 have : ∃ k, r = l.drop k := by cases lv <;> exact itemF_suffix h
 obtain ⟨k, rfl⟩ := this
 rw [List.length_drop] at h1 ⊢
 by_cases hk : k ≤ l.length
 ·rw [show l.length - (l.length - k) = k by omega]
 ·rw [List.drop_of_length_le (by omega), show l.length - (l.length - k) = l.length by omega, List.drop_length]
theorem cutP_err {b : List Int} {n : Nat} {e : Int} (h : cutP b n = .error e) : e ≠ 0 := by
 unfold cutP at h
 split at h
 ·cases h
 ·cases h; decide
theorem bodyP_err {f : Nat} {b : List Int} {e : Int} (h : bodyP f b = .error e) : e ≠ 0 := by
 unfold bodyP at h
 split at h
 ·exact cutP_err h
 ·split at h
  ·split at h
   ·cases h; decide
   ·exact cutP_err h
  ·cases h; decide
theorem bind_err {ε α β : Type} {x : Except ε α} {f : α → Except ε β} {e : ε} (h : x.bind f = .error e) : x = .error e ∨ ∃ a, x = .ok a ∧ f a = .error e := by
 cases x with
 | error e' => exact Or.inl (by cases h; rfl)
 | ok a => exact Or.inr ⟨a, rfl, h⟩
theorem itemsP_err (f : List Int → Except Int (S159 × List Int)) (hl : ∀ l x r, f l = .ok (x, r) → r.length < l.length) (hf : ∀ l e, f l = .error e → e ≠ 0) :
 ∀ (k : Nat) (l : List Int), l.length ≤ k → ∀ e, itemsP f k l = .error e → e ≠ 0
 | k, [], _, e, h => by cases k <;> cases h
 | 0, _ :: _, hk, e, h => by simp at hk
 | k + 1, c :: l, hk, e, h => by
  rw [itemsP] at h
  rcases bind_err h with h | ⟨⟨x, r⟩, h1, h⟩
  ·exact hf _ _ h
  ·have h2 := hl _ _ _ h1
   rw [List.length_cons] at h2 hk
   rcases bind_err h with h | ⟨xs, h1, h⟩
   ·exact itemsP_err f hl hf k r (by omega) e h
   ·cases h
theorem itemF_err {sub : Option (List Int → Except Int (S159 × List Int))} (hsl : ∀ f, sub = some f → ∀ l x r, f l = .ok (x, r) → r.length < l.length) (hsub : ∀ f, sub = some f → ∀ l e, f l = .error e → e ≠ 0) {b : List Int} {e : Int} (h : itemF sub b = .error e) : e ≠ 0 := by
 cases b with
 | nil => cases h; decide
 | cons c rest =>
  simp only [itemF] at h
  split at h
  ·cases h
  ·split at h
   ·rcases bind_err h with h | ⟨q, h1, h⟩
    ·exact bodyP_err h
    ·split at h
     ·cases h; decide
     ·cases h
   ·cases sub with
    | none => cases h; decide
    | some f =>
     simp only at h
     rcases bind_err h with h | ⟨q, h1, h⟩
     ·exact bodyP_err h
     ·rcases bind_err h with h | ⟨xs, h1, h⟩
      ·exact itemsP_err f (hsl f rfl) (hsub f rfl) _ _ (Nat.le_refl _) _ h
      ·cases h
theorem itemP_err : ∀ {lv : Nat} {b : List Int} {e : Int}, itemP lv b = .error e → e ≠ 0
 | 0, b, e, h => itemF_err (by simp) (by simp) h
 | lv + 1, b, e, h => itemF_err (sub := some (itemP lv)) (by rintro f hf; cases hf; intro l x r h; exact itemP_len h) (by rintro f hf; cases hf; intro l e h; exact itemP_err h) h
theorem read_loop (lv : Nat) (hlv : lv + 1 ≤ 16) (N A : Nat) (hNA : A + N ≤ 70000)
 (ih : ∀ b : List Int, Byt b → b.length ≤ 65537 → Ev (fun k => proctorref02_read.f k b lv) (resR lv b)) :
 ∀ (s : Nat) (x : List Int), x.length ≤ s → Byt x → ∀ acc : List S159, acc.length + x.length ≤ 70000 → x.length ≤ 65537 →
 Ev (fun k => proctorref02_read.l0 k ((lv + 1 : Nat) : Int) N A x true acc)
  (match itemsP (itemP lv) x.length x with
   | .ok xs => (true, [], acc ++ xs, ((A + N : Nat) : Int), 0)
   | .error e => endR e) := by
 intro s
 induction s with
 | zero =>
  intro x hx hb acc hl hl2
  obtain rfl : x = [] := List.length_eq_zero_iff.mp (by omega)
  refine ⟨1, fun k hk => ?_⟩
  obtain ⟨k, rfl⟩ : ∃ k', k = k' + 1 := ⟨k - 1, by omega⟩
  simp only
  rw [proctorref02_read.l0, if_neg (by simp), wrap64_in _ (by omega)]
  simp [itemsP]
 | succ s ihs =>
  intro x hx hb acc hl hl2
  by_cases h0 : x.length = 0
  ·exact ihs x (by omega) hb acc hl hl2
  ·obtain ⟨K1, h1⟩ := ih x hb hl2
   rw [items_step lv x (by omega)]
   have hstep : ∀ k, K1 ≤ k → proctorref02_read.f k x (wrap64 (((lv + 1 : Nat) : Int) - 1)) = some (resR lv x) := by
    intro k hk
    rw [wrap64_in _ (by omega), show (((lv + 1 : Nat) : Int) - 1) = (lv : Int) by omega]
    exact h1 k hk
   unfold resR at hstep
   cases hi : itemP lv x with
   | error e =>
    have hne := itemP_err hi
    rw [hi] at hstep
    simp only at hstep
    refine ⟨K1 + 1, fun k hk => ?_⟩
    obtain ⟨k, rfl⟩ : ∃ k', k = k' + 1 := ⟨k - 1, by omega⟩
    simp only
    rw [proctorref02_read.l0, if_pos (by omega), hstep k (by omega)]
    simp only [Option.bind_some, endR, Except.bind]
    rw [if_neg hne]
   | ok q =>
    obtain ⟨⟨y0, y1, y2⟩, r⟩ := q
    have hlen := itemP_len hi
    have hsuf := itemP_suffix hi
    have hbr := itemP_byt hb hi
    rw [hi] at hstep
    simp only at hstep
    obtain ⟨K2, h2⟩ := ihs r (by omega) hbr (acc ++ [⟨y0, y1, y2⟩]) (by rw [List.length_append, List.length_singleton]; omega) (by omega)
    refine ⟨max K1 K2 + 1, fun k hk => ?_⟩
    obtain ⟨k, rfl⟩ : ∃ k', k = k' + 1 := ⟨k - 1, by omega⟩
    have h3 := h2 k (by omega)
    simp only at h3 ⊢
    rw [proctorref02_read.l0, if_pos (by omega), hstep k (by omega)]
    simp only [Option.bind_some, Except.bind]
    rw [if_pos trivial, if_pos (by omega), if_pos (by omega), if_pos (by omega)]
    rw [show ((x.length : Int) - (r.length : Int)).toNat = x.length - r.length by omega, ← hsuf]
    refine Eq.trans h3 ?_
    cases hi2 : itemsP (itemP lv) r.length r with
    | error e => rfl
    | ok xs => simp
theorem bodyP_byt' {f : Nat} {b x y : List Int} (hb : Byt b) (h : bodyP f b = .ok (x, y)) : Byt x := by
 unfold bodyP at h
 split at h
 ·obtain ⟨h1, rfl, rfl⟩ := cutP_ok h
  exact hb.take _
 ·split at h
  ·split at h
   ·cases h
   ·obtain ⟨h1, rfl, rfl⟩ := cutP_ok h
    exact (hb.drop _).take _
  ·cases h
theorem read_spec : ∀ (lv : Nat), lv ≤ 16 → ∀ b : List Int, Byt b → b.length ≤ 65537 → Ev (fun k => proctorref02_read.f k b lv) (resR lv b)
 | lv, hlv, [], hb, hl => by
  refine ⟨1, fun k hk => ?_⟩
  obtain ⟨k, rfl⟩ : ∃ k', k = k' + 1 := ⟨k - 1, by omega⟩
  simp only
  rw [proctorref02_read.f, if_pos (by simp)]
  cases lv <;> rfl
 | lv, hlv, c :: rest, hb, hl => by
  have hr : rest.length ≤ 65536 := by rw [List.length_cons] at hl; omega
  have hbr : Byt rest := fun x hx => hb x (List.mem_cons_of_mem _ hx)
  have hc := hb c (by simp)
  have hrd : rd (c :: rest) 0 = c := by simp [rd]
  have hP : itemP lv (c :: rest) = if c < 128 then .ok (⟨false, [c], []⟩, rest)
   else if c < 192 then (bodyP (c - 128).toNat rest).bind fun q => if q.1.length = 1 ∧ q.1.headD 0 < 128 then .error 8 else .ok (⟨false, q.1, []⟩, q.2)
   else match lv with
    | 0 => .error 8
    | lv + 1 => (bodyP (c - 192).toNat rest).bind fun q => (itemsP (itemP lv) q.1.length q.1).bind fun xs => .ok (⟨true, [], xs⟩, q.2) := by
   cases lv <;> rfl
  unfold resR
  rw [hP]
  by_cases h1 : c < 128
  ·rw [if_pos h1]
   refine ⟨1, fun k hk => ?_⟩
   obtain ⟨k, rfl⟩ : ∃ k', k = k' + 1 := ⟨k - 1, by omega⟩
   simp only
   rw [proctorref02_read.f, if_neg (by rw [List.length_cons]; omega), if_pos (by rw [List.length_cons]; omega), hrd, if_pos h1]
   congr 5
   rw [List.length_cons]; omega
  ·rw [if_neg h1]
   by_cases h2 : c < 192
   ·rw [if_pos h2]
    have hf : ∀ k, proctorref02_read.f (k + 1) (c :: rest) lv = proctorref02_read.j0 k (c :: rest) lv false 128 := by
     intro k
     rw [proctorref02_read.f, if_neg (by rw [List.length_cons]; omega), if_pos (by rw [List.length_cons]; omega), hrd, if_neg h1, if_neg (by omega), show decide (c ≥ 192) = false from decide_eq_false (by omega)]
    cases hbd : bodyP (c - 128).toNat rest with
    | error e =>
     have := read_err c rest hbr hr 128 (by omega) (by omega) lv false e hbd
     refine ⟨40, fun k hk => ?_⟩
     obtain ⟨k, rfl⟩ : ∃ k', k = k' + 1 := ⟨k - 1, by omega⟩
     simp only
     rw [hf, this k (by omega)]
     rfl
    | ok q =>
     obtain ⟨x, y⟩ := q
     obtain ⟨N, A, hN, hyl, h3⟩ := read_ok c rest hbr hr 128 (by omega) (by omega) lv false x y hbd
     refine ⟨40, fun k hk => ?_⟩
     obtain ⟨k, rfl⟩ : ∃ k', k = k' + 4 := ⟨k - 4, by omega⟩
     simp only
     rw [hf, h3 k (by omega), if_neg (by decide)]
     simp only [Except.bind]
     by_cases h4 : x.length = 1 ∧ x.headD 0 < 128
     ·rw [if_pos h4, if_pos h4]
     ·rw [if_neg h4, if_neg h4]
      simp only [List.length_cons]
      congr 5
      omega
   ·rw [if_neg h2]
    cases lv with
    | zero =>
     refine ⟨1, fun k hk => ?_⟩
     obtain ⟨k, rfl⟩ : ∃ k', k = k' + 1 := ⟨k - 1, by omega⟩
     simp only
     rw [proctorref02_read.f, if_neg (by rw [List.length_cons]; omega), if_pos (by rw [List.length_cons]; omega), hrd, if_neg h1, if_pos (by omega), if_pos (by omega)]
     rfl
    | succ lv =>
     have hf : ∀ k, proctorref02_read.f (k + 1) (c :: rest) ((lv + 1 : Nat) : Int) = proctorref02_read.j0 k (c :: rest) ((lv + 1 : Nat) : Int) true 192 := by
      intro k
      rw [proctorref02_read.f, if_neg (by rw [List.length_cons]; omega), if_pos (by rw [List.length_cons]; omega), hrd, if_neg h1, if_pos (by omega), if_neg (by omega), show decide (c ≥ 192) = true from decide_eq_true (by omega)]
     simp only
     cases hbd : bodyP (c - 192).toNat rest with
     | error e =>
      have := read_err c rest hbr hr 192 (by omega) (by omega) ((lv + 1 : Nat) : Int) true e hbd
      refine ⟨40, fun k hk => ?_⟩
      obtain ⟨k, rfl⟩ : ∃ k', k = k' + 1 := ⟨k - 1, by omega⟩
      simp only
      rw [hf, this k (by omega)]
      rfl
     | ok q =>
      obtain ⟨x, y⟩ := q
      obtain ⟨N, A, hN, hyl, h3⟩ := read_ok c rest hbr hr 192 (by omega) (by omega) ((lv + 1 : Nat) : Int) true x y hbd
      have hbx := bodyP_byt' hbr hbd
      obtain ⟨K, hK⟩ := read_loop lv hlv N A (by omega) (fun b hb hl => read_spec lv (by omega) b hb hl) x.length x (Nat.le_refl _) hbx [] (by simp; omega) (by omega)
      refine ⟨K + 40, fun k hk => ?_⟩
      obtain ⟨k, rfl⟩ : ∃ k', k = k' + 4 := ⟨k - 4, by omega⟩
      have h5 := hK k (by omega)
      simp only at h5 ⊢
      rw [hf, h3 k (by omega), if_pos rfl, h5]
      simp only [Except.bind]
      cases itemsP (itemP lv) x.length x with
      | error e => rfl
      | ok xs =>
       simp only [List.length_cons, List.nil_append]
       congr 5
       omega
end Go.Proofs.Ytocphkfkdadhaaa.K
