import Derived.Test.YtdjoekckhmggbaaG2
namespace Go.Proofs.Ytdjoekckhmggbaa.H
open Go.RowKit Go.Proofs.YtdjoekckhmggbaaW.PrintWords Go.Proofs.YtdjoekckhmggbaaW.PrintLast Go.Proofs.YtdjoekckhmggbaaW.PrintMore Go.Proofs.Ytdjoekckhmggbaa.PRF
attribute [local go_sem] max2_int min2_int max_two min_two max_three min_three max_four min_four
set_option linter.unusedVariables false
set_option linter.unusedSimpArgs false

/-- what spoil leaves -/
def SpoilPost (lo hi : Nat) (w0 w : World) (e : Ending) (w' : World) : Prop := e = .returned (.tuple #[]) ∧ Below w0.heap.size w0 w' ∧ Soft lo hi w w'

set_option maxHeartbeats 1000000 in
set_option maxRecDepth 100000 in
theorem spoil_nil (lo hi : Nat) (b : Bool) (v1 : Value) (w0 w : World) (hB : Below w0.heap.size w0 w) (hlo : w0.heap.size ≤ lo) (hhi : hi ≤ w.heap.size) (h : BOk w lo hi v1) :
    Calls Try.prog 29 #[.agg #[.bool b, v1, .slice none 0 0]] w (SpoilPost lo hi w0 w) := by
  have HB := Aside0.mk hB
  have HS := Aside0.mk (fun w' hb hh hk => spoil_bytes v1 5 lo hi w0 w' hb hlo hh hk)
  have HK := Aside0.mk h
  have HH := Aside0.mk hhi
  clear hB h hhi
  go_enter Try.func29, Try.ntmps29
  go_wp2_with (first
    | ((with_reducible refine gate_dst (N := 1) rfl ?_); refine alloc_ev rfl (N := 1) rfl (cs := #[.bool b, v1, .slice none 0 0]) (t := 47) HB ?hr1 ?_; (case hr1 => first | (go_simp; done) | (go_simp; rfl)); intro g1 w1 HG1 HGe1 HE1 HB1; have hcf := cf3 HG1))
  have HSo1 := Aside0.mk (Soft.below (lo := lo) HE1.out HH.out)
  refine (HS.out _ HB1.out (Nat.le_trans HH.out HE1.out.size) (HK.out.soft HSo1.out)).mono ?_
  rintro e w2 ⟨rfl, hb2, hs2⟩
  have HB2 := Aside0.mk hb2
  have HS2 := Aside0.mk hs2
  have HG2 := Aside0.mk ((hs2.far g1 (blk_lt HG1.out) (fun h => by have := HGe1.out; have := HH.out; omega)).trans HG1.out)
  have hcf2 := cf3 HG2
  clear hb2 hs2 hcf
  go_wp2_with fail
  go_loopw [2] (fun v2 wr => ∃ i : Nat, i ≤ 0 ∧ v2 = .int .i64 (i : Int) ∧ wr = w2) (fun v2 _ => 0 - (intOf v2).toNat)
  case atStart => exact ⟨0, Nat.le_refl _, rfl, rfl⟩
  case round =>
    obtain ⟨i, hi0, rfl, rfl⟩ := hrel
    obtain rfl : i = 0 := by omega
    go_wp2_with fail
    go_end0
    exact ⟨rfl, HB2.out, HSo1.out.trans HS2.out⟩

set_option maxHeartbeats 1000000 in
set_option maxRecDepth 100000 in
theorem spoil_row (lo hi : Nat) (b : Bool) (v1 : Value) (g n c : Nat) (h : Nat) (w0 w : World) (hB : Below w0.heap.size w0 w) (hlo : w0.heap.size ≤ lo) (hhi : hi ≤ w.heap.size)
    (hsh : Sh (h + 1) w lo hi v1 (.slice (some ⟨g, 0, none⟩) n c)) (hn : n ≤ 1000000)
    (ih : ∀ (b : Bool) (u1 u2 : Value) (w : World), Below w0.heap.size w0 w → hi ≤ w.heap.size → Sh h w lo hi u1 u2 → Calls Try.prog 29 #[.agg #[.bool b, u1, u2]] w (SpoilPost lo hi w0 w)) :
    Calls Try.prog 29 #[.agg #[.bool b, v1, .slice (some ⟨g, 0, none⟩) n c]] w (SpoilPost lo hi w0 w) := by
  have IH := Aside0.mk ih
  have HB := Aside0.mk hB
  have HS := Aside0.mk (fun w' hb hh hk => spoil_bytes v1 5 lo hi w0 w' hb hlo hh hk)
  have HSH := Aside0.mk hsh
  have HH := Aside0.mk hhi
  clear hB hsh hhi ih
  go_enter Try.func29, Try.ntmps29
  go_wp2_with (first
    | ((with_reducible refine gate_dst (N := 1) rfl ?_); refine alloc_ev rfl (N := 1) rfl (cs := #[.bool b, v1, .slice (some ⟨g, 0, none⟩) n c]) (t := 47) HB ?hr1 ?_; (case hr1 => first | (go_simp; done) | (go_simp; rfl)); intro g1 w1 HG1 HGe1 HE1 HB1; have hcf := cf3 HG1))
  have HSo1 := Aside0.mk (Soft.below (lo := lo) HE1.out HH.out)
  have HSH1 := Aside0.mk (Sh.soft HSo1.out _ HSH.out)
  have HH1 := Aside0.mk (Nat.le_trans HH.out HE1.out.size)
  refine (HS.out _ HB1.out HH1.out HSH1.out.1).mono ?_
  rintro e w2 ⟨rfl, hb2, hs2⟩
  have HB2 := Aside0.mk hb2
  have HS2 := Aside0.mk hs2
  have HFar := Aside0.mk (show ¬ (lo ≤ g1 ∧ g1 < hi) from fun h => by have := HGe1.out; have := HH.out; omega)
  have HG2 := Aside0.mk ((hs2.far g1 (blk_lt HG1.out) HFar.out).trans HG1.out)
  have HSH2 := Aside0.mk (Sh.soft hs2 _ HSH1.out)
  have HH2 := Aside0.mk (Nat.le_trans HH1.out hs2.size)
  clear hb2 hs2 hcf
  go_wp2_with fail
  go_loopw [2] (fun v2 wr => ∃ i : Nat, i ≤ n ∧ v2 = .int .i64 (i : Int) ∧ Aside0 (Soft lo hi w2 wr) ∧ Aside0 (Below w0.heap.size w0 wr)) (fun v2 _ => n - (intOf v2).toNat)
  case atStart => exact ⟨0, Nat.zero_le _, rfl, ⟨Soft.refl _ _ _⟩, HB2⟩
  case round =>
    obtain ⟨i, hi0, rfl, HSr, HBr⟩ := hrel
    have HGr := Aside0.mk ((HSr.out.far g1 (blk_lt HG2.out) HFar.out).trans HG2.out)
    have hcfr := cf3 HGr
    by_cases hlt : i < n
    · have hdl : decide (i < n) = true := decide_eq_true hlt
      have hshr := Sh.soft HSr.out _ HSH2.out
      have HHr := Aside0.mk (Nat.le_trans HH2.out HSr.out.size)
      obtain ⟨_, hrow⟩ := hshr
      rcases hrow with hrow | ⟨g', n', c', cs, he, hg2, hg3, hg4, hg5, hg6, hg7, hg8⟩
      · cases hrow
      · injection he with he1 he2 he3
        injection he1 with he1
        injection he1 with he1 _ _
        subst he1 he2 he3
        obtain ⟨b', u1, u2, hr3, hsu⟩ := hg8 i hlt
        have k0 := (blk_cell hg4 (i * 3)).trans hr3.1
        have k1 := (blk_cell hg4 (i * 3 + 1)).trans hr3.2.1
        have k2 := (blk_cell hg4 (i * 3 + 2)).trans hr3.2.2
        have HSU := Aside0.mk hsu
        have HG4 := Aside0.mk hg4
        have HR3 := Aside0.mk hr3
        clear hg4 hr3 hsu hg8
        go_wp2_with fail
        refine (IH.out b' u1 u2 wr HBr.out HHr.out HSU.out).mono ?_
        rintro e w3 ⟨rfl, hb3, hs3⟩
        have HB3 := Aside0.mk hb3
        have HS3 := Aside0.mk hs3
        have hcf3 := cf3 ⟨(hs3.far g1 (blk_lt HGr.out) HFar.out).trans HGr.out⟩
        obtain ⟨cs', hg5', hsz', hrow'⟩ := hs3.rows g cs hg2 hg3 HG4.out
        obtain ⟨b2, y1, y2, hr4⟩ : ∃ b2 y1 y2, Row3 cs' i b2 y1 y2 := by
          rcases hrow' i _ _ _ HR3.out with h' | h'
          · exact ⟨_, _, _, h'⟩
          · exact ⟨_, _, _, h'⟩
        have k3 := (blk_cell hg5' (i * 3)).trans hr4.1
        have k4 := (blk_cell hg5' (i * 3 + 1)).trans hr4.2.1
        have k5 := (blk_cell hg5' (i * 3 + 2)).trans hr4.2.2
        have z0 := blk_frozen hg5' (i * 3)
        have z1 := blk_frozen hg5' (i * 3 + 1)
        have z2 := blk_frozen hg5' (i * 3 + 2)
        have HG5 := Aside0.mk hg5'
        clear hb3 hs3 hg5' hrow' hr4 hcfr k0 k1 k2
        go_wp2_with fail
        refine ⟨⟨i + 1, hlt, by go_num, ⟨(HSr.out.trans HS3.out).trans (Soft.put hg2 hg3 HG5.out)⟩, ⟨below_set (below_set (below_set HB3.out (Nat.le_trans hlo hg2)) (Nat.le_trans hlo hg2)) (Nat.le_trans hlo hg2)⟩⟩, ?_⟩
        simp [intOf]; omega
    · have hdl : decide (i < n) = false := decide_eq_false hlt
      go_wp2_with fail
      go_end0
      exact ⟨rfl, HBr.out, (HSo1.out.trans HS2.out).trans HSr.out⟩

theorem spoil_item (lo hi : Nat) (w0 : World) (hlo : w0.heap.size ≤ lo) : ∀ (h : Nat) (b : Bool) (v1 v2 : Value) (w : World), Below w0.heap.size w0 w → hi ≤ w.heap.size → Sh h w lo hi v1 v2 →
    Calls Try.prog 29 #[.agg #[.bool b, v1, v2]] w (SpoilPost lo hi w0 w)
  | 0, b, v1, v2, w, hB, hhi, ⟨h1, h2⟩ => by
    subst h2
    exact spoil_nil lo hi b v1 w0 w hB hlo hhi h1
  | h + 1, b, v1, v2, w, hB, hhi, hs => by
    obtain ⟨h1, h2⟩ := id hs
    rcases h2 with rfl | ⟨g, n, c, cs, rfl, q2, q3, q4, q5, q6, q7, q8⟩
    · exact spoil_nil lo hi b v1 w0 w hB hlo hhi h1
    · exact spoil_row lo hi b v1 g n c h w0 w hB hlo hhi hs q7 (fun b u1 u2 w hB hhi hs => spoil_item lo hi w0 hlo h b u1 u2 w hB hhi hs)

/-- bytes of the call's own may be spoilt -/
theorem BOk_of_R {w : World} {lo : Nat} {ok : Nat → Prop} {v : Value} {xs : List Int} (h : Kd.R (Kd.int .u8) 5 w lo ok v xs) (hl : xs.length ≤ 1000000) : BOk w lo w.heap.size v := by
  obtain ⟨inner, ho⟩ := Kd.R_own h
  rcases ho.2 with ⟨h1, _⟩ | ⟨g, cap, cur, h1, h2, h3, h4, _, h5, _⟩
  · exact .inl h1
  · exact .inr ⟨g, xs.length, cap, h1, h2, blk_lt h3, ⟨cur, h3, h5.trans (Nat.mul_one _)⟩, h4, hl⟩
theorem Sh_mono {w : World} {lo hi : Nat} : ∀ {h h' : Nat} {v1 v2 : Value}, h ≤ h' → Sh h w lo hi v1 v2 → Sh h' w lo hi v1 v2
  | 0, 0, v1, v2, _, hs => hs
  | 0, h' + 1, v1, v2, _, ⟨h1, h2⟩ => ⟨h1, .inl h2⟩
  | h + 1, 0, v1, v2, hl, _ => by omega
  | h + 1, h' + 1, v1, v2, hl, ⟨h1, h2⟩ => by
    refine ⟨h1, ?_⟩
    rcases h2 with h2 | ⟨g, n, c, cs, q1, q2, q3, q4, q5, q6, q7, q8⟩
    · exact .inl h2
    · refine .inr ⟨g, n, c, cs, q1, q2, q3, q4, q5, q6, q7, fun i hi => ?_⟩
      obtain ⟨b, u1, u2, r1, r2⟩ := q8 i hi
      exact ⟨b, u1, u2, r1, Sh_mono (by omega) r2⟩
/-- an item's form is at least as long as what it holds -/
theorem form_ge (x : S47) : x.f0 = false → x.f1.length ≤ (formP x).length := fun h => by rw [formP_str x h]; exact strP_ge _
theorem row3_of {cur : Array Value} {n j : Nat} {b : Bool} {u1 u2 : Value} (hj : j < n) (h : ((cur.toList.take (n * 3)).drop (j * 3)).take 3 = [.bool b, u1, u2]) : Row3 cur j b u1 u2 := by
  have hg : ∀ t, t < 3 → cur[j * 3 + t]? = ([.bool b, u1, u2] : List Value)[t]? := by
    intro t ht
    rw [← h, List.getElem?_take, if_pos ht, List.getElem?_drop, List.getElem?_take, if_pos (by omega), Array.getElem?_toList]
  exact ⟨hg 0 (by omega), hg 1 (by omega), hg 2 (by omega)⟩
/-- an item of the call's own may be spoilt -/
theorem Sh_of_R {w : World} {lo : Nat} : ∀ (d : Nat) (x : S47) (v1 v2 : Value) (ok1 ok2 : Nat → Prop), wfP d x = true → (formP x).length ≤ 1000000 → Kd.R (Kd.int .u8) 5 w lo ok1 v1 x.f1 → Kd.R k47 47 w lo ok2 v2 x.f2 → Sh (d + 1) w lo w.heap.size v1 v2
  | d, x, v1, v2, ok1, ok2, hw, hl, h1, h2 => by
    have hmem : x.f1.length ≤ 1000000 ∧ x.f2.length ≤ 1000000 ∧ ∀ p ∈ x.f2, ∃ d', d = d' + 1 ∧ wfP d' p = true ∧ (formP p).length ≤ 1000000 := by
      cases hx : x.f0 with
      | false =>
        rw [wfP_str d x hx] at hw
        have hf2 : x.f2 = [] := by simpa using hw
        rw [hf2]
        exact ⟨Nat.le_trans (form_ge x hx) hl, by simp, by simp⟩
      | true =>
        cases d with
        | zero => rw [wfP_zero x hx] at hw; cases hw
        | succ d =>
          rw [wfP_list d x hx] at hw
          simp only [Bool.and_eq_true, List.all_eq_true] at hw
          rw [formP_list x hx, List.length_append] at hl
          have hf1 : x.f1 = [] := by simpa using hw.1
          refine ⟨by rw [hf1]; simp, by have := formsP_ge x.f2; omega, fun p hp => ⟨d, rfl, hw.2 p hp, by have := forms_mem_le x.f2 p hp; omega⟩⟩
    obtain ⟨hm1, hm2, hm3⟩ := hmem
    refine ⟨BOk_of_R h1 hm1, ?_⟩
    obtain ⟨_, inner, ho, hr⟩ := h2
    rcases ho.2 with ⟨q1, _⟩ | ⟨g, cap, cur, q1, q2, q3, q4, _, q5, q6⟩
    · exact .inl q1
    · have q5' : cur.size = cap * 3 := q5
      have q6' : cur.toList.take (x.f2.length * 3) = inner := q6
      refine .inr ⟨g, x.f2.length, cap, cur, q1, q2, blk_lt q3, q3, q5', q4, hm2, fun j hj => ?_⟩
      have hM := hr.2 j x.f2[j] (List.getElem?_eq_getElem hj)
      obtain ⟨u1, u2, he, r1, r2⟩ := k47_openM hM
      obtain ⟨d', rfl, hw', hl'⟩ := hm3 x.f2[j] (List.getElem_mem hj)
      refine ⟨x.f2[j].f0, u1, u2, row3_of hj ?_, Sh_of_R d' x.f2[j] u1 u2 _ _ hw' hl' r1 r2⟩
      rw [q6']
      exact he
end Go.Proofs.Ytdjoekckhmggbaa.H
