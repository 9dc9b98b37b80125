import Derived.Test.YtdjoekckhmggbaaH6
namespace Go.Proofs.Ytdjoekckhmggbaa.H
open Go.RowKit Go.Proofs.YtdjoekckhmggbaaW.PrintWords Go.Proofs.YtdjoekckhmggbaaW.PrintLast Go.Proofs.YtdjoekckhmggbaaW.PrintMore Go.Proofs.Ytdjoekckhmggbaa.PRF
attribute [local go_sem] max2_int min2_int max_two min_two max_three min_three max_four min_four
set_option linter.unusedVariables false
set_option linter.unusedSimpArgs false

/-- an item in new memory and no error, or no item and its error -/
def DecodePost (r : Except Int S47) (w : World) (e : Ending) (w' : World) : Prop :=
  Below w.heap.size w w' ∧ match r with
    | .ok x => ∃ v1 v2, e = .returned (.tuple #[.agg #[.bool x.f0, v1, v2], .int .i64 0]) ∧ Kd.R (Kd.int .u8) 5 w' w.heap.size (fun _ => True) v1 x.f1 ∧ Kd.R k47 47 w' w.heap.size (fun _ => True) v2 x.f2
    | .error k => e = .returned (.tuple #[.agg #[.bool false, .slice none 0 0, .slice none 0 0], .int .i64 k])

theorem res_decode {tmps : Array Value} {w : World} {g2 g3 : Nat} {a b c : Value} {d : Int} (h0 : tmps.getD 2 undef = .pointer (some ⟨g2, 0, none⟩)) (h1 : tmps.getD 3 undef = .pointer (some ⟨g3, 0, none⟩))
    (h2 : w.heap[g2]? = some (.cells #[a, b, c] 47 (0, 0))) (h3 : w.heap[g3]? = some (.cells #[.int .i64 d] 29 (0, 0))) :
    (results Try.f23 tmps).run Try.prog w = .ok (.tuple #[.agg #[a, b, c], .int .i64 d]) w := by
  have h0' : tmps[2]?.getD undef = .pointer (some ⟨g2, 0, none⟩) := by simpa using h0
  have h1' : tmps[3]?.getD undef = .pointer (some ⟨g3, 0, none⟩) := by simpa using h1
  have hc := (cf1 ⟨h3⟩).1
  have hl : (loadVar 29 ⟨g3, 0, none⟩).run Try.prog w = .ok (.int .i64 d) w := by
    simp [loadVar, run_underlying Try.underlying29, hc, go_sem]
  simp [hl, results, Try.results23, h0', h1', asAddr, run_loadVar_row w g2 47 47 #[a, b, c] (0, 0) _ h2 Try.underlying47 rfl (by kernel_rfl)]

set_option maxHeartbeats 2000000 in
set_option maxRecDepth 100000 in
theorem decode_any (A : Option Addr) (c : Nat) (l : List Int) (w : World) (hC : Kd.C (Kd.int .u8) w A l.length l) (hc : l.length ≤ c) (hB : Byt l) :
    Calls Try.prog 23 #[.slice A l.length c] w (DecodePost (decodeP l) w) := by
  have HB := Aside0.mk (Below.refl w.heap.size w)
  have HC := Aside0.mk hC
  have HBy := Aside0.mk hB
  have hm := hC.2.1
  clear hC hB
  have hmf : ∀ (fn : Fn) (first cap : Array Value) (w : World), (Instr.makeFunc fn first cap).run Try.prog w = .ok (.func fn first cap) w := fun _ _ _ _ => rfl
  obtain ⟨res, hres⟩ : ∃ res, res = decodeP l := ⟨_, rfl⟩
  rw [← hres]
  have HRES := Aside0.mk hres
  clear hres
  by_cases hbig : 65536 < l.length
  · have hd : decide ((65536 : Int) < (l.length : Int)) = true := decide_eq_true (by omega)
    obtain rfl : res = .error 4 := by rw [HRES.out, decodeP, if_pos hbig]
    go_enter_defers Try.func23, Try.ntmps23
    go_wp2_with (first
      | ((with_reducible refine gate_dst (N := 2) rfl ?_); refine alloc_ev rfl (N := 2) rfl (cs := #[.bool false, .slice none 0 0, .slice none 0 0]) (t := 47) HB ?hr ?_; (case hr => first | (go_simp; done) | (go_simp; rfl)); intro g2 w1 HG2 HGe2 HE1 HB1; have hcf2 := cf3 HG2)
      | ((with_reducible refine gate_dst (N := 3) rfl ?_); refine alloc_ev rfl (N := 3) rfl (cs := #[.int .i64 0]) (t := 29) HB1 ?hr2 ?_; (case hr2 => first | (go_simp; done) | (go_simp; rfl)); intro g3 w2 HG3 HGe3 HE2 HB2; have HG2b := Aside0.mk (blk_below HG2.out HE2.out); have hcf3 := cf1 HG3; have hcf2b := cf3 HG2b; have n1 : ¬ g2 = g3 := (by have := blk_lt HG2.out; have := HGe3.out; omega); have n2 : ¬ g3 = g2 := fun h => n1 h.symm))
    have hg2 : w.heap.size ≤ g2 := Nat.le_of_eq HGe2.out
    have hg3 : w.heap.size ≤ g3 := by have := HGe3.out; have := HB1.out.size; omega
    refine ⟨_, res_decode rfl rfl (blk_far (put3 HG2b.out) n1 _) (blk_put (((keep3 (g := g2)).2 g3 (blk_lt HG3.out) n2 (by simp)).trans HG3.out) 0 _ rfl), ?_⟩
    exact ⟨below_set (below3 HB2.out hg2) hg3, rfl⟩
  · have hd : decide ((65536 : Int) < (l.length : Int)) = false := decide_eq_false (by omega)
    have hl65 : l.length ≤ 65536 := by omega
    rw [decodeP, if_neg hbig] at HRES
    go_enter_defers Try.func23, Try.ntmps23
    go_wp2_with (first
      | ((with_reducible refine gate_dst (N := 2) rfl ?_); refine alloc_ev rfl (N := 2) rfl (cs := #[.bool false, .slice none 0 0, .slice none 0 0]) (t := 47) HB ?hr ?_; (case hr => first | (go_simp; done) | (go_simp; rfl)); intro g2 w1 HG2 HGe2 HE1 HB1; have hcf2 := cf3 HG2)
      | ((with_reducible refine gate_dst (N := 3) rfl ?_); refine alloc_ev rfl (N := 3) rfl (cs := #[.int .i64 0]) (t := 29) HB1 ?hr2 ?_; (case hr2 => first | (go_simp; done) | (go_simp; rfl)); intro g3 w2 HG3 HGe3 HE2 HB2; have HG2b := Aside0.mk (blk_below HG2.out HE2.out); have n1 : ¬ g2 = g3 := (by have := blk_lt HG2.out; have := HGe3.out; omega); have n2 : ¬ g3 = g2 := fun h => n1 h.symm))
    have hg2 : w.heap.size ≤ g2 := Nat.le_of_eq HGe2.out
    have hg3 : w.heap.size ≤ g3 := by have := HGe3.out; have := HB1.out.size; omega
    refine (item_any 16 (Nat.le_refl _) A c l w2 (Kd.C_below HC.out HB2.out) hc HBy.out hl65).mono ?_
    rintro e w3 ⟨hbe, hp⟩
    have HG2c := Aside0.mk (blk_below HG2b.out hbe)
    have HG3c := Aside0.mk (blk_below HG3.out hbe)
    have HB3 := Aside0.mk (below_step HB2.out hbe)
    cases hit : itemP 16 l with
    | error k =>
      rw [hit] at hp HRES
      obtain rfl := hp
      obtain rfl : res = .error k := HRES.out
      refine leaves_cons (f := 49) (args := #[.pointer (some ⟨g2, 0, none⟩), .pointer (some ⟨g3, 0, none⟩)]) (by simp) (by simp [go_sem]) ?_
      refine (catch_wrong w g2 g3 k 0 _ _ _ w3 HG2c.out HG3c.out n1 HB3.out hg2 hg3).mono ?_
      rintro e u' w4 ⟨rfl, rfl, h1, h2, h3⟩
      exact ⟨_, res_decode rfl rfl h1 h2, h3, rfl⟩
    | ok q =>
      rw [hit] at hp HRES
      obtain ⟨x, r⟩ := q
      obtain ⟨v1, v2, A4, rfl, hR1, hR2, hC4⟩ := hp
      obtain ⟨Ab1, cb1, rfl⟩ := Kd.R_slice hR1
      obtain ⟨Ab2, cb2, rfl⟩ := Kd.R_slice hR2
      have HR1 := Aside0.mk hR1
      have HR2 := Aside0.mk hR2
      have HBe := Aside0.mk hbe
      have hcf2 := cf3 HG2c
      have hcf3 := cf1 HG3c
      clear hR1 hR2 hC4 hbe hit
      by_cases hr0 : r = []
      · subst hr0
        obtain rfl : res = .ok x := HRES.out
        go_wp2_with fail
        refine (need_ok 8 _).mono ?_
        rintro e w' ⟨rfl, rfl⟩
        go_wp2
        have hfar : ∀ k, w2.heap.size ≤ k → k ≠ g2 ∧ k ≠ g3 := fun k hk => ⟨by have := blk_lt HG2b.out; omega, by have := blk_lt HG3.out; omega⟩
        have p1 := put3 (x := .bool x.f0) (y := .slice Ab1 x.f1.length cb1) (z := .slice Ab2 x.f2.length cb2) HG2c.out
        have p2 := put3 (x := .bool x.f0) (y := .slice Ab1 x.f1.length cb1) (z := .slice Ab2 x.f2.length cb2) p1
        have q1 := ((keep3 (w := w3) (g := g2) (x := .bool x.f0) (y := .slice Ab1 x.f1.length cb1) (z := .slice Ab2 x.f2.length cb2)).2 g3 (blk_lt HG3c.out) n2 (by simp)).trans HG3c.out
        have q2 := ((keep3 (g := g2) (x := .bool x.f0) (y := .slice Ab1 x.f1.length cb1) (z := .slice Ab2 x.f2.length cb2)).2 g3 (blk_lt q1) n2 (by simp)).trans q1
        refine leaves_cons (f := 49) (args := #[.pointer (some ⟨g2, 0, none⟩), .pointer (some ⟨g3, 0, none⟩)]) (by simp) (by simp [go_sem]) ?_
        refine (catch_idle g2 g3 _).mono ?_
        rintro e u' w4 ⟨rfl, rfl, rfl⟩
        refine ⟨_, res_decode rfl rfl (blk_far p2 n1 _) (blk_put q2 0 _ rfl), below_set (below3 (below3 HB3.out hg2) hg2) hg3, _, _, rfl, ?_, ?_⟩
        · refine Kd.R_lower (Kd.R_mono (Kd.R_step (Kd.R_mono (Kd.R_bound HR1.out) (ok' := fun k => w2.heap.size ≤ k) (fun k hk => hk.2.1)) (fun k hk _ => ?_)) (fun _ _ => trivial)) HB2.out.size
          iterate 7 rw [Below.heap_setCell _ _ _ _ (by first | exact (hfar k hk).1 | exact (hfar k hk).2)]
        · refine Kd.R_lower (Kd.R_mono (Kd.R_step (Kd.R_mono (Kd.R_bound HR2.out) (ok' := fun k => w2.heap.size ≤ k) (fun k hk => hk.2.1)) (fun k hk _ => ?_)) (fun _ _ => trivial)) HB2.out.size
          iterate 7 rw [Below.heap_setCell _ _ _ _ (by first | exact (hfar k hk).1 | exact (hfar k hk).2)]
      · obtain rfl : res = .error 8 := by rw [HRES.out]; simp [Except.bind, hr0]
        have hdl : ((r.length : Int) == 0) = false := by simpa using hr0
        have hdl2 : (r.length == 0) = false := by simpa using hr0
        go_wp2_with fail
        refine (need_no 8 _).mono ?_
        rintro e w' ⟨rfl, rfl⟩
        have p1 := put3 (x := .bool x.f0) (y := .slice Ab1 x.f1.length cb1) (z := .slice Ab2 x.f2.length cb2) HG2c.out
        have q1 := ((keep3 (w := w3) (g := g2) (x := .bool x.f0) (y := .slice Ab1 x.f1.length cb1) (z := .slice Ab2 x.f2.length cb2)).2 g3 (blk_lt HG3c.out) n2 (by simp)).trans HG3c.out
        refine leaves_cons (f := 49) (args := #[.pointer (some ⟨g2, 0, none⟩), .pointer (some ⟨g3, 0, none⟩)]) (by simp) (by simp [go_sem]) ?_
        refine (catch_wrong w g2 g3 8 0 _ _ _ _ p1 q1 n1 (below3 HB3.out hg2) hg2 hg3).mono ?_
        rintro e u' w4 ⟨rfl, rfl, h1, h2, h3⟩
        exact ⟨_, res_decode rfl rfl h1 h2, h3, rfl⟩
end Go.Proofs.Ytdjoekckhmggbaa.H
