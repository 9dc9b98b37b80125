import Derived.Test.YtdjoekckhmggbaaG3
namespace Go.Proofs.Ytdjoekckhmggbaa.H
open Go.RowKit Go.Proofs.YtdjoekckhmggbaaW.PrintWords Go.Proofs.YtdjoekckhmggbaaW.PrintLast Go.Proofs.YtdjoekckhmggbaaW.PrintMore Go.Proofs.Ytdjoekckhmggbaa.PRF
attribute [local go_sem] max2_int min2_int max_two min_two max_three min_three max_four min_four
set_option linter.unusedVariables false
set_option linter.unusedSimpArgs false

theorem C_soft {lo hi : Nat} {w w' : World} {A : Option Addr} {n : Nat} {xs : List Int} (h : Kd.C (Kd.int .u8) w A n xs) (hs : Soft lo hi w w') (hf : ∀ ad, A = some ad → 0 < n → ad.block < w.heap.size ∧ ¬ (lo ≤ ad.block ∧ ad.block < hi)) : Kd.C (Kd.int .u8) w' A n xs := by
  refine ⟨h.1, h.2.1, fun hn => ?_⟩
  obtain ⟨ad, e, hc⟩ := h.2.2 hn
  refine ⟨ad, e, fun j p hj => ?_⟩
  obtain ⟨c, h1, h2, h3⟩ := hc j p hj
  refine ⟨c, h1, h2, fun i u hu => ?_⟩
  rw [← h3 i u hu]
  obtain ⟨q1, q2⟩ := hf ad e hn
  have : (ad.add (j * (Kd.int .u8).sz + i)).block = ad.block := by unfold Addr.add; split <;> rfl
  exact World.cell?_of_block (by rw [this]; exact hs.far _ q1 q2)
theorem R_soft {α : Type} {d : Kd α} {e b lo hi : Nat} {w w' : World} {ok : Nat → Prop} {v : Value} {xs : List α} (h : d.R e w b ok v xs) (hs : Soft lo hi w w') (hok : ∀ k, ok k → ¬ (lo ≤ k ∧ k < hi)) : d.R e w' b ok v xs :=
  Kd.R_step h (fun k ho hlt => hs.far k hlt (hok k ho))

/-- the copy, spoilt, and the item that is read -/
def resI (r : Except Int S47) : S47 := match r with | .ok x => x | .error _ => ⟨false, [], []⟩
def resE (r : Except Int S47) : Int := match r with | .ok _ => 0 | .error e => e
theorem post_resI {r : Except Int S47} {w : World} {e : Ending} {w' : World} (h : DecodePost r w e w') : Below w.heap.size w w' ∧ ∃ v1 v2, e = .returned (.tuple #[.agg #[.bool (resI r).f0, v1, v2], .int .i64 (resE r)]) ∧ Kd.R (Kd.int .u8) 5 w' w.heap.size (fun _ => True) v1 (resI r).f1 ∧ Kd.R k47 47 w' w.heap.size (fun _ => True) v2 (resI r).f2 := by
  refine ⟨h.1, ?_⟩
  obtain ⟨_, h⟩ := h
  cases r with
  | ok x => exact h
  | error k => exact ⟨_, _, h, Kd.R_nil _ _ _ _ _, Kd.R_nil _ _ _ _ _⟩
theorem resI_may {l : List Int} (hb : Byt l) : vP 16 65536 (resI (decodeP l)) = true := by
  cases h : decodeP l with
  | ok x => exact (decode_form l x hb h).2
  | error k =>
    show vP 16 65536 ⟨false, [], []⟩ = true
    simp [vP, wfP, formP, strP, aheadP]
end Go.Proofs.Ytdjoekckhmggbaa.H
