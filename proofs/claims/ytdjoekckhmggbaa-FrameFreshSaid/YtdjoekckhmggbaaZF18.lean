import Derived.Test.YtdjoekckhmggbaaZMG
namespace Go.Proofs.Ytdjoekckhmggbaa.H
open Go.RowKit Go.Proofs.YtdjoekckhmggbaaW.PrintWords Go.Proofs.YtdjoekckhmggbaaW.PrintLast Go.Proofs.YtdjoekckhmggbaaW.PrintMore Go.Proofs.Ytdjoekckhmggbaa.PRF
attribute [local go_sem] max2_int min2_int max_two min_two max_three min_three max_four min_four
set_option linter.unusedVariables false
set_option linter.unusedSimpArgs false
structure Soft3 (lo hi : Nat) (w w' : World) : Prop where
  size : w.heap.size ≤ w'.heap.size
  far : ∀ k, k < w.heap.size → ¬ (lo ≤ k ∧ k < hi ∧ ∃ c, Q8 w k c) → w'.heap[k]? = w.heap[k]?
  bytes : ∀ g c, Q8 w g c → Q8 w' g c
theorem Soft3.refl (lo hi : Nat) (w : World) : Soft3 lo hi w w := ⟨Nat.le_refl _, fun _ _ _ => rfl, fun _ _ h => h⟩
theorem Soft3.step {lo hi g : Nat} {w w1 w2 : World} (h : Soft3 lo hi w w1) (hk : KeepBut w1 w2 g none) (hlo : lo ≤ g) (hhi : g < hi) (hw : hi ≤ w.heap.size) {c : Nat} (hq0 : Q8 w g c) (hq : Q8 w2 g c) : Soft3 lo hi w w2 := by
  refine ⟨Nat.le_trans h.size hk.1, fun k h1 h2 => ?_, fun g' c' hq' => ?_⟩
  · rw [hk.2 k (Nat.lt_of_lt_of_le h1 h.size) (fun e => h2 ⟨by omega, by omega, c, by rw [e]; exact hq0⟩) (by simp)]
    exact h.far k h1 h2
  · by_cases he : g' = g
    · subst he
      obtain ⟨cs, a1, a2⟩ := hq0
      obtain ⟨cs', b1, b2⟩ := hq'
      rw [a1] at b1
      simp at b1
      subst b1
      obtain rfl : c' = c := b2.symm.trans a2
      exact hq
    · exact (h.bytes g' c' hq').keep (hk.2 g' (h.bytes g' c' hq').lt he (by simp))
theorem BOk.below {lo hi : Nat} {w w' : World} {v : Value} (h : BOk w lo hi v) (hb : Below w.heap.size w w') : BOk w' lo hi v := by
  rcases h with h | ⟨g, n, c, h1, h2, h3, h4, h5, h6⟩
  · exact .inl h
  · exact .inr ⟨g, n, c, h1, h2, h3, h4.keep (hb.block g h4.lt), h5, h6⟩
theorem spoil_one (v : Value) (a : Int) (lo hi : Nat) (w0 W w : World) (hB : Below w0.heap.size w0 w) (hlo : w0.heap.size ≤ lo) (hhi : hi ≤ W.heap.size) (h : BOk W lo hi v) (hs : Soft3 lo hi W w) :
    Calls Try.prog 22 #[v, .int .u8 a] w fun e w' => e = .returned (.tuple #[]) ∧ Below w0.heap.size w0 w' ∧ Soft3 lo hi W w' := by
  rcases h with rfl | ⟨g, n, c, rfl, h2, h3, h4, h5, h6⟩
  · refine (proctorref01_Spoil.calls 10 (fun _ => False) (.slice none 0 0) [] a w0 w hB (Kd.R_nil _ _ _ _ _) (spoil_f_nil a)).mono ?_
    rintro e w' ⟨rfl, hb, hk⟩
    exact ⟨rfl, hb, Nat.le_trans hs.size hk.1, fun k h1 h2 => (hk.2 k (Nat.lt_of_lt_of_le h1 hs.size) (fun h => h)).trans (hs.far k h1 h2), fun g c h => (hs.bytes g c h).keep (hk.2 g (hs.bytes g c h).lt (fun h => h))⟩
  · refine (spoil_raw g n c a w0 w hB (Nat.le_trans hlo h2) (hs.bytes g c h4) h5 h6).mono ?_
    rintro e w' ⟨rfl, hb, hk, hq⟩
    exact ⟨rfl, hb, hs.step hk h2 h3 hhi h4 hq⟩
theorem R_soft3 {α : Type} {d : Kd α} {e b lo hi : Nat} {w w' : World} {ok : Nat → Prop} {v : Value} {xs : List α} (h : d.R e w b ok v xs) (hs : Soft3 lo hi w w') (hok : ∀ k, ok k → ¬ (lo ≤ k ∧ k < hi)) : d.R e w' b ok v xs :=
  Kd.R_step h (fun k ho hlt => hs.far k hlt (fun hh => hok k ho ⟨hh.1, hh.2.1⟩))
theorem spL_mem {ch size : Int} {l : List Int} {x : S40} (h : x ∈ spL (splitP ch l size)) : x.f3.length ≤ 4096 ∧ (Lit.int .i64 x.f1).wf = true := by
  have hn := spL_len ch size l
  unfold spL splitP at h hn
  split at h
  · simp at h
  · rename_i h0
    simp only [Option.getD_some, List.mem_map, List.mem_range] at h
    rw [if_neg h0] at hn
    simp only [Option.getD_some, List.length_map, List.length_range] at hn
    obtain ⟨i, hi, rfl⟩ := h
    refine ⟨?_, wfS (by omega)⟩
    simp only [frameS, List.length_take]
    omega
theorem spL_le {ch : Int} {s : Nat} {l : List Int} {x : S40} (h : x ∈ spL (splitP ch l s)) : x.f3.length ≤ s := by
  unfold spL splitP at h
  split at h
  · simp at h
  · simp only [Option.getD_some, List.mem_map, List.mem_range] at h
    obtain ⟨i, hi, rfl⟩ := h
    simp only [frameS, List.length_take]
    omega
theorem joinF_len {ch : Int} {l : List S40} {b : Nat} (h : ∀ x ∈ l, x.f3.length ≤ b) : ∀ (k s : Nat) (acc r : List Int), joinF ch l k s acc = some r → r.length ≤ acc.length + k * b
  | 0, s, acc, r, hr => by cases hr
  | k + 1, s, acc, r, hr => by
    rw [joinF] at hr
    cases hc : cntF ch l s with
    | none => rw [hc] at hr; cases hr
    | some f =>
      rw [hc] at hr
      simp only at hr
      have hf := h f (cnt_may hc).1
      rw [Nat.succ_mul]
      split at hr
      · cases hr
        rw [List.length_append]
        omega
      · have := joinF_len h k (s + 1) (acc ++ f.f3) r hr
        rw [List.length_append] at this
        omega
theorem jn_len {ch : Int} {l : List S40} {b : Nat} (h : ∀ x ∈ l, x.f3.length ≤ b) : (jnB (joinP ch l)).length ≤ 1024 * b := by
  unfold jnB
  cases hj : joinP ch l with
  | none => simp
  | some r =>
    have := joinF_len h 1024 0 [] r hj
    simpa using this
def FrAt (W : World) (lo hi : Nat) (v : Value) (n : Nat) : Prop := (v = .slice none 0 0 ∧ n = 0) ∨ ∃ g cap cs, v = .slice (some ⟨g, 0, none⟩) n cap ∧ n ≤ cap ∧ W.heap[g]? = some (.cells cs 40 (0, 0)) ∧ ∀ i, i < n → ∃ u, cs[i * 4 + 3]? = some u ∧ BOk W lo hi u
theorem FrAt_of_R {w : World} {lo : Nat} {ok : Nat → Prop} {v : Value} {l : List S40} (h : Kd.R k40 40 w lo ok v l) (hl : ∀ x ∈ l, x.f3.length ≤ 4096) : FrAt w lo w.heap.size v l.length := by
  have h' := h
  obtain ⟨_, inner, ho, _⟩ := h
  rcases ho.2 with ⟨h1, h2⟩ | ⟨g, cap, cur, h1, h2, h3, h4, _, h5, _⟩
  · exact .inl ⟨h1, h2⟩
  · refine .inr ⟨g, cap, cur, h1, h4, h3, fun i hi => ?_⟩
    rw [h1] at h'
    obtain ⟨c, hcl, hM, hcc, _⟩ := Kd.R_elem h' z40 (i : Int) (by omega) (by omega)
    obtain ⟨v3, rfl, hR3⟩ := k40_openM hM
    have hc := hcc 3 v3 rfl
    refine ⟨v3, ?_, BOk_of_R hR3 ?_⟩
    · rw [Int.toNat_natCast, show k40.sz = 4 from rfl, blk_cell h3] at hc
      exact hc
    · have : l.getD (i : Int).toNat z40 = l[i] := by simp [List.getD_eq_getElem?_getD, List.getElem?_eq_getElem hi]
      rw [this]
      have := hl l[i] (List.getElem_mem hi)
      omega
end Go.Proofs.Ytdjoekckhmggbaa.H
