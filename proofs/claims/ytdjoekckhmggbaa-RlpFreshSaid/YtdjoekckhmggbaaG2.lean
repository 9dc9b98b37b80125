import Derived.Test.YtdjoekckhmggbaaG1
namespace Go.Proofs.Ytdjoekckhmggbaa.H
open Go.RowKit Go.Proofs.YtdjoekckhmggbaaW.PrintWords Go.Proofs.YtdjoekckhmggbaaW.PrintLast Go.Proofs.YtdjoekckhmggbaaW.PrintMore Go.Proofs.Ytdjoekckhmggbaa.PRF
attribute [local go_sem] max2_int min2_int max_two min_two max_three min_three max_four min_four
set_option linter.unusedVariables false
set_option linter.unusedSimpArgs false

/-- bytes that may be spoilt: their block lies between lo and hi -/
def BOk (w : World) (lo hi : Nat) (v : Value) : Prop := v = .slice none 0 0 ∨ ∃ g n c, v = .slice (some ⟨g, 0, none⟩) n c ∧ lo ≤ g ∧ g < hi ∧ Q8 w g c ∧ n ≤ c ∧ n ≤ 1000000
/-- one row of three cells -/
def Row3 (cs : Array Value) (i : Nat) (b : Bool) (u1 u2 : Value) : Prop := cs[i * 3]? = some (.bool b) ∧ cs[i * 3 + 1]? = some u1 ∧ cs[i * 3 + 2]? = some u2
/-- an item that may be spoilt, so deep -/
def Sh : Nat → World → Nat → Nat → Value → Value → Prop
  | 0, w, lo, hi, v1, v2 => BOk w lo hi v1 ∧ v2 = .slice none 0 0
  | h + 1, w, lo, hi, v1, v2 => BOk w lo hi v1 ∧ (v2 = .slice none 0 0 ∨ ∃ g n c cs, v2 = .slice (some ⟨g, 0, none⟩) n c ∧ lo ≤ g ∧ g < hi ∧ w.heap[g]? = some (.cells cs 47 (0, 0)) ∧ cs.size = c * 3 ∧ n ≤ c ∧ n ≤ 1000000 ∧
      ∀ i, i < n → ∃ b u1 u2, Row3 cs i b u1 u2 ∧ Sh h w lo hi u1 u2)
/-- what spoiling turns: bytes stay a block of as many, a list's rows stay or become no item -/
structure Soft (lo hi : Nat) (w w' : World) : Prop where
  size : w.heap.size ≤ w'.heap.size
  far : ∀ k, k < w.heap.size → ¬ (lo ≤ k ∧ k < hi) → w'.heap[k]? = w.heap[k]?
  bytes : ∀ g c, lo ≤ g → g < hi → Q8 w g c → Q8 w' g c
  rows : ∀ g cs, lo ≤ g → g < hi → w.heap[g]? = some (.cells cs 47 (0, 0)) → ∃ cs', w'.heap[g]? = some (.cells cs' 47 (0, 0)) ∧ cs'.size = cs.size ∧
    ∀ i b u1 u2, Row3 cs i b u1 u2 → Row3 cs' i b u1 u2 ∨ Row3 cs' i false (.slice none 0 0) (.slice none 0 0)
theorem Soft.refl (lo hi : Nat) (w : World) : Soft lo hi w w := ⟨Nat.le_refl _, fun _ _ _ => rfl, fun _ _ _ _ h => h, fun g cs _ _ h => ⟨cs, h, rfl, fun _ _ _ _ h => .inl h⟩⟩
theorem Soft.trans {lo hi : Nat} {w w' w'' : World} (h1 : Soft lo hi w w') (h2 : Soft lo hi w' w'') : Soft lo hi w w'' := by
  refine ⟨Nat.le_trans h1.size h2.size, fun k hk hn => (h2.far k (Nat.lt_of_lt_of_le hk h1.size) hn).trans (h1.far k hk hn), fun g c a b h => h2.bytes g c a b (h1.bytes g c a b h), fun g cs a b h => ?_⟩
  obtain ⟨cs', q1, q2, q3⟩ := h1.rows g cs a b h
  obtain ⟨cs'', r1, r2, r3⟩ := h2.rows g cs' a b q1
  refine ⟨cs'', r1, r2.trans q2, fun i b u1 u2 hr => ?_⟩
  rcases q3 i b u1 u2 hr with h | h
  · exact r3 i _ _ _ h
  · rcases r3 i _ _ _ h with h | h
    · exact .inr h
    · exact .inr h
theorem Soft.below {lo hi : Nat} {w w' : World} (hb : Below w.heap.size w w') (hh : hi ≤ w.heap.size) : Soft lo hi w w' :=
  ⟨hb.size, fun k hk _ => hb.block k hk, fun g c _ h2 h => h.keep (hb.block g (by omega)), fun g cs _ h2 h => ⟨cs, (hb.block g (by omega)).trans h, rfl, fun _ _ _ _ h => .inl h⟩⟩
theorem Soft.keep {lo hi g c : Nat} {w w' : World} (hk : KeepBut w w' g none) (hg : lo ≤ g) (hg2 : g < hi) (hq : Q8 w g c) (hq' : Q8 w' g c) (hh : hi ≤ w.heap.size) : Soft lo hi w w' := by
  refine ⟨hk.1, fun k h1 h2 => hk.2 k h1 (fun e => h2 (by omega)) (by simp), fun g' c' a b h => ?_, fun g' cs a b h => ?_⟩
  · by_cases he : g' = g
    · subst he
      obtain ⟨cs, q1, q2⟩ := h
      obtain ⟨cs', r1, r2⟩ := hq
      rw [q1] at r1
      simp at r1
      subst r1
      obtain rfl : c' = c := q2.symm.trans r2
      exact hq'
    · exact h.keep (hk.2 g' (by omega) he (by simp))
  · have he : g' ≠ g := by
      rintro rfl
      obtain ⟨cs', r1, r2⟩ := hq
      rw [h] at r1
      simp at r1
    exact ⟨cs, (hk.2 g' (by omega) he (by simp)).trans h, rfl, fun _ _ _ _ h => .inl h⟩
theorem BOk.soft {lo hi : Nat} {w w' : World} {v : Value} (h : BOk w lo hi v) (hs : Soft lo hi w w') : BOk w' lo hi v := by
  rcases h with h | ⟨g, n, c, h1, h2, h3, h4, h5, h6⟩
  · exact .inl h
  · exact .inr ⟨g, n, c, h1, h2, h3, hs.bytes g c h2 h3 h4, h5, h6⟩
theorem Sh.zero {lo hi : Nat} {w : World} : ∀ h, Sh h w lo hi (.slice none 0 0) (.slice none 0 0)
  | 0 => ⟨.inl rfl, rfl⟩
  | h + 1 => ⟨.inl rfl, .inl rfl⟩
theorem Sh.soft {lo hi : Nat} {w w' : World} (hs : Soft lo hi w w') : ∀ (h : Nat) {v1 v2 : Value}, Sh h w lo hi v1 v2 → Sh h w' lo hi v1 v2
  | 0, v1, v2, ⟨h1, h2⟩ => ⟨h1.soft hs, h2⟩
  | h + 1, v1, v2, ⟨h1, h2⟩ => by
    refine ⟨h1.soft hs, ?_⟩
    rcases h2 with h2 | ⟨g, n, c, cs, q1, q2, q3, q4, q5, q6, q7, q8⟩
    · exact .inl h2
    · obtain ⟨cs', r1, r2, r3⟩ := hs.rows g cs q2 q3 q4
      refine .inr ⟨g, n, c, cs', q1, q2, q3, r1, r2.trans q5, q6, q7, fun i hi' => ?_⟩
      obtain ⟨b, u1, u2, s1, s2⟩ := q8 i hi'
      rcases r3 i b u1 u2 s1 with h' | h'
      · exact ⟨b, u1, u2, h', Sh.soft hs h s2⟩
      · exact ⟨false, _, _, h', Sh.zero h⟩
theorem Soft.put {lo hi g i : Nat} {w : World} {cs : Array Value} (hg : lo ≤ g) (hg2 : g < hi) (hw : w.heap[g]? = some (.cells cs 47 (0, 0))) :
    Soft lo hi w (((w.setCell ⟨g, i * 3, none⟩ (.bool false)).setCell ⟨g, i * 3 + 1, none⟩ (.slice none 0 0)).setCell ⟨g, i * 3 + 2, none⟩ (.slice none 0 0)) := by
  have hk : KeepBut w (((w.setCell ⟨g, i * 3, none⟩ (.bool false)).setCell ⟨g, i * 3 + 1, none⟩ (.slice none 0 0)).setCell ⟨g, i * 3 + 2, none⟩ (.slice none 0 0)) g none := (((KeepBut.refl w g none).set_ _ _).set_ _ _).set_ _ _
  refine ⟨hk.1, fun k h1 h2 => hk.2 k h1 (fun e => h2 (by omega)) (by simp), fun g' c' a b h => h.set'.set'.set', fun g' cs' a b h => ?_⟩
  by_cases he : g' = g
  · subst he
    rw [hw] at h
    simp at h
    subst h
    refine ⟨_, blk_put (blk_put (blk_put hw _ _ rfl) _ _ rfl) _ _ rfl, by simp, fun j b u1 u2 hr => ?_⟩
    obtain ⟨r1, r2, r3⟩ := hr
    by_cases hj : j = i
    · subst hj
      right
      have l1 := (Array.getElem?_eq_some_iff.1 r1).1
      have l2 := (Array.getElem?_eq_some_iff.1 r2).1
      have l3 := (Array.getElem?_eq_some_iff.1 r3).1
      refine ⟨?_, ?_, ?_⟩
      · simp only [Array.getElem?_setIfInBounds, Array.size_setIfInBounds]
        rw [if_neg (by omega), if_neg (by omega), if_pos trivial, if_pos l1]
      · simp only [Array.getElem?_setIfInBounds, Array.size_setIfInBounds]
        rw [if_neg (by omega), if_pos trivial, if_pos l2]
      · simp only [Array.getElem?_setIfInBounds, Array.size_setIfInBounds]
        rw [if_pos trivial, if_pos l3]
    · left
      refine ⟨?_, ?_, ?_⟩ <;> simp only [Array.getElem?_setIfInBounds, Array.size_setIfInBounds]
      · rw [if_neg (by omega), if_neg (by omega), if_neg (by omega)]; exact r1
      · rw [if_neg (by omega), if_neg (by omega), if_neg (by omega)]; exact r2
      · rw [if_neg (by omega), if_neg (by omega), if_neg (by omega)]; exact r3
  · exact ⟨cs', (hk.2 g' (blk_lt h) he (by simp)).trans h, rfl, fun _ _ _ _ h => .inl h⟩

theorem spoil_f_nil (a : Int) : proctorref01_Spoil.f 10 [] a = some () := by
  simp [proctorref01_Spoil.f, proctorref01_Spoil.l0, proctorref01_Spoil.l1, wrap64]
/-- Spoil on bytes of an item -/
theorem spoil_bytes (v : Value) (a : Int) (lo hi : Nat) (w0 w : World) (hB : Below w0.heap.size w0 w) (hlo : w0.heap.size ≤ lo) (hhi : hi ≤ w.heap.size) (h : BOk w lo hi v) :
    Calls Try.prog 22 #[v, .int .u8 a] w fun e w' => e = .returned (.tuple #[]) ∧ Below w0.heap.size w0 w' ∧ Soft lo hi w w' := by
  rcases h with rfl | ⟨g, n, c, rfl, h2, h3, h4, h5, h6⟩
  · refine (proctorref01_Spoil.calls 10 (fun _ => False) (.slice none 0 0) [] a w0 w hB (Kd.R_nil _ _ _ _ _) (spoil_f_nil a)).mono ?_
    rintro e w' ⟨rfl, hb, hk⟩
    refine ⟨rfl, hb, hk.1, fun k hk1 _ => hk.2 k hk1 (fun h => h), fun g c _ h2 h => h.keep (hk.2 g h.lt (fun h => h)), fun g cs _ _ h => ⟨cs, (hk.2 g (blk_lt h) (fun h => h)).trans h, rfl, fun _ _ _ _ h => .inl h⟩⟩
  · refine (spoil_raw g n c a w0 w hB (Nat.le_trans hlo h2) h4 h5 h6).mono ?_
    rintro e w' ⟨rfl, hb, hk, hq⟩
    exact ⟨rfl, hb, Soft.keep hk h2 h3 h4 hq hhi⟩
end Go.Proofs.Ytdjoekckhmggbaa.H
