import Derived.Test.YtdjoekckhmggbaaZMD
import Derived.ArgAppend
import Derived.SizedLaws
namespace Go.Proofs.Ytdjoekckhmggbaa.H
open Go.RowKit Go.Proofs.YtdjoekckhmggbaaW.PrintWords Go.Proofs.YtdjoekckhmggbaaW.PrintLast Go.Proofs.YtdjoekckhmggbaaW.PrintMore Go.Proofs.Ytdjoekckhmggbaa.PRF
attribute [local go_sem] max2_int min2_int max_two min_two max_three min_three max_four min_four
set_option linter.unusedVariables false
set_option linter.unusedSimpArgs false
def Q8 (w : World) (g c : Nat) : Prop := ∃ cs : Array Value, w.heap[g]? = some (.cells cs 5 (0, 0)) ∧ cs.size = c
theorem Q8.set {w : World} {g c i : Nat} {z : Value} (h : Q8 w g c) : Q8 (w.setCell ⟨g, i, none⟩ z) g c := by
  obtain ⟨cs, h1, h2⟩ := h
  exact ⟨cs.setIfInBounds i z, blk_put h1 i _ rfl, by simp [h2]⟩
theorem Q8.cell {w : World} {g c i : Nat} (h : Q8 w g c) (hi : i < c) : (∃ z, w.cell? ⟨g, i, none⟩ = some z) ∧ w.frozen? ⟨g, i, none⟩ = false := by
  obtain ⟨cs, h1, h2⟩ := h
  exact ⟨⟨cs[i], by rw [blk_cell h1 i, Array.getElem?_eq_getElem (by omega)]⟩, blk_frozen h1 i⟩
theorem Q8.lt {w : World} {g c : Nat} (h : Q8 w g c) : g < w.heap.size := by
  obtain ⟨cs, h1, _⟩ := h
  exact blk_lt h1
theorem Q8.keep {w w' : World} {g c : Nat} (h : Q8 w g c) (hb : w'.heap[g]? = w.heap[g]?) : Q8 w' g c := by
  obtain ⟨cs, h1, h2⟩ := h
  exact ⟨cs, hb.trans h1, h2⟩
theorem Q8.set' {w : World} {g c h i : Nat} {z : Value} (hu : Q8 w g c) : Q8 (w.setCell ⟨h, i, none⟩ z) g c := by
  by_cases he : h = g
  · subst he; exact hu.set
  · exact hu.keep (Below.heap_setCell w _ _ g (fun e => he e.symm))
theorem app3_raw {ops : Array Oper} {rest : List Oper} {o : Oper} {a : Act} {Q : Exit → Act → World → Prop} {w0 w W : World} (hgd : o.guard = none) (s x : Operand)
    (ho : o.op = .call { callee := .builtin .append, args := #[s, x], argTypes := #[24, 24] }) (g n c : Nat) (z : Int) (B : Nat)
    (hs : a.eval s = .slice (some ⟨g, 0, none⟩) n c) (hx : a.eval x = .slice (some ⟨B, 0, none⟩) 3 3) (hB : W.heap[B]? = some (.cells #[.int .u8 z, .int .u8 z, .int .u8 z] 5 (0, 0)))
    (hU : Q8 W g c) (hK : KeepBut w W g none) (HB : Below w0.heap.size w0 W) (hg : w0.heap.size ≤ g) (hn : n ≤ c) (hn2 : n ≤ 1000000)
    (h : ∀ h n' c' w1, Aside0 (h = g ∨ w.heap.size ≤ h) → Aside0 (w0.heap.size ≤ h) → n' ≤ c' → n' ≤ 1000003 → Aside0 (Q8 w1 h c') → Aside0 (Q8 w1 g c) → Aside0 (KeepBut w w1 g none) → Aside0 (Below w0.heap.size w0 w1) → wpList Try.prog ops Q rest (a.put o.dst (.slice (some ⟨h, 0, none⟩) n' c')) w1) :
    wpList Try.prog ops Q (o :: rest) a W := by
  obtain ⟨cs, h1, h2⟩ := id hU
  have hnews : ∀ j u, ([Value.int .u8 z, Value.int .u8 z, Value.int .u8 z] : List Value)[j]? = some u → W.cell? ((⟨B, 0, none⟩ : Addr).add j) = some u := by
    intro j u hu
    have e : (⟨B, 0, none⟩ : Addr).add j = ⟨B, j, none⟩ := by
      unfold Addr.add
      split
      · rename_i h0; rw [h0]
      · simp
    rw [e, blk_cell hB j]
    rw [← hu]
    match j with
    | 0 => rfl
    | 1 => rfl
    | 2 => rfl
    | j + 3 => simp
  obtain ⟨i, hi, hi1, hi2, hi3⟩ : ∃ i, Try.prog.info? 5 = some i ∧ i.zero = some (.int .u8 0) ∧ i.size = 1 ∧ i.bytes = 1 := by
    have := info5
    cases hh : Try.prog.info? 5 with
    | none => rw [hh] at this; cases this
    | some i => rw [hh] at this; simp at this; exact ⟨i, rfl, this.1, this.2.1, this.2.2⟩
  refine wpList_append_arg W hgd s x 24 ho 5 i (.int .u8 0) 1 1 Try.underlying24 hi hi1 hi2 hi3 rfl (by decide) g 0 n c (cs.toList.take n) hs (by rw [List.length_take]; simp; omega) (fun j u hu => ?_) ⟨B, 0, none⟩ 3 3 [.int .u8 z, .int .u8 z, .int .u8 z] hx rfl hnews (by simp [Value.oneCell']) (fun hr j hj => ?_) (by unfold maxLen; omega) (by omega) (fun hr => ?_) (fun hr v' w' hown hgr => ?_)
  · have hj : j < n := by
      have := (List.getElem?_eq_some_iff.1 hu).1
      rw [List.length_take] at this; omega
    rw [Nat.zero_add, blk_cell h1 j, ← hu]
    simp [hj]
  · simp only [List.length_cons, List.length_nil] at hj
    obtain ⟨⟨z', hz⟩, hf⟩ := hU.cell (show n + j < c by omega)
    rw [show 0 + n * 1 + j = n + j by omega, hz]
    exact ⟨rfl, hf⟩
  · show wpList Try.prog ops Q rest _ (((W.setCell ⟨g, 0 + n * 1, none⟩ _).setCell ⟨g, 0 + n * 1 + 1, none⟩ _).setCell ⟨g, 0 + n * 1 + 1 + 1, none⟩ _)
    have hu' := ((hU.set (i := 0 + n * 1) (z := .int .u8 z)).set (i := 0 + n * 1 + 1) (z := .int .u8 z)).set (i := 0 + n * 1 + 1 + 1) (z := .int .u8 z)
    exact h g (n + 3) c _ ⟨.inl rfl⟩ ⟨hg⟩ hr (by omega) ⟨hu'⟩ ⟨hu'⟩ ⟨((hK.set_ _ _).set_ _ _).set_ _ _⟩ ⟨below_set (below_set (below_set HB hg) hg) hg⟩
  · rcases hown.2 with ⟨_, h0⟩ | ⟨b, cap, cur, rfl, hb, hheap, hle, _, hsz, _⟩
    · omega
    · have hb2 : Below W.heap.size W w' := ⟨hgr.os, hgr.tape, hgr.output, hgr.size, fun k hk => hgr.block k hk (by simp)⟩
      have hK2 : KeepBut w w' g none := ⟨Nat.le_trans hK.1 hgr.size, fun i hi hg' hr' => (hb2.block i (by have := hK.1; omega)).trans (hK.2 i hi hg' hr')⟩
      exact h b (n + 3) cap w' ⟨.inr (Nat.le_trans hK.1 hb)⟩ ⟨Nat.le_trans (below_size HB) hb⟩ hle (by omega) ⟨⟨cur, hheap, by omega⟩⟩ ⟨hU.keep (hb2.block g hU.lt)⟩ ⟨hK2⟩ ⟨below_step HB hb2⟩
set_option maxHeartbeats 1000000 in
set_option maxRecDepth 100000 in
theorem spoil_raw (g n c : Nat) (a : Int) (w0 w : World) (hB : Below w0.heap.size w0 w) (hg : w0.heap.size ≤ g) (hU : Q8 w g c) (hn : n ≤ c) (hn2 : n ≤ 1000000) :
    Calls Try.prog 22 #[.slice (some ⟨g, 0, none⟩) n c, .int .u8 a] w fun e w' => e = .returned (.tuple #[]) ∧ Below w0.heap.size w0 w' ∧ KeepBut w w' g none ∧ Q8 w' g c := by
  have HB := Aside0.mk hB
  have HU := Aside0.mk hU
  have HGL := Aside0.mk (Q8.lt hU)
  clear hB hU
  go_enter Try.func22, Try.ntmps22
  go_wp2_with fail
  go_loopw [4] (fun v4 wr => ∃ i : Nat, i ≤ n ∧ v4 = .int .i64 (i : Int) ∧ Aside0 (Q8 wr g c) ∧ Aside0 (KeepBut w wr g none) ∧ Aside0 (Below w0.heap.size w0 wr)) (fun v4 _ => n - (intOf v4).toNat)
  case atStart => exact ⟨0, Nat.zero_le _, rfl, HU, ⟨KeepBut.refl w g none⟩, HB⟩
  case round =>
    obtain ⟨i, hi, rfl, HU1, HK1, HB1⟩ := hrel
    by_cases hlt : i < n
    · have hdl : decide (i < n) = true := decide_eq_true hlt
      obtain ⟨⟨z, hz⟩, hfz⟩ := HU1.out.cell (show i < c by omega)
      go_wp2_with fail
      refine ⟨⟨i + 1, hlt, by go_num, ⟨HU1.out.set⟩, ⟨HK1.out.set_ _ _⟩, ⟨below_set HB1.out hg⟩⟩, ?_⟩
      simp [intOf]; omega
    · have hdl : decide (i < n) = false := decide_eq_false hlt
      have HBlk := Aside0.mk (fun o => blk_new wr o _ rfl)
      go_wp2_with (first
        | ((with_reducible refine gate_builtin (b := .append) (xs := #[.tmp 19, .tmp 23]) rfl ?_); refine app3_raw (w0 := w0) (w := w) rfl (.tmp 19) (.tmp 23) rfl g n c a _ rfl rfl (HBlk.out _) (HU1.out.keep (Below.heap_alloc wr _ g (HU1.out.lt))) ⟨Nat.le_trans HK1.out.1 (by rw [size_new]; omega), fun i hi h1 h2 => (Below.heap_alloc wr _ i (Nat.lt_of_lt_of_le hi HK1.out.1)).trans (HK1.out.2 i hi h1 h2)⟩ (below_alloc HB1.out _) hg hn hn2 ?_; intro h n' c' w5 Hh Hh0 hn' hn'2 HQ5 HU5 HK5 HB5))
      go_loopw [5] (fun v5 wr => ∃ i : Nat, i ≤ n' ∧ v5 = .int .i64 (i : Int) ∧ Aside0 (Q8 wr h c') ∧ Aside0 (Q8 wr g c) ∧ Aside0 (KeepBut w wr g none) ∧ Aside0 (Below w0.heap.size w0 wr)) (fun v5 _ => n' - (intOf v5).toNat)
      case atStart => exact ⟨0, Nat.zero_le _, rfl, HQ5, HU5, HK5, HB5⟩
      case round =>
        obtain ⟨i, hi, rfl, HQ6, HU6, HK6, HB6⟩ := hrel
        by_cases hlt : i < n'
        · have hdl : decide (i < n') = true := decide_eq_true hlt
          obtain ⟨⟨z, hz⟩, hfz⟩ := HQ6.out.cell (show i < c' by omega)
          go_wp2_with fail
          refine ⟨⟨i + 1, hlt, by go_num, ⟨HQ6.out.set⟩, ⟨?_⟩, ⟨?_⟩, ⟨below_set HB6.out Hh0.out⟩⟩, ?_⟩
          · exact HU6.out.set'
          · rcases Hh.out with he | he
            · subst he; exact HK6.out.set_ _ _
            · exact keep_far HK6.out he _
          · simp [intOf]; omega
        · have hdl : decide (i < n') = false := decide_eq_false hlt
          go_wp2_with fail
          go_end0
          exact ⟨rfl, HB6.out, HK6.out, HU6.out⟩
end Go.Proofs.Ytdjoekckhmggbaa.H
namespace Go.Proofs.Ytdjoekckhmggbaa.H
open Go.RowKit Go.Proofs.YtdjoekckhmggbaaW.PrintWords Go.Proofs.YtdjoekckhmggbaaW.PrintLast Go.Proofs.YtdjoekckhmggbaaW.PrintMore Go.Proofs.Ytdjoekckhmggbaa.PRF
attribute [local go_sem] max2_int min2_int max_two min_two max_three min_three max_four min_four
set_option linter.unusedVariables false
set_option linter.unusedSimpArgs false
def BOk (w : World) (lo hi : Nat) (v : Value) : Prop := v = .slice none 0 0 ∨ ∃ g n c, v = .slice (some ⟨g, 0, none⟩) n c ∧ lo ≤ g ∧ g < hi ∧ Q8 w g c ∧ n ≤ c ∧ n ≤ 1000000
def Row3 (cs : Array Value) (i : Nat) (b : Bool) (u1 u2 : Value) : Prop := cs[i * 3]? = some (.bool b) ∧ cs[i * 3 + 1]? = some u1 ∧ cs[i * 3 + 2]? = some u2
def Sh : Nat → World → Nat → Nat → Value → Value → Prop
  | 0, w, lo, hi, v1, v2 => BOk w lo hi v1 ∧ v2 = .slice none 0 0
  | h + 1, w, lo, hi, v1, v2 => BOk w lo hi v1 ∧ (v2 = .slice none 0 0 ∨ ∃ g n c cs, v2 = .slice (some ⟨g, 0, none⟩) n c ∧ lo ≤ g ∧ g < hi ∧ w.heap[g]? = some (.cells cs 47 (0, 0)) ∧ cs.size = c * 3 ∧ n ≤ c ∧ n ≤ 1000000 ∧
      ∀ i, i < n → ∃ b u1 u2, Row3 cs i b u1 u2 ∧ Sh h w lo hi u1 u2)
structure Soft (lo hi : Nat) (w w' : World) : Prop where
  size : w.heap.size ≤ w'.heap.size
  far : ∀ k, k < w.heap.size → ¬ (lo ≤ k ∧ k < hi) → w'.heap[k]? = w.heap[k]?
  bytes : ∀ g c, lo ≤ g → g < hi → Q8 w g c → Q8 w' g c
  rows : ∀ g cs, lo ≤ g → g < hi → w.heap[g]? = some (.cells cs 47 (0, 0)) → ∃ cs', w'.heap[g]? = some (.cells cs' 47 (0, 0)) ∧ cs'.size = cs.size ∧
    ∀ i b u1 u2, Row3 cs i b u1 u2 → Row3 cs' i b u1 u2 ∨ Row3 cs' i false (.slice none 0 0) (.slice none 0 0)
theorem Soft.refl (lo hi : Nat) (w : World) : Soft lo hi w w := ⟨Nat.le_refl _, fun _ _ _ => rfl, fun _ _ _ _ h => h, fun g cs _ _ h => ⟨cs, h, rfl, fun _ _ _ _ h => .inl h⟩⟩
theorem Soft.trans {lo hi : Nat} {w w' w'' : World} (h1 : Soft lo hi w w') (h2 : Soft lo hi w' w'') : Soft lo hi w w'' := by
  refine ⟨Nat.le_trans h1.size h2.size, fun k hk hn => (h2.far k (Nat.lt_of_lt_of_le hk h1.size) hn).trans (h1.far k hk hn), fun g c a b h => h2.bytes g c a b (h1.bytes g c a b h), fun g cs a b h => ?_⟩
  obtain ⟨cs', q1, q2, q3⟩ := h1.rows g cs a b h
  obtain ⟨cs'', r1, r2, r3⟩ := h2.rows g cs' a b q1
  refine ⟨cs'', r1, r2.trans q2, fun i b u1 u2 hr => ?_⟩
  rcases q3 i b u1 u2 hr with h | h
  · exact r3 i _ _ _ h
  · rcases r3 i _ _ _ h with h | h
    · exact .inr h
    · exact .inr h
theorem Soft.below {lo hi : Nat} {w w' : World} (hb : Below w.heap.size w w') (hh : hi ≤ w.heap.size) : Soft lo hi w w' :=
  ⟨hb.size, fun k hk _ => hb.block k hk, fun g c _ h2 h => h.keep (hb.block g (by omega)), fun g cs _ h2 h => ⟨cs, (hb.block g (by omega)).trans h, rfl, fun _ _ _ _ h => .inl h⟩⟩
theorem Soft.keep {lo hi g c : Nat} {w w' : World} (hk : KeepBut w w' g none) (hg : lo ≤ g) (hg2 : g < hi) (hq : Q8 w g c) (hq' : Q8 w' g c) (hh : hi ≤ w.heap.size) : Soft lo hi w w' := by
  refine ⟨hk.1, fun k h1 h2 => hk.2 k h1 (fun e => h2 (by omega)) (by simp), fun g' c' a b h => ?_, fun g' cs a b h => ?_⟩
  · by_cases he : g' = g
    · subst he
      obtain ⟨cs, q1, q2⟩ := h
      obtain ⟨cs', r1, r2⟩ := hq
      rw [q1] at r1
      simp at r1
      subst r1
      obtain rfl : c' = c := q2.symm.trans r2
      exact hq'
    · exact h.keep (hk.2 g' (by omega) he (by simp))
  · have he : g' ≠ g := by
      rintro rfl
      obtain ⟨cs', r1, r2⟩ := hq
      rw [h] at r1
      simp at r1
    exact ⟨cs, (hk.2 g' (by omega) he (by simp)).trans h, rfl, fun _ _ _ _ h => .inl h⟩
theorem Sh.zero {lo hi : Nat} {w : World} : ∀ h, Sh h w lo hi (.slice none 0 0) (.slice none 0 0)
  | 0 => ⟨.inl rfl, rfl⟩
  | h + 1 => ⟨.inl rfl, .inl rfl⟩
theorem Soft.put {lo hi g i : Nat} {w : World} {cs : Array Value} (hg : lo ≤ g) (hg2 : g < hi) (hw : w.heap[g]? = some (.cells cs 47 (0, 0))) :
    Soft lo hi w (((w.setCell ⟨g, i * 3, none⟩ (.bool false)).setCell ⟨g, i * 3 + 1, none⟩ (.slice none 0 0)).setCell ⟨g, i * 3 + 2, none⟩ (.slice none 0 0)) := by
  have hk : KeepBut w (((w.setCell ⟨g, i * 3, none⟩ (.bool false)).setCell ⟨g, i * 3 + 1, none⟩ (.slice none 0 0)).setCell ⟨g, i * 3 + 2, none⟩ (.slice none 0 0)) g none := (((KeepBut.refl w g none).set_ _ _).set_ _ _).set_ _ _
  refine ⟨hk.1, fun k h1 h2 => hk.2 k h1 (fun e => h2 (by omega)) (by simp), fun g' c' a b h => h.set'.set'.set', fun g' cs' a b h => ?_⟩
  by_cases he : g' = g
  · subst he
    rw [hw] at h
    simp at h
    subst h
    refine ⟨_, blk_put (blk_put (blk_put hw _ _ rfl) _ _ rfl) _ _ rfl, by simp, fun j b u1 u2 hr => ?_⟩
    obtain ⟨r1, r2, r3⟩ := hr
    by_cases hj : j = i
    · subst hj
      right
      have l1 := (Array.getElem?_eq_some_iff.1 r1).1
      have l2 := (Array.getElem?_eq_some_iff.1 r2).1
      have l3 := (Array.getElem?_eq_some_iff.1 r3).1
      refine ⟨?_, ?_, ?_⟩
      · simp only [Array.getElem?_setIfInBounds, Array.size_setIfInBounds]
        rw [if_neg (by omega), if_neg (by omega), if_pos trivial, if_pos l1]
      · simp only [Array.getElem?_setIfInBounds, Array.size_setIfInBounds]
        rw [if_neg (by omega), if_pos trivial, if_pos l2]
      · simp only [Array.getElem?_setIfInBounds, Array.size_setIfInBounds]
        rw [if_pos trivial, if_pos l3]
    · left
      refine ⟨?_, ?_, ?_⟩ <;> simp only [Array.getElem?_setIfInBounds, Array.size_setIfInBounds]
      · rw [if_neg (by omega), if_neg (by omega), if_neg (by omega)]; exact r1
      · rw [if_neg (by omega), if_neg (by omega), if_neg (by omega)]; exact r2
      · rw [if_neg (by omega), if_neg (by omega), if_neg (by omega)]; exact r3
  · exact ⟨cs', (hk.2 g' (blk_lt h) he (by simp)).trans h, rfl, fun _ _ _ _ h => .inl h⟩
theorem spoil_f_nil (a : Int) : proctorref01_Spoil.f 10 [] a = some () := by
  simp [proctorref01_Spoil.f, proctorref01_Spoil.l0, proctorref01_Spoil.l1, wrap64]
end Go.Proofs.Ytdjoekckhmggbaa.H
namespace Go.Proofs.Ytdjoekckhmggbaa.H
open Go.RowKit Go.Proofs.YtdjoekckhmggbaaW.PrintWords Go.Proofs.YtdjoekckhmggbaaW.PrintLast Go.Proofs.YtdjoekckhmggbaaW.PrintMore Go.Proofs.Ytdjoekckhmggbaa.PRF
attribute [local go_sem] max2_int min2_int max_two min_two max_three min_three max_four min_four
set_option linter.unusedVariables false
set_option linter.unusedSimpArgs false
theorem BOk_of_R {w : World} {lo : Nat} {ok : Nat → Prop} {v : Value} {xs : List Int} (h : Kd.R (Kd.int .u8) 5 w lo ok v xs) (hl : xs.length ≤ 1000000) : BOk w lo w.heap.size v := by
  obtain ⟨inner, ho⟩ := Kd.R_own h
  rcases ho.2 with ⟨h1, _⟩ | ⟨g, cap, cur, h1, h2, h3, h4, _, h5, _⟩
  · exact .inl h1
  · exact .inr ⟨g, xs.length, cap, h1, h2, blk_lt h3, ⟨cur, h3, h5.trans (Nat.mul_one _)⟩, h4, hl⟩
end Go.Proofs.Ytdjoekckhmggbaa.H
namespace Go.Proofs.Ytdjoekckhmggbaa.H
open Go.RowKit Go.Proofs.YtdjoekckhmggbaaW.PrintWords Go.Proofs.YtdjoekckhmggbaaW.PrintLast Go.Proofs.YtdjoekckhmggbaaW.PrintMore Go.Proofs.Ytdjoekckhmggbaa.PRF
attribute [local go_sem] max2_int min2_int max_two min_two max_three min_three max_four min_four
set_option linter.unusedVariables false
set_option linter.unusedSimpArgs false
end Go.Proofs.Ytdjoekckhmggbaa.H
namespace Go.Proofs.Ytdjoekckhmggbaa.H
open Go.RowKit Go.Proofs.YtdjoekckhmggbaaW.PrintWords Go.Proofs.YtdjoekckhmggbaaW.PrintLast Go.Proofs.YtdjoekckhmggbaaW.PrintMore Go.Proofs.Ytdjoekckhmggbaa.PRF
attribute [local go_sem] max2_int min2_int max_two min_two max_three min_three max_four min_four
set_option linter.unusedVariables false
set_option linter.unusedSimpArgs false
end Go.Proofs.Ytdjoekckhmggbaa.H
namespace Go.Proofs.Ytdjoekckhmggbaa.H
open Go.RowKit Go.Proofs.YtdjoekckhmggbaaW.PrintWords Go.Proofs.YtdjoekckhmggbaaW.PrintLast Go.Proofs.YtdjoekckhmggbaaW.PrintMore Go.Proofs.Ytdjoekckhmggbaa.PRF
open Go.ChangeShapes Go.WideShapes Go.ChangeAt
set_option linter.unusedVariables false
set_option linter.unusedSimpArgs false
theorem bytes_of_5 : Try.prog.bytesOf 5 = 1 := by kernel_rfl
theorem open_bytes_sized {H : Type} {enc : TypeId × Value → H} {W : World} {fuel : Nat} {cs : List Value} {d : DataW H} {p : List MemPlace}
    (h : DataW.trod enc Try.prog W 0 (fun _ => true) true fuel 24 cs = some (d, p)) {ts : List TypeId} {ds : List (DataW H)} {j : Nat} (hsz : (DataW.weightsEach Try.prog ts ds).all (· ≤ reachBytes) = true) (ht : ts[j]? = some 24) (hd : ds[j]? = some d) :
    ∃ A l c, cs = [.slice A l.length c] ∧ l.length ≤ c ∧ Kd.C (Kd.int .u8) W A l.length l ∧ Byt l ∧ l.length ≤ 140737488351232 := by
  rcases open_ints Try.underlying24 Try.underlying5 (by kernel_rfl) h with ⟨rfl, _⟩ | ⟨a, l, c, zs, rfl, _, hl, hm, hz, hx, hcell, hwz⟩
  · exact ⟨none, [], 0, rfl, Nat.le_refl _, Kd.C_nil _ _, Byt.nil, by simp⟩
  · obtain ⟨l', hC, rfl, hc, hB⟩ := row_C (W := W) (a := some a) (len := l) (cap := c) (z := zs) (Or.inr ⟨a, rfl, hl, hm, by simpa using hz, hcell, hwz⟩)
    refine ⟨some a, l', c, rfl, hc, hC, hB, ?_⟩
    simp only [Prod.mk.injEq] at hx
    obtain ⟨rfl, _⟩ := hx
    have h2 := sized_slice hsz ht hd Try.underlying24
    rw [bytes_of_5, Nat.mul_one] at h2
    have h3 : reachBytes = 140737488351232 := rfl
    have h4 : (lits IntKind.u8 (zs.take l'.length) : List (DataW H)).length = l'.length := by
      simp only [lits, List.length_map, List.length_take]
      simp at hz
      omega
    omega
end Go.Proofs.Ytdjoekckhmggbaa.H
