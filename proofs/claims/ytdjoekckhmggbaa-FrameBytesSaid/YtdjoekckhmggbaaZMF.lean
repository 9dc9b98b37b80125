import Derived.Test.YtdjoekckhmggbaaZME
import Derived.Test.YtdjoekckhmggbaaZRf1
import Derived.Deep.DeepMust
import Derived.Test.YtdjoekckhmggbaaZRf0
import Derived.RangeFuncNested
import Derived.RangeFuncBound
import Derived.RangeFuncCalls
import Derived.RangeFuncLeaves
import Derived.Shelf.Abstract
import Derived.Shelf.RegionOpen
import Derived.WalkKit
import Derived.OwnWalkIn
import Derived.TacticsInMore
import Derived.LoopNIn
import Derived.LoopIn
import Derived.RangeFuncWrites
import Derived.Maps.OwnIn
import Derived.Maps.Views
namespace Go.Proofs.Ytdjoekckhmggbaa.H
open Go.RowKit Go.Proofs.YtdjoekckhmggbaaW.PrintWords Go.Proofs.YtdjoekckhmggbaaW.PrintLast Go.Proofs.YtdjoekckhmggbaaW.PrintMore Go.Proofs.Ytdjoekckhmggbaa.PRF
attribute [local go_sem] max2_int min2_int max_two min_two max_three min_three max_four min_four
set_option linter.unusedVariables false
set_option linter.unusedSimpArgs false
def mayF (x : S40) : Bool := decide (0 ≤ x.f1) && decide (x.f1 < 1024) && decide (x.f3.length ≤ 4096)
def isF (ch seq : Int) (x : S40) : Bool := mayF x && (x.f0 == ch) && (x.f1 == seq)
def cntF (ch : Int) (l : List S40) (seq : Int) : Option S40 := l.find? (isF ch seq)
def joinF (ch : Int) (l : List S40) : Nat → Nat → List Int → Option (List Int)
  | 0, _, _ => none
  | k + 1, s, acc => match cntF ch l s with
    | none => none
    | some f => if f.f2 = true then some (acc ++ f.f3) else joinF ch l k (s + 1) (acc ++ f.f3)
def joinP (ch : Int) (l : List S40) : Option (List Int) := joinF ch l 1024 0 []
theorem rd40 (l : List S40) (i : Nat) (h : i < l.length) : rd_T40 l (i : Int) = l[i] := by
  simp [rd_T40, List.getD_eq_getElem?_getD, List.getElem?_eq_getElem h]
theorem rmay_f (x : S40) : proctorref03_May.f x.f0 x.f1 x.f2 x.f3 = some (mayF x) := by
  unfold proctorref03_May.f mayF
  by_cases h1 : x.f1 ≥ 0
  · rw [if_pos h1]
    by_cases h2 : x.f1 < 1024
    · rw [if_pos h2]
      have : decide (0 ≤ x.f1) = true := decide_eq_true h1
      simp [this, h2]
      omega
    · rw [if_neg h2]; simp [h2]
  · rw [if_neg h1]
    have : decide (0 ≤ x.f1) = false := decide_eq_false h1
    simp [this]
theorem put4 {w : World} {g : Nat} {t : TypeId} {a b c d x y z u : Value} (h : w.heap[g]? = some (.cells #[a, b, c, d] t (0, 0))) :
    ((((w.setCell ⟨g, 0, none⟩ x).setCell ⟨g, 1, none⟩ y).setCell ⟨g, 2, none⟩ z).setCell ⟨g, 3, none⟩ u).heap[g]? = some (.cells #[x, y, z, u] t (0, 0)) :=
  blk_put (cs := #[x, y, z, d]) (blk_put (cs := #[x, y, c, d]) (blk_put (cs := #[x, b, c, d]) (blk_put h 0 x rfl) 1 y rfl) 2 z rfl) 3 u rfl
theorem below4 {w0 w : World} {g : Nat} {x y z u : Value} (h : Below w0.heap.size w0 w) (hg : w0.heap.size ≤ g) : Below w0.heap.size w0 ((((w.setCell ⟨g, 0, none⟩ x).setCell ⟨g, 1, none⟩ y).setCell ⟨g, 2, none⟩ z).setCell ⟨g, 3, none⟩ u) := below_set (below_set (below_set (below_set h hg) hg) hg) hg
end Go.Proofs.Ytdjoekckhmggbaa.H
namespace Go.Proofs.Ytdjoekckhmggbaa.H
open Go.RowKit Go.Proofs.YtdjoekckhmggbaaW.PrintWords Go.Proofs.YtdjoekckhmggbaaW.PrintLast Go.Proofs.YtdjoekckhmggbaaW.PrintMore Go.Proofs.Ytdjoekckhmggbaa.PRF
attribute [local go_sem] max2_int min2_int max_two min_two max_three min_three max_four min_four
set_option linter.unusedVariables false
set_option linter.unusedSimpArgs false
def JoinPost (r : Option (List Int)) (w : World) (e : Ending) (w' : World) : Prop := Below w.heap.size w w' ∧ match r with
  | some b => ∃ v, e = .returned (.tuple #[v, .bool true]) ∧ Kd.R (Kd.int .u8) 5 w' w.heap.size (fun _ => True) v b
  | none => e = .returned (.tuple #[.slice none 0 0, .bool false])
theorem cnt_may {ch seq : Int} {l : List S40} {x : S40} (h : cntF ch l seq = some x) : x ∈ l ∧ mayF x = true ∧ x.f0 = ch ∧ x.f1 = seq := by
  unfold cntF at h
  have h1 := List.mem_of_find?_eq_some h
  have h2 := List.find?_some h
  simp only [isF, Bool.and_eq_true, beq_iff_eq] at h2
  exact ⟨h1, h2.1.1, h2.1.2, h2.2⟩
theorem may_len {x : S40} (h : mayF x = true) : x.f3.length ≤ 4096 := by
  simp only [mayF, Bool.and_eq_true, decide_eq_true_eq] at h
  exact h.2
end Go.Proofs.Ytdjoekckhmggbaa.H
namespace Go.Proofs.Ytdjoekckhmggbaa.H
open Go.RowKit Go.Proofs.YtdjoekckhmggbaaW.PrintWords Go.Proofs.YtdjoekckhmggbaaW.PrintLast Go.Proofs.YtdjoekckhmggbaaW.PrintMore Go.Proofs.Ytdjoekckhmggbaa.PRF
attribute [local go_sem] max2_int min2_int max_two min_two max_three min_three max_four min_four
set_option linter.unusedVariables false
set_option linter.unusedSimpArgs false
section
variable {ops : Array Oper} {rest : List Oper} {o : Oper} {a : Act} {Q : Exit → Act → World → Prop}
theorem app_frame {w0 W : World} (hgd : o.guard = none) (s x : Operand)
    (ho : o.op = .call { callee := .builtin .append, args := #[s, x], argTypes := #[22, 22] })
    (v : Value) (xs : List S40) (y : S40) (v1 : Value) (ok okp : Nat → Prop) (hs : a.eval s = v) {B : Nat} (hx : a.eval x = .slice (some ⟨B, 0, none⟩) 1 1) (hB : W.heap.size = B)
    (h1 : Kd.R (Kd.int .u8) 5 W w0.heap.size okp v1 y.f3)
    (HB : Aside0 (Below w0.heap.size w0 W)) (HO : Kd.R k40 40 W w0.heap.size ok v xs) (hokp : ∀ k, okp k → ok k ∧ some k ≠ v.ownBlock) (hfresh : ∀ k, W.heap.size ≤ k → ok k)
    (hl : xs.length ≤ 1000000000)
    (h : ∀ A1 c1 w1, Aside0 (Kd.R k40 40 w1 w0.heap.size ok (.slice A1 (xs ++ [y]).length c1) (xs ++ [y])) → Aside0 (Below w0.heap.size w0 w1) → Aside0 (W.grownBy w1 v.ownBlock) → wpList Try.prog ops Q rest (a.put o.dst (.slice A1 (xs ++ [y]).length c1)) w1) :
    wpList Try.prog ops Q (o :: rest) a (W.alloc (.cells #[.int .u64 y.f0, .int .i64 y.f1, .bool y.f2, v1] 40)) :=
  Kd.R_append k40 (w0 := w0) (W := W) w0.heap.size hgd s x 22 40 (.agg #[.int .u64 0, .int .i64 0, .bool false, .slice none 0 0]) 48 ho Try.underlying22 info40 rfl (by decide) (by omega) v xs y [.int .u64 y.f0, .int .i64 y.f1, .bool y.f2, v1] ok okp hs (by rw [hB]; exact hx) (k40_mkM W w0.heap.size okp y h1) hokp hfresh HO HB.out (below_size HB.out) (by omega)
    fun v1 w1 h1 h2 h3 _ => by
      obtain ⟨A1, c1, rfl⟩ := Kd.R_slice h1
      exact h A1 c1 w1 ⟨h1⟩ ⟨h2⟩ ⟨h3⟩
end
theorem mid_cut {A : Option Addr} {n c f m : Nat} {l : List Int} (hl : l.length = n) (hf : f ≤ m) (hm : m ≤ n) (hc : n ≤ c) (hb : n ≤ 140737488351232) :
    ∃ A', (∀ W : World, (Instr.slice 24 (.slice A n c) (some (.int .i64 (f : Int))) (some (.int .i64 (m : Int))) (some (.int .i64 (m : Int)))).run Try.prog W = .ok (.slice A' (m - f) (m - f)) W) ∧ ∀ W, Kd.C (Kd.int .u8) W A n l → Kd.C (Kd.int .u8) W A' (m - f) ((l.drop f).take (m - f)) := by
  subst hl
  obtain ⟨i, hi, hz⟩ := Option.map_eq_some_iff.1 info5
  simp only [Prod.mk.injEq] at hz
  have hel : Try.prog.elem 24 = 5 := by simp [Program.elem, Try.underlying24]
  have hu : Try.prog.underlying 24 = some (.slice (Try.prog.elem 24)) := by rw [hel]; exact Try.underlying24
  refine ⟨if m = f then A else A.map (·.add f), fun W => ?_, fun W h => ?_⟩
  · rw [run_slice_lhm W 24 A l.length c hu .i64 .i64 .i64 f m m (by omega) (by omega) (by omega) (by omega), hel]
    simp [sizeOf, typeInfo, hi, hz.2.1, sliced, Result.andThen]
  · by_cases h0 : m - f = 0
    · rw [if_pos (by omega), h0, List.take_zero]
      exact ⟨rfl, by omega, fun h => absurd h (Nat.lt_irrefl 0)⟩
    · rw [if_neg (by omega)]
      refine ⟨by rw [List.length_take, List.length_drop]; omega, by omega, fun _ => ?_⟩
      obtain ⟨ad, e, hcell⟩ := h.2.2 (by omega)
      refine ⟨ad.add f, by rw [e]; rfl, fun j p hj => ?_⟩
      have hj' : l[f + j]? = some p := by
        rw [List.getElem?_take] at hj
        split at hj
        · rwa [List.getElem?_drop] at hj
        · cases hj
      obtain ⟨cc, h1, h2, h3⟩ := hcell (f + j) p hj'
      refine ⟨cc, h1, h2, fun i u hu => ?_⟩
      have := h3 i u hu
      rw [show (Kd.int IntKind.u8).sz = 1 from rfl, Nat.mul_one] at this ⊢
      rw [Addr.add_add, show f + (j + i) = f + j + i by omega]
      exact this
def cntS (len size : Nat) : Nat := max 1 ((len + size - 1) / size)
def frameS (ch : Int) (data : List Int) (size n i : Nat) : S40 := ⟨ch, i, decide (i + 1 = n), (data.drop (i * size)).take size⟩
def splitP (ch : Int) (data : List Int) (size : Int) : Option (List S40) :=
  if size < 1 ∨ size > 4096 ∨ size.toNat * 1024 < data.length then none
  else some ((List.range (cntS data.length size.toNat)).map (frameS ch data size.toNat (cntS data.length size.toNat)))
theorem split_nums {N n size i : Nat} (hs : 1 ≤ size) (hs2 : size ≤ 4096) (hlt : i < N) (hN : N ≤ 1024) (h : N = 1 ∧ n ≤ size ∨ (N - 1) * size < n ∧ n ≤ N * size) :
    ∃ f t m : Nat, f = i * size ∧ wrap64 ((i : Int) * (size : Int)) = (f : Int) ∧ wrap64 (((i : Int) + 1) * (size : Int)) = (t : Int) ∧ (if (n : Int) < (t : Int) then (n : Int) else (t : Int)) = (m : Int) ∧ f ≤ m ∧ m ≤ n ∧ m - f = min size (n - f) := by
  have h1 : i * size ≤ 1024 * size := Nat.mul_le_mul_right _ (by omega)
  have h2 : i * size ≤ n := by
    rcases h with ⟨rfl, h⟩ | ⟨h, _⟩
    · have : i = 0 := by omega
      subst this
      omega
    · have h3 : i * size ≤ (N - 1) * size := Nat.mul_le_mul_right _ (by omega)
      exact Nat.le_trans h3 (Nat.le_of_lt h)
  have e1 : ((i : Int) * (size : Int)) = ((i * size : Nat) : Int) := (Int.natCast_mul i size).symm
  have e2 : (((i : Int) + 1) * (size : Int)) = ((i * size + size : Nat) : Int) := by rw [Int.add_mul, Int.one_mul, e1, Int.natCast_add]
  rw [e1, e2]
  generalize i * size = f at *
  refine ⟨f, f + size, min (f + size) n, rfl, wrap64_in _ (by omega), wrap64_in _ (by omega), ?_, by omega, by omega, by omega⟩
  split <;> omega
def SplitPost (r : Option (List S40)) (w : World) (e : Ending) (w' : World) : Prop := Below w.heap.size w w' ∧ match r with
  | some l => ∃ v, e = .returned (.tuple #[v, .int .i64 0]) ∧ Kd.R k40 40 w' w.heap.size (fun _ => True) v l
  | none => e = .returned (.tuple #[.slice none 0 0, .int .i64 2])
theorem cntS_le {len size : Nat} (h : 1 ≤ size) : cntS len size ≤ 1024 ↔ len ≤ size * 1024 := by
  unfold cntS
  have : (len + size - 1) / size ≤ 1024 ↔ len ≤ size * 1024 := by
    rw [show (len + size - 1) / size ≤ 1024 ↔ (len + size - 1) / size < 1025 by omega, Nat.div_lt_iff_lt_mul (by omega)]
    omega
  omega
set_option maxHeartbeats 400000 in
set_option maxRecDepth 100000 in
theorem split_good (ch : Int) (size : Nat) (l : List Int) (A : Option Addr) (c : Nat) (w : World) (hs : 1 ≤ size) (hs2 : size ≤ 4096) (hC : Kd.C (Kd.int .u8) w A l.length l) (hc : l.length ≤ c) (hl : l.length ≤ 140737488351232) :
    Calls Try.prog 16 #[.int .u64 ch, .slice A l.length c, .int .i64 size] w (SplitPost (splitP ch l size) w) := by
  have HB := Aside0.mk (Below.refl w.heap.size w)
  have HC := Aside0.mk hC
  have hd1 : decide ((size : Int) < 1) = false := decide_eq_false (by omega)
  have hd2 : decide ((4096 : Int) < size) = false := decide_eq_false (by omega)
  have hd1' : decide (size < 1) = false := decide_eq_false (by omega)
  have hd2' : decide (4096 < size) = false := decide_eq_false (by omega)
  have hle : cntS l.length size ≤ 1024 ↔ l.length ≤ size * 1024 := cntS_le hs
  obtain ⟨n, hn⟩ : ∃ n, n = l.length := ⟨_, rfl⟩
  have HN := Aside0.mk hn
  obtain ⟨res, hres⟩ : ∃ r, r = splitP ch l (size : Int) := ⟨_, rfl⟩
  rw [← hres]
  have HRES : Aside0 (res = if size * 1024 < n then none else some ((List.range (cntS n size)).map (frameS ch l size (cntS n size)))) := ⟨by
    rw [hres, splitP, hn]
    simp only [Int.toNat_natCast]
    by_cases h : size * 1024 < l.length
    · rw [if_pos (Or.inr (Or.inr h)), if_pos h]
    · rw [if_neg (by omega), if_neg h]⟩
  rw [← hn] at hl hc hle HC ⊢
  obtain ⟨q, hq⟩ : ∃ q, q = (n + size - 1) / size := ⟨_, rfl⟩
  obtain ⟨N, hN⟩ : ∃ N, N = cntS n size := ⟨_, rfl⟩
  have hq2 : ((n : Int) + size - 1) / size = (q : Int) := by
    rw [hq, show ((n : Int) + size - 1) = ((n + size - 1 : Nat) : Int) by omega]
    rfl
  have hmx : (if (1 : Int) < (q : Int) then (q : Int) else 1) = (N : Int) := by
    have : N = max 1 q := by rw [hN, cntS, hq]
    split <;> omega
  have hN1 : 1 ≤ N := by rw [hN, cntS]; omega
  rw [← hN] at HRES hle
  have HLE := Aside0.mk hle
  have HNN : Aside0 (N = 1 ∧ n ≤ size ∨ (N - 1) * size < n ∧ n ≤ N * size) := ⟨by
    have hN' : N = max 1 ((n + size - 1) / size) := by rw [hN, cntS]
    have h2 := Nat.div_add_mod (n + size - 1) size
    have h3 := Nat.mod_lt (n + size - 1) (show size > 0 by omega)
    generalize (n + size - 1) / size = q' at *
    by_cases hq1 : q' ≤ 1
    · left
      refine ⟨by omega, ?_⟩
      have : size * q' ≤ size * 1 := Nat.mul_le_mul_left _ hq1
      omega
    · right
      have : N = q' := by omega
      subst this
      rw [Nat.sub_mul, Nat.mul_comm N size, Nat.one_mul]
      have hlow : size * 1 ≤ size * N := Nat.mul_le_mul_left _ (by omega)
      omega⟩
  have hsz0 : ¬ ((size : Int) = 0) := by omega
  clear hC hn hres hN hq hle
  by_cases hbig : size * 1024 < n
  · have hN3 : 1024 < N := by have := HLE.out; omega
    have hdN : decide ((1024 : Int) < N) = true := decide_eq_true (by omega)
    have hdN' : decide (1024 < N) = true := decide_eq_true hN3
    obtain rfl : res = none := by rw [HRES.out, if_pos hbig]
    go_enter Try.func16, Try.ntmps16
    go_wp2_with fail
    go_ret2
    exact ⟨HB.out, rfl⟩
  · have hN3 : N ≤ 1024 := by have := HLE.out; omega
    have hdN : decide ((1024 : Int) < N) = false := decide_eq_false (by omega)
    have hdN' : decide (1024 < N) = false := decide_eq_false (by omega)
    go_enter Try.func16, Try.ntmps16
    go_wp2_with fail
    rw [hq2]
    go_loopw [9, 30] (fun v9 v30 wr => ∃ i : Nat, i ≤ N ∧ v30 = .int .i64 (i : Int) ∧ Aside0 (Kd.R k40 40 wr w.heap.size (fun _ => True) v9 ((List.range i).map (frameS ch l size N))) ∧ Aside0 (Below w.heap.size w wr)) (fun _ v30 _ => N - (intOf v30).toNat)
    case atStart => exact ⟨0, Nat.zero_le _, rfl, ⟨Kd.R_nil _ _ _ _ _⟩, HB⟩
    case round =>
      obtain ⟨i, hi, rfl, HR, HBr⟩ := hrel
      by_cases hlt : i < N
      · have hdl : decide (i < N) = true := decide_eq_true hlt
        have hdl2 : decide ((i : Int) < N) = true := decide_eq_true (by omega)
        obtain ⟨f, t, m, hf, hm1, hm2, hmn, hfm, hmnn, hmf⟩ := split_nums hs hs2 hlt hN3 HNN.out
        have hmn2 : (if n < t then (n : Int) else (t : Int)) = (m : Int) := by rw [← hmn]; split <;> split <;> omega
        have HF := Aside0.mk hf
        have HMF := Aside0.mk hmf
        clear hf hmf
        obtain ⟨A', hrun, hCm⟩ := mid_cut (A := A) (c := c) HN.out.symm hfm hmnn hc hl
        have HCm := Aside0.mk hCm
        clear hCm
        obtain ⟨lb, hlb⟩ : ∃ b, b = decide (i + 1 = N) := ⟨_, rfl⟩
        have HLB := Aside0.mk hlb
        have hbl : ((i : Int) == (N : Int) - 1) = lb := by
          rw [hlb, Bool.eq_iff_iff]
          simp only [beq_iff_eq, decide_eq_true_eq]
          omega
        clear hlb
        go_wp2_with fail
        have HCw := Aside0.mk (HCm.out wr (Kd.C_below HC.out HBr.out))
        have HBD : Aside0 ((l.drop f).take (m - f) = (l.drop (i * size)).take size ∧ ((l.drop f).take (m - f)).length = m - f) := ⟨by
          have h1 := HMF.out
          have h2 := HN.out
          rw [← HF.out]
          refine ⟨?_, by rw [List.length_take, List.length_drop]; omega⟩
          by_cases h3 : size ≤ n - f
          · rw [show m - f = size by omega]
          · rw [List.take_of_length_le (by rw [List.length_drop]; omega), List.take_of_length_le (by rw [List.length_drop]; omega)]⟩
        generalize hbd : (l.drop f).take (m - f) = bd at *
        generalize m - f = k at *
        have HBDL := Aside0.mk HBD.out.2
        rw [← HBDL.out] at HCw ⊢
        refine (clone_calls A' bd.length bd wr HCw.out (Nat.le_refl _) (by have := HBDL.out; have := HMF.out; omega)).mono ?_
        rintro e w3 ⟨vb, rfl, hRb, hE3⟩
        obtain ⟨Ab, cb, rfl⟩ := Kd.R_slice hRb
        have HRb := Aside0.mk (Kd.R_mono (Kd.R_bound hRb) (ok' := fun k => wr.heap.size ≤ k) (fun k hk => hk.2.1))
        have HB3 := Aside0.mk (below_step HBr.out hE3)
        have HR3 := Aside0.mk (Kd.R_below HR.out hE3)
        have hbs := below_size HBr.out
        have HNB := Aside0.mk (show ∀ k, wr.heap.size ≤ k → True ∧ some k ≠ u9.ownBlock from fun k hk => ⟨trivial, fun he => by have := Kd.R_lt HR.out k he.symm; omega⟩)
        clear hE3 hRb
        go_wp2_with (first
          | ((with_reducible refine gate_builtin (b := .append) (xs := #[.tmp 43, .tmp 57]) rfl ?_); refine app_frame (w0 := w) rfl (.tmp 43) (.tmp 57) rfl u9 _ ⟨ch, i, lb, bd⟩ (.slice Ab bd.length cb) (fun _ => True) (fun k => wr.heap.size ≤ k) rfl rfl rfl (Kd.R_lower HRb.out hbs) HB3 HR3.out HNB.out (fun _ _ => trivial) (by simp; omega) ?_; intro A6 c6 w5 HO5 HB5 hg5))
        go_roundw
        case rel =>
          refine ⟨i + 1, by omega, by go_num, ⟨?_⟩, HB5⟩
          have := HO5.out
          rw [List.range_succ, List.map_append, List.map_singleton]
          have e : frameS ch l size N i = ⟨ch, i, lb, bd⟩ := by rw [frameS, HLB.out, ← HBD.out.1]
          rw [e]
          simpa using this
        case measure => simp [intOf]; omega
      · have hdl : decide (i < N) = false := decide_eq_false hlt
        have hdl2 : decide ((i : Int) < N) = false := decide_eq_false (by omega)
        obtain rfl : i = N := by omega
        obtain rfl : res = some ((List.range i).map (frameS ch l size i)) := by rw [HRES.out, if_neg hbig]
        go_wp2_with fail
        go_ret2
        exact ⟨HBr.out, _, rfl, HR.out⟩
end Go.Proofs.Ytdjoekckhmggbaa.H
namespace Go.Proofs.Ytdjoekckhmggbaa.H
open Go.RowKit Go.Proofs.YtdjoekckhmggbaaW.PrintWords Go.Proofs.YtdjoekckhmggbaaW.PrintMore Go.Proofs.Ytdjoekckhmggbaa.PRF
set_option linter.unusedVariables false
set_option linter.unusedSimpArgs false
end Go.Proofs.Ytdjoekckhmggbaa.H
namespace Go.Proofs.Ytdjoekckhmggbaa.H
open Go.RowKit Go.Proofs.YtdjoekckhmggbaaW.PrintWords Go.Proofs.YtdjoekckhmggbaaW.PrintMore Go.Proofs.Ytdjoekckhmggbaa.PRF
end Go.Proofs.Ytdjoekckhmggbaa.H
namespace Go.Proofs.Ytdjoekckhmggbaa.H
open Go.RowKit Go.Proofs.YtdjoekckhmggbaaW.PrintWords Go.Proofs.YtdjoekckhmggbaaW.PrintMore Go.Proofs.Ytdjoekckhmggbaa.PRF
end Go.Proofs.Ytdjoekckhmggbaa.H
namespace Go.Proofs.Ytdjoekckhmggbaa.H
open Go.RowKit Go.Proofs.YtdjoekckhmggbaaW.PrintWords Go.Proofs.YtdjoekckhmggbaaW.PrintLast Go.Proofs.YtdjoekckhmggbaaW.PrintMore Go.Proofs.Ytdjoekckhmggbaa.PRF
attribute [local go_sem] max2_int min2_int max_two min_two max_three min_three max_four min_four
set_option linter.unusedVariables false
set_option linter.unusedSimpArgs false
theorem may_f (x : S40) : frame_may.f x.f0 x.f1 x.f2 x.f3 = some (mayF x) := rmay_f x
structure FV where
  x : S40
  A : Option Addr
  c : Nat
def FV.val (p : FV) : Value := .agg #[.int .u64 p.x.f0, .int .i64 p.x.f1, .bool p.x.f2, .slice p.A p.x.f3.length p.c]
def keepF (ch : Int) (x : S40) : Bool := (x.f0 == ch) && mayF x
set_option maxHeartbeats 400000 in
set_option maxRecDepth 100000 in
theorem keep_any (ch : Int) (x : S40) (A : Option Addr) (c : Nat) (B : Nat) (w : World) (hb : w.cell? ⟨B, 0, none⟩ = some (.int .u64 ch)) (hC : Kd.C (Kd.int .u8) w A x.f3.length x.f3) (hc : x.f3.length ≤ c) :
    Calls Try.prog 45 #[.agg #[.int .u64 x.f0, .int .i64 x.f1, .bool x.f2, .slice A x.f3.length c], .pointer (some ⟨B, 0, none⟩)] w fun e w' => e = .returned (.bool (keepF ch x)) ∧ Below w.heap.size w w' := by
  have HB := Aside0.mk (Below.refl w.heap.size w)
  have HM := Aside0.mk (fun w' h1 => frame_may.calls x.f0 x.f1 x.f2 A c x.f3 (mayF x) w' h1 hc (may_f x))
  have HC := Aside0.mk hC
  have hk : keepF ch x = ((x.f0 == ch) && mayF x) := rfl
  rw [hk]
  clear hC hc hk
  generalize mayF x = my at *
  obtain ⟨a0, a1, a2, a3⟩ := x
  simp only at *
  obtain ⟨n3, hn3⟩ : ∃ n, n = a3.length := ⟨_, rfl⟩
  rw [← hn3] at HM HC ⊢
  clear hn3
  by_cases h0 : a0 = ch
  · subst h0
    have hb0 : (a0 == a0) = true := by simp
    rw [hb0, Bool.true_and]
    go_enter Try.func45, Try.ntmps45
    go_wp2_with (first
      | ((with_reducible refine gate_dst (N := 2) rfl ?_); refine alloc_ev rfl (N := 2) rfl (cs := #[.int .u64 a0, .int .i64 a1, .bool a2, .slice A n3 c]) (t := 40) HB ?hr ?_; (case hr => first | (go_simp; done) | (go_simp; rfl)); intro g2 w1 HG2 HGe2 HE1 HB1; have hcf := cf4 HG2; have hb1 := pw_cell_below HB1.out hb))
    refine (HM.out w1 (Kd.C_below HC.out HB1.out)).mono ?_
    rintro e w2 ⟨rfl, hE2⟩
    have HB2 := Aside0.mk (below_step HB1.out hE2)
    clear hE2
    go_wp2_with fail
    go_ret
    exact ⟨rfl, HB2.out⟩
  · have hb0 : (a0 == ch) = false := by simpa using h0
    rw [hb0, Bool.false_and]
    go_enter Try.func45, Try.ntmps45
    go_wp2_with (first
      | ((with_reducible refine gate_dst (N := 2) rfl ?_); refine alloc_ev rfl (N := 2) rfl (cs := #[.int .u64 a0, .int .i64 a1, .bool a2, .slice A n3 c]) (t := 40) HB ?hr ?_; (case hr => first | (go_simp; done) | (go_simp; rfl)); intro g2 w1 HG2 HGe2 HE1 HB1; have hcf := cf4 HG2; have hb1 := pw_cell_below HB1.out hb))
    go_ret
    exact ⟨rfl, HB1.out⟩
end Go.Proofs.Ytdjoekckhmggbaa.H
namespace Go.Proofs.Ytdjoekckhmggbaa.H
open Go.RowKit Go.Shelf Go.Proofs.YtdjoekckhmggbaaW.PrintWords Go.Proofs.YtdjoekckhmggbaaW.PrintLast Go.Proofs.YtdjoekckhmggbaaW.PrintMore Go.Proofs.Ytdjoekckhmggbaa.PRF
attribute [local go_sem] Oper.semAt_some
set_option linter.unusedVariables false
set_option linter.unusedSimpArgs false
def Good (W0 : World) (p : FV) : Prop := (Lit.int .i64 p.x.f1).wf = true ∧ p.x.f3.length ≤ p.c ∧ Kd.C (Kd.int .u8) W0 p.A p.x.f3.length p.x.f3
abbrev GF (W0 : World) := { p : FV // Good W0 p }
def RowAt (W : World) (A : Option Addr) (i : Nat) (p : FV) : Prop := ∃ ad, A = some ad ∧ W.cell? (ad.add (i * 4)) = some (.int .u64 p.x.f0) ∧ W.cell? ⟨(ad.add (i * 4)).block, (ad.add (i * 4)).off + 1, none⟩ = some (.int .i64 p.x.f1) ∧
  W.cell? ⟨(ad.add (i * 4)).block, (ad.add (i * 4)).off + 2, none⟩ = some (.bool p.x.f2) ∧ W.cell? ⟨(ad.add (i * 4)).block, (ad.add (i * 4)).off + 3, none⟩ = some (.slice p.A p.x.f3.length p.c)
theorem grownBy_below {w w' : World} (h : Below w.heap.size w w') : w.grownBy w' none := ⟨h.os, h.tape, h.output, h.size, fun k hk _ => h.block k hk⟩
set_option maxRecDepth 100000 in
set_option maxHeartbeats 1000000 in
theorem kept_in (n : Nat) (hn : 1 ≤ n) (W0 : World) (Kp : World → World → Prop) (hKt : ∀ {A B C : World}, Kp A B → Kp B C → Kp A C) (hKn : ∀ {A B : World}, Below A.heap.size A B → Kp A B)
    (ch : Int) (V : List (GF W0)) (A : Option Addr) (cap : Nat) (l Bs Bk Bc : Nat) (J Jx : List (GF W0) → World → Prop) (W : World) (hW0 : Kp W0 W)
    (hJ : AbidesFrom W.heap.size J) (hN : V.length ≤ 9223372036854775807)
    (hrow : ∀ W', Kp W0 W' → ∀ i (h : i < V.length), RowAt W' A i V[i].1 ∧ Kd.C (Kd.int .u8) W' V[i].1.A V[i].1.x.f3.length V[i].1.x.f3)
    (hs : ∀ W', Kp W0 W' → W'.cell? ⟨Bs, 0, none⟩ = some (.slice A V.length cap)) (hk : ∀ W', Kp W0 W' → W'.cell? ⟨Bk, 0, none⟩ = some (.func (.func 45) #[] #[.pointer (some ⟨Bc, 0, none⟩)])) (hc : ∀ W', Kp W0 W' → W'.cell? ⟨Bc, 0, none⟩ = some (.int .u64 ch))
    (hY : ∀ pre x W1, J pre W1 → pre.length < V.length → YieldAt Fence.wide (n - 1) Try.prog l #[x.1.val] W1 fun e W' =>
      (e = .returned (.bool true) ∧ J (pre ++ [x]) W' ∧ Kp W1 W') ∨ (e = .returned (.bool false) ∧ Jx (pre ++ [x]) W')) (h0 : J [] W) :
    CallsIn Fence.wide n Try.prog 61 #[.func (.yield l) #[] #[], .pointer (some ⟨Bs, 0, none⟩), .pointer (some ⟨Bk, 0, none⟩)] W fun e W' => (∃ v, e = .returned v) ∧
      ((∃ ys, ys = V.filter (fun p => keepF ch p.1.x) ∧ J ys W') ∨ (∃ pre, True ∧ Jx pre W')) := by
  have hs' := hs W hW0
  refine callsIn_of_wp Try.func61 rfl trivial ?_ rfl
  simp only [Try.ntmps61, List.size_toArray, List.length_cons, List.length_nil, Nat.reduceAdd, Nat.reduceSub, Array.replicate_succ, Array.replicate_zero, List.push_toArray, List.append_toArray, List.nil_append, List.cons_append]
  gi_wp2
  gi_loopw [8] (fun v8 wr => ∃ k : Nat, k ≤ V.length ∧ v8 = .int .i64 (k : Int) ∧ Aside0 (J ((V.take k).filter (fun p => keepF ch p.1.x)) wr) ∧ Aside0 (Kp W0 wr)) (fun v8 _ => V.length - (intOf v8).toNat)
  case atStart => exact ⟨0, Nat.zero_le _, rfl, ⟨by simpa using h0⟩, ⟨hW0⟩⟩
  case round =>
    obtain ⟨k, hkl, rfl, HJs, HB0⟩ := hrel
    by_cases hlt : k < V.length
    · obtain ⟨⟨ad, hA, q0, q1, q2, q3⟩, hCx⟩ := hrow wr HB0.out k hlt
      have HCx := Aside0.mk hCx
      clear hCx
      subst hA
      have HB0a := Aside0.mk (fun o => hKt HB0.out (hKn (below_alloc (Below.refl wr.heap.size wr) o)))
      have q4 := fun o => hk _ (HB0a.out o)
      have HT := Aside0.mk (List.take_succ_eq_append_getElem hlt)
      have HG := Aside0.mk V[k].2
      have HLen : Aside0 (((V.take k).filter (fun p => keepF ch p.1.x)).length < V.length) := ⟨by
        have h1 := List.length_filter_le (fun p : GF W0 => keepF ch p.1.x) (V.take k)
        rw [List.length_take] at h1
        omega⟩
      generalize V[k] = x at *
      have HFT : Aside0 ((V.take (k + 1)).filter (fun p => keepF ch p.1.x) = (V.take k).filter (fun p => keepF ch p.1.x) ++ (if keepF ch x.1.x = true then [x] else [])) := ⟨by
        rw [HT.out, List.filter_append]
        congr 1
        by_cases hkx : keepF ch x.1.x = true
        · simp [hkx]
        · simp [hkx]⟩
      generalize ((V.take k).filter (fun p => keepF ch p.1.x)) = pre at *
      obtain ⟨⟨⟨a0, a1, a2, a3⟩, Ax, cx⟩, hgood⟩ := x
      simp only at *
      have HBra := Aside0.mk (fun o => below_alloc (Below.refl wr.heap.size wr) o)
      gi_wp2
      refine ⟨trivial, ?_⟩
      refine (callsIn_wide.2 (keep_any ch ⟨a0, a1, a2, a3⟩ Ax cx Bc _ (hc _ (HB0a.out _)) (Kd.C_below HCx.out (HBra.out _)) HG.out.2.1)).mono ?_
      rintro e w3 ⟨rfl, hE3⟩
      have HE := Aside0.mk (below_step (HBra.out _) hE3)
      have HBr3 := Aside0.mk (hKt HB0.out (hKn HE.out))
      have hcf := cf4 ⟨blk_below (blk_new wr (.cells #[.int .u64 a0, .int .i64 a1, .bool a2, .slice Ax a3.length cx] 40) _ rfl) hE3⟩
      have HJ3 := Aside0.mk (hJ _ _ _ none HJs.out (grownBy_below HE.out) (fun r h => by cases h))
      clear hE3 q0 q1 q2 q3 q4
      cases hkp : keepF ch ⟨a0, a1, a2, a3⟩ with
      | false =>
        have HFT2 := Aside0.mk (HFT.out.trans (by rw [hkp, if_neg (by decide), List.append_nil]))
        clear HFT
        gi_wp2
        refine ⟨fun _ h => (by cases h), ?_⟩
        gi_wp2
        go_roundw
        case rel => exact ⟨k + 1, hlt, by go_num, ⟨by rw [HFT2.out]; exact HJ3.out⟩, HBr3⟩
        case measure => simp [intOf]; omega
      | true =>
        have HFT2 := Aside0.mk (HFT.out.trans (by rw [hkp, if_pos rfl]))
        clear HFT
        obtain ⟨fn, tmps, assign, body, hy, hR⟩ := hY pre ⟨⟨⟨a0, a1, a2, a3⟩, Ax, cx⟩, hgood⟩ w3 HJ3.out HLen.out
        dsimp only [FV.val] at hy
        gi_wp2
        refine hR.mono ?_
        rintro e w4 (⟨rfl, hJ4, hk4⟩ | ⟨rfl, hJx4⟩)
        · gi_wp2
          go_roundw
          case rel => exact ⟨k + 1, hlt, by go_num, ⟨by rw [HFT2.out]; exact hJ4⟩, ⟨hKt HBr3.out hk4⟩⟩
          case measure => simp [intOf]; omega
        · gi_wp2
          refine bodyPost_ret (results_none rfl _ _ _) rfl ?_
          exact ⟨⟨_, rfl⟩, .inr ⟨_, trivial, hJx4⟩⟩
    · obtain rfl : k = V.length := by omega
      have hJ1 := HJs.out
      rw [List.take_length] at hJ1
      gi_wp2
      go_end0
      exact ⟨⟨_, rfl⟩, .inl ⟨_, rfl, hJ1⟩⟩
end Go.Proofs.Ytdjoekckhmggbaa.H
namespace Go.Proofs.Ytdjoekckhmggbaa.H
open Go.RowKit Go.Shelf Go.Proofs.YtdjoekckhmggbaaW.PrintWords Go.Proofs.YtdjoekckhmggbaaW.PrintLast Go.Proofs.YtdjoekckhmggbaaW.PrintMore Go.Proofs.Ytdjoekckhmggbaa.PRF
attribute [local go_sem] Oper.semAt_some
set_option linter.unusedVariables false
set_option linter.unusedSimpArgs false
set_option maxHeartbeats 400000 in
theorem kept_call (v f : Value) (w : World) (hv : ∃ A n c, v = .slice A n c) (hf : ∃ g a b, f = .func g a b) : Calls Try.prog 44 #[v, f] w fun e w' => e = .returned (.func (.func 61) #[] #[.pointer (some ⟨w.heap.size, 0, none⟩), .pointer (some ⟨w.heap.size + 1, 0, none⟩)]) ∧ w' = (w.alloc (.cells #[v] 22)).alloc (.cells #[f] 75) := by
  obtain ⟨A, n, c, rfl⟩ := hv
  obtain ⟨g, a, b, rfl⟩ := hf
  have hmf : ∀ (fn : Fn) (first cap : Array Value) (w : World), (Instr.makeFunc fn first cap).run Try.prog w = .ok (.func fn first cap) w := fun _ _ _ _ => rfl
  go_enter Try.func44, Try.ntmps44
  go_wp2
  go_ret
  exact ⟨rfl, rfl⟩
end Go.Proofs.Ytdjoekckhmggbaa.H
