import Derived.Test.YtocphkfkdadhaaaYPk2
import Derived.Test.YtocphkfkdadhaaaYPk3
import Derived.WalkSpells
import Derived.WalkLawsBesides
import Derived.Handy
import Derived.Laws.Bits64b
import Derived.IntWalk
import Derived.Recover
import Derived.Defers
import Derived.Laws.Pointers
set_option maxHeartbeats 4000000
set_option linter.unusedVariables false
set_option linter.unusedSimpArgs false
set_option maxRecDepth 100000
namespace Go.Proofs.Ytocphkfkdadhaaa.K
open Go.RowKit Go.Proofs.YtocphkfkdadhaaaW.PrintWords Go.Proofs.YtocphkfkdadhaaaW.PrintLast Go.Proofs.YtocphkfkdadhaaaW.PrintMore Go.Proofs.Ytocphkfkdadhaaa.PRF
attribute [local go_sem] max2_int min2_int max_two min_two max_three min_three max_four min_four
section
variable {ops : Array Oper} {rest : List Oper} {o : Oper} {a : Act} {Q : Exit → Act → World → Prop}
theorem app_bytes {w0 W : World} (hgd : o.guard = none) (s x : Operand)
 (ho : o.op = .call { callee := .builtin .append, args := #[s, x], argTypes := #[74, 74] })
 (v : Value) (xs ys : List Int) (A : Option Addr) (c : Nat) (ok : Nat → Prop) (hs : a.eval s = v) (hx : a.eval x = .slice A ys.length c)
 (HB : Aside0 (Below w0.heap.size w0 W)) (HO : Kd.R (Kd.int .u8) 5 W w0.heap.size ok v xs) (HR : Kd.C (Kd.int .u8) W A ys.length ys) (hfresh : ∀ k, W.heap.size ≤ k → ok k)
 (hl : xs.length + ys.length ≤ 140737488355328)
 (h : ∀ v1 w1, Aside0 (Kd.R (Kd.int .u8) 5 w1 w0.heap.size ok v1 (xs ++ ys)) → Aside0 (Below w0.heap.size w0 w1) → Aside0 (W.grownBy w1 v.ownBlock) → Aside0 (v1.ownBlock = v.ownBlock ∨ ∃ b, v1.ownBlock = some b ∧ W.heap.size ≤ b) → wpList Try.prog ops Q rest (a.put o.dst v1) w1) :
 wpList Try.prog ops Q (o :: rest) a W :=
 Kd.R_append_rows (Kd.int .u8) (w0 := w0) w0.heap.size hgd s x 74 5 (.int .u8 0) 1 ho Try.underlying74 info5 rfl (by decide) (by omega) v xs ys _ _ _ ok (fun _ => False) hs hx HO HR (fun _ _ h => h) (fun _ h => h.elim) hfresh HB.out (below_size HB.out) (by omega)
  fun v1 w1 h1 h2 h3 h4 => h v1 w1 ⟨h1⟩ ⟨h2⟩ ⟨h3⟩ ⟨h4⟩
end
theorem cf1 {w : World} {g : Nat} {t : TypeId} {a : Value} (h : Aside0 (w.heap[g]? = some (.cells #[a] t (0, 0)))) : w.cell? ⟨g, 0, none⟩ = some a ∧ w.frozen? ⟨g, 0, none⟩ = false :=
 ⟨(blk_cell h.out 0).trans rfl, blk_frozen h.out 0⟩
theorem cf3 {w : World} {g : Nat} {t : TypeId} {a b c : Value} (h : Aside0 (w.heap[g]? = some (.cells #[a, b, c] t (0, 0)))) :
 w.cell? ⟨g, 0, none⟩ = some a ∧ w.cell? ⟨g, 1, none⟩ = some b ∧ w.cell? ⟨g, 2, none⟩ = some c ∧ w.frozen? ⟨g, 0, none⟩ = false ∧ w.frozen? ⟨g, 1, none⟩ = false ∧ w.frozen? ⟨g, 2, none⟩ = false :=
 ⟨(blk_cell h.out 0).trans rfl, (blk_cell h.out 1).trans rfl, (blk_cell h.out 2).trans rfl, blk_frozen h.out 0, blk_frozen h.out 1, blk_frozen h.out 2⟩
theorem put3 {w : World} {g : Nat} {t : TypeId} {a b c x y z : Value} (h : w.heap[g]? = some (.cells #[a, b, c] t (0, 0))) :
 (((w.setCell ⟨g, 0, none⟩ x).setCell ⟨g, 1, none⟩ y).setCell ⟨g, 2, none⟩ z).heap[g]? = some (.cells #[x, y, z] t (0, 0)) :=
 blk_put (cs := #[x, y, c]) (blk_put (cs := #[x, b, c]) (blk_put h 0 x rfl) 1 y rfl) 2 z rfl
theorem keep3 {w : World} {g : Nat} {x y z : Value} : KeepBut w (((w.setCell ⟨g, 0, none⟩ x).setCell ⟨g, 1, none⟩ y).setCell ⟨g, 2, none⟩ z) g none := ((KeepBut.refl w g none).set_ 0 x |>.set_ 1 y).set_ 2 z
theorem below3 {w0 w : World} {g : Nat} {x y z : Value} (h : Below w0.heap.size w0 w) (hg : w0.heap.size ≤ g) : Below w0.heap.size w0 (((w.setCell ⟨g, 0, none⟩ x).setCell ⟨g, 1, none⟩ y).setCell ⟨g, 2, none⟩ z) := below_set (below_set (below_set h hg) hg) hg
section
variable {P : Program} {ops : Array Oper} {rest : List Oper} {o : Oper} {a : Act} {Q : Exit → Act → World → Prop}
theorem alloc_ev {W w0 : World} (hgd : o.guard = none) {N : Tmp} (hd : o.dst = some N) {cs : Array Value} {t : TypeId} (HB : Aside0 (Below w0.heap.size w0 W))
 (hrun : (execOp a.eval o).run P W = .ok (.value (.pointer (some ⟨W.heap.size, 0, none⟩))) (W.alloc (.cells cs t (0, 0))))
 (h : ∀ g w1, Aside0 (w1.heap[g]? = some (.cells cs t (0, 0))) → Aside0 (W.heap.size = g) → Aside0 (Below W.heap.size W w1) → Aside0 (Below w0.heap.size w0 w1) → wpList P ops Q rest (a.put o.dst (.pointer (some ⟨g, 0, none⟩))) w1) : wpList P ops Q (o :: rest) a W :=
 box_event hgd hd hrun fun g hg w1 hb hbe => h g w1 ⟨hb⟩ ⟨hg.symm⟩ ⟨hbe⟩ ⟨below_step HB.out hbe⟩
end
section
variable {ops : Array Oper} {rest : List Oper} {o : Oper} {a : Act} {Q : Exit → Act → World → Prop}
theorem lit_bytes {W w0 : World} (hgd : o.guard = none) {N : Tmp} (hd : o.dst = some N) (xs : List Int) (HB : Aside0 (Below w0.heap.size w0 W)) (hm : xs.length ≤ 9223372036854775807)
 (hrun : (execOp a.eval o).run Try.prog W = .ok (.value (.slice (some ⟨W.heap.size, 0, none⟩) xs.length xs.length)) (W.alloc (.cells (xs.map (Value.int .u8)).toArray 5)))
 (h : ∀ A1 c1 w1, Aside0 (Kd.R (Kd.int .u8) 5 w1 W.heap.size (fun _ => True) (.slice A1 xs.length c1) xs) → Aside0 (Below W.heap.size W w1) → Aside0 (Below w0.heap.size w0 w1) → wpList Try.prog ops Q rest (a.put o.dst (.slice A1 xs.length c1)) w1) : wpList Try.prog ops Q (o :: rest) a W :=
 Kd.R_lit (Kd.int .u8) W.heap.size 5 hgd hd (xs := xs) (inner := xs.map (Value.int .u8)) (ok := fun _ => True) (okp := fun _ => True) (w0 := W) hrun (Kd.reps_scalar xs) (fun _ h => h) trivial (Below.refl _ _) (Nat.le_refl _) hm
  fun v1 w1 h1 h2 _ _ => by
   obtain ⟨A1, c1, rfl⟩ := Kd.R_slice h1
   exact h A1 c1 w1 ⟨h1⟩ ⟨h2⟩ ⟨below_step HB.out h2⟩
end
theorem clone_calls (A : Option Addr) (c : Nat) (l : List Int) (w : World) (hr : Kd.C (Kd.int .u8) w A l.length l) (hc : l.length ≤ c) (hl : l.length ≤ 140737488355327) :
 Calls Try.prog 152 #[.slice A l.length c] w fun e w' => ∃ v : Value, e = .returned v ∧ Kd.R (Kd.int .u8) 5 w' w.heap.size (fun _ => True) v l ∧ Below w.heap.size w w' := by
 have HR := Aside0.mk hr
 have HC := Aside0.mk hc
 have HL := Aside0.mk hl
 clear hr hc hl
 have HB := Aside0.mk (Below.refl w.heap.size w)
 have hq := fun W => Lib.run_eql_slice_nil (P := Try.prog) W 74 5 A l.length c 0 0 Try.underlying74
 cases A with
 | none =>
  simp only [Option.isNone_none] at hq
  have h0 : l = [] := by
   cases l with
   | nil => rfl
   | cons x l => obtain ⟨ad, h, _⟩ := HR.out.2.2 (by simp); cases h
  subst h0
  simp only [List.length_nil] at hq ⊢
  go_enter Try.func152, Try.ntmps152
  go_wp2
  go_ret
  exact ⟨_, rfl, Kd.R_nil _ _ _ _ _, HB.out⟩
 | some ad =>
  simp only [Option.isNone_some] at hq
  go_enter Try.func152, Try.ntmps152
  go_wp2_with (first
   | ((with_reducible refine gate_dst (N := 5) rfl ?_); refine Kd.R_lit (Kd.int .u8) _ 5 ?hg (N := 5) ?hd (xs := ([] : List Int)) (inner := []) (ok := fun _ => True) (okp := fun _ => True) ?hr ?hp (fun _ hk => hk) trivial (Below.refl _ _) (Nat.le_refl _) (by simp) ?_; (case hd => rfl); (case hg => rfl); (case hr => first | (go_simp; done) | (go_simp; rfl)); (case hp => exact (Reps.none _ _)); intro v0 w1 HO0 HB0 hg0 hn0; replace HO0 := Aside0.mk HO0; replace HB0 := Aside0.mk HB0; clear hg0 hn0)
   | ((with_reducible refine gate_builtin (b := .append) (xs := #[.tmp 5, .tmp 6]) rfl ?_); refine app_bytes (w0 := w) rfl (.tmp 5) (.tmp 6) rfl v0 [] l (some ad) c (fun _ => True) rfl rfl HB0 HO0.out (Kd.C_below HR.out HB0.out) (fun _ _ => trivial) (by have := HL.out; simp; omega) ?_; intro v1 w2 HO1 HB1 hg hat; simp only [List.nil_append] at HO1; clear hg hat))
  go_ret
  exact ⟨_, rfl, HO1.out, HB1.out⟩
def wrongP (k : Int) : List PanicEntry := [{ v := .iface 206 (.agg #[.int .i64 k]), recovered := false }]
theorem need_ok (k : Int) (w : World) : Calls Try.prog 146 #[.bool true, .int .i64 k] w fun e w' => e = .returned (.tuple #[]) ∧ w = w' := by
 go_enter Try.func146, Try.ntmps146
 go_wp2
 go_end0
 exact ⟨rfl, rfl⟩
theorem need_no (k : Int) (w : World) : Calls Try.prog 146 #[.bool false, .int .i64 k] w fun e w' => e = .panicked (wrongP k) ∧ w = w' := by
 go_enter Try.func146, Try.ntmps146
 go_wp2
 exact ⟨rfl, rfl, rfl⟩
theorem cut_no (A : Option Addr) (c m n : Nat) (w : World) (hm : m ≤ 9223372036854775807) (hn : m < n) (hn2 : n ≤ 18446744073709551615) :
 Calls Try.prog 169 #[.slice A m c, .int .u64 (n : Int)] w fun e w' => e = .panicked (wrongP 7) ∧ w = w' := by
 have hd : decide (n ≤ m) = false := decide_eq_false (by omega)
 go_enter Try.func169, Try.ntmps169
 go_wp2_with (go_at_call 146; refine (need_no 7 _).mono ?_; rintro e w' ⟨rfl, rfl⟩)
 exact ⟨rfl, rfl, rfl⟩
def CutPost (A : Option Addr) (l : List Int) (n : Nat) (w : World) (e : Ending) (w' : World) : Prop :=
 ∃ A1 A2, e = .returned (.tuple #[.slice A1 n n, .slice A2 (l.length - n) (l.length - n)]) ∧ Drawn0 w w' ∧ ∀ W, Kd.C (Kd.int .u8) W A l.length l → Kd.C (Kd.int .u8) W A1 n (l.take n) ∧ Kd.C (Kd.int .u8) W A2 (l.length - n) (l.drop n)
theorem cut_ok (A : Option Addr) (c n : Nat) (l : List Int) (w : World) (hm : l.length ≤ 9223372036854775807) (hc : l.length ≤ c) (hn : n ≤ l.length) :
 Calls Try.prog 169 #[.slice A l.length c, .int .u64 (n : Int)] w (CutPost A l n w) := by
 go_enter Try.func169, Try.ntmps169
 go_wp2_with (go_at_call 146; refine (need_ok 7 _).mono ?_; rintro e w' ⟨rfl, rfl⟩)
 go_quiet (fail)
 go_wp2
 ·have h : l.length = n := by assumption
  go_ret2
  refine ⟨A, A, by simp [h], ⟨⟨_, rfl⟩⟩, fun W HR => ⟨?_, ?_⟩⟩
  ·have := HR; rw [← h, List.take_length]; exact this
  ·rw [← h, List.drop_length, Nat.sub_self]; exact ⟨rfl, by omega, fun h => absurd h (by omega)⟩
 ·have h : ¬ l.length = n := by assumption
  go_ret2
  refine ⟨A, A.map (·.add n), rfl, ⟨⟨_, rfl⟩⟩, fun W HR => ⟨?_, ?_⟩⟩
  ·have h1 := Kd.C_take HR hn; rw [List.length_take, Nat.min_eq_left hn] at h1; exact h1
  ·have h1 := Kd.C_drop HR hn (Nat.le_refl _); rw [if_neg h, List.length_drop, show (Kd.int IntKind.u8).sz = 1 from rfl, Nat.mul_one] at h1; exact h1
end Go.Proofs.Ytocphkfkdadhaaa.K
namespace Go.Proofs.Ytocphkfkdadhaaa.K
open Go.Proofs.Ytocphkfkdadhaaa.PRF
def Byt (l : List Int) : Prop := ∀ x ∈ l, 0 ≤ x ∧ x ≤ 255
theorem Byt.take {l : List Int} (h : Byt l) (n : Nat) : Byt (l.take n) := fun x hx => h x (List.mem_of_mem_take hx)
theorem Byt.drop {l : List Int} (h : Byt l) (n : Nat) : Byt (l.drop n) := fun x hx => h x (List.mem_of_mem_drop hx)
theorem Byt.tail {c : Int} {l : List Int} (h : Byt (c :: l)) : Byt l := fun x hx => h x (List.mem_cons_of_mem _ hx)
theorem Byt.head {c : Int} {l : List Int} (h : Byt (c :: l)) : 0 ≤ c ∧ c ≤ 255 := h c List.mem_cons_self
theorem Byt.nil : Byt [] := fun _ h => by cases h
theorem Byt.cons {c : Int} {l : List Int} (hc : 0 ≤ c ∧ c ≤ 255) (h : Byt l) : Byt (c :: l) := fun x hx => by
 rcases List.mem_cons.1 hx with rfl | hx
 ·exact hc
 ·exact h x hx
theorem snoc_ind {α : Type} {P : List α → Prop} (h0 : P []) (h1 : ∀ l c, P l → P (l ++ [c])) (l : List α) : P l := by
 have h : ∀ m : List α, P m.reverse := by
  intro m
  induction m with
  | nil => exact h0
  | cons c m ih => rw [List.reverse_cons]; exact h1 _ _ ih
 have := h l.reverse
 rwa [List.reverse_reverse] at this
theorem bind_ok {ε α β : Type} {x : Except ε α} {f : α → Except ε β} {y : β} (h : x.bind f = .ok y) : ∃ a, x = .ok a ∧ f a = .ok y := by
 cases x with
 | error e => cases h
 | ok a => exact ⟨a, rfl, h⟩
def num (l : List Int) : Nat := l.foldl (fun n c => n * 256 + c.toNat) 0
theorem num_snoc (l : List Int) (c : Int) : num (l ++ [c]) = num l * 256 + c.toNat := by simp [num]
theorem num_lt (l : List Int) (h : Byt l) : num l < 256 ^ l.length := by
 revert h
 refine snoc_ind (P := fun l => Byt l → num l < 256 ^ l.length) ?_ ?_ l
 ·intro _; simp [num]
 ·intro l c ih h
  rw [num_snoc, List.length_append, List.length_singleton, Nat.pow_succ]
  have h1 := ih (fun x hx => h x (List.mem_append_left _ hx))
  have h2 := h c (by simp)
  omega
def cutP (b : List Int) (n : Nat) : Except Int (List Int × List Int) := if n ≤ b.length then .ok (b.take n, b.drop n) else .error 7
def bodyP (f : Nat) (b : List Int) : Except Int (List Int × List Int) :=
 if f ≤ 55 then cutP b f
 else if f - 55 ≤ b.length then
  if (b.take (f - 55)).headD 0 = 0 ∨ num (b.take (f - 55)) ≤ 55 then .error 8 else cutP (b.drop (f - 55)) (num (b.take (f - 55)))
 else .error 7
def itemsP (f : List Int → Except Int (S159 × List Int)) : Nat → List Int → Except Int (List S159)
 | _, [] => .ok []
 | 0, _ :: _ => .error 0
 | k + 1, c :: l => (f (c :: l)).bind fun q => (itemsP f k q.2).bind fun xs => .ok (q.1 :: xs)
def itemF (sub : Option (List Int → Except Int (S159 × List Int))) : List Int → Except Int (S159 × List Int)
 | [] => .error 7
 | c :: rest =>
  if c < 128 then .ok (⟨false, [c], []⟩, rest)
  else if c < 192 then
   (bodyP (c - 128).toNat rest).bind fun q => if q.1.length = 1 ∧ q.1.headD 0 < 128 then .error 8 else .ok (⟨false, q.1, []⟩, q.2)
  else match sub with
   | none => .error 8
   | some f => (bodyP (c - 192).toNat rest).bind fun q => (itemsP f q.1.length q.1).bind fun xs => .ok (⟨true, [], xs⟩, q.2)
def itemP : Nat → List Int → Except Int (S159 × List Int)
 | 0 => itemF none
 | lv + 1 => itemF (some (itemP lv))
def decodeP (b : List Int) : Except Int S159 :=
 if b.length > 65536 then .error 4
 else (itemP 16 b).bind fun q => if q.2 = [] then .ok q.1 else .error 8
theorem cutP_ok {b x y : List Int} {n : Nat} (h : cutP b n = .ok (x, y)) : n ≤ b.length ∧ x = b.take n ∧ y = b.drop n := by
 unfold cutP at h
 split at h
 ·simp only [Except.ok.injEq, Prod.mk.injEq] at h
  exact ⟨by assumption, h.1.symm, h.2.symm⟩
 ·cases h
theorem bodyP_len {f : Nat} {b x y : List Int} (h : bodyP f b = .ok (x, y)) : x.length + y.length ≤ b.length := by
 unfold bodyP at h
 split at h
 ·obtain ⟨h1, rfl, rfl⟩ := cutP_ok h
  rw [List.length_take, List.length_drop]; omega
 ·split at h
  ·split at h
   ·cases h
   ·obtain ⟨h1, rfl, rfl⟩ := cutP_ok h
    simp only [List.length_take, List.length_drop] at h1 ⊢
    omega
  ·cases h
theorem itemF_len {sub : Option (List Int → Except Int (S159 × List Int))} {l r : List Int} {x : S159} (h : itemF sub l = .ok (x, r)) : r.length < l.length := by
 cases l with
 | nil => cases h
 | cons c rest =>
  rw [List.length_cons]
  simp only [itemF] at h
  split at h
  ·cases h; omega
  ·split at h
   ·obtain ⟨q, hb, h⟩ := bind_ok h
    have := bodyP_len hb
    split at h
    ·cases h
    ·cases h; omega
   ·split at h
    ·cases h
    ·obtain ⟨q, hb, h⟩ := bind_ok h
     have := bodyP_len hb
     obtain ⟨xs, hx, h⟩ := bind_ok h
     cases h; omega
theorem itemP_len {lv : Nat} {l r : List Int} {x : S159} (h : itemP lv l = .ok (x, r)) : r.length < l.length := by
 cases lv <;> exact itemF_len h
theorem itemsP_mono (f : List Int → Except Int (S159 × List Int)) (hf : ∀ l x r, f l = .ok (x, r) → r.length < l.length) : ∀ (k : Nat) (l : List Int), l.length ≤ k → itemsP f k l = itemsP f l.length l := by
 intro k
 induction k using Nat.strongRecOn with
 | _ k ih =>
  intro l hl
  cases l with
  | nil => cases k <;> rfl
  | cons c l =>
   cases k with
   | zero => simp at hl
   | succ k =>
    simp only [List.length_cons, itemsP]
    cases hfl : f (c :: l) with
    | error e => rfl
    | ok xr =>
     obtain ⟨x, r⟩ := xr
     have h1 := hf _ _ _ hfl
     simp only [List.length_cons] at h1 hl
     simp only [Except.bind]
     rw [ih k (by omega) r (by omega), ih l.length (by omega) r (by omega)]
theorem bodyP_suffix {f : Nat} {b x y : List Int} (h : bodyP f b = .ok (x, y)) : ∃ k, y = b.drop k := by
 unfold bodyP at h
 split at h
 ·obtain ⟨h1, rfl, rfl⟩ := cutP_ok h
  exact ⟨_, rfl⟩
 ·split at h
  ·split at h
   ·cases h
   ·obtain ⟨h1, rfl, rfl⟩ := cutP_ok h
    exact ⟨_, by rw [List.drop_drop]⟩
  ·cases h
theorem itemF_suffix {sub : Option (List Int → Except Int (S159 × List Int))} {l r : List Int} {x : S159} (h : itemF sub l = .ok (x, r)) : ∃ k, r = l.drop k := by
 cases l with
 | nil => cases h
 | cons c rest =>
  simp only [itemF] at h
  split at h
  ·cases h; exact ⟨1, rfl⟩
  ·split at h
   ·obtain ⟨q, hb, h⟩ := bind_ok h
    obtain ⟨k, hk⟩ := bodyP_suffix (x := q.1) (y := q.2) hb
    split at h
    ·cases h
    ·cases h; exact ⟨k + 1, by rw [hk]; rfl⟩
   ·split at h
    ·cases h
    ·obtain ⟨q, hb, h⟩ := bind_ok h
     obtain ⟨k, hk⟩ := bodyP_suffix (x := q.1) (y := q.2) hb
     obtain ⟨xs, hx, h⟩ := bind_ok h
     cases h; exact ⟨k + 1, by rw [hk]; rfl⟩
theorem itemP_byt {lv : Nat} {l r : List Int} {x : S159} (hb : Byt l) (h : itemP lv l = .ok (x, r)) : Byt r := by
 have : ∃ k, r = l.drop k := by cases lv <;> exact itemF_suffix h
 obtain ⟨k, rfl⟩ := this
 exact hb.drop k
theorem items_step (lv : Nat) (l : List Int) (hl : 0 < l.length) :
 itemsP (itemP lv) l.length l = (itemP lv l).bind fun q => (itemsP (itemP lv) q.2.length q.2).bind fun xs => .ok (q.1 :: xs) := by
 cases l with
 | nil => simp at hl
 | cons c l =>
  simp only [List.length_cons, itemsP]
  cases hfl : itemP lv (c :: l) with
  | error e => rfl
  | ok q =>
   have h1 := itemP_len hfl
   simp only [List.length_cons] at h1
   simp only [Except.bind]
   rw [itemsP_mono (itemP lv) (fun _ _ _ h => itemP_len h) l.length q.2 (by omega)]
end Go.Proofs.Ytocphkfkdadhaaa.K
namespace Go.Proofs.Ytocphkfkdadhaaa.K
open Go.RowKit Go.Proofs.YtocphkfkdadhaaaW.PrintWords Go.Proofs.Ytocphkfkdadhaaa.PRF
theorem rd_nat (l : List Int) (i : Nat) (h : i < l.length) : rd l (i : Int) = l[i] := by
 simp [rd, List.getD_eq_getElem?_getD, List.getElem?_eq_getElem h]
theorem take_snoc (l : List Int) (i : Nat) (h : i < l.length) : l.take (i + 1) = l.take i ++ [l[i]] := by
 rw [List.take_succ_eq_append_getElem h]
theorem wrap64_in (n : Int) (h : -9223372036854775808 ≤ n ∧ n ≤ 9223372036854775807) : wrap64 n = n := by unfold wrap64; omega
theorem pow256_8 : (256 : Nat) ^ 8 = 18446744073709551616 := by decide
theorem pow256_7 : (256 : Nat) ^ 7 = 72057594037927936 := by decide
theorem pow256_le {a b : Nat} (h : a ≤ b) : 256 ^ a ≤ 256 ^ b := Nat.pow_le_pow_right (by omega) h
theorem num_small (l : List Int) (h : Byt l) (hl : l.length ≤ 8) : num l ≤ 18446744073709551615 := by
 have h1 := num_lt l h
 have h2 := pow256_le hl
 rw [pow256_8] at h2
 omega
theorem num_step (n c : Nat) (hn : n < 72057594037927936) (hc : c < 256) : Go.bits .or .u64 (IntKind.u64.wrap ((n : Int) * 256)) (IntKind.u64.wrap (c : Int)) = ((n * 256 + c : Nat) : Int) := by
 rw [IntWalk.u64_in _ (by omega), IntWalk.u64_in _ (by omega)]
 rw [show ((n : Int) * 256) = ((n * 256 : Nat) : Int) by omega, bits_or_u64_nat _ _ (by omega) (by omega)]
 congr 1
 have h2 := Nat.two_pow_add_eq_or_of_lt (i := 8) (b := c) (by omega) n
 rw [show (2 : Nat) ^ 8 = 256 from rfl, Nat.mul_comm] at h2
 exact h2.symm
theorem number_l0 (l : List Int) (hb : Byt l) (hl : l.length ≤ 8) : ∀ (d i : Nat), i + d = l.length → rlp_number.l0 (d + 1) (num (l.take i) : Nat) l (l.length : Int) (i : Int) = some (num l : Int)
 | 0, i, h => by
  simp only [rlp_number.l0]
  rw [if_neg (by omega), List.take_of_length_le (by omega)]
 | d + 1, i, h => by
  rw [rlp_number.l0]
  rw [if_pos (by omega), if_pos (by omega), if_pos (by omega), rd_nat l i (by omega), wrap64_in _ (by omega)]
  have h1 := hb l[i] (List.getElem_mem (by omega))
  obtain ⟨c, hc⟩ := Int.eq_ofNat_of_zero_le h1.1
  have h2 := num_lt (l.take i) (hb.take i)
  have h3 : (l.take i).length ≤ 7 := by rw [List.length_take]; omega
  have h4 := pow256_le h3
  rw [pow256_7] at h4
  have h5 : num (l.take (i + 1)) = num (l.take i) * 256 + c := by
   rw [take_snoc l i (by omega), num_snoc, hc]; rfl
  rw [hc, num_step _ c (by omega) (by omega), ← h5]
  exact number_l0 l hb hl d (i + 1) (by omega)
theorem number_f (l : List Int) (hb : Byt l) (hl : l.length ≤ 8) : ∃ k, rlp_number.f k l = some (num l : Int) :=
 ⟨l.length + 1, by have := number_l0 l hb hl l.length 0 (by omega); simpa [rlp_number.f, num] using this⟩
end Go.Proofs.Ytocphkfkdadhaaa.K
namespace Go.Proofs.Ytocphkfkdadhaaa.K
open Go.RowKit Go.Proofs.YtocphkfkdadhaaaW.PrintWords Go.Proofs.YtocphkfkdadhaaaW.PrintLast Go.Proofs.YtocphkfkdadhaaaW.PrintMore Go.Proofs.Ytocphkfkdadhaaa.PRF
attribute [local go_sem] max2_int min2_int max_two min_two max_three min_three max_four min_four
def BodyPost (A : Option Addr) (l : List Int) (r : Except Int (List Int × List Int)) (w : World) (e : Ending) (w' : World) : Prop :=
 Drawn0 w w' ∧ match r with
  | .ok q => ∃ A1 A2, e = .returned (.tuple #[.slice A1 q.1.length q.1.length, .slice A2 q.2.length q.2.length]) ∧ ∀ W, Kd.C (Kd.int .u8) W A l.length l → Kd.C (Kd.int .u8) W A1 q.1.length q.1 ∧ Kd.C (Kd.int .u8) W A2 q.2.length q.2
  | .error k => e = .panicked (wrongP k)
theorem cut_any (A : Option Addr) (c n : Nat) (l : List Int) (w : World) (hm : l.length ≤ 9223372036854775807) (hc : l.length ≤ c) (hn2 : n ≤ 18446744073709551615) :
 Calls Try.prog 169 #[.slice A l.length c, .int .u64 (n : Int)] w (BodyPost A l (cutP l n) w) := by
 unfold cutP
 by_cases h : n ≤ l.length
 ·rw [if_pos h]
  refine (cut_ok A c n l w hm hc h).mono fun e w' ⟨A1, A2, he, hd, h1⟩ => ⟨hd, A1, A2, ?_, fun W hW => ⟨?_, ?_⟩⟩
  ·simp only [List.length_take, List.length_drop, Nat.min_eq_left h]; exact he
  ·simp only [List.length_take, Nat.min_eq_left h]; exact (h1 W hW).1
  ·simp only [List.length_drop]; exact (h1 W hW).2
 ·rw [if_neg h]
  exact (cut_no A c l.length n w hm (by omega) hn2).mono fun e w' ⟨he, hw⟩ => ⟨⟨⟨0, by rw [← hw]; rfl⟩⟩, he⟩
theorem body_any (first from_ : Int) (f : Nat) (A : Option Addr) (c : Nat) (l : List Int) (w : World) (hf : first - from_ = (f : Int)) (h63 : f ≤ 63) (h0 : 0 ≤ from_) (h255 : first ≤ 255)
 (hr : Kd.C (Kd.int .u8) w A l.length l) (hc : l.length ≤ c) (hb : Byt l) :
 Calls Try.prog 163 #[.int .u8 first, .int .u8 from_, .slice A l.length c] w (BodyPost A l (bodyP f l) w) := by
 have HR := Aside0.mk hr
 have HC := Aside0.mk hc
 have HBy := Aside0.mk hb
 have hm := hr.2.1
 clear hr hc hb
 have hge : from_ ≤ first := by omega
 obtain ⟨res, hres⟩ : ∃ res, res = bodyP f l := ⟨_, rfl⟩
 rw [← hres]
 unfold bodyP at hres
 by_cases h55 : f ≤ 55
 ·rw [if_pos h55] at hres
  have HC1 := Aside0.mk (cut_any A c f l w hm HC.out (by omega))
  rw [← hres] at HC1
  clear hres
  go_enter Try.func163, Try.ntmps163
  go_wp2_with fail
  refine HC1.out.mono ?_
  rintro e w' ⟨hd, hp⟩
  cases res with
  | error k =>
   obtain rfl := hp
   exact ⟨rfl, hd, rfl⟩
  | ok q =>
   obtain ⟨A1, A2, rfl, h1⟩ := hp
   have H1 := Aside0.mk h1
   clear h1
   go_wp2
   go_ret2
   exact ⟨hd, A1, A2, rfl, H1.out⟩
 ·rw [if_neg h55] at hres
  have hk : ((f : Int) - 55) = ((f - 55 : Nat) : Int) := by omega
  obtain ⟨k, hk2⟩ : ∃ k, k = f - 55 := ⟨_, rfl⟩
  rw [← hk2] at hk hres
  have hk1 : 0 < k := by omega
  have hk8 : k ≤ 8 := by omega
  clear hk2
  by_cases hkl : k ≤ l.length
  ·rw [if_pos hkl] at hres
   have hx : (l.take k).length = k := by rw [List.length_take]; omega
   have hN := num_small (l.take k) (HBy.out.take k) (by omega)
   obtain ⟨kk, hkk⟩ := number_f (l.take k) (HBy.out.take k) (by omega)
   have HC1 := Aside0.mk (cut_any A c k l w hm HC.out (by omega))
   unfold cutP at HC1
   rw [if_pos hkl] at HC1
   have hm2 : (l.drop k).length ≤ 9223372036854775807 := by rw [List.length_drop]; omega
   generalize l.take k = x at *
   generalize l.drop k = y at *
   have HX := Aside0.mk hx
   have HK := Aside0.mk hkk
   have HRES := Aside0.mk hres
   clear hx hkk hres
   obtain ⟨N, hN2⟩ : ∃ N, N = num x := ⟨_, rfl⟩
   rw [← hN2] at HK HRES hN
   clear hN2
   go_enter Try.func163, Try.ntmps163
   go_wp2_with fail
   refine HC1.out.mono ?_
   rintro e w' ⟨hd, hp⟩
   obtain ⟨A1, A2, rfl, h12⟩ := hp
   obtain ⟨h1, h2⟩ := h12 _ HR.out
   have H12 := Aside0.mk h12
   clear h12
   obtain ⟨n, rfl⟩ := hd.out
   have H1 := Aside0.mk h1
   have H2 := Aside0.mk h2
   obtain ⟨ad, rfl, hcell⟩ := Kd.at_int h1 0 (by omega) (by have := HX.out; simp only; omega)
   clear h1 h2 hd
   obtain ⟨c0, hc0⟩ : ∃ c0, c0 = rd x 0 := ⟨_, rfl⟩
   rw [← hc0] at hcell
   have h0c : x.headD 0 = c0 := by rw [hc0]; cases x <;> rfl
   clear hc0
   rw [h0c] at HRES
   clear h0c
   simp only [Int.toNat_zero, Addr.add_zero'] at hcell
   have hxl : 0 < x.length := by have := HX.out; omega
   have hxc : x.length ≤ x.length := Nat.le_refl _
   by_cases hg : c0 = 0 ∨ N ≤ 55
   ·rw [if_pos hg] at HRES
    obtain rfl := HRES.out
    clear HRES
    by_cases hc0 : c0 = 0
    ·subst hc0
     go_wp2_with fail
     refine (rlp_number.calls kk _ _ x N _ (Kd.C_drewN H1.out n) (Nat.le_refl _) HK.out).mono ?_
     rintro e w' ⟨rfl, hd⟩
     obtain ⟨m, rfl⟩ := hd.out
     clear hd
     go_wp2_with fail
     refine (need_no 8 _).mono ?_
     rintro e w' ⟨rfl, rfl⟩
     exact ⟨rfl, by repeat (first | exact Drawn0.refl _ | apply Drawn0.step), rfl⟩
    ·have hb0 : (c0 != 0) = true := bne_iff_ne.2 hc0
     have hb1 : decide ((55 : Int) < (N : Int)) = false := decide_eq_false (by omega)
     have hb2 : decide (55 < N) = false := decide_eq_false (by omega)
     go_wp2_with fail
     refine (rlp_number.calls kk _ _ x N _ (Kd.C_drewN H1.out n) (Nat.le_refl _) HK.out).mono ?_
     rintro e w' ⟨rfl, hd⟩
     obtain ⟨m, rfl⟩ := hd.out
     clear hd
     go_wp2_with fail
     refine (need_no 8 _).mono ?_
     rintro e w' ⟨rfl, rfl⟩
     exact ⟨rfl, by repeat (first | exact Drawn0.refl _ | apply Drawn0.step), rfl⟩
   ·rw [if_neg hg] at HRES
    have hb0 : (c0 != 0) = true := bne_iff_ne.2 (fun h => hg (.inl h))
    have hb1 : decide ((55 : Int) < (N : Int)) = true := decide_eq_true (by omega)
    have hb2 : decide (55 < N) = true := decide_eq_true (by omega)
    clear hg
    go_wp2_with fail
    refine (rlp_number.calls kk _ _ x N _ (Kd.C_drewN H1.out n) (Nat.le_refl _) HK.out).mono ?_
    rintro e w' ⟨rfl, hd⟩
    obtain ⟨m, rfl⟩ := hd.out
    clear hd
    go_wp2_with fail
    refine (need_ok 8 _).mono ?_
    rintro e w' ⟨rfl, rfl⟩
    go_wp2_with fail
    refine (cut_any A2 _ N y _ hm2 (Nat.le_refl _) hN).mono ?_
    rintro e w' ⟨hd, hp⟩
    rw [← HRES.out] at hp
    obtain ⟨m2, rfl⟩ := hd.out
    clear hd
    cases res with
    | error k =>
     obtain rfl := hp
     exact ⟨rfl, by repeat (first | exact Drawn0.refl _ | apply Drawn0.step), rfl⟩
    | ok q =>
     obtain ⟨B1, B2, rfl, g1⟩ := hp
     have G1 := Aside0.mk g1
     clear g1
     go_wp2
     go_ret2
     refine ⟨by repeat (first | exact Drawn0.refl _ | apply Drawn0.step), B1, B2, rfl, fun W hW => G1.out W (H12.out W hW).2⟩
  ·rw [if_neg hkl] at hres
   subst hres
   go_enter Try.func163, Try.ntmps163
   go_wp2_with fail
   refine (cut_any A c k l _ hm HC.out (by omega)).mono ?_
   rintro e w' ⟨hd, hp⟩
   unfold cutP at hp
   rw [if_neg hkl] at hp
   obtain rfl := hp
   exact ⟨rfl, hd, rfl⟩
theorem tail_cut {A : Option Addr} {n c : Nat} {l : List Int} (hl : l.length = n) (h1 : 1 ≤ n) (hc : n ≤ c) :
 ∃ A', (∀ W : World, (Instr.slice 74 (.slice A n c) (some (.int .i64 1)) (some (.int .i64 (n : Int))) (some (.int .i64 (n : Int)))).run Try.prog W = .ok (.slice A' (n - 1) (n - 1)) W) ∧ ∀ W, Kd.C (Kd.int .u8) W A n l → Kd.C (Kd.int .u8) W A' (n - 1) (l.drop 1) := by
 subst hl
 obtain ⟨i, hi, hz⟩ := Option.map_eq_some_iff.1 info5
 simp only [Prod.mk.injEq] at hz
 have hel : Try.prog.elem 74 = 5 := by simp [Program.elem, Try.underlying74]
 have hu : Try.prog.underlying 74 = some (.slice (Try.prog.elem 74)) := by rw [hel]; exact Try.underlying74
 refine ⟨if l.length = 1 then A else A.map (·.add 1), fun W => ?_, fun W h => ?_⟩
 ·rw [run_slice_lhm W 74 A l.length c hu .i64 .i64 .i64 1 l.length l.length (by omega) (by omega) (by omega) (by omega), hel]
  simp [sizeOf, typeInfo, hi, hz.2.1, sliced, Result.andThen]
 ·have h2 := Kd.C_drop (c := l.length) h h1 (Nat.le_refl _)
  rw [show (Kd.int IntKind.u8).sz = 1 from rfl, Nat.mul_one, List.length_drop] at h2
  exact h2
def ItemPost (A0 : Option Addr) (l : List Int) (r : Except Int (S159 × List Int)) (w : World) (e : Ending) (w' : World) : Prop :=
 Below w.heap.size w w' ∧ match r with
  | .ok q => ∃ v1 v2 A, e = .returned (.tuple #[.agg #[.bool q.1.f0, v1, v2], .slice A q.2.length q.2.length]) ∧
   Kd.R (Kd.int .u8) 5 w' w.heap.size (fun _ => True) v1 q.1.f1 ∧ Kd.R k159 159 w' w.heap.size (fun _ => True) v2 q.1.f2 ∧ (∀ W, Kd.C (Kd.int .u8) W A0 l.length l → Kd.C (Kd.int .u8) W A q.2.length q.2)
  | .error k => e = .panicked (wrongP k)
theorem item_empty (A : Option Addr) (c : Nat) (lv : Nat) (w : World) :
 Calls Try.prog 145 #[.slice A 0 c, .int .i64 (lv : Int)] w fun e w' => e = .panicked (wrongP 7) ∧ Below w.heap.size w w' := by
 have HB := Aside0.mk (Below.refl w.heap.size w)
 go_enter Try.func145, Try.ntmps145
 go_wp2_with (first | ((with_reducible refine gate_dst (N := 4) rfl ?_); refine alloc_ev rfl (N := 4) rfl (cs := #[.bool false, .slice none 0 0, .slice none 0 0]) (t := 159) HB ?hr ?_; (case hr => first | (go_simp; done) | (go_simp; rfl)); intro g4 w1 HG HGe HE HB1))
 refine (need_no 7 _).mono ?_
 rintro e w' ⟨rfl, rfl⟩
 exact ⟨rfl, rfl, HB1.out⟩
theorem item_byte (A : Option Addr) (c n lv : Nat) (c0 : Int) (rest : List Int) (w : World) (hr : Kd.C (Kd.int .u8) w A n (c0 :: rest)) (hc : n ≤ c) (hlt : c0 < 128) :
 Calls Try.prog 145 #[.slice A n c, .int .i64 (lv : Int)] w (ItemPost A (c0 :: rest) (.ok (⟨false, [c0], []⟩, rest)) w) := by
 have HB := Aside0.mk (Below.refl w.heap.size w)
 have HR := Aside0.mk hr
 have hn : 0 < n := by have := hr.1; simp at this; omega
 have hm : n ≤ 9223372036854775807 := hr.2.1
 obtain ⟨ad, rfl, hcell⟩ := Kd.at_int hr 0 (by omega) (by omega)
 obtain ⟨A', hcut, hC'⟩ := tail_cut (A := some ad) hr.1 (by omega) hc
 have HC' := Aside0.mk hC'
 clear hr hC'
 simp only [Int.toNat_zero, Addr.add_zero', rd, List.getD_cons_zero] at hcell
 have hcw : ∀ w1, Below w.heap.size w w1 → w1.cell? ad = some (.int .u8 c0) := fun w1 hb => pw_cell_below hb hcell
 have HCW := Aside0.mk hcw
 clear hcw
 have hd : decide (c0 < 128) = true := decide_eq_true hlt
 go_enter Try.func145, Try.ntmps145
 go_wp2_with (first | ((with_reducible refine gate_dst (N := 4) rfl ?_); refine alloc_ev rfl (N := 4) rfl (cs := #[.bool false, .slice none 0 0, .slice none 0 0]) (t := 159) HB ?hr ?_; (case hr => first | (go_simp; done) | (go_simp; rfl)); intro g4 w1 HG HGe HE HB1; have hcw1 := HCW.out w1 HB1.out))
 refine (need_ok 7 _).mono ?_
 rintro e w' ⟨rfl, rfl⟩
 go_wp2_with (first | ((with_reducible refine gate_dst (N := 29) rfl ?_); refine lit_bytes rfl (N := 29) rfl [c0] HB1 (by simp) ?hr ?_; (case hr => first | (go_simp; done) | (go_simp; rfl)); intro A1 c1 w2 HV HE2 HB2; have HG2 := Aside0.mk (blk_below HG.out HE2.out); have hcf := cf3 HG2))
 have hg0 : w.heap.size ≤ g4 := Nat.le_of_eq HGe.out
 refine bodyPost_ret (results_ct rfl _ _ g4 159 #[.bool false, .slice A1 [c0].length c1, .slice none 0 0] (0, 0) _ rfl (put3 HG2.out) Try.underlying159 rfl (by kernel_rfl)) rfl ?_
 have hn1 : n - 1 = rest.length := by have hl := HR.out.1; simp only [List.length_cons] at hl; omega
 refine ⟨below3 HB2.out hg0, .slice A1 1 c1, .slice none 0 0, A', ?_, ?_, Kd.R_nil _ _ _ _ _, ?_⟩
 ·show Ending.returned (.tuple #[.agg #[.bool false, .slice A1 1 c1, .slice none 0 0], .slice A' (n - 1) (n - 1)]) = _
  rw [hn1]
 ·exact Kd.R_lower (Kd.R_mono (Kd.R_keep (Kd.R_newB HV.out HG.out) keep3 (fun k hk => hk.2)) (fun _ _ => trivial)) (below_size HB1.out)
 ·intro W hW; rw [← hn1]; rw [HR.out.1] at hW; exact HC'.out W hW
def strF (q : List Int × List Int) : Except Int (S159 × List Int) := if q.1.length = 1 ∧ q.1.headD 0 < 128 then .error 8 else .ok (⟨false, q.1, []⟩, q.2)
theorem item_str (A : Option Addr) (c n lv : Nat) (c0 : Int) (rest : List Int) (w : World) (hr : Kd.C (Kd.int .u8) w A n (c0 :: rest)) (hc : n ≤ c) (hlo : 128 ≤ c0) (hlt : c0 < 192) (hb : Byt rest) (hn65 : n ≤ 65536) :
 Calls Try.prog 145 #[.slice A n c, .int .i64 (lv : Int)] w (ItemPost A (c0 :: rest) ((bodyP (c0 - 128).toNat rest).bind strF) w) := by
 have HB := Aside0.mk (Below.refl w.heap.size w)
 have HR := Aside0.mk hr
 have hn : 0 < n := by have := hr.1; simp at this; omega
 have hm : n ≤ 9223372036854775807 := hr.2.1
 have hn1 : rest.length = n - 1 := by have hl := hr.1; simp only [List.length_cons] at hl; omega
 obtain ⟨ad, rfl, hcell⟩ := Kd.at_int hr 0 (by omega) (by omega)
 obtain ⟨A', hcut, hC0⟩ := tail_cut (A := some ad) hr.1 (by omega) hc
 have HC0 := Aside0.mk hC0
 have hC' := hC0 _ hr
 have HC' := Aside0.mk hC'
 simp only [List.drop_succ_cons, List.drop_zero] at HC' HC0
 clear hr hC' hC0
 simp only [Int.toNat_zero, Addr.add_zero', rd, List.getD_cons_zero] at hcell
 have hcw : ∀ w1, Below w.heap.size w w1 → w1.cell? ad = some (.int .u8 c0) := fun w1 hb => pw_cell_below hb hcell
 have HCW := Aside0.mk hcw
 clear hcw
 have hd : decide (c0 < 128) = false := decide_eq_false (by omega)
 have hd2 : decide (c0 < 192) = true := decide_eq_true (by omega)
 obtain ⟨r, hrr⟩ : ∃ r, r = bodyP (c0 - 128).toNat rest := ⟨_, rfl⟩
 have HBD := Aside0.mk (fun (W : World) (hbe : Below w.heap.size w W) => body_any c0 128 (c0 - 128).toNat A' (n - 1) rest W (by omega) (by omega) (by omega) (by omega) (by rw [hn1]; exact Kd.C_below HC'.out hbe) (by omega) hb)
 rw [hn1] at HBD
 rw [← hrr] at HBD ⊢
 obtain ⟨res, hres⟩ : ∃ res, res = r.bind strF := ⟨_, rfl⟩
 rw [← hres]
 have HRES := Aside0.mk hres
 have HRR := Aside0.mk hrr
 have HN1 := Aside0.mk hn1
 clear hrr hn1 hb hres
 go_enter Try.func145, Try.ntmps145
 go_wp2_with (first | ((with_reducible refine gate_dst (N := 4) rfl ?_); refine alloc_ev rfl (N := 4) rfl (cs := #[.bool false, .slice none 0 0, .slice none 0 0]) (t := 159) HB ?hr ?_; (case hr => first | (go_simp; done) | (go_simp; rfl)); intro g4 w1 HG HGe HE HB1; have hcw1 := HCW.out w1 HB1.out))
 refine (need_ok 7 _).mono ?_
 rintro e w' ⟨rfl, rfl⟩
 go_wp2_with fail
 refine (HBD.out _ HB1.out).mono ?_
 rintro e w' ⟨hdr, hp⟩
 obtain ⟨m, rfl⟩ := hdr.out
 clear hdr
 cases r with
 | error k =>
  obtain rfl := hp
  obtain rfl : res = .error k := HRES.out
  exact ⟨rfl, pw_below_drewN HB1.out m, rfl⟩
 | ok q =>
  obtain ⟨inner, left⟩ := q
  obtain ⟨A1, A2, rfl, hc12⟩ := hp
  obtain ⟨hc1, hc2⟩ := hc12 _ (by rw [HN1.out]; exact HC'.out)
  have HC12 := Aside0.mk hc12
  clear hc12
  simp only [Except.bind, strF] at HRES hc1 hc2
  have HC1 := Aside0.mk hc1
  have HC2 := Aside0.mk hc2
  have hil : inner.length ≤ 65536 := by have := bodyP_len HRR.out.symm; have := HN1.out; omega
  by_cases h1 : inner.length = 1
  ·obtain ⟨ad1, rfl, hcell0⟩ := Kd.at_int hc1 0 (by omega) (by omega)
   obtain ⟨i0, rfl⟩ : ∃ i0, inner = [i0] := by
    match inner, h1 with
    | [i0], _ => exact ⟨i0, rfl⟩
   simp only [Int.toNat_zero, Addr.add_zero', rd, List.getD_cons_zero] at hcell0
   have hcell1 := pw_cell_below HB1.out hcell0
   clear hc1 hc2 h1
   by_cases hi0 : i0 < 128
   ·have hd3 : decide (128 ≤ i0) = false := decide_eq_false (by omega)
    obtain rfl : res = .error 8 := by rw [HRES.out, if_pos ⟨rfl, by simpa using hi0⟩]
    go_wp2_with fail
    refine (need_no 8 _).mono ?_
    rintro e w' ⟨rfl, rfl⟩
    exact ⟨rfl, pw_below_drewN HB1.out m, rfl⟩
   ·have hd3 : decide (128 ≤ i0) = true := decide_eq_true (by omega)
    obtain rfl : res = .ok (⟨false, [i0], []⟩, left) := by rw [HRES.out, if_neg (fun h => hi0 (by simpa using h.2))]
    go_wp2_with fail
    refine (need_ok 8 _).mono ?_
    rintro e w' ⟨rfl, rfl⟩
    go_wp2_with fail
    refine (clone_calls (some ad1) 1 [i0] (w1.drewN m) (Kd.C_below HC1.out (pw_below_drewN HB1.out m)) (Nat.le_refl _) (by (try simp only [List.length_singleton] at *); omega)).mono ?_
    rintro e w3 ⟨v, rfl, hV, hE3⟩
    obtain ⟨A3, c3, rfl⟩ := Kd.R_slice hV
    have HV := Aside0.mk hV
    have HE3 := Aside0.mk hE3
    have HG3 := Aside0.mk (blk_below (w := w1.drewN m) HG.out hE3)
    have HB3 := Aside0.mk (below_step (pw_below_drewN HB1.out m) hE3)
    have hcf := cf3 HG3
    clear hV hE3
    go_wp2
    have hg0 : w.heap.size ≤ g4 := Nat.le_of_eq HGe.out
    refine bodyPost_ret (results_ct rfl _ _ g4 159 #[.bool false, .slice A3 [i0].length c3, .slice none 0 0] (0, 0) _ rfl (put3 HG3.out) Try.underlying159 rfl (by kernel_rfl)) rfl ?_
    refine ⟨below3 HB3.out hg0, .slice A3 [i0].length c3, .slice none 0 0, A2, rfl, ?_, Kd.R_nil _ _ _ _ _, ?_⟩
    ·exact Kd.R_lower (Kd.R_mono (Kd.R_keep (Kd.R_newB (w := w1.drewN m) HV.out HG.out) keep3 (fun k hk => hk.2)) (fun _ _ => trivial)) (below_size (pw_below_drewN HB1.out m))
    ·intro W hW; rw [HR.out.1] at hW; exact (HC12.out W (by rw [HN1.out]; exact HC0.out W hW)).2
  ·have h1b : ((inner.length : Int) == 1) = false := beq_eq_false_iff_ne.2 (by omega)
   obtain rfl : res = .ok (⟨false, inner, []⟩, left) := by rw [HRES.out, if_neg (fun h => h1 h.1)]
   have h1c : ((inner.length : Int) != 1) = true := by rw [bne_iff_ne]; omega
   clear hc1 hc2
   go_wp2_with fail
   refine (need_ok 8 _).mono ?_
   rintro e w' ⟨rfl, rfl⟩
   go_wp2_with fail
   refine (clone_calls A1 inner.length inner (w1.drewN m) (Kd.C_below HC1.out (pw_below_drewN HB1.out m)) (Nat.le_refl _) (by (try simp only [List.length_singleton] at *); omega)).mono ?_
   rintro e w3 ⟨v, rfl, hV, hE3⟩
   obtain ⟨A3, c3, rfl⟩ := Kd.R_slice hV
   have HV := Aside0.mk hV
   have HE3 := Aside0.mk hE3
   have HG3 := Aside0.mk (blk_below (w := w1.drewN m) HG.out hE3)
   have HB3 := Aside0.mk (below_step (pw_below_drewN HB1.out m) hE3)
   have hcf := cf3 HG3
   clear hV hE3
   go_wp2
   have hg0 : w.heap.size ≤ g4 := Nat.le_of_eq HGe.out
   refine bodyPost_ret (results_ct rfl _ _ g4 159 #[.bool false, .slice A3 inner.length c3, .slice none 0 0] (0, 0) _ rfl (put3 HG3.out) Try.underlying159 rfl (by kernel_rfl)) rfl ?_
   refine ⟨below3 HB3.out hg0, .slice A3 inner.length c3, .slice none 0 0, A2, rfl, ?_, Kd.R_nil _ _ _ _ _, ?_⟩
   ·exact Kd.R_lower (Kd.R_mono (Kd.R_keep (Kd.R_newB (w := w1.drewN m) HV.out HG.out) keep3 (fun k hk => hk.2)) (fun _ _ => trivial)) (below_size (pw_below_drewN HB1.out m))
   ·intro W hW; rw [HR.out.1] at hW; exact (HC12.out W (by rw [HN1.out]; exact HC0.out W hW)).2
section
variable {ops : Array Oper} {rest : List Oper} {o : Oper} {a : Act} {Q : Exit → Act → World → Prop}
theorem app_item {w0 W : World} (hgd : o.guard = none) (s x : Operand)
 (ho : o.op = .call { callee := .builtin .append, args := #[s, x], argTypes := #[157, 157] })
 (v : Value) (xs : List S159) (y : S159) (v1 v2 : Value) (ok okp : Nat → Prop) (hs : a.eval s = v) {B : Nat} (hx : a.eval x = .slice (some ⟨B, 0, none⟩) 1 1) (hB : W.heap.size = B)
 (h1 : Kd.R (Kd.int .u8) 5 W w0.heap.size okp v1 y.f1) (h2 : Kd.R k159 159 W w0.heap.size okp v2 y.f2)
 (HB : Aside0 (Below w0.heap.size w0 W)) (HO : Kd.R k159 159 W w0.heap.size ok v xs) (hokp : ∀ k, okp k → ok k ∧ some k ≠ v.ownBlock) (hfresh : ∀ k, W.heap.size ≤ k → ok k)
 (hl : xs.length ≤ 70000)
 (h : ∀ A1 c1 w1, Aside0 (Kd.R k159 159 w1 w0.heap.size ok (.slice A1 (xs ++ [y]).length c1) (xs ++ [y])) → Aside0 (Below w0.heap.size w0 w1) → Aside0 (W.grownBy w1 v.ownBlock) → wpList Try.prog ops Q rest (a.put o.dst (.slice A1 (xs ++ [y]).length c1)) w1) :
 wpList Try.prog ops Q (o :: rest) a (W.alloc (.cells #[.bool y.f0, v1, v2] 159)) :=
 Kd.R_append k159 (w0 := w0) (W := W) w0.heap.size hgd s x 157 159 (.agg #[.bool false, .slice none 0 0, .slice none 0 0]) 56 ho Try.underlying157 info159 rfl (by decide) (by omega) v xs y [.bool y.f0, v1, v2] ok okp hs (by rw [hB]; exact hx) (k159_mkM W w0.heap.size okp y h1 h2) hokp hfresh HO HB.out (below_size HB.out) (by omega)
  fun v1 w1 h1 h2 h3 _ => by
   obtain ⟨A1, c1, rfl⟩ := Kd.R_slice h1
   exact h A1 c1 w1 ⟨h1⟩ ⟨h2⟩ ⟨h3⟩
end
theorem R_keep3 {α : Type} {d : Kd α} {e b : Nat} {w2 w3 : World} {ok : Nat → Prop} {v : Value} {xs : List α} {g : Nat} {o : Obj} {x y z : Value} (h : d.R e w3 w2.heap.size ok v xs) (hg : w2.heap[g]? = some o) (hle : b ≤ w2.heap.size) :
 d.R e (((w3.setCell ⟨g, 0, none⟩ x).setCell ⟨g, 1, none⟩ y).setCell ⟨g, 2, none⟩ z) b (fun k => w2.heap.size ≤ k) v xs :=
 Kd.R_lower (Kd.R_mono (Kd.R_bound (Kd.R_keep (Kd.R_newB h hg) keep3 (fun k hk => hk.2))) (fun k hk => hk.2.1)) hle
theorem bodyP_byt {f : Nat} {b x y : List Int} (hb : Byt b) (h : bodyP f b = .ok (x, y)) : Byt x := by
 unfold bodyP at h
 split at h
 ·obtain ⟨h1, rfl, rfl⟩ := cutP_ok h
  exact hb.take _
 ·split at h
  ·split at h
   ·cases h
   ·obtain ⟨h1, rfl, rfl⟩ := cutP_ok h
    exact (hb.drop _).take _
  ·cases h
def listF (f : List Int → Except Int (S159 × List Int)) (q : List Int × List Int) : Except Int (S159 × List Int) := (itemsP f q.1.length q.1).bind fun xs => .ok (⟨true, [], xs⟩, q.2)
theorem item_deep (A : Option Addr) (c n : Nat) (c0 : Int) (rest : List Int) (w : World) (hr : Kd.C (Kd.int .u8) w A n (c0 :: rest)) (hc : n ≤ c) (hlo : 192 ≤ c0) :
 Calls Try.prog 145 #[.slice A n c, .int .i64 0] w (ItemPost A (c0 :: rest) (.error 8) w) := by
 have HB := Aside0.mk (Below.refl w.heap.size w)
 have HR := Aside0.mk hr
 have hn : 0 < n := by have := hr.1; simp at this; omega
 have hm : n ≤ 9223372036854775807 := hr.2.1
 obtain ⟨ad, rfl, hcell⟩ := Kd.at_int hr 0 (by omega) (by omega)
 obtain ⟨A', hcut, hC0⟩ := tail_cut (A := some ad) hr.1 (by omega) hc
 clear hr hC0
 simp only [Int.toNat_zero, Addr.add_zero', rd, List.getD_cons_zero] at hcell
 have hcw : ∀ w1, Below w.heap.size w w1 → w1.cell? ad = some (.int .u8 c0) := fun w1 hb => pw_cell_below hb hcell
 have HCW := Aside0.mk hcw
 clear hcw
 have hd : decide (c0 < 128) = false := decide_eq_false (by omega)
 have hd2 : decide (c0 < 192) = false := decide_eq_false (by omega)
 go_enter Try.func145, Try.ntmps145
 go_wp2_with (first | ((with_reducible refine gate_dst (N := 4) rfl ?_); refine alloc_ev rfl (N := 4) rfl (cs := #[.bool false, .slice none 0 0, .slice none 0 0]) (t := 159) HB ?hr ?_; (case hr => first | (go_simp; done) | (go_simp; rfl)); intro g4 w1 HG HGe HE HB1; have hcw1 := HCW.out w1 HB1.out))
 refine (need_ok 7 _).mono ?_
 rintro e w' ⟨rfl, rfl⟩
 go_wp2_with fail
 refine (need_no 8 _).mono ?_
 rintro e w' ⟨rfl, rfl⟩
 exact ⟨rfl, HB1.out, rfl⟩
theorem item_list (A : Option Addr) (c n lv : Nat) (c0 : Int) (rest : List Int) (w : World) (hr : Kd.C (Kd.int .u8) w A n (c0 :: rest)) (hc : n ≤ c) (hlo : 192 ≤ c0) (h255 : c0 ≤ 255) (hb : Byt rest) (hn65 : n ≤ 65536) (hlv : lv ≤ 15)
 (ih : ∀ (A : Option Addr) (l : List Int) (w : World), Kd.C (Kd.int .u8) w A l.length l → Byt l → l.length ≤ 65536 → Calls Try.prog 145 #[.slice A l.length l.length, .int .i64 (lv : Int)] w (ItemPost A l (itemP lv l) w)) :
 Calls Try.prog 145 #[.slice A n c, .int .i64 ((lv : Int) + 1)] w (ItemPost A (c0 :: rest) ((bodyP (c0 - 192).toNat rest).bind (listF (itemP lv))) w) := by
 have IH := Aside0.mk ih
 clear ih
 have HB := Aside0.mk (Below.refl w.heap.size w)
 have HR := Aside0.mk hr
 have hn : 0 < n := by have := hr.1; simp at this; omega
 have hm : n ≤ 9223372036854775807 := hr.2.1
 have hn1 : rest.length = n - 1 := by have hl := hr.1; simp only [List.length_cons] at hl; omega
 obtain ⟨ad, rfl, hcell⟩ := Kd.at_int hr 0 (by omega) (by omega)
 obtain ⟨A', hcut, hC0⟩ := tail_cut (A := some ad) hr.1 (by omega) hc
 have HC0 := Aside0.mk hC0
 have hC' := hC0 _ hr
 have HC' := Aside0.mk hC'
 simp only [List.drop_succ_cons, List.drop_zero] at HC' HC0
 clear hr hC' hC0
 simp only [Int.toNat_zero, Addr.add_zero', rd, List.getD_cons_zero] at hcell
 have hcw : ∀ w1, Below w.heap.size w w1 → w1.cell? ad = some (.int .u8 c0) := fun w1 hb => pw_cell_below hb hcell
 have HCW := Aside0.mk hcw
 clear hcw
 have hd : decide (c0 < 128) = false := decide_eq_false (by omega)
 have hd2 : decide (c0 < 192) = false := decide_eq_false (by omega)
 obtain ⟨r, hrr⟩ : ∃ r, r = bodyP (c0 - 192).toNat rest := ⟨_, rfl⟩
 have HBD := Aside0.mk (fun (W : World) (hbe : Below w.heap.size w W) => body_any c0 192 (c0 - 192).toNat A' (n - 1) rest W (by omega) (by omega) (by omega) (by omega) (by rw [hn1]; exact Kd.C_below HC'.out hbe) (by omega) hb)
 rw [hn1] at HBD
 rw [← hrr] at HBD ⊢
 obtain ⟨res, hres⟩ : ∃ res, res = r.bind (listF (itemP lv)) := ⟨_, rfl⟩
 rw [← hres]
 have HRES := Aside0.mk hres
 have HRR := Aside0.mk hrr
 have HN1 := Aside0.mk hn1
 have HBy := Aside0.mk hb
 clear hrr hn1 hb hres
 have hlp : decide ((0 : Int) < (lv : Int) + 1) = true := decide_eq_true (by omega)
 go_enter Try.func145, Try.ntmps145
 go_wp2_with (first | ((with_reducible refine gate_dst (N := 4) rfl ?_); refine alloc_ev rfl (N := 4) rfl (cs := #[.bool false, .slice none 0 0, .slice none 0 0]) (t := 159) HB ?hr ?_; (case hr => first | (go_simp; done) | (go_simp; rfl)); intro g4 w1 HG HGe HE HB1; have hcw1 := HCW.out w1 HB1.out))
 refine (need_ok 7 _).mono ?_
 rintro e w' ⟨rfl, rfl⟩
 go_wp2_with fail
 refine (need_ok 8 _).mono ?_
 rintro e w' ⟨rfl, rfl⟩
 go_wp2_with fail
 refine (HBD.out _ HB1.out).mono ?_
 rintro e w' ⟨hdr, hp⟩
 obtain ⟨m, rfl⟩ := hdr.out
 clear hdr
 cases r with
 | error k =>
  obtain rfl := hp
  obtain rfl : res = .error k := HRES.out
  exact ⟨rfl, pw_below_drewN HB1.out m, rfl⟩
 | ok q =>
  obtain ⟨inner, left⟩ := q
  obtain ⟨A1, A2, rfl, hc12⟩ := hp
  have HC12 := Aside0.mk hc12
  clear hc12
  simp only [Except.bind, listF] at HRES HC12
  have hcf := cf3 HG
  go_wp2_with fail
  have hg0 : w.heap.size ≤ g4 := Nat.le_of_eq HGe.out
  have hg1 : g4 < w1.heap.size := blk_lt HG.out
  have hil : inner.length ≤ 65535 := by have := bodyP_len HRR.out.symm; have := HN1.out; omega
  have hC1 := (HC12.out w (by rw [HN1.out]; exact HC'.out)).1
  have hBi : Byt inner := bodyP_byt HBy.out HRR.out.symm
  go_loopw [10] (fun v10 wr => ∃ (done : List S159) (l' : List Int) (A' : Option Addr) (v2 : Value), v10 = .slice A' l'.length l'.length ∧ Aside0 (wr.heap[g4]? = some (.cells #[.bool true, .slice none 0 0, v2] 159 (0, 0))) ∧
   Aside0 (Kd.R k159 159 wr w.heap.size (fun k => k ≠ g4) v2 done) ∧ Aside0 (Kd.C (Kd.int .u8) w A' l'.length l') ∧ Aside0 (Below w.heap.size w wr) ∧ Aside0 (Byt l') ∧ Aside0 (done.length + l'.length ≤ 65535) ∧
   Aside0 (itemsP (itemP lv) inner.length inner = (itemsP (itemP lv) l'.length l').bind fun xs => .ok (done ++ xs)))
   (fun v10 _ => match v10 with | .slice _ k _ => k | _ => 0)
  case atStart =>
   refine ⟨[], inner, A1, .slice none 0 0, rfl, ⟨?_⟩, ⟨Kd.R_nil _ _ _ _ _⟩, ⟨hC1⟩, ⟨below_set (pw_below_drewN HB1.out m) hg0⟩, ⟨hBi⟩, ⟨by show 0 + inner.length ≤ 65535; omega⟩, ⟨?_⟩⟩
   ·exact blk_put (w := w1.drewN m) HG.out 0 _ rfl
   ·cases itemsP (itemP lv) inner.length inner <;> rfl
  case round =>
   clear hC1 hBi hcf
   obtain ⟨done, l', A3, v2, rfl, HG4, HO, HC3, HBr, HBy3, HL, HI⟩ := hrel
   by_cases hl0 : 0 < l'.length
   ·have hlt : decide (0 < l'.length) = true := decide_eq_true hl0
    go_wp2_with (first | ((with_reducible refine gate_dst (N := 11) rfl ?_); refine alloc_ev rfl (N := 11) rfl (cs := #[.bool false, .slice none 0 0, .slice none 0 0]) (t := 159) HBr ?hr ?_; (case hr => first | (go_simp; done) | (go_simp; rfl)); intro g11 w2 HG11 HGe11 HE2 HB2))
    have HS := Aside0.mk (items_step lv l' hl0)
    refine (IH.out A3 l' w2 (Kd.C_below HC3.out HB2.out) HBy3.out (by have := HL.out; omega)).mono ?_
    rintro e w3 ⟨hbe, hp⟩
    generalize hit : itemP lv l' = r1 at hp HS
    cases r1 with
    | error k =>
     obtain rfl := hp
     obtain rfl : res = .error k := by rw [HRES.out, HI.out, HS.out]; rfl
     exact ⟨rfl, below_step HB2.out hbe, rfl⟩
    | ok q2 =>
     obtain ⟨x, l2⟩ := q2
     obtain ⟨b1, b2, A4, rfl, hR1, hR2, hC4⟩ := hp
     have hlen := itemP_len hit
     obtain ⟨Ab1, cb1, rfl⟩ := Kd.R_slice hR1
     obtain ⟨Ab2, cb2, rfl⟩ := Kd.R_slice hR2
     have HR1 := Aside0.mk hR1
     have HR2 := Aside0.mk hR2
     have HC4 := Aside0.mk hC4
     have HBe := Aside0.mk hbe
     have HIt := Aside0.mk hit
     obtain ⟨A5, c5, rfl⟩ := Kd.R_slice HO.out
     have HG11b := Aside0.mk (blk_below HG11.out hbe)
     have HG4b := Aside0.mk (blk_below (blk_below HG4.out HE2.out) hbe)
     have hcf11 := cf3 HG11b
     have hcf4 := cf3 HG4b
     clear hR1 hR2 hC4 hbe hit
     have hne1 : ¬ g4 = g11 := by have := blk_lt HG4.out; have := HGe11.out; omega
     have hne2 : ¬ g11 = g4 := fun h => hne1 h.symm
     have hge1 : w.heap.size ≤ g11 := by have := HGe11.out; have := HBr.out.size; omega
     have hw2 : g11 < w2.heap.size := blk_lt HG11.out
     have K1 := Aside0.mk (fun (x1 y1 z1 : Value) => R_keep3 (x := x1) (y := y1) (z := z1) HR1.out HG11.out HB2.out.size)
     have K2 := Aside0.mk (fun (x1 y1 z1 : Value) => R_keep3 (x := x1) (y := y1) (z := z1) HR2.out HG11.out HB2.out.size)
     have K3 := Aside0.mk (fun (x1 y1 z1 : Value) => below3 (x := x1) (y := y1) (z := z1) (below_step HB2.out HBe.out) hge1)
     have K4 := Aside0.mk (fun (x1 y1 z1 : Value) => Kd.R_below HO.out (below3 (x := x1) (y := y1) (z := z1) (below_step HE2.out HBe.out) (Nat.le_of_eq HGe11.out)))
     have K5 : Aside0 (∀ k, w2.heap.size ≤ k → k ≠ g4 ∧ some k ≠ (Value.slice A5 done.length c5).ownBlock) := ⟨fun k hk => ⟨by have := HGe11.out; have := blk_lt HG4.out; omega, fun he => by have := Kd.R_lt HO.out k he.symm; have := HGe11.out; omega⟩⟩
     have K6 : Aside0 (∀ (x1 y1 z1 : Value), (((w3.setCell ⟨g11, 0, none⟩ x1).setCell ⟨g11, 1, none⟩ y1).setCell ⟨g11, 2, none⟩ z1).heap[g4]? = some (.cells #[.bool true, .slice none 0 0, .slice A5 done.length c5] 159 (0, 0))) :=
      ⟨fun x1 y1 z1 => ((keep3 (x := x1) (y := y1) (z := z1)).2 g4 (blk_lt HG4b.out) hne1 (by simp)).trans HG4b.out⟩
     go_wp2_with (first | ((with_reducible refine gate_builtin (b := .append) (xs := #[.tmp 76, .tmp 78]) rfl ?_); refine app_item (w0 := w) rfl (.tmp 76) (.tmp 78) rfl (.slice A5 done.length c5) done x (.slice Ab1 x.f1.length cb1) (.slice Ab2 x.f2.length cb2) (fun k => k ≠ g4) (fun k => w2.heap.size ≤ k) rfl rfl (by simp) (K1.out _ _ _) (K2.out _ _ _) ⟨K3.out _ _ _⟩ (Kd.R_mono (K4.out _ _ _) (fun _ h => h)) K5.out (fun k hk => by have := blk_lt (K6.out (.bool x.f0) (.slice Ab1 x.f1.length cb1) (.slice Ab2 x.f2.length cb2)); omega) (by have := HL.out; omega) ?_; intro A6 c6 w5 HO5 HB5 hg5; have HG5 := Aside0.mk (blk_grown (K6.out _ _ _) hg5.out (fun he => HO.out.1 g4 he.symm rfl)); have hcf5 := cf3 HG5))
     go_roundw
     case rel =>
      refine ⟨done ++ [x], l2, A4, .slice A6 (done ++ [x]).length c6, rfl, ⟨?_⟩, ⟨?_⟩, ⟨HC4.out w HC3.out⟩, ⟨?_⟩, ⟨itemP_byt HBy3.out HIt.out⟩, ⟨?_⟩, ⟨?_⟩⟩
      ·have := blk_put HG5.out 2 (.slice A6 (done ++ [x]).length c6) (cs' := #[.bool true, .slice none 0 0, .slice A6 (done ++ [x]).length c6]) rfl
       simpa using this
      ·have := Kd.R_far (p := ⟨g4, 2, none⟩) HO5.out (fun k hk => hk) (.slice A6 (done ++ [x]).length c6)
       simpa using this
      ·exact below_set HB5.out hg0
      ·have := HL.out; simp only [List.length_append, List.length_singleton]; omega
      ·rw [HI.out, HS.out]
       simp only [Except.bind]
       cases itemsP (itemP lv) l2.length l2 with
       | error e => rfl
       | ok xs => simp
     case measure => exact hlen
   ·have hlt : decide (0 < l'.length) = false := decide_eq_false hl0
    obtain rfl : l' = [] := List.eq_nil_of_length_eq_zero (by omega)
    obtain rfl : res = .ok (⟨true, [], done⟩, left) := by
     rw [HRES.out, HI.out]; simp [itemsP, Except.bind]
    obtain ⟨A5, c5, rfl⟩ := Kd.R_slice HO.out
    have hcf4 := cf3 HG4
    go_wp2
    refine bodyPost_ret (results_ct rfl _ _ g4 159 #[.bool true, .slice none 0 0, .slice A5 done.length c5] (0, 0) _ rfl (put3 HG4.out) Try.underlying159 rfl (by kernel_rfl)) rfl ?_
    refine ⟨below3 HBr.out hg0, .slice none 0 0, .slice A5 done.length c5, A2, rfl, Kd.R_nil _ _ _ _ _, ?_, ?_⟩
    ·exact Kd.R_mono (Kd.R_keep HO.out keep3 (fun k hk => hk)) (fun _ _ => trivial)
    ·intro W hW; rw [HR.out.1] at hW; exact (HC12.out W (by rw [HN1.out]; exact HC0.out W hW)).2
theorem item_any (lv : Nat) (hlv : lv ≤ 16) : ∀ (A : Option Addr) (c : Nat) (l : List Int) (w : World), Kd.C (Kd.int .u8) w A l.length l → l.length ≤ c → Byt l → l.length ≤ 65536 →
 Calls Try.prog 145 #[.slice A l.length c, .int .i64 (lv : Int)] w (ItemPost A l (itemP lv l) w) := by
 induction lv with
 | zero =>
  intro A c l w hC hc hB hl
  cases l with
  | nil => exact (item_empty A c 0 w).mono fun e w' h => ⟨h.2, h.1⟩
  | cons c0 rest =>
   have h255 := hB.head.2
   simp only [itemP, itemF]
   split
   ·exact item_byte A _ _ 0 c0 rest w hC hc (by omega)
   ·split
    ·exact item_str A _ _ 0 c0 rest w hC hc (by omega) (by omega) hB.tail hl
    ·exact item_deep A _ _ c0 rest w hC hc (by omega)
 | succ lv ih =>
  intro A c l w hC hc hB hl
  cases l with
  | nil => exact (item_empty A c (lv + 1) w).mono fun e w' h => ⟨h.2, h.1⟩
  | cons c0 rest =>
   have h255 := hB.head.2
   simp only [itemP, itemF]
   split
   ·exact item_byte A _ _ (lv + 1) c0 rest w hC hc (by omega)
   ·split
    ·exact item_str A _ _ (lv + 1) c0 rest w hC hc (by omega) (by omega) hB.tail hl
    ·exact item_list A _ _ lv c0 rest w hC hc (by omega) (by omega) hB.tail hl (by omega) (fun A l w h1 h2 h3 => ih (by omega) A _ l w h1 (Nat.le_refl _) h2 h3)
theorem eqlNil (W : World) : (binOp .eql 20 .nilIface .nilIface).run Try.prog W = .ok (.bool true) W := run_eql_nil_nil (P := Try.prog) W 20 (by kernel_rfl)
theorem eqlHeld (u : TypeId) (x : Value) (W : World) : (binOp .eql 20 (.iface u x) .nilIface).run Try.prog W = .ok (.bool false) W := run_eql_held_nil (P := Try.prog) W 20 u x (by kernel_rfl)
theorem catch_idle (g2 g3 : Nat) (w : World) :
 CallsD Try.prog 144 #[.pointer (some ⟨g2, 0, none⟩), .pointer (some ⟨g3, 0, none⟩)] .returning w fun e u' w' => e = .returned (.tuple #[]) ∧ u' = .returning ∧ w = w' := by
 refine callsD_of_wpS Try.func144 rfl fun c₀ cs hu => ?_
 apply wpS_seq
 apply wpS_region
 simp [wpOpsS, go_sem, recoverD, hu, Try.ntmps144, Exit.thenS]
 apply wpS_seq
 apply wpS_seq
 apply wpS_region
 simp [wpOpsS, go_sem, Exit.thenS, eqlNil]
 refine wpS_cond (t := true) (by simp [Act.eval]) ?_
 simp only [if_true]
 refine wpS_of_wp (wp_ret ?_)
 cases c₀
 simp_all [bodyPostS, Exit.thenS, results, Try.results144]
def CatchPost (w0 : World) (g2 g3 : Nat) (k : Int) (w' : World) : Prop :=
 w'.heap[g2]? = some (.cells #[.bool false, .slice none 0 0, .slice none 0 0] 159 (0, 0)) ∧ w'.heap[g3]? = some (.cells #[.int .i64 k] 29 (0, 0)) ∧ Below w0.heap.size w0 w'
theorem catch_wrong (w0 : World) (g2 g3 : Nat) (k z : Int) (a b c : Value) (w : World) (h2 : w.heap[g2]? = some (.cells #[a, b, c] 159 (0, 0))) (h3 : w.heap[g3]? = some (.cells #[.int .i64 z] 29 (0, 0))) (hne : g2 ≠ g3) (hB : Below w0.heap.size w0 w) (hg2 : w0.heap.size ≤ g2) (hg3 : w0.heap.size ≤ g3) :
 CallsD Try.prog 144 #[.pointer (some ⟨g2, 0, none⟩), .pointer (some ⟨g3, 0, none⟩)] (.panicking (wrongP k)) w fun e u' w' => e = .returned (.tuple #[]) ∧ u' = .panicking [{ v := .iface 206 (.agg #[.int .i64 k]), recovered := true }] ∧ CatchPost w0 g2 g3 k w' := by
 refine callsD_of_wpS Try.func144 rfl fun c₀ cs hu => ?_
 unfold wrongP at hu
 have hta : ∀ W, (Instr.typeAssert (.iface 206 (.agg #[.int .i64 k])) 20 206 true).run Try.prog W = .ok (.tuple #[.agg #[.int .i64 k], .bool true]) W := fun W => by simp [Instr.typeAssert, run_underlying Try.underlying206]
 simp only [Try.ntmps144, List.size_toArray, List.length_cons, List.length_nil, Nat.reduceAdd, Nat.reduceSub, Array.replicate_succ, Array.replicate_zero, List.push_toArray, List.append_toArray, List.nil_append, List.cons_append]
 apply wpS_seq
 apply wpS_region
 simp [wpOpsS, go_sem, recoverD, hu, Exit.thenS]
 apply wpS_seq
 apply wpS_seq
 apply wpS_region
 simp [wpOpsS, go_sem, Exit.thenS, eqlHeld]
 refine wpS_cond (t := false) (by simp [Act.eval]) ?_
 simp only [Bool.false_eq_true, if_false]
 refine wpS_of_wp (wp_skip ?_)
 simp only [Exit.thenS]
 refine wpS_of_wp ?_
 go_wp2_with fail
 have h2' := Aside0.mk (blk_alloc h2 (.cells #[.int .i64 k] 206))
 have h3' := Aside0.mk (blk_alloc h3 (.cells #[.int .i64 k] 206))
 have h4' := Aside0.mk (blk_new w (.cells #[.int .i64 k] 206))
 have hB' := Aside0.mk (below_alloc hB (.cells #[.int .i64 k] 206))
 have hl2 := blk_lt h2
 have hl3 := blk_lt h3
 obtain ⟨B, hBe⟩ : ∃ B, B = w.heap.size := ⟨_, rfl⟩
 rw [← hBe] at h4' hl2 hl3 ⊢
 obtain ⟨W, hW⟩ : ∃ W, W = w.alloc (.cells #[.int .i64 k] 206) := ⟨_, rfl⟩
 rw [← hW] at h2' h3' h4' hB' ⊢
 have hcf2 := cf3 h2'
 have hcf3 := cf1 h3'
 have hcf4 := cf1 h4'
 have n1 : ¬ g2 = g3 := hne
 have n2 : ¬ g3 = g2 := fun h => hne h.symm
 have n3 : ¬ g2 = B := by omega
 have n4 : ¬ B = g2 := by omega
 have n5 : ¬ g3 = B := by omega
 have n6 : ¬ B = g3 := by omega
 clear hW hBe
 go_region
 refine ⟨rfl, _, rfl, .tuple #[], results_none rfl _ _ _, rfl, rfl, ?_, ?_, ?_⟩
 ·have h := put3 (x := .bool false) (y := .slice none 0 0) (z := .slice none 0 0) h2'.out
  exact blk_far h n1 _
 ·have h := (keep3 (w := W) (g := g2) (x := .bool false) (y := .slice none 0 0) (z := .slice none 0 0)).2 g3 (blk_lt h3'.out) n2 (by simp)
  exact blk_put (h.trans h3'.out) 0 _ rfl
 ·exact below_drew (below_set (below3 hB'.out hg2) hg3)
def DecodePost (r : Except Int S159) (w : World) (e : Ending) (w' : World) : Prop :=
 Below w.heap.size w w' ∧ match r with
  | .ok x => ∃ v1 v2, e = .returned (.tuple #[.agg #[.bool x.f0, v1, v2], .int .i64 0]) ∧ Kd.R (Kd.int .u8) 5 w' w.heap.size (fun _ => True) v1 x.f1 ∧ Kd.R k159 159 w' w.heap.size (fun _ => True) v2 x.f2
  | .error k => e = .returned (.tuple #[.agg #[.bool false, .slice none 0 0, .slice none 0 0], .int .i64 k])
theorem res_decode {tmps : Array Value} {w : World} {g2 g3 : Nat} {a b c : Value} {d : Int} (h0 : tmps.getD 2 undef = .pointer (some ⟨g2, 0, none⟩)) (h1 : tmps.getD 3 undef = .pointer (some ⟨g3, 0, none⟩))
 (h2 : w.heap[g2]? = some (.cells #[a, b, c] 159 (0, 0))) (h3 : w.heap[g3]? = some (.cells #[.int .i64 d] 29 (0, 0))) :
 (results Try.f106 tmps).run Try.prog w = .ok (.tuple #[.agg #[a, b, c], .int .i64 d]) w := by
 have h0' : tmps[2]?.getD undef = .pointer (some ⟨g2, 0, none⟩) := by simpa using h0
 have h1' : tmps[3]?.getD undef = .pointer (some ⟨g3, 0, none⟩) := by simpa using h1
 have hc := (cf1 ⟨h3⟩).1
 have hl : (loadVar 29 ⟨g3, 0, none⟩).run Try.prog w = .ok (.int .i64 d) w := by
  simp [loadVar, run_underlying Try.underlying29, hc, go_sem]
 simp [hl, results, Try.results106, h0', h1', asAddr, run_loadVar_row w g2 159 159 #[a, b, c] (0, 0) _ h2 Try.underlying159 rfl (by kernel_rfl)]
theorem decode_any (A : Option Addr) (c : Nat) (l : List Int) (w : World) (hC : Kd.C (Kd.int .u8) w A l.length l) (hc : l.length ≤ c) (hB : Byt l) :
 Calls Try.prog 106 #[.slice A l.length c] w (DecodePost (decodeP l) w) := by
 have HB := Aside0.mk (Below.refl w.heap.size w)
 have HC := Aside0.mk hC
 have HBy := Aside0.mk hB
 have hm := hC.2.1
 clear hC hB
 have hmf : ∀ (fn : Fn) (first cap : Array Value) (w : World), (Instr.makeFunc fn first cap).run Try.prog w = .ok (.func fn first cap) w := fun _ _ _ _ => rfl
 obtain ⟨res, hres⟩ : ∃ res, res = decodeP l := ⟨_, rfl⟩
 rw [← hres]
 have HRES := Aside0.mk hres
 clear hres
 by_cases hbig : 65536 < l.length
 ·have hd : decide ((65536 : Int) < (l.length : Int)) = true := decide_eq_true (by omega)
  obtain rfl : res = .error 4 := by rw [HRES.out, decodeP, if_pos hbig]
  go_enter_defers Try.func106, Try.ntmps106
  go_wp2_with (first
   | ((with_reducible refine gate_dst (N := 2) rfl ?_); refine alloc_ev rfl (N := 2) rfl (cs := #[.bool false, .slice none 0 0, .slice none 0 0]) (t := 159) HB ?hr ?_; (case hr => first | (go_simp; done) | (go_simp; rfl)); intro g2 w1 HG2 HGe2 HE1 HB1; have hcf2 := cf3 HG2)
   | ((with_reducible refine gate_dst (N := 3) rfl ?_); refine alloc_ev rfl (N := 3) rfl (cs := #[.int .i64 0]) (t := 29) HB1 ?hr2 ?_; (case hr2 => first | (go_simp; done) | (go_simp; rfl)); intro g3 w2 HG3 HGe3 HE2 HB2; have HG2b := Aside0.mk (blk_below HG2.out HE2.out); have hcf3 := cf1 HG3; have hcf2b := cf3 HG2b; have n1 : ¬ g2 = g3 := (by have := blk_lt HG2.out; have := HGe3.out; omega); have n2 : ¬ g3 = g2 := fun h => n1 h.symm))
  have hg2 : w.heap.size ≤ g2 := Nat.le_of_eq HGe2.out
  have hg3 : w.heap.size ≤ g3 := by have := HGe3.out; have := HB1.out.size; omega
  refine ⟨_, res_decode rfl rfl (blk_far (put3 HG2b.out) n1 _) (blk_put (((keep3 (g := g2)).2 g3 (blk_lt HG3.out) n2 (by simp)).trans HG3.out) 0 _ rfl), ?_⟩
  exact ⟨below_set (below3 HB2.out hg2) hg3, rfl⟩
 ·have hd : decide ((65536 : Int) < (l.length : Int)) = false := decide_eq_false (by omega)
  have hl65 : l.length ≤ 65536 := by omega
  rw [decodeP, if_neg hbig] at HRES
  go_enter_defers Try.func106, Try.ntmps106
  go_wp2_with (first
   | ((with_reducible refine gate_dst (N := 2) rfl ?_); refine alloc_ev rfl (N := 2) rfl (cs := #[.bool false, .slice none 0 0, .slice none 0 0]) (t := 159) HB ?hr ?_; (case hr => first | (go_simp; done) | (go_simp; rfl)); intro g2 w1 HG2 HGe2 HE1 HB1; have hcf2 := cf3 HG2)
   | ((with_reducible refine gate_dst (N := 3) rfl ?_); refine alloc_ev rfl (N := 3) rfl (cs := #[.int .i64 0]) (t := 29) HB1 ?hr2 ?_; (case hr2 => first | (go_simp; done) | (go_simp; rfl)); intro g3 w2 HG3 HGe3 HE2 HB2; have HG2b := Aside0.mk (blk_below HG2.out HE2.out); have n1 : ¬ g2 = g3 := (by have := blk_lt HG2.out; have := HGe3.out; omega); have n2 : ¬ g3 = g2 := fun h => n1 h.symm))
  have hg2 : w.heap.size ≤ g2 := Nat.le_of_eq HGe2.out
  have hg3 : w.heap.size ≤ g3 := by have := HGe3.out; have := HB1.out.size; omega
  refine (item_any 16 (Nat.le_refl _) A c l w2 (Kd.C_below HC.out HB2.out) hc HBy.out hl65).mono ?_
  rintro e w3 ⟨hbe, hp⟩
  have HG2c := Aside0.mk (blk_below HG2b.out hbe)
  have HG3c := Aside0.mk (blk_below HG3.out hbe)
  have HB3 := Aside0.mk (below_step HB2.out hbe)
  cases hit : itemP 16 l with
  | error k =>
   rw [hit] at hp HRES
   obtain rfl := hp
   obtain rfl : res = .error k := HRES.out
   refine leaves_cons (f := 144) (args := #[.pointer (some ⟨g2, 0, none⟩), .pointer (some ⟨g3, 0, none⟩)]) (by simp) (by simp [go_sem]) ?_
   refine (catch_wrong w g2 g3 k 0 _ _ _ w3 HG2c.out HG3c.out n1 HB3.out hg2 hg3).mono ?_
   rintro e u' w4 ⟨rfl, rfl, h1, h2, h3⟩
   exact ⟨_, res_decode rfl rfl h1 h2, h3, rfl⟩
  | ok q =>
   rw [hit] at hp HRES
   obtain ⟨x, r⟩ := q
   obtain ⟨v1, v2, A4, rfl, hR1, hR2, hC4⟩ := hp
   obtain ⟨Ab1, cb1, rfl⟩ := Kd.R_slice hR1
   obtain ⟨Ab2, cb2, rfl⟩ := Kd.R_slice hR2
   have HR1 := Aside0.mk hR1
   have HR2 := Aside0.mk hR2
   have HBe := Aside0.mk hbe
   have hcf2 := cf3 HG2c
   have hcf3 := cf1 HG3c
   clear hR1 hR2 hC4 hbe hit
   by_cases hr0 : r = []
   ·subst hr0
    obtain rfl : res = .ok x := HRES.out
    go_wp2_with fail
    refine (need_ok 8 _).mono ?_
    rintro e w' ⟨rfl, rfl⟩
    go_wp2
    have hfar : ∀ k, w2.heap.size ≤ k → k ≠ g2 ∧ k ≠ g3 := fun k hk => ⟨by have := blk_lt HG2b.out; omega, by have := blk_lt HG3.out; omega⟩
    have p1 := put3 (x := .bool x.f0) (y := .slice Ab1 x.f1.length cb1) (z := .slice Ab2 x.f2.length cb2) HG2c.out
    have p2 := put3 (x := .bool x.f0) (y := .slice Ab1 x.f1.length cb1) (z := .slice Ab2 x.f2.length cb2) p1
    have q1 := ((keep3 (w := w3) (g := g2) (x := .bool x.f0) (y := .slice Ab1 x.f1.length cb1) (z := .slice Ab2 x.f2.length cb2)).2 g3 (blk_lt HG3c.out) n2 (by simp)).trans HG3c.out
    have q2 := ((keep3 (g := g2) (x := .bool x.f0) (y := .slice Ab1 x.f1.length cb1) (z := .slice Ab2 x.f2.length cb2)).2 g3 (blk_lt q1) n2 (by simp)).trans q1
    refine leaves_cons (f := 144) (args := #[.pointer (some ⟨g2, 0, none⟩), .pointer (some ⟨g3, 0, none⟩)]) (by simp) (by simp [go_sem]) ?_
    refine (catch_idle g2 g3 _).mono ?_
    rintro e u' w4 ⟨rfl, rfl, rfl⟩
    refine ⟨_, res_decode rfl rfl (blk_far p2 n1 _) (blk_put q2 0 _ rfl), below_set (below3 (below3 HB3.out hg2) hg2) hg3, _, _, rfl, ?_, ?_⟩
    ·refine Kd.R_lower (Kd.R_mono (Kd.R_step (Kd.R_mono (Kd.R_bound HR1.out) (ok' := fun k => w2.heap.size ≤ k) (fun k hk => hk.2.1)) (fun k hk _ => ?_)) (fun _ _ => trivial)) HB2.out.size
     iterate 7 rw [Below.heap_setCell _ _ _ _ (by first | exact (hfar k hk).1 | exact (hfar k hk).2)]
    ·refine Kd.R_lower (Kd.R_mono (Kd.R_step (Kd.R_mono (Kd.R_bound HR2.out) (ok' := fun k => w2.heap.size ≤ k) (fun k hk => hk.2.1)) (fun k hk _ => ?_)) (fun _ _ => trivial)) HB2.out.size
     iterate 7 rw [Below.heap_setCell _ _ _ _ (by first | exact (hfar k hk).1 | exact (hfar k hk).2)]
   ·obtain rfl : res = .error 8 := by rw [HRES.out]; simp [Except.bind, hr0]
    have hdl : ((r.length : Int) == 0) = false := by simpa using hr0
    have hdl2 : (r.length == 0) = false := by simpa using hr0
    go_wp2_with fail
    refine (need_no 8 _).mono ?_
    rintro e w' ⟨rfl, rfl⟩
    have p1 := put3 (x := .bool x.f0) (y := .slice Ab1 x.f1.length cb1) (z := .slice Ab2 x.f2.length cb2) HG2c.out
    have q1 := ((keep3 (w := w3) (g := g2) (x := .bool x.f0) (y := .slice Ab1 x.f1.length cb1) (z := .slice Ab2 x.f2.length cb2)).2 g3 (blk_lt HG3c.out) n2 (by simp)).trans HG3c.out
    refine leaves_cons (f := 144) (args := #[.pointer (some ⟨g2, 0, none⟩), .pointer (some ⟨g3, 0, none⟩)]) (by simp) (by simp [go_sem]) ?_
    refine (catch_wrong w g2 g3 8 0 _ _ _ _ p1 q1 n1 (below3 HB3.out hg2) hg2 hg3).mono ?_
    rintro e u' w4 ⟨rfl, rfl, h1, h2, h3⟩
    exact ⟨_, res_decode rfl rfl h1 h2, h3, rfl⟩
end Go.Proofs.Ytocphkfkdadhaaa.K
namespace Go.Proofs.Ytocphkfkdadhaaa.K
open Go.RowKit Go.Proofs.YtocphkfkdadhaaaW.PrintWords Go.Proofs.YtocphkfkdadhaaaW.PrintMore Go.Proofs.Ytocphkfkdadhaaa.PRF
def bigF : Nat → Nat → List Int
 | 0, _ => []
 | d + 1, n => if n = 0 then [] else bigF d (n / 256) ++ [((n % 256 : Nat) : Int)]
def bigP (n : Nat) : List Int := bigF 8 n
def aheadP (from_ : Int) (n : Nat) : List Int := if n ≤ 55 then [from_ + n] else (from_ + 55 + (bigP n).length) :: bigP n
theorem bigF_zero (d : Nat) : bigF d 0 = [] := by cases d <;> simp [bigF]
theorem bigF_of_num (l : List Int) (hb : Byt l) (h0 : l ≠ [] → l.headD 0 ≠ 0) : ∀ d, l.length ≤ d → bigF d (num l) = l := by
 revert hb h0
 refine snoc_ind (P := fun l => Byt l → (l ≠ [] → l.headD 0 ≠ 0) → ∀ d, l.length ≤ d → bigF d (num l) = l) ?_ ?_ l
 ·intro _ _ d _; exact bigF_zero d
 ·intro l c ih hb h0 d hd
  rw [List.length_append, List.length_singleton] at hd
  obtain ⟨d, rfl⟩ : ∃ e, d = e + 1 := ⟨d - 1, by omega⟩
  have hc := hb c (by simp)
  have hbl : Byt l := fun x hx => hb x (List.mem_append_left _ hx)
  have h0l : l ≠ [] → l.headD 0 ≠ 0 := fun hn => by
   have := h0 (by simp)
   cases l with
   | nil => exact absurd rfl hn
   | cons a l => simpa using this
  have ih := ih hbl h0l d (by omega)
  rw [num_snoc, bigF]
  have hne : num l * 256 + c.toNat ≠ 0 := by
   intro hz
   have h1 : num l = 0 := by omega
   have h2 : c.toNat = 0 := by omega
   rw [h1, bigF_zero] at ih
   subst ih
   have := h0 (by simp)
   simp at this
   omega
  rw [if_neg hne]
  have e1 : (num l * 256 + c.toNat) / 256 = num l := by omega
  have e2 : (num l * 256 + c.toNat) % 256 = c.toNat := by omega
  rw [e1, e2, ih]
  congr 1
  have : ((c.toNat : Nat) : Int) = c := by omega
  rw [this]
theorem bigP_of_num (l : List Int) (hb : Byt l) (hl : l.length ≤ 8) (h0 : l ≠ [] → l.headD 0 ≠ 0) : bigP (num l) = l := bigF_of_num l hb h0 8 hl
def strP (l : List Int) : List Int := if l.length = 1 ∧ l.headD 0 < 128 then l else aheadP 128 l.length ++ l
mutual
def formP : S159 → List Int
 | ⟨f0, f1, f2⟩ => if f0 = true then aheadP 192 (formsP f2).length ++ formsP f2 else strP f1
def formsP : List S159 → List Int
 | [] => []
 | x :: l => formP x ++ formsP l
end
theorem formP_str (x : S159) (h : x.f0 = false) : formP x = strP x.f1 := by cases x; simp only at h; subst h; simp [formP]
theorem formP_list (x : S159) (h : x.f0 = true) : formP x = aheadP 192 (formsP x.f2).length ++ formsP x.f2 := by cases x; simp only at h; subst h; simp [formP]
def Ev {α : Type} (g : Nat → Option α) (r : α) : Prop := ∃ K, ∀ k, K ≤ k → g k = some r
theorem Ev.of_mono {α : Type} {g : Nat → Option α} (hm : ∀ k, LeO (g k) (g (k + 1))) {K : Nat} {r : α} (h : g K = some r) : Ev g r := by
 refine ⟨K, fun k hk => ?_⟩
 induction k with
 | zero => obtain rfl : K = 0 := by omega
           exact h
 | succ k ih =>
  by_cases he : K = k + 1
  ·subst he; exact h
  ·exact hm k r (ih (by omega))
def wfP : Nat → S159 → Bool
 | 0, x => !x.f0 && x.f2.isEmpty
 | d + 1, x => if x.f0 = true then x.f1.isEmpty && x.f2.all (wfP d) else x.f2.isEmpty
theorem wfP_str (d : Nat) (x : S159) (h : x.f0 = false) : wfP d x = x.f2.isEmpty := by cases d <;> simp [wfP, h]
theorem wfP_list (d : Nat) (x : S159) (h : x.f0 = true) : wfP (d + 1) x = (x.f1.isEmpty && x.f2.all (wfP d)) := by simp [wfP, h]
def vP (d left : Nat) (x : S159) : Bool := wfP d x && decide ((formP x).length ≤ left)
theorem cutP_err {b : List Int} {n : Nat} {e : Int} (h : cutP b n = .error e) : e ≠ 0 := by
 unfold cutP at h
 split at h
 ·cases h
 ·cases h; decide
theorem bodyP_err {f : Nat} {b : List Int} {e : Int} (h : bodyP f b = .error e) : e ≠ 0 := by
 unfold bodyP at h
 split at h
 ·exact cutP_err h
 ·split at h
  ·split at h
   ·cases h; decide
   ·exact cutP_err h
  ·cases h; decide
theorem bind_err {ε α β : Type} {x : Except ε α} {f : α → Except ε β} {e : ε} (h : x.bind f = .error e) : x = .error e ∨ ∃ a, x = .ok a ∧ f a = .error e := by
 cases x with
 | error e' => exact Or.inl (by cases h; rfl)
 | ok a => exact Or.inr ⟨a, rfl, h⟩
theorem itemsP_err (f : List Int → Except Int (S159 × List Int)) (hl : ∀ l x r, f l = .ok (x, r) → r.length < l.length) (hf : ∀ l e, f l = .error e → e ≠ 0) :
 ∀ (k : Nat) (l : List Int), l.length ≤ k → ∀ e, itemsP f k l = .error e → e ≠ 0
 | k, [], _, e, h => by cases k <;> cases h
 | 0, _ :: _, hk, e, h => by simp at hk
 | k + 1, c :: l, hk, e, h => by
  rw [itemsP] at h
  rcases bind_err h with h | ⟨⟨x, r⟩, h1, h⟩
  ·exact hf _ _ h
  ·have h2 := hl _ _ _ h1
   rw [List.length_cons] at h2 hk
   rcases bind_err h with h | ⟨xs, h1, h⟩
   ·exact itemsP_err f hl hf k r (by omega) e h
   ·cases h
theorem itemF_err {sub : Option (List Int → Except Int (S159 × List Int))} (hsl : ∀ f, sub = some f → ∀ l x r, f l = .ok (x, r) → r.length < l.length) (hsub : ∀ f, sub = some f → ∀ l e, f l = .error e → e ≠ 0) {b : List Int} {e : Int} (h : itemF sub b = .error e) : e ≠ 0 := by
 cases b with
 | nil => cases h; decide
 | cons c rest =>
  simp only [itemF] at h
  split at h
  ·cases h
  ·split at h
   ·rcases bind_err h with h | ⟨q, h1, h⟩
    ·exact bodyP_err h
    ·split at h
     ·cases h; decide
     ·cases h
   ·cases sub with
    | none => cases h; decide
    | some f =>
     simp only at h
     rcases bind_err h with h | ⟨q, h1, h⟩
     ·exact bodyP_err h
     ·rcases bind_err h with h | ⟨xs, h1, h⟩
      ·exact itemsP_err f (hsl f rfl) (hsub f rfl) _ _ (Nat.le_refl _) _ h
      ·cases h
theorem itemP_err : ∀ {lv : Nat} {b : List Int} {e : Int}, itemP lv b = .error e → e ≠ 0
 | 0, b, e, h => itemF_err (by simp) (by simp) h
 | lv + 1, b, e, h => itemF_err (sub := some (itemP lv)) (by rintro f hf; cases hf; intro l x r h; exact itemP_len h) (by rintro f hf; cases hf; intro l e h; exact itemP_err h) h
theorem bodyP_byt' {f : Nat} {b x y : List Int} (hb : Byt b) (h : bodyP f b = .ok (x, y)) : Byt x := by
 unfold bodyP at h
 split at h
 ·obtain ⟨h1, rfl, rfl⟩ := cutP_ok h
  exact hb.take _
 ·split at h
  ·split at h
   ·cases h
   ·obtain ⟨h1, rfl, rfl⟩ := cutP_ok h
    exact (hb.drop _).take _
  ·cases h
theorem body_form (base : Int) (f : Nat) (rest x y : List Int) (hb : Byt rest) (hf : f ≤ 63) (h : bodyP f rest = .ok (x, y)) : (base + f) :: rest = aheadP base x.length ++ x ++ y := by
 unfold bodyP at h
 by_cases h1 : f ≤ 55
 ·rw [if_pos h1] at h
  obtain ⟨h2, rfl, rfl⟩ := cutP_ok h
  have hl : (rest.take f).length = f := by rw [List.length_take]; omega
  rw [hl]
  unfold aheadP
  rw [if_pos h1]
  simp
 ·rw [if_neg h1] at h
  split at h
  ·rename_i h2
   split at h
   ·cases h
   ·rename_i h3
    rw [not_or] at h3
    obtain ⟨h4, rfl, rfl⟩ := cutP_ok h
    obtain ⟨h31, h32⟩ := h3
    have hk : (rest.take (f - 55)).length = f - 55 := by rw [List.length_take]; omega
    have hbig := bigP_of_num (rest.take (f - 55)) (hb.take _) (by omega) (fun _ => h31)
    generalize hn : num (rest.take (f - 55)) = n at *
    have hl : ((rest.drop (f - 55)).take n).length = n := by rw [List.length_take]; omega
    rw [hl]
    unfold aheadP
    rw [if_neg (by omega), hbig, hk]
    have e : base + 55 + ((f - 55 : Nat) : Int) = base + f := by omega
    rw [e, List.cons_append, List.cons_append, List.append_assoc, List.take_append_drop, List.take_append_drop]
  ·cases h
theorem items_form (f : List Int → Except Int (S159 × List Int)) (P : S159 → Prop) (hf : ∀ l x r, Byt l → f l = .ok (x, r) → l = formP x ++ r ∧ P x) :
 ∀ (k : Nat) (l : List Int), Byt l → ∀ xs, itemsP f k l = .ok xs → l = formsP xs ∧ ∀ x ∈ xs, P x
 | k, [], _, xs, h => by
  cases k <;> (cases h; exact ⟨by simp [formsP], by simp⟩)
 | 0, _ :: _, _, xs, h => by cases h
 | k + 1, c :: l, hb, xs, h => by
  rw [itemsP] at h
  obtain ⟨⟨x, r⟩, h1, h⟩ := bind_ok h
  obtain ⟨ys, h2, h⟩ := bind_ok h
  cases h
  obtain ⟨h3, h4⟩ := hf _ _ _ hb h1
  have hbr : Byt r := fun z hz => hb z (by rw [h3]; exact List.mem_append_right _ hz)
  obtain ⟨h5, h6⟩ := items_form f P hf k r hbr ys h2
  refine ⟨?_, ?_⟩
  ·rw [h3, formsP, ← h5]
  ·intro z hz
   rcases List.mem_cons.mp hz with rfl | hz
   ·exact h4
   ·exact h6 z hz
theorem itemF_form (lv : Nat) (sub : Option (List Int → Except Int (S159 × List Int))) (hsub : (sub = none ∧ lv = 0) ∨ ∃ f d, sub = some f ∧ lv = d + 1 ∧ ∀ l x r, Byt l → f l = .ok (x, r) → l = formP x ++ r ∧ wfP d x = true)
 (l r : List Int) (x : S159) (hb : Byt l) (h : itemF sub l = .ok (x, r)) : l = formP x ++ r ∧ wfP lv x = true := by
 cases l with
 | nil => cases h
 | cons c rest =>
  have hbr : Byt rest := fun z hz => hb z (List.mem_cons_of_mem _ hz)
  have hc := hb c (by simp)
  simp only [itemF] at h
  split at h
  ·rename_i h1
   cases h
   rw [formP_str _ rfl, wfP_str _ _ rfl]
   simp [strP, h1]
  ·rename_i h1
   split at h
   ·rename_i h2
    obtain ⟨⟨a, b⟩, h3, h⟩ := bind_ok h
    simp only at h
    split at h
    ·cases h
    ·rename_i h4
     cases h
     have h5 := body_form 128 (c - 128).toNat rest a r hbr (by omega) h3
     rw [formP_str _ rfl, wfP_str _ _ rfl]
     simp only [strP, if_neg h4, List.isEmpty_nil, and_true]
     rw [← h5]
     congr 1
     omega
   ·rename_i h2
    rcases hsub with ⟨rfl, _⟩ | ⟨f, d, rfl, rfl, hf⟩
    ·cases h
    ·simp only at h
     obtain ⟨⟨a, b⟩, h3, h⟩ := bind_ok h
     obtain ⟨xs, h4, h⟩ := bind_ok h
     cases h
     have h5 := body_form 192 (c - 192).toNat rest a b hbr (by omega) h3
     obtain ⟨h6, h7⟩ := items_form f (fun z => wfP d z = true) hf _ a (bodyP_byt' hbr h3) xs h4
     rw [formP_list _ rfl, wfP_list _ _ rfl]
     simp only [List.isEmpty_nil, Bool.true_and, List.all_eq_true]
     refine ⟨?_, h7⟩
     rw [← h6, ← h5]
     congr 1
     omega
theorem itemP_form : ∀ (lv : Nat) (l r : List Int) (x : S159), Byt l → itemP lv l = .ok (x, r) → l = formP x ++ r ∧ wfP lv x = true
 | 0, l, r, x, hb, h => itemF_form 0 none (Or.inl ⟨rfl, rfl⟩) l r x hb h
 | lv + 1, l, r, x, hb, h => itemF_form (lv + 1) (some (itemP lv)) (Or.inr ⟨_, lv, rfl, rfl, fun l x r hb h => itemP_form lv l r x hb h⟩) l r x hb h
theorem decode_form (l : List Int) (x : S159) (hb : Byt l) (h : decodeP l = .ok x) : formP x = l ∧ vP 16 65536 x = true := by
 unfold decodeP at h
 split at h
 ·cases h
 ·rename_i h1
  obtain ⟨⟨y, r⟩, h2, h⟩ := bind_ok h
  simp only at h
  split at h
  ·rename_i h3
   cases h
   obtain ⟨h4, h5⟩ := itemP_form 16 l r x hb h2
   subst h3
   rw [List.append_nil] at h4
   rw [← h4]
   refine ⟨rfl, ?_⟩
   unfold vP
   rw [h5, ← h4, Bool.true_and]
   exact decide_eq_true (by omega)
  ·cases h
inductive BytI : S159 → Prop
 | mk (x : S159) (h1 : Byt x.f1) (h2 : ∀ y ∈ x.f2, BytI y) : BytI x
theorem forms_mem_le : ∀ (xs : List S159) (x : S159), x ∈ xs → (formP x).length ≤ (formsP xs).length
 | y :: xs, x, h => by
  simp only [formsP, List.length_append]
  rcases List.mem_cons.mp h with rfl | h
  ·omega
  ·have := forms_mem_le xs x h; omega
theorem strOfNums_inj : ∀ (a b : List Int), Byt a → Byt b → (a.map fun n => UInt8.ofNat n.toNat) = (b.map fun n => UInt8.ofNat n.toNat) → a = b
 | [], [], _, _, _ => rfl
 | [], _ :: _, _, _, h => by simp at h
 | _ :: _, [], _, _, h => by simp at h
 | x :: a, y :: b, ha, hb, h => by
  simp only [List.map_cons, List.cons.injEq] at h
  have h1 := ha.head
  have h2 := hb.head
  have h3 : (UInt8.ofNat x.toNat).toNat = (UInt8.ofNat y.toNat).toNat := by rw [h.1]
  simp only [UInt8.toNat_ofNat'] at h3
  rw [strOfNums_inj a b ha.tail hb.tail h.2]
  congr 1
  omega
theorem same01_f (a b : List Int) (ha : Byt a) (hb : Byt b) : proctorref01_Same.f a b = some (decide (a = b)) := by
 unfold proctorref01_Same.f
 congr 1
 by_cases h : a = b
 ·subst h; simp
 ·rw [decide_eq_false h]
  rw [beq_eq_false_iff_ne]
  intro he
  refine h (strOfNums_inj a b ha hb ?_)
  have h2 : (strOfNums a).data.toList = (strOfNums b).data.toList := by
   have h3 := he
   rw [ByteArray.toList_eq, ByteArray.toList_eq] at h3
   exact h3
  rwa [strOfNums_data, strOfNums_data] at h2
def rnumP (x : S159) : Int × Int :=
 if x.f0 = true ∨ x.f2.length > 0 ∨ x.f1.length > 8 ∨ (x.f1.length > 0 ∧ rd x.f1 0 = 0) then (0, 8) else ((num x.f1 : Int), 0)
theorem readnum_f (x : S159) (hb : Byt x.f1) : ∃ k, rlp_ReadNum.f k x.f0 x.f1 x.f2 = some (rnumP x) := by
 unfold rnumP
 by_cases h : x.f0 = true ∨ x.f2.length > 0 ∨ x.f1.length > 8 ∨ (x.f1.length > 0 ∧ rd x.f1 0 = 0)
 ·refine ⟨0, ?_⟩
  rw [if_pos h, rlp_ReadNum.f]
  by_cases h1 : x.f0 = true
  ·rw [if_pos h1]
  ·rw [if_neg h1]
   by_cases h2 : x.f2.length > 0
   ·rw [if_pos (by omega)]
   ·rw [if_neg (by omega)]
    by_cases h3 : x.f1.length > 8
    ·rw [if_pos (by omega)]
    ·rw [if_neg (by omega)]
     have h4 : x.f1.length > 0 ∧ rd x.f1 0 = 0 := by
      rcases h with h | h | h | h
      ·exact absurd h h1
      ·exact absurd h h2
      ·exact absurd h h3
      ·exact h
     rw [if_pos (by omega), if_pos (by omega), if_pos h4.2]
 ·rw [not_or, not_or, not_or] at h
  obtain ⟨h1, h2, h3, h4⟩ := h
  obtain ⟨k, hk⟩ := number_f x.f1 hb (by omega)
  refine ⟨k, ?_⟩
  rw [if_neg (by rw [not_or, not_or, not_or]; exact ⟨h1, h2, h3, h4⟩), rlp_ReadNum.f, if_neg h1, if_neg (by omega), if_neg (by omega), hk]
  simp only [Option.bind_some]
  by_cases h5 : x.f1.length > 0
  ·rw [if_pos (by omega), if_pos (by omega), if_neg (fun h => h4 ⟨h5, h⟩)]
  ·rw [if_neg (by omega)]
end Go.Proofs.Ytocphkfkdadhaaa.K
