import Derived.Test.YtdjoekckhmggbaaRf0
namespace Go.Proofs.Ytdjoekckhmggbaa.H
open Go.Proofs.Ytdjoekckhmggbaa.PRF
set_option linter.unusedVariables false

/-- bytes -/
def Byt (l : List Int) : Prop := ∀ x ∈ l, 0 ≤ x ∧ x ≤ 255
theorem Byt.take {l : List Int} (h : Byt l) (n : Nat) : Byt (l.take n) := fun x hx => h x (List.mem_of_mem_take hx)
theorem Byt.drop {l : List Int} (h : Byt l) (n : Nat) : Byt (l.drop n) := fun x hx => h x (List.mem_of_mem_drop hx)
theorem Byt.tail {c : Int} {l : List Int} (h : Byt (c :: l)) : Byt l := fun x hx => h x (List.mem_cons_of_mem _ hx)
theorem Byt.head {c : Int} {l : List Int} (h : Byt (c :: l)) : 0 ≤ c ∧ c ≤ 255 := h c List.mem_cons_self
theorem Byt.append {l m : List Int} (h : Byt l) (k : Byt m) : Byt (l ++ m) := fun x hx => (List.mem_append.1 hx).elim (h x) (k x)
theorem Byt.nil : Byt [] := fun _ h => by cases h
theorem Byt.cons {c : Int} {l : List Int} (hc : 0 ≤ c ∧ c ≤ 255) (h : Byt l) : Byt (c :: l) := fun x hx => by
  rcases List.mem_cons.1 hx with rfl | hx
  · exact hc
  · exact h x hx

theorem snoc_ind {α : Type} {P : List α → Prop} (h0 : P []) (h1 : ∀ l c, P l → P (l ++ [c])) (l : List α) : P l := by
  have h : ∀ m : List α, P m.reverse := by
    intro m
    induction m with
    | nil => exact h0
    | cons c m ih => rw [List.reverse_cons]; exact h1 _ _ ih
  have := h l.reverse
  rwa [List.reverse_reverse] at this
theorem bind_ok {ε α β : Type} {x : Except ε α} {f : α → Except ε β} {y : β} (h : x.bind f = .ok y) : ∃ a, x = .ok a ∧ f a = .ok y := by
  cases x with
  | error e => cases h
  | ok a => exact ⟨a, rfl, h⟩

/-- the number that bytes tell -/
def num (l : List Int) : Nat := l.foldl (fun n c => n * 256 + c.toNat) 0
theorem num_snoc (l : List Int) (c : Int) : num (l ++ [c]) = num l * 256 + c.toNat := by simp [num]
theorem num_lt (l : List Int) (h : Byt l) : num l < 256 ^ l.length := by
  revert h
  refine snoc_ind (P := fun l => Byt l → num l < 256 ^ l.length) ?_ ?_ l
  · intro _; simp [num]
  · intro l c ih h
    rw [num_snoc, List.length_append, List.length_singleton, Nat.pow_succ]
    have h1 := ih (fun x hx => h x (List.mem_append_left _ hx))
    have h2 := h c (by simp)
    omega

def cutP (b : List Int) (n : Nat) : Except Int (List Int × List Int) := if n ≤ b.length then .ok (b.take n, b.drop n) else .error 7
/-- what a length behind a first byte takes: 'f' is the first byte less 128 or 192 -/
def bodyP (f : Nat) (b : List Int) : Except Int (List Int × List Int) :=
  if f ≤ 55 then cutP b f
  else if f - 55 ≤ b.length then
    if (b.take (f - 55)).headD 0 = 0 ∨ num (b.take (f - 55)) ≤ 55 then .error 8 else cutP (b.drop (f - 55)) (num (b.take (f - 55)))
  else .error 7

/-- items one behind the other -/
def itemsP (f : List Int → Except Int (S47 × List Int)) : Nat → List Int → Except Int (List S47)
  | _, [] => .ok []
  | 0, _ :: _ => .error 0
  | k + 1, c :: l => (f (c :: l)).bind fun q => (itemsP f k q.2).bind fun xs => .ok (q.1 :: xs)
def itemF (sub : Option (List Int → Except Int (S47 × List Int))) : List Int → Except Int (S47 × List Int)
  | [] => .error 7
  | c :: rest =>
    if c < 128 then .ok (⟨false, [c], []⟩, rest)
    else if c < 192 then
      (bodyP (c - 128).toNat rest).bind fun q => if q.1.length = 1 ∧ q.1.headD 0 < 128 then .error 8 else .ok (⟨false, q.1, []⟩, q.2)
    else match sub with
      | none => .error 8
      | some f => (bodyP (c - 192).toNat rest).bind fun q => (itemsP f q.1.length q.1).bind fun xs => .ok (⟨true, [], xs⟩, q.2)
/-- an item from the front, with so many levels of lists left -/
def itemP : Nat → List Int → Except Int (S47 × List Int)
  | 0 => itemF none
  | lv + 1 => itemF (some (itemP lv))
def decodeP (b : List Int) : Except Int S47 :=
  if b.length > 65536 then .error 4
  else (itemP 16 b).bind fun q => if q.2 = [] then .ok q.1 else .error 8

theorem cutP_ok {b x y : List Int} {n : Nat} (h : cutP b n = .ok (x, y)) : n ≤ b.length ∧ x = b.take n ∧ y = b.drop n := by
  unfold cutP at h
  split at h
  · simp only [Except.ok.injEq, Prod.mk.injEq] at h
    exact ⟨by assumption, h.1.symm, h.2.symm⟩
  · cases h
theorem bodyP_len {f : Nat} {b x y : List Int} (h : bodyP f b = .ok (x, y)) : x.length + y.length ≤ b.length := by
  unfold bodyP at h
  split at h
  · obtain ⟨h1, rfl, rfl⟩ := cutP_ok h
    rw [List.length_take, List.length_drop]; omega
  · split at h
    · split at h
      · cases h
      · obtain ⟨h1, rfl, rfl⟩ := cutP_ok h
        simp only [List.length_take, List.length_drop] at h1 ⊢
        omega
    · cases h
theorem itemF_len {sub : Option (List Int → Except Int (S47 × List Int))} {l r : List Int} {x : S47} (h : itemF sub l = .ok (x, r)) : r.length < l.length := by
  cases l with
  | nil => cases h
  | cons c rest =>
    rw [List.length_cons]
    simp only [itemF] at h
    split at h
    · cases h; omega
    · split at h
      · obtain ⟨q, hb, h⟩ := bind_ok h
        have := bodyP_len hb
        split at h
        · cases h
        · cases h; omega
      · split at h
        · cases h
        · obtain ⟨q, hb, h⟩ := bind_ok h
          have := bodyP_len hb
          obtain ⟨xs, hx, h⟩ := bind_ok h
          cases h; omega
theorem itemP_len {lv : Nat} {l r : List Int} {x : S47} (h : itemP lv l = .ok (x, r)) : r.length < l.length := by
  cases lv <;> exact itemF_len h
theorem itemsP_mono (f : List Int → Except Int (S47 × List Int)) (hf : ∀ l x r, f l = .ok (x, r) → r.length < l.length) : ∀ (k : Nat) (l : List Int), l.length ≤ k → itemsP f k l = itemsP f l.length l := by
  intro k
  induction k using Nat.strongRecOn with
  | _ k ih =>
    intro l hl
    cases l with
    | nil => cases k <;> rfl
    | cons c l =>
      cases k with
      | zero => simp at hl
      | succ k =>
        simp only [List.length_cons, itemsP]
        cases hfl : f (c :: l) with
        | error e => rfl
        | ok xr =>
          obtain ⟨x, r⟩ := xr
          have h1 := hf _ _ _ hfl
          simp only [List.length_cons] at h1 hl
          simp only [Except.bind]
          rw [ih k (by omega) r (by omega), ih l.length (by omega) r (by omega)]
theorem bodyP_suffix {f : Nat} {b x y : List Int} (h : bodyP f b = .ok (x, y)) : ∃ k, y = b.drop k := by
  unfold bodyP at h
  split at h
  · obtain ⟨h1, rfl, rfl⟩ := cutP_ok h
    exact ⟨_, rfl⟩
  · split at h
    · split at h
      · cases h
      · obtain ⟨h1, rfl, rfl⟩ := cutP_ok h
        exact ⟨_, by rw [List.drop_drop]⟩
    · cases h
theorem itemF_suffix {sub : Option (List Int → Except Int (S47 × List Int))} {l r : List Int} {x : S47} (h : itemF sub l = .ok (x, r)) : ∃ k, r = l.drop k := by
  cases l with
  | nil => cases h
  | cons c rest =>
    simp only [itemF] at h
    split at h
    · cases h; exact ⟨1, rfl⟩
    · split at h
      · obtain ⟨q, hb, h⟩ := bind_ok h
        obtain ⟨k, hk⟩ := bodyP_suffix (x := q.1) (y := q.2) hb
        split at h
        · cases h
        · cases h; exact ⟨k + 1, by rw [hk]; rfl⟩
      · split at h
        · cases h
        · obtain ⟨q, hb, h⟩ := bind_ok h
          obtain ⟨k, hk⟩ := bodyP_suffix (x := q.1) (y := q.2) hb
          obtain ⟨xs, hx, h⟩ := bind_ok h
          cases h; exact ⟨k + 1, by rw [hk]; rfl⟩
theorem itemP_byt {lv : Nat} {l r : List Int} {x : S47} (hb : Byt l) (h : itemP lv l = .ok (x, r)) : Byt r := by
  have : ∃ k, r = l.drop k := by cases lv <;> exact itemF_suffix h
  obtain ⟨k, rfl⟩ := this
  exact hb.drop k
theorem items_step (lv : Nat) (l : List Int) (hl : 0 < l.length) :
    itemsP (itemP lv) l.length l = (itemP lv l).bind fun q => (itemsP (itemP lv) q.2.length q.2).bind fun xs => .ok (q.1 :: xs) := by
  cases l with
  | nil => simp at hl
  | cons c l =>
    simp only [List.length_cons, itemsP]
    cases hfl : itemP lv (c :: l) with
    | error e => rfl
    | ok q =>
      have h1 := itemP_len hfl
      simp only [List.length_cons] at h1
      simp only [Except.bind]
      rw [itemsP_mono (itemP lv) (fun _ _ _ h => itemP_len h) l.length q.2 (by omega)]
end Go.Proofs.Ytdjoekckhmggbaa.H
