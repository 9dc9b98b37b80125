import Derived.Test.YtocphkfkdadhaaaZPk15
import Derived.Test.YtocphkfkdadhaaaZPk8
import Derived.Test.YtocphkfkdadhaaaZPk10
import Derived.Test.YtocphkfkdadhaaaZPk14
import Derived.Test.YtocphkfkdadhaaaZPk13
set_option maxHeartbeats 8000000
set_option linter.unusedVariables false
set_option linter.unusedSimpArgs false
set_option maxRecDepth 100000
namespace Go.Proofs.Ytocphkfkdadhaaa.H
open Go.RowKit Go.Proofs.YtocphkfkdadhaaaW.PrintWords Go.Proofs.YtocphkfkdadhaaaW.PrintLast Go.Proofs.YtocphkfkdadhaaaW.PrintMore
section
variable {P : Program} {ops : Array Oper} {rest : List Oper} {o : Oper} {a : Act} {Q : Exit → Act → World → Prop} {B : Nat} {w0 W : World} {L : List Item}
theorem own_storeA_step {Kc : Act → World → Prop} (H : Own B w0 W L) (k : Nat) (g : Nat) (cs : Array Value) (ty : TypeId) (hk : L[k]? = some (.blk g cs ty)) (hw : Region.wanted o (yielded ops a.tmps) = true) (x y : Operand) (ho : o.op = .store ty x y) (cells : Array Value)
 (hx : a.eval x = .pointer (some ⟨g, 0, none⟩)) (hy : a.eval y = .agg cells) (n : Nat) (hn : Arr n cs) (h1 : Arr n cells) (hi : (P.info? ty).map (·.size) = some n)
 (h : ∀ w1, Own B w0 w1 (L.set k (.blk g cells ty)) → Kc (a.put o.dst undef) w1) :
 if Region.wanted o (yielded ops a.tmps) = true then Oper.wp P o a W Kc Q else Kc (a.put o.dst undef) W := by
 refine own_st_step H k g cs cells ty hk hw ty x y ho 0 cells.toList (.agg cells) hx hy (by simp [Value.cells]) (by rw [Array.length_toList, h1.1, hn.1]; omega) (by rw [Array.length_toList, h1.1]; exact hi) (fun v hv => ?_) ?_ h
 ·have := h1.2
  rw [Array.all_eq_true_iff_forall_mem] at this
  exact this v (by simpa using hv)
 ·have := spl_all (cs := cs) (seg := cells) (by rw [Array.length_toList, Array.length_toList, hn.1, h1.1])
  simpa using this
theorem SA (X Y : Nat) {Kc : Act → World → Prop} (H : Aside0 (Own B w0 W L)) (k g : Nat) {cs : Array Value} {ty : TypeId} (cells : Array Value) {n : Nat} (hn : Aside0 (Arr n cs)) (h1 : Aside0 (Arr n cells))
 (h : ∀ w1, Aside0 (Own B w0 w1 (L.set k (.blk g cells ty))) → Kc (a.put o.dst undef) w1) (hk : L[k]? = some (.blk g cs ty) := by rfl) (hw : Region.wanted o (yielded ops a.tmps) = true := by rfl) (ho : o.op = .store ty (.tmp X) (.tmp Y) := by exact rfl)
 (hx : a.eval (.tmp X) = .pointer (some ⟨g, 0, none⟩) := by rfl) (hy : a.eval (.tmp Y) = .agg cells := by rfl) (hi : (P.info? ty).map (·.size) = some n := by kernel_rfl) :
 if Region.wanted o (yielded ops a.tmps) = true then Oper.wp P o a W Kc Q else Kc (a.put o.dst undef) W :=
 own_storeA_step H.out k g cs ty hk hw _ _ ho cells hx hy n hn.out h1.out hi fun w1 h2 => h w1 ⟨h2⟩
theorem own_copy_step {Kc : Act → World → Prop} (H : Own B w0 W L) (k : Nat) (g : Nat) (cur : List Value) (t : TypeId) (hk : L[k]? = some (.blk g cur.toArray t))
 (hw : Region.wanted o (yielded ops a.tmps) = true) (d s : Operand) (dT sT : TypeId) (ho : o.op = .call { callee := .builtin .copy, args := #[d, s], argTypes := #[dT, sT] }) (elem : TypeId) (hu : P.underlying dT = some (.slice elem)) (hsz : (P.info? elem).map (·.size) = some 1)
 (off : Nat) (ad : Addr) (dLen dCap sLen sCap : Nat) (hd : a.eval d = .slice (some ⟨g, off, none⟩) dLen dCap) (hs : a.eval s = .slice (some ad) sLen sCap) (cs : List Value) (hn : cs.length = Nat.min sLen dLen)
 (hsrc : ∀ j v, cs[j]? = some v → W.cell? (ad.add j) = some v) (hfit : off + cs.length ≤ cur.length) (h1 : ∀ v ∈ cs, v.oneCell' = true) (cur' : Array Value) (hc : (splice cur off cs).toArray = cur')
 (h : ∀ w', Own B w0 w' (L.set k (.blk g cur' t)) → Kc (a.put o.dst (goInt cs.length)) w') :
 if Region.wanted o (yielded ops a.tmps) = true then Oper.wp P o a W Kc Q else Kc (a.put o.dst undef) W := by
 subst hc
 rw [if_pos hw]
 have hrun := run_copy_row (P := P) W dT sT o.type elem g off dLen dCap ad sLen sCap cur.toArray t cs hu hsz (H.get k hk) hn hsrc (by simpa using hfit) h1
 unfold Oper.wp
 simp [execOp, ho, resolve, invoke, builtin, hd, hs, hrun, Result.andThen]
 refine h _ ?_
 have := H.setRow k hk (splice cur off cs).toArray
 simpa [splice] using this
end
theorem four {l : List Nat} (h : l.length = 4) : ∃ a b c d, l = [a, b, c, d] := by
 match l, h with
 | [a, b, c, d], _ => exact ⟨a, b, c, d, rfl⟩
def fillN (n : Nat) (ws : List Nat) (i : Nat) : List Int := (bytesOf ws).take i ++ List.replicate (n - i) 0
theorem fillN_zero (n : Nat) (ws : List Nat) : fillN n ws 0 = List.replicate n 0 := by simp [fillN]
theorem fillN_len {n : Nat} {ws : List Nat} (hw : n = 8 * ws.length) {i : Nat} (hi : i ≤ n) : (fillN n ws i).length = n := by
 have := bytesOf_len ws
 simp [fillN, List.length_take]; omega
theorem fillN_step {n : Nat} {ws : List Nat} (hw : n = 8 * ws.length) {i : Nat} (hi : i < n) : (fillN n ws i).set i ((ws[i / 8]'(by omega) / 2 ^ (56 - 8 * (i % 8)) % 256 : Nat) : Int) = fillN n ws (i + 1) := by
 have hl := bytesOf_len ws
 have ha := bytesOf_at ws i (by omega)
 have hlt : i < (bytesOf ws).length := by omega
 have hg : (bytesOf ws)[i] = ((ws[i / 8]'(by omega) / 2 ^ (56 - 8 * (i % 8)) % 256 : Nat) : Int) := by
  rw [List.getElem?_eq_getElem hlt] at ha
  exact Option.some.inj ha
 unfold fillN
 rw [List.take_succ_eq_append_getElem hlt, show n - i = (n - (i + 1)) + 1 by omega, List.replicate_succ, List.set_append_right _ _ (by rw [List.length_take]; omega)]
 rw [show i - ((bytesOf ws).take i).length = 0 by rw [List.length_take]; omega, List.set_cons_zero, List.append_assoc, List.singleton_append, hg]
theorem fillN_all {n : Nat} {ws : List Nat} (hw : n = 8 * ws.length) : fillN n ws n = bytesOf ws := by
 have := bytesOf_len ws
 unfold fillN
 rw [List.take_of_length_le (by omega)]
 simp
theorem bytesOf_app (a b : List Nat) : bytesOf (a ++ b) = bytesOf a ++ bytesOf b := by unfold bytesOf; rw [List.map_append, List.flatten_append]
theorem writeM_words (m : MsgI) (hm : m.ok) : writeM m = bytesOf (headN m ++ (wordsAll 4 m.ky ++ wordsAll 4 m.nx)) := by
 rw [bytesOf_app, bytesOf_app, bytesOf_four _ hm.ky.2 hm.ky.1, bytesOf_four _ hm.nx.2 hm.nx.1]
 rfl
theorem mwrite_any (m : MsgI) (hm : m.ok) (w : World) : Calls Try.prog 95 #[.agg (msgA m)] w fun e w' => ∃ v, e = .returned (.tuple #[v, .int .i64 (wrM m).2]) ∧ Own w.heap.size w w' [.row kB 5 v (wrM m).1] := by
 have H0 := Aside0.mk (Own.start w)
 have HMY := Aside0.mk (fun W => mmay_any m hm W)
 have HSZ := Aside0.mk (sizeM_of (msgA_size hm.ky.1 hm.nx.1))
 have HSK := Aside0.mk (fun W => swords_any m.ky hm.ky.2 hm.ky.1 W)
 have HSN := Aside0.mk (fun W => swords_any m.nx hm.nx.2 hm.nx.1 W)
 obtain ⟨r, hr⟩ : ∃ r, r = wrM m := ⟨_, rfl⟩
 rw [← hr]
 unfold wrM at hr
 rw [writeM_words m hm] at hr
 have HR := Aside0.mk hr
 clear hr
 obtain ⟨my, hmy⟩ : ∃ my, my = mayM m := ⟨_, rfl⟩
 rw [← hmy] at HMY HR
 clear hmy
 have hcs : (msgA m)[0]? = some (.int .u8 m.kd) ∧ (msgA m)[1]? = some (.int .u64 m.fr) ∧ (msgA m)[2]? = some (.int .u64 m.tt) ∧ (msgA m)[3]? = some (.int .u64 m.am) ∧ (msgA m)[4]? = some (.int .u64 m.no) := ⟨rfl, rfl, rfl, rfl, rfl⟩
 have HKY : Aside0 (∀ j v, (vB m.ky)[j]? = some v → (msgA m)[5 + j]? = some v) := ⟨fun j v hv => by
  have hj : j < m.ky.length := by have := (List.getElem?_eq_some_iff.1 hv).1; rwa [vB_len] at this
  rw [msgA_ky hm.ky.1 j hj, ← hv]; simp [vB, hj]⟩
 have HNX : Aside0 (∀ j v, (vB m.nx)[j]? = some v → (msgA m)[37 + j]? = some v) := ⟨fun j v hv => by
  have hj : j < m.nx.length := by have := (List.getElem?_eq_some_iff.1 hv).1; rwa [vB_len] at this
  rw [msgA_nx hm.ky.1 j hj, ← hv]; simp [vB, hj]⟩
 have hlk : (vB m.ky).length = 32 := (vB_len _).trans hm.ky.1
 have hln : (vB m.nx).length = 32 := (vB_len _).trans hm.nx.1
 obtain ⟨k0, k1, k2, k3, hkw⟩ := four (l := wordsAll 4 m.ky) (by simp [wordsAll])
 obtain ⟨n0, n1, n2, n3, hnw⟩ := four (l := wordsAll 4 m.nx) (by simp [wordsAll])
 have hku := wordsAll_lt 4 m.ky hm.ky.2
 have hnu := wordsAll_lt 4 m.nx hm.nx.2
 rw [hkw] at HSK HR hku
 rw [hnw] at HSN HR hnu
 have hhd : (headN m).map (fun n : Nat => (n : Int)) = [m.kd, m.fr, m.tt, m.am, m.no] := by
  have := hm.kd; have := hm.fr; have := hm.tt; have := hm.am; have := hm.no
  simp only [headN, List.map_cons, List.map_nil]
  rw [Int.toNat_of_nonneg (by omega), Int.toNat_of_nonneg (by omega), Int.toNat_of_nonneg (by omega), Int.toNat_of_nonneg (by omega), Int.toNat_of_nonneg (by omega)]
 have hhu : ∀ x ∈ headN m, x ≤ 18446744073709551615 := by
  have := hm.kd; have := hm.fr; have := hm.tt; have := hm.am; have := hm.no
  intro x hx
  simp only [headN, List.mem_cons, List.not_mem_nil, or_false] at hx
  omega
 obtain ⟨ws, hws⟩ : ∃ ws, ws = headN m ++ ([k0, k1, k2, k3] ++ [n0, n1, n2, n3]) := ⟨_, rfl⟩
 rw [← hws] at HR
 have HWL : Aside0 (ws.length = 13) := ⟨by rw [hws]; rfl⟩
 have HWU : Aside0 (∀ x ∈ ws, x ≤ 18446744073709551615) := ⟨fun x hx => by
  rw [hws] at hx
  rcases List.mem_append.1 hx with hx | hx
  ·exact hhu x hx
  ·rcases List.mem_append.1 hx with hx | hx
   ·exact hku x hx
   ·exact hnu x hx⟩
 have HWC : Aside0 (#[.int .u64 m.kd, .int .u64 m.fr, .int .u64 m.tt, .int .u64 m.am, .int .u64 m.no, .int .u64 (k0 : Int), .int .u64 (k1 : Int), .int .u64 (k2 : Int), .int .u64 (k3 : Int), .int .u64 (n0 : Int), .int .u64 (n1 : Int), .int .u64 (n2 : Int), .int .u64 (n3 : Int)] = cellsN ws) := ⟨by
  rw [hws]
  unfold cellsN
  rw [show (fun n : Nat => Value.int .u64 (n : Int)) = (Value.int .u64) ∘ (fun n : Nat => (n : Int)) from rfl, ← List.map_map, List.map_append, hhd]
  rfl⟩
 have hwc : IntKind.u64.wrap m.kd = m.kd := by
  have := hm.kd
  rw [IntKind.wrap_u64]; omega
 obtain ⟨M, hM⟩ : ∃ M, M = msgA m := ⟨_, rfl⟩
 rw [← hM] at HMY HSZ hcs HKY HNX ⊢
 obtain ⟨kd, fr, tt, am, no, ky, nx⟩ := m
 dsimp only at *
 clear hM hm hkw hnw hku hnu hhd hhu hws
 have hsk : ∀ l : List Int, cellsB l = (vB l).toArray := fun l => rfl
 rw [hsk] at HSK HSN
 clear hsk
 generalize vB ky = vk at *
 generalize vB nx = vn at *
 have HLK := Aside0.mk hlk
 have HLN := Aside0.mk hln
 clear hlk hln
 have R13 : Aside0 (Arr 13 #[.int .u64 0, .int .u64 0, .int .u64 0, .int .u64 0, .int .u64 0, .int .u64 0, .int .u64 0, .int .u64 0, .int .u64 0, .int .u64 0, .int .u64 0, .int .u64 0, .int .u64 0]) := ⟨rfl, by simp [Value.oneCell']⟩
 have R4z : Aside0 (Arr 4 (cellsN z4)) := ⟨cellsN_arr rfl⟩
 have R4k : Aside0 (Arr 4 (cellsN [k0, k1, k2, k3])) := ⟨cellsN_arr rfl⟩
 have R4n : Aside0 (Arr 4 (cellsN [n0, n1, n2, n3])) := ⟨cellsN_arr rfl⟩
 go_enter Try.func95, Try.ntmps95
 cases my with
 | false =>
  obtain rfl : r = ([], 2) := by rw [HR.out]; rfl
  go_wp2_with (first
   | fail
   | ((with_reducible refine Gd 1 ?_); refine OB H0 92 (M) ?_; intro g1 w1 H1 B1)
   | ((with_reducible refine Gd 9 ?_); refine OV 1 H1 0 g1 92 rfl Try.underlying92 (HSZ.out) ?_)
   | (go_at_call 136; refine (HMY.out _).mono ?_; rintro e w2 ⟨rfl, hB2⟩; have H2 := Aside0.mk (H1.out.step hB2); clear hB2)
   )
  go_ret2
  exact ⟨_, rfl, (H2.out.null kB _).erase 1⟩
 | true =>
  obtain rfl : r = (bytesOf ws, 0) := by rw [HR.out]; rfl
  clear HR
  go_upto_region 4 with (first
   | fail
   | ((with_reducible refine Gd 1 ?_); refine OB H0 92 (M) ?_; intro g1 w1 H1 B1)
   | ((with_reducible refine Gd 9 ?_); refine OV 1 H1 0 g1 92 rfl Try.underlying92 (HSZ.out) ?_)
   | (go_at_call 136; refine (HMY.out _).mono ?_; rintro e w2 ⟨rfl, hB2⟩; have H2 := Aside0.mk (H1.out.step hB2); clear hB2)
   | ((with_reducible refine Gd 4 ?_); refine OA H2 194 #[.int .u64 0, .int .u64 0, .int .u64 0, .int .u64 0, .int .u64 0, .int .u64 0, .int .u64 0, .int .u64 0, .int .u64 0, .int .u64 0, .int .u64 0, .int .u64 0, .int .u64 0] 13 ?_; intro g4 w3 H3 B3)
   )
  simp only [Act.put, List.setIfInBounds_toArray, List.set_cons_zero, List.set_cons_succ]
  go_cut [] (fun wc => Aside0 (Own w.heap.size w wc [.blk g4 #[.int .u64 kd, .int .u64 fr, .int .u64 tt, .int .u64 am, .int .u64 no, .int .u64 0, .int .u64 0, .int .u64 0, .int .u64 0, .int .u64 0, .int .u64 0, .int .u64 0, .int .u64 0] 194, .blk g1 M 92]))
  case first =>
   have HD := Aside0.mk H3.out.drew
   have hkS : w3.drew.cell? ⟨g1, 0, none⟩ = some (.int .u8 kd) ∧ w3.drew.cell? ⟨g1, 1, none⟩ = some (.int .u64 fr) ∧ w3.drew.cell? ⟨g1, 2, none⟩ = some (.int .u64 tt) ∧ w3.drew.cell? ⟨g1, 3, none⟩ = some (.int .u64 am) ∧ w3.drew.cell? ⟨g1, 4, none⟩ = some (.int .u64 no) := ⟨HD.out.cell 1 rfl 0 hcs.1, HD.out.cell 1 rfl 1 hcs.2.1, HD.out.cell 1 rfl 2 hcs.2.2.1, HD.out.cell 1 rfl 3 hcs.2.2.2.1, HD.out.cell 1 rfl 4 hcs.2.2.2.2⟩
   clear H3
   refine St (fun W => W.cell? ⟨g1, 0, none⟩ = some (.int .u8 kd) ∧ W.cell? ⟨g1, 1, none⟩ = some (.int .u64 fr) ∧ W.cell? ⟨g1, 2, none⟩ = some (.int .u64 tt) ∧ W.cell? ⟨g1, 3, none⟩ = some (.int .u64 am) ∧ W.cell? ⟨g1, 4, none⟩ = some (.int .u64 no)) (fun hHeld => ?_) (by exact hkS)
   refine Tk 0 ?_
   refine Tk 1 ?_
   refine Tk 2 ?_
   refine Tk 3 ?_
   refine Tk 4 ?_
   refine Tk 5 ?_
   refine Tk 6 ?_
   refine Tk 7 ?_
   refine Tk 8 ?_
   refine Tk 9 ?_
   refine Tk 10 ?_
   clear hkS
   generalize w3.drew = wd at *
   refine Tk 11 ?_
   refine Rd 12 fun K hK => ?_
   refine own_st_step HD.out 0 g4 _ #[.int .u64 kd, .int .u64 0, .int .u64 0, .int .u64 0, .int .u64 0, .int .u64 0, .int .u64 0, .int .u64 0, .int .u64 0, .int .u64 0, .int .u64 0, .int .u64 0, .int .u64 0] 194 (by rfl) (by rfl) 23 (.tmp 23) _ rfl 0 ([.int .u64 kd]) (.int .u64 kd) (by rfl) (by rfl) (by rfl) (by simp) (by kernel_rfl) (by simp [Value.oneCell']) (by rfl) ?_; intro w21 H21; replace H21 := Aside0.mk H21
   refine Ag hK (fun hHeld => ?_) (by exact ⟨H21.out.cell 1 rfl 0 hcs.1, H21.out.cell 1 rfl 1 hcs.2.1, H21.out.cell 1 rfl 2 hcs.2.2.1, H21.out.cell 1 rfl 3 hcs.2.2.2.1, H21.out.cell 1 rfl 4 hcs.2.2.2.2⟩)
   clear hK K
   refine Tk 13 ?_
   refine Rd 14 fun K hK => ?_
   refine own_st_step H21.out 0 g4 _ #[.int .u64 kd, .int .u64 fr, .int .u64 0, .int .u64 0, .int .u64 0, .int .u64 0, .int .u64 0, .int .u64 0, .int .u64 0, .int .u64 0, .int .u64 0, .int .u64 0, .int .u64 0] 194 (by rfl) (by rfl) 23 (.tmp 24) _ rfl 1 ([.int .u64 fr]) (.int .u64 fr) (by rfl) (by rfl) (by rfl) (by simp) (by kernel_rfl) (by simp [Value.oneCell']) (by rfl) ?_; intro w22 H22; replace H22 := Aside0.mk H22
   refine Ag hK (fun hHeld => ?_) (by exact ⟨H22.out.cell 1 rfl 0 hcs.1, H22.out.cell 1 rfl 1 hcs.2.1, H22.out.cell 1 rfl 2 hcs.2.2.1, H22.out.cell 1 rfl 3 hcs.2.2.2.1, H22.out.cell 1 rfl 4 hcs.2.2.2.2⟩)
   clear hK K
   refine Tk 15 ?_
   refine Rd 16 fun K hK => ?_
   refine own_st_step H22.out 0 g4 _ #[.int .u64 kd, .int .u64 fr, .int .u64 tt, .int .u64 0, .int .u64 0, .int .u64 0, .int .u64 0, .int .u64 0, .int .u64 0, .int .u64 0, .int .u64 0, .int .u64 0, .int .u64 0] 194 (by rfl) (by rfl) 23 (.tmp 25) _ rfl 2 ([.int .u64 tt]) (.int .u64 tt) (by rfl) (by rfl) (by rfl) (by simp) (by kernel_rfl) (by simp [Value.oneCell']) (by rfl) ?_; intro w23 H23; replace H23 := Aside0.mk H23
   refine Ag hK (fun hHeld => ?_) (by exact ⟨H23.out.cell 1 rfl 0 hcs.1, H23.out.cell 1 rfl 1 hcs.2.1, H23.out.cell 1 rfl 2 hcs.2.2.1, H23.out.cell 1 rfl 3 hcs.2.2.2.1, H23.out.cell 1 rfl 4 hcs.2.2.2.2⟩)
   clear hK K
   refine Tk 17 ?_
   refine Rd 18 fun K hK => ?_
   refine own_st_step H23.out 0 g4 _ #[.int .u64 kd, .int .u64 fr, .int .u64 tt, .int .u64 am, .int .u64 0, .int .u64 0, .int .u64 0, .int .u64 0, .int .u64 0, .int .u64 0, .int .u64 0, .int .u64 0, .int .u64 0] 194 (by rfl) (by rfl) 23 (.tmp 26) _ rfl 3 ([.int .u64 am]) (.int .u64 am) (by rfl) (by rfl) (by rfl) (by simp) (by kernel_rfl) (by simp [Value.oneCell']) (by rfl) ?_; intro w24 H24; replace H24 := Aside0.mk H24
   refine Ag hK (fun hHeld => ?_) (by exact ⟨H24.out.cell 1 rfl 0 hcs.1, H24.out.cell 1 rfl 1 hcs.2.1, H24.out.cell 1 rfl 2 hcs.2.2.1, H24.out.cell 1 rfl 3 hcs.2.2.2.1, H24.out.cell 1 rfl 4 hcs.2.2.2.2⟩)
   clear hK K
   refine Tk 19 ?_
   refine Rd 20 fun K hK => ?_
   refine own_st_step H24.out 0 g4 _ #[.int .u64 kd, .int .u64 fr, .int .u64 tt, .int .u64 am, .int .u64 no, .int .u64 0, .int .u64 0, .int .u64 0, .int .u64 0, .int .u64 0, .int .u64 0, .int .u64 0, .int .u64 0] 194 (by rfl) (by rfl) 23 (.tmp 27) _ rfl 4 ([.int .u64 no]) (.int .u64 no) (by rfl) (by rfl) (by rfl) (by simp) (by kernel_rfl) (by simp [Value.oneCell']) (by rfl) ?_; intro w25 H25; replace H25 := Aside0.mk H25
   refine Ag hK (fun hHeld => ?_) (by exact ⟨H25.out.cell 1 rfl 0 hcs.1, H25.out.cell 1 rfl 1 hcs.2.1, H25.out.cell 1 rfl 2 hcs.2.2.1, H25.out.cell 1 rfl 3 hcs.2.2.2.1, H25.out.cell 1 rfl 4 hcs.2.2.2.2⟩)
   clear hK K
   refine Dn ?_
   go_wp2_with fail
   go_meet
   exact ⟨H25.out⟩
  case rest =>
  have H5 := hcut
  clear hcut
  clear H0 H1 H2 H3 B1 B3 R13
  go_upto_region 5 with fail
  go_cut [5, 6] (fun v5 v6 wc => ∃ g5 g6 : Nat, v5 = .pointer (some ⟨g5, 0, none⟩) ∧ v6 = .pointer (some ⟨g6, 0, none⟩) ∧ Aside0 (Own w.heap.size w wc [.blk g6 (cellsN [n0, n1, n2, n3]) 198, .blk g5 (cellsN [k0, k1, k2, k3]) 198, .blk g4 #[.int .u64 kd, .int .u64 fr, .int .u64 tt, .int .u64 am, .int .u64 no, .int .u64 0, .int .u64 0, .int .u64 0, .int .u64 0, .int .u64 0, .int .u64 0, .int .u64 0, .int .u64 0] 194, .blk g1 M 92]))
  case first =>
   have HD := Aside0.mk H5.out.drew
   have hiK : (Try.prog.info? 25).map (·.size) = some vk.length := by rw [HLK.out]; kernel_rfl
   have hiN : (Try.prog.info? 25).map (·.size) = some vn.length := by rw [HLN.out]; kernel_rfl
   have hu := Try.underlying25
   have HRG : ∀ {W : World} {L : List Item} (h : Own w.heap.size w W L) (k : Nat) (hk : L[k]? = some (.blk g1 M 92)), W.rangeAt g1 5 vk ∧ W.rangeAt g1 37 vn := fun h k hk => ⟨h.range_blk k hk 5 HKY.out, h.range_blk k hk 37 HNX.out⟩
   clear H5
   refine St (fun W => W.rangeAt g1 5 vk ∧ W.rangeAt g1 37 vn) (fun hHeld => ?_) (by exact ⟨HD.out.range_blk 1 rfl 5 HKY.out, HD.out.range_blk 1 rfl 37 HNX.out⟩)
   refine Tk 0 ?_
   refine Ty 1 (.agg (vk).toArray) ?_ ?_
   ·exact yieldsIf_load_mid (by rfl) _ _ rfl (g1) (5) rfl (vk) _ (fun w h => h.1) (hu) rfl (hiK)
   refine Tk 3 ?_
   refine Ty 4 (.agg (vn).toArray) ?_ ?_
   ·exact yieldsIf_load_mid (by rfl) _ _ rfl (g1) (37) rfl (vn) _ (fun w h => h.2) (hu) rfl (hiN)
   refine Rd3 2 6 7 (fun K hK => ?_) (fun K hK => ?_) fun K hK => ?_
   ·
    go_simp
    refine (HSK.out _).mono ?_
    rintro e w21 ⟨rfl, hB⟩
    have H21 := Aside0.mk (HD.out.step hB)
    clear hB
    go_wp2_with fail
    refine Ag hK (fun hHeld => ?_) (by exact HRG H21.out 1 rfl)
    clear hK K
    refine Rd3 5 6 7 (fun K hK => ?_) (fun K hK => ?_) fun K hK => ?_
    ·
     go_simp
     refine (HSN.out _).mono ?_
     rintro e w22 ⟨rfl, hB⟩
     have H22 := Aside0.mk (H21.out.step hB)
     clear hB
     go_wp2_with fail
     refine Ag hK (fun hHeld => ?_) (by exact HRG H22.out 1 rfl)
     clear hK K
     refine Rd2 6 7 (fun K hK => ?_) fun K hK => ?_
     ·
      refine own_alloc_step H22.out (by rfl) (N := 5) rfl (t := 198) rfl (cellsN z4) 4 (by kernel_rfl) ?_; intro g5 w23 H23; replace H23 := Aside0.mk H23
      refine Ag hK (fun hHeld => ?_) (by exact HRG H23.out 2 rfl)
      clear hK K
      refine Rd 7 fun K hK => ?_
      refine own_alloc_step H23.out (by rfl) (N := 6) rfl (t := 198) rfl (cellsN z4) 4 (by kernel_rfl) ?_; intro g6 w24 H24; replace H24 := Aside0.mk H24
      refine Ag hK (fun hHeld => ?_) (by exact HRG H24.out 3 rfl)
      clear hK K
      refine Rd 8 fun K hK => ?_
      refine SA 5 30 H24 1 g5 (cellsN [k0, k1, k2, k3]) R4z R4k ?_
      intro w25 H25
      refine Ag hK (fun hHeld => ?_) (by exact HRG H25.out 3 rfl)
      clear hK K
      refine Rd 9 fun K hK => ?_
      refine SA 6 33 H25 0 g6 (cellsN [n0, n1, n2, n3]) R4z R4n ?_
      intro w26 H26
      refine Ag hK (fun hHeld => ?_) (by exact HRG H26.out 3 rfl)
      clear hK K
      refine Dn ?_
      go_wp2_with fail
      go_meet
      exact ⟨g5, g6, rfl, rfl, ⟨by first | exact H26.out | exact H26.out.bring 1 rfl⟩⟩
     ·
      refine own_alloc_step H22.out (by rfl) (N := 6) rfl (t := 198) rfl (cellsN z4) 4 (by kernel_rfl) ?_; intro g6 w23 H23; replace H23 := Aside0.mk H23
      refine Ag hK (fun hHeld => ?_) (by exact HRG H23.out 2 rfl)
      clear hK K
      refine Rd 6 fun K hK => ?_
      refine own_alloc_step H23.out (by rfl) (N := 5) rfl (t := 198) rfl (cellsN z4) 4 (by kernel_rfl) ?_; intro g5 w24 H24; replace H24 := Aside0.mk H24
      refine Ag hK (fun hHeld => ?_) (by exact HRG H24.out 3 rfl)
      clear hK K
      refine Rd 8 fun K hK => ?_
      refine SA 5 30 H24 0 g5 (cellsN [k0, k1, k2, k3]) R4z R4k ?_
      intro w25 H25
      refine Ag hK (fun hHeld => ?_) (by exact HRG H25.out 3 rfl)
      clear hK K
      refine Rd 9 fun K hK => ?_
      refine SA 6 33 H25 1 g6 (cellsN [n0, n1, n2, n3]) R4z R4n ?_
      intro w26 H26
      refine Ag hK (fun hHeld => ?_) (by exact HRG H26.out 3 rfl)
      clear hK K
      refine Dn ?_
      go_wp2_with fail
      go_meet
      exact ⟨g5, g6, rfl, rfl, ⟨by first | exact H26.out | exact H26.out.bring 1 rfl⟩⟩
    ·
     refine own_alloc_step H21.out (by rfl) (N := 5) rfl (t := 198) rfl (cellsN z4) 4 (by kernel_rfl) ?_; intro g5 w22 H22; replace H22 := Aside0.mk H22
     refine Ag hK (fun hHeld => ?_) (by exact HRG H22.out 2 rfl)
     clear hK K
     refine Rd2 5 7 (fun K hK => ?_) fun K hK => ?_
     ·
      go_simp
      refine (HSN.out _).mono ?_
      rintro e w23 ⟨rfl, hB⟩
      have H23 := Aside0.mk (H22.out.step hB)
      clear hB
      go_wp2_with fail
      refine Ag hK (fun hHeld => ?_) (by exact HRG H23.out 2 rfl)
      clear hK K
      refine Rd 7 fun K hK => ?_
      refine own_alloc_step H23.out (by rfl) (N := 6) rfl (t := 198) rfl (cellsN z4) 4 (by kernel_rfl) ?_; intro g6 w24 H24; replace H24 := Aside0.mk H24
      refine Ag hK (fun hHeld => ?_) (by exact HRG H24.out 3 rfl)
      clear hK K
      refine Rd 8 fun K hK => ?_
      refine SA 5 30 H24 1 g5 (cellsN [k0, k1, k2, k3]) R4z R4k ?_
      intro w25 H25
      refine Ag hK (fun hHeld => ?_) (by exact HRG H25.out 3 rfl)
      clear hK K
      refine Rd 9 fun K hK => ?_
      refine SA 6 33 H25 0 g6 (cellsN [n0, n1, n2, n3]) R4z R4n ?_
      intro w26 H26
      refine Ag hK (fun hHeld => ?_) (by exact HRG H26.out 3 rfl)
      clear hK K
      refine Dn ?_
      go_wp2_with fail
      go_meet
      exact ⟨g5, g6, rfl, rfl, ⟨by first | exact H26.out | exact H26.out.bring 1 rfl⟩⟩
     ·
      refine own_alloc_step H22.out (by rfl) (N := 6) rfl (t := 198) rfl (cellsN z4) 4 (by kernel_rfl) ?_; intro g6 w23 H23; replace H23 := Aside0.mk H23
      refine Ag hK (fun hHeld => ?_) (by exact HRG H23.out 3 rfl)
      clear hK K
      refine Rd 5 fun K hK => ?_
      go_simp
      refine (HSN.out _).mono ?_
      rintro e w24 ⟨rfl, hB⟩
      have H24 := Aside0.mk (H23.out.step hB)
      clear hB
      go_wp2_with fail
      refine Ag hK (fun hHeld => ?_) (by exact HRG H24.out 3 rfl)
      clear hK K
      refine Rd 8 fun K hK => ?_
      refine SA 5 30 H24 1 g5 (cellsN [k0, k1, k2, k3]) R4z R4k ?_
      intro w25 H25
      refine Ag hK (fun hHeld => ?_) (by exact HRG H25.out 3 rfl)
      clear hK K
      refine Rd 9 fun K hK => ?_
      refine SA 6 33 H25 0 g6 (cellsN [n0, n1, n2, n3]) R4z R4n ?_
      intro w26 H26
      refine Ag hK (fun hHeld => ?_) (by exact HRG H26.out 3 rfl)
      clear hK K
      refine Dn ?_
      go_wp2_with fail
      go_meet
      exact ⟨g5, g6, rfl, rfl, ⟨by first | exact H26.out | exact H26.out.bring 1 rfl⟩⟩
    ·
     refine own_alloc_step H21.out (by rfl) (N := 6) rfl (t := 198) rfl (cellsN z4) 4 (by kernel_rfl) ?_; intro g6 w22 H22; replace H22 := Aside0.mk H22
     refine Ag hK (fun hHeld => ?_) (by exact HRG H22.out 2 rfl)
     clear hK K
     refine Rd2 5 6 (fun K hK => ?_) fun K hK => ?_
     ·
      go_simp
      refine (HSN.out _).mono ?_
      rintro e w23 ⟨rfl, hB⟩
      have H23 := Aside0.mk (H22.out.step hB)
      clear hB
      go_wp2_with fail
      refine Ag hK (fun hHeld => ?_) (by exact HRG H23.out 2 rfl)
      clear hK K
      refine Rd 6 fun K hK => ?_
      refine own_alloc_step H23.out (by rfl) (N := 5) rfl (t := 198) rfl (cellsN z4) 4 (by kernel_rfl) ?_; intro g5 w24 H24; replace H24 := Aside0.mk H24
      refine Ag hK (fun hHeld => ?_) (by exact HRG H24.out 3 rfl)
      clear hK K
      refine Rd 8 fun K hK => ?_
      refine SA 5 30 H24 0 g5 (cellsN [k0, k1, k2, k3]) R4z R4k ?_
      intro w25 H25
      refine Ag hK (fun hHeld => ?_) (by exact HRG H25.out 3 rfl)
      clear hK K
      refine Rd 9 fun K hK => ?_
      refine SA 6 33 H25 1 g6 (cellsN [n0, n1, n2, n3]) R4z R4n ?_
      intro w26 H26
      refine Ag hK (fun hHeld => ?_) (by exact HRG H26.out 3 rfl)
      clear hK K
      refine Dn ?_
      go_wp2_with fail
      go_meet
      exact ⟨g5, g6, rfl, rfl, ⟨by first | exact H26.out | exact H26.out.bring 1 rfl⟩⟩
     ·
      refine own_alloc_step H22.out (by rfl) (N := 5) rfl (t := 198) rfl (cellsN z4) 4 (by kernel_rfl) ?_; intro g5 w23 H23; replace H23 := Aside0.mk H23
      refine Ag hK (fun hHeld => ?_) (by exact HRG H23.out 3 rfl)
      clear hK K
      refine Rd 5 fun K hK => ?_
      go_simp
      refine (HSN.out _).mono ?_
      rintro e w24 ⟨rfl, hB⟩
      have H24 := Aside0.mk (H23.out.step hB)
      clear hB
      go_wp2_with fail
      refine Ag hK (fun hHeld => ?_) (by exact HRG H24.out 3 rfl)
      clear hK K
      refine Rd 8 fun K hK => ?_
      refine SA 5 30 H24 0 g5 (cellsN [k0, k1, k2, k3]) R4z R4k ?_
      intro w25 H25
      refine Ag hK (fun hHeld => ?_) (by exact HRG H25.out 3 rfl)
      clear hK K
      refine Rd 9 fun K hK => ?_
      refine SA 6 33 H25 1 g6 (cellsN [n0, n1, n2, n3]) R4z R4n ?_
      intro w26 H26
      refine Ag hK (fun hHeld => ?_) (by exact HRG H26.out 3 rfl)
      clear hK K
      refine Dn ?_
      go_wp2_with fail
      go_meet
      exact ⟨g5, g6, rfl, rfl, ⟨by first | exact H26.out | exact H26.out.bring 1 rfl⟩⟩
   ·
    refine own_alloc_step HD.out (by rfl) (N := 5) rfl (t := 198) rfl (cellsN z4) 4 (by kernel_rfl) ?_; intro g5 w21 H21; replace H21 := Aside0.mk H21
    refine Ag hK (fun hHeld => ?_) (by exact HRG H21.out 2 rfl)
    clear hK K
    refine Rd2 2 7 (fun K hK => ?_) fun K hK => ?_
    ·
     go_simp
     refine (HSK.out _).mono ?_
     rintro e w22 ⟨rfl, hB⟩
     have H22 := Aside0.mk (H21.out.step hB)
     clear hB
     go_wp2_with fail
     refine Ag hK (fun hHeld => ?_) (by exact HRG H22.out 2 rfl)
     clear hK K
     refine Rd2 5 7 (fun K hK => ?_) fun K hK => ?_
     ·
      go_simp
      refine (HSN.out _).mono ?_
      rintro e w23 ⟨rfl, hB⟩
      have H23 := Aside0.mk (H22.out.step hB)
      clear hB
      go_wp2_with fail
      refine Ag hK (fun hHeld => ?_) (by exact HRG H23.out 2 rfl)
      clear hK K
      refine Rd 7 fun K hK => ?_
      refine own_alloc_step H23.out (by rfl) (N := 6) rfl (t := 198) rfl (cellsN z4) 4 (by kernel_rfl) ?_; intro g6 w24 H24; replace H24 := Aside0.mk H24
      refine Ag hK (fun hHeld => ?_) (by exact HRG H24.out 3 rfl)
      clear hK K
      refine Rd 8 fun K hK => ?_
      refine SA 5 30 H24 1 g5 (cellsN [k0, k1, k2, k3]) R4z R4k ?_
      intro w25 H25
      refine Ag hK (fun hHeld => ?_) (by exact HRG H25.out 3 rfl)
      clear hK K
      refine Rd 9 fun K hK => ?_
      refine SA 6 33 H25 0 g6 (cellsN [n0, n1, n2, n3]) R4z R4n ?_
      intro w26 H26
      refine Ag hK (fun hHeld => ?_) (by exact HRG H26.out 3 rfl)
      clear hK K
      refine Dn ?_
      go_wp2_with fail
      go_meet
      exact ⟨g5, g6, rfl, rfl, ⟨by first | exact H26.out | exact H26.out.bring 1 rfl⟩⟩
     ·
      refine own_alloc_step H22.out (by rfl) (N := 6) rfl (t := 198) rfl (cellsN z4) 4 (by kernel_rfl) ?_; intro g6 w23 H23; replace H23 := Aside0.mk H23
      refine Ag hK (fun hHeld => ?_) (by exact HRG H23.out 3 rfl)
      clear hK K
      refine Rd 5 fun K hK => ?_
      go_simp
      refine (HSN.out _).mono ?_
      rintro e w24 ⟨rfl, hB⟩
      have H24 := Aside0.mk (H23.out.step hB)
      clear hB
      go_wp2_with fail
      refine Ag hK (fun hHeld => ?_) (by exact HRG H24.out 3 rfl)
      clear hK K
      refine Rd 8 fun K hK => ?_
      refine SA 5 30 H24 1 g5 (cellsN [k0, k1, k2, k3]) R4z R4k ?_
      intro w25 H25
      refine Ag hK (fun hHeld => ?_) (by exact HRG H25.out 3 rfl)
      clear hK K
      refine Rd 9 fun K hK => ?_
      refine SA 6 33 H25 0 g6 (cellsN [n0, n1, n2, n3]) R4z R4n ?_
      intro w26 H26
      refine Ag hK (fun hHeld => ?_) (by exact HRG H26.out 3 rfl)
      clear hK K
      refine Dn ?_
      go_wp2_with fail
      go_meet
      exact ⟨g5, g6, rfl, rfl, ⟨by first | exact H26.out | exact H26.out.bring 1 rfl⟩⟩
    ·
     refine own_alloc_step H21.out (by rfl) (N := 6) rfl (t := 198) rfl (cellsN z4) 4 (by kernel_rfl) ?_; intro g6 w22 H22; replace H22 := Aside0.mk H22
     refine Ag hK (fun hHeld => ?_) (by exact HRG H22.out 3 rfl)
     clear hK K
     refine Rd 2 fun K hK => ?_
     go_simp
     refine (HSK.out _).mono ?_
     rintro e w23 ⟨rfl, hB⟩
     have H23 := Aside0.mk (H22.out.step hB)
     clear hB
     go_wp2_with fail
     refine Ag hK (fun hHeld => ?_) (by exact HRG H23.out 3 rfl)
     clear hK K
     refine Rd 5 fun K hK => ?_
     go_simp
     refine (HSN.out _).mono ?_
     rintro e w24 ⟨rfl, hB⟩
     have H24 := Aside0.mk (H23.out.step hB)
     clear hB
     go_wp2_with fail
     refine Ag hK (fun hHeld => ?_) (by exact HRG H24.out 3 rfl)
     clear hK K
     refine Rd 8 fun K hK => ?_
     refine SA 5 30 H24 1 g5 (cellsN [k0, k1, k2, k3]) R4z R4k ?_
     intro w25 H25
     refine Ag hK (fun hHeld => ?_) (by exact HRG H25.out 3 rfl)
     clear hK K
     refine Rd 9 fun K hK => ?_
     refine SA 6 33 H25 0 g6 (cellsN [n0, n1, n2, n3]) R4z R4n ?_
     intro w26 H26
     refine Ag hK (fun hHeld => ?_) (by exact HRG H26.out 3 rfl)
     clear hK K
     refine Dn ?_
     go_wp2_with fail
     go_meet
     exact ⟨g5, g6, rfl, rfl, ⟨by first | exact H26.out | exact H26.out.bring 1 rfl⟩⟩
   ·
    refine own_alloc_step HD.out (by rfl) (N := 6) rfl (t := 198) rfl (cellsN z4) 4 (by kernel_rfl) ?_; intro g6 w21 H21; replace H21 := Aside0.mk H21
    refine Ag hK (fun hHeld => ?_) (by exact HRG H21.out 2 rfl)
    clear hK K
    refine Rd2 2 6 (fun K hK => ?_) fun K hK => ?_
    ·
     go_simp
     refine (HSK.out _).mono ?_
     rintro e w22 ⟨rfl, hB⟩
     have H22 := Aside0.mk (H21.out.step hB)
     clear hB
     go_wp2_with fail
     refine Ag hK (fun hHeld => ?_) (by exact HRG H22.out 2 rfl)
     clear hK K
     refine Rd2 5 6 (fun K hK => ?_) fun K hK => ?_
     ·
      go_simp
      refine (HSN.out _).mono ?_
      rintro e w23 ⟨rfl, hB⟩
      have H23 := Aside0.mk (H22.out.step hB)
      clear hB
      go_wp2_with fail
      refine Ag hK (fun hHeld => ?_) (by exact HRG H23.out 2 rfl)
      clear hK K
      refine Rd 6 fun K hK => ?_
      refine own_alloc_step H23.out (by rfl) (N := 5) rfl (t := 198) rfl (cellsN z4) 4 (by kernel_rfl) ?_; intro g5 w24 H24; replace H24 := Aside0.mk H24
      refine Ag hK (fun hHeld => ?_) (by exact HRG H24.out 3 rfl)
      clear hK K
      refine Rd 8 fun K hK => ?_
      refine SA 5 30 H24 0 g5 (cellsN [k0, k1, k2, k3]) R4z R4k ?_
      intro w25 H25
      refine Ag hK (fun hHeld => ?_) (by exact HRG H25.out 3 rfl)
      clear hK K
      refine Rd 9 fun K hK => ?_
      refine SA 6 33 H25 1 g6 (cellsN [n0, n1, n2, n3]) R4z R4n ?_
      intro w26 H26
      refine Ag hK (fun hHeld => ?_) (by exact HRG H26.out 3 rfl)
      clear hK K
      refine Dn ?_
      go_wp2_with fail
      go_meet
      exact ⟨g5, g6, rfl, rfl, ⟨by first | exact H26.out | exact H26.out.bring 1 rfl⟩⟩
     ·
      refine own_alloc_step H22.out (by rfl) (N := 5) rfl (t := 198) rfl (cellsN z4) 4 (by kernel_rfl) ?_; intro g5 w23 H23; replace H23 := Aside0.mk H23
      refine Ag hK (fun hHeld => ?_) (by exact HRG H23.out 3 rfl)
      clear hK K
      refine Rd 5 fun K hK => ?_
      go_simp
      refine (HSN.out _).mono ?_
      rintro e w24 ⟨rfl, hB⟩
      have H24 := Aside0.mk (H23.out.step hB)
      clear hB
      go_wp2_with fail
      refine Ag hK (fun hHeld => ?_) (by exact HRG H24.out 3 rfl)
      clear hK K
      refine Rd 8 fun K hK => ?_
      refine SA 5 30 H24 0 g5 (cellsN [k0, k1, k2, k3]) R4z R4k ?_
      intro w25 H25
      refine Ag hK (fun hHeld => ?_) (by exact HRG H25.out 3 rfl)
      clear hK K
      refine Rd 9 fun K hK => ?_
      refine SA 6 33 H25 1 g6 (cellsN [n0, n1, n2, n3]) R4z R4n ?_
      intro w26 H26
      refine Ag hK (fun hHeld => ?_) (by exact HRG H26.out 3 rfl)
      clear hK K
      refine Dn ?_
      go_wp2_with fail
      go_meet
      exact ⟨g5, g6, rfl, rfl, ⟨by first | exact H26.out | exact H26.out.bring 1 rfl⟩⟩
    ·
     refine own_alloc_step H21.out (by rfl) (N := 5) rfl (t := 198) rfl (cellsN z4) 4 (by kernel_rfl) ?_; intro g5 w22 H22; replace H22 := Aside0.mk H22
     refine Ag hK (fun hHeld => ?_) (by exact HRG H22.out 3 rfl)
     clear hK K
     refine Rd 2 fun K hK => ?_
     go_simp
     refine (HSK.out _).mono ?_
     rintro e w23 ⟨rfl, hB⟩
     have H23 := Aside0.mk (H22.out.step hB)
     clear hB
     go_wp2_with fail
     refine Ag hK (fun hHeld => ?_) (by exact HRG H23.out 3 rfl)
     clear hK K
     refine Rd 5 fun K hK => ?_
     go_simp
     refine (HSN.out _).mono ?_
     rintro e w24 ⟨rfl, hB⟩
     have H24 := Aside0.mk (H23.out.step hB)
     clear hB
     go_wp2_with fail
     refine Ag hK (fun hHeld => ?_) (by exact HRG H24.out 3 rfl)
     clear hK K
     refine Rd 8 fun K hK => ?_
     refine SA 5 30 H24 0 g5 (cellsN [k0, k1, k2, k3]) R4z R4k ?_
     intro w25 H25
     refine Ag hK (fun hHeld => ?_) (by exact HRG H25.out 3 rfl)
     clear hK K
     refine Rd 9 fun K hK => ?_
     refine SA 6 33 H25 1 g6 (cellsN [n0, n1, n2, n3]) R4z R4n ?_
     intro w26 H26
     refine Ag hK (fun hHeld => ?_) (by exact HRG H26.out 3 rfl)
     clear hK K
     refine Dn ?_
     go_wp2_with fail
     go_meet
     exact ⟨g5, g6, rfl, rfl, ⟨by first | exact H26.out | exact H26.out.bring 1 rfl⟩⟩
  case rest =>
  obtain ⟨g5, g6, rfl, rfl, H6⟩ := hcut
  clear H5 HKY HNX hcs HSK HSN HLK HLN
  go_upto_region 6 with fail
  have HD6 := Aside0.mk H6.out.drew
  clear H6
  have hsrc6 : ∀ j v, ([.int .u64 (k0 : Int), .int .u64 (k1 : Int), .int .u64 (k2 : Int), .int .u64 (k3 : Int)] : List Value)[j]? = some v → wc.drew.cell? ((⟨g5, 0, none⟩ : Addr).add j) = some v := fun j v hj => by
   rw [add_plain]
   exact HD6.out.cell 1 rfl j (by simpa [cellsN] using hj)
  refine St (fun _ => True) (fun hHeld => ?_)
  refine Tk 0 ?_
  refine Tk 1 ?_
  clear hHeld
  refine Rd 2 fun K hK => ?_
  refine own_copy_step HD6.out 2 g4 [.int .u64 kd, .int .u64 fr, .int .u64 tt, .int .u64 am, .int .u64 no, .int .u64 0, .int .u64 0, .int .u64 0, .int .u64 0, .int .u64 0, .int .u64 0, .int .u64 0, .int .u64 0] 194 (by rfl) (by rfl) (.tmp 34) (.tmp 35) 22 22 rfl 23 Try.underlying22 (by kernel_rfl) 5 ⟨g5, 0, none⟩ 4 8 4 4 (by rfl) (by rfl) [.int .u64 (k0 : Int), .int .u64 (k1 : Int), .int .u64 (k2 : Int), .int .u64 (k3 : Int)] (by rfl) hsrc6 (by simp) (by simp [Value.oneCell']) #[.int .u64 kd, .int .u64 fr, .int .u64 tt, .int .u64 am, .int .u64 no, .int .u64 (k0 : Int), .int .u64 (k1 : Int), .int .u64 (k2 : Int), .int .u64 (k3 : Int), .int .u64 0, .int .u64 0, .int .u64 0, .int .u64 0] (by rfl) ?_
  intro w7 h
  have H7 := Aside0.mk h
  clear h hsrc6 HD6
  refine Ag hK (fun hHeld => ?_)
  clear hK K
  refine Dn ?_
  go_upto_region 7 with fail
  have HD7 := Aside0.mk H7.out.drew
  clear H7
  have hsrc7 : ∀ j v, ([.int .u64 (n0 : Int), .int .u64 (n1 : Int), .int .u64 (n2 : Int), .int .u64 (n3 : Int)] : List Value)[j]? = some v → w7.drew.cell? ((⟨g6, 0, none⟩ : Addr).add j) = some v := fun j v hj => by
   rw [add_plain]
   exact HD7.out.cell 0 rfl j (by simpa [cellsN] using hj)
  refine St (fun _ => True) (fun hHeld => ?_)
  refine Tk 0 ?_
  refine Tk 1 ?_
  clear hHeld
  refine Rd 2 fun K hK => ?_
  refine own_copy_step HD7.out 2 g4 [.int .u64 kd, .int .u64 fr, .int .u64 tt, .int .u64 am, .int .u64 no, .int .u64 (k0 : Int), .int .u64 (k1 : Int), .int .u64 (k2 : Int), .int .u64 (k3 : Int), .int .u64 0, .int .u64 0, .int .u64 0, .int .u64 0] 194 (by rfl) (by rfl) (.tmp 37) (.tmp 38) 22 22 rfl 23 Try.underlying22 (by kernel_rfl) 9 ⟨g6, 0, none⟩ 4 4 4 4 (by rfl) (by rfl) [.int .u64 (n0 : Int), .int .u64 (n1 : Int), .int .u64 (n2 : Int), .int .u64 (n3 : Int)] (by rfl) hsrc7 (by simp) (by simp [Value.oneCell']) #[.int .u64 kd, .int .u64 fr, .int .u64 tt, .int .u64 am, .int .u64 no, .int .u64 (k0 : Int), .int .u64 (k1 : Int), .int .u64 (k2 : Int), .int .u64 (k3 : Int), .int .u64 (n0 : Int), .int .u64 (n1 : Int), .int .u64 (n2 : Int), .int .u64 (n3 : Int)] (by rfl) ?_
  intro w8 h
  have H8 := Aside0.mk h
  clear h hsrc7 HD7
  refine Ag hK (fun hHeld => ?_)
  clear hK K
  refine Dn ?_
  have H9 : Aside0 (Own w.heap.size w w8 [.blk g4 (cellsN ws) 194]) := ⟨by have h := ((H8.out.erase 3).erase 1).erase 0; rw [← HWC.out]; exact h⟩
  clear H8 HWC R4z R4k R4n
  go_upto_region 9 with (first
   | fail
   | ((with_reducible refine gate_dst (N := 40) rfl ?_); refine own_make kB Flat_B H9.out 5 rfl (N := 40) rfl 74 (.const (.int .i64 104)) (.const (.int .i64 104)) rfl 104 (by rfl) (by rfl) Try.underlying74 (.int .u8 0) 1 infoB rfl (by decide) (by decide) 0 (fun _ => rfl) (by decide) (by decide) ?_; intro A7 c7 w9 H10 B10; replace H10 := Aside0.mk H10)
   )
  have H11 : Aside0 (Own w.heap.size w w9 [.row kB 5 (.slice A7 104 c7) (fillN 104 ws 0), .blk g4 (cellsN ws) 194]) := ⟨by rw [fillN_zero]; exact H10.out⟩
  clear H10 B10 H9
  obtain ⟨g7, cap, he, hc7⟩ := H11.out.form 0 rfl (by rw [fillN_len (by rw [HWL.out]) (Nat.zero_le _)]; decide)
  rw [fillN_len (by rw [HWL.out]) (Nat.zero_le _)] at he hc7
  injection he with he he2 he3
  subst he he3
  go_wp2_with fail
  go_loopw [41] (fun vi wr => ∃ i : Nat, i ≤ 104 ∧ vi = .int .i64 (i : Int) ∧ Aside0 (Own w.heap.size w wr [.row kB 5 (.slice (some ⟨g7, 0, none⟩) 104 c7) (fillN 104 ws i), .blk g4 (cellsN ws) 194])) (fun vi _ => 104 - (intOf vi).toNat)
  case atStart => exact ⟨0, Nat.zero_le _, rfl, H11⟩
  case round =>
   clear H11
   obtain ⟨i, hi, rfl, HI⟩ := hrel
   by_cases hlt : i < 104
   ·have hdl : decide ((i : Int) < 104) = true := decide_eq_true (by omega)
    have hq : i / 8 < ws.length := by rw [HWL.out]; omega
    have hq13 : i / 8 < 13 := by omega
    have HST := Aside0.mk (fillN_step (n := 104) (ws := ws) (by rw [HWL.out]) hlt)
    have hxu := HWU.out _ (List.getElem_mem hq)
    have hx : wr.cell? ⟨g4, i / 8, none⟩ = some (.int .u64 ((ws[i / 8] : Nat) : Int)) := HI.out.cell 1 rfl (i / 8) (cellsN_at _ _ hq)
    obtain ⟨hth, hfz⟩ := HI.out.there1 0 rfl i hlt rfl
    obtain ⟨vo, hvo⟩ := Option.isSome_iff_exists.1 hth
    clear hth
    generalize ws[i / 8] = x at *
    rw [cast_shr8] at HST
    go_wp2_with fail
    go_roundw
    case rel => exact ⟨i + 1, hlt, by go_num, ⟨by have h := HI.out.putS 0 rfl i hlt (x := (x : Int) / 2 ^ (56 - 8 * (i % 8)) % 256) (v := .int .u8 ((x : Int) / 2 ^ (56 - 8 * (i % 8)) % 256)) Flat_B rfl (fun _ => rfl); rw [HST.out] at h; exact h⟩⟩
    case measure => simp [intOf]; omega
   ·have hdl : decide ((i : Int) < 104) = false := decide_eq_false (by omega)
    obtain rfl : i = 104 := by omega
    rw [fillN_all (by rw [HWL.out])] at HI
    go_wp2_with fail
    go_ret2
    exact ⟨_, rfl, HI.out.erase 1⟩
theorem Own.of_R {α : Type} {d : Kd α} {e : Nat} {w w' : World} {v : Value} {xs : List α} (h : Kd.R d e w' w.heap.size (fun _ => True) v xs) (hb : Below w.heap.size w w') : Own w.heap.size w w' [.row d e v xs] :=
 (Own.start w).fresh hb (.row d e v xs) (Kd.R_lower (Kd.R_mono (Kd.R_bound h) fun k hk => ⟨hk.2.1, hk.2.2.1⟩) (Nat.zero_le _))
theorem rcopyB_any (m : List Int) (A : Option Addr) (c : Nat) (W : World) (hC : Kd.C kB W A m.length m) (hc : m.length ≤ c) (hm : m.length ≤ 140737488351232) :
 Calls Try.prog 43 #[.slice A m.length c] W fun e w' => ∃ A1 c1, e = .returned (.slice A1 m.length c1) ∧ m.length ≤ c1 ∧ Own W.heap.size W w' [.row kB 5 (.slice A1 m.length c1) m] :=
 (PRF.proctorref01_Copy.calls A c m m W hC hc (copy01_f m hm)).mono fun e w' ⟨v, he, hR, hb⟩ => by
  obtain ⟨A1, c1, rfl, hc1, _⟩ := Kd.R_reads hR
  exact ⟨A1, c1, he, hc1, Own.of_R hR hb⟩
theorem rclist_any (l : List (List Int)) (A : Option Addr) (c : Nat) (W : World) (hC : Kd.C kL W A l.length l) (hc : l.length ≤ c) (hl : l.length ≤ 5864062014800) (hm : ∀ m ∈ l, m.length ≤ 140737488351232) :
 Calls Try.prog 92 #[.slice A l.length c] W fun e w' => ∃ A1 c1, e = .returned (.slice A1 l.length c1) ∧ l.length ≤ c1 ∧ Own W.heap.size W w' [.row kL 74 (.slice A1 l.length c1) l] :=
 (PRF.proctorref20_CopyList.calls (l.length + 1) A c l l W hC hc (copylist_ev l hl hm _ (Nat.le_refl _))).mono fun e w' ⟨v, he, hS, hb⟩ => by
  have hR := Kd.S_R hS
  obtain ⟨A1, c1, rfl, hc1, _⟩ := Kd.R_reads hR
  exact ⟨A1, c1, he, hc1, Own.of_R hR hb⟩
theorem rcopy_any (q : List SQ) (tk : Int) (l : List (List Int)) (nx : Int) (A1 A2 : Option Addr) (c1 c2 : Nat) (w : World) (hC1 : Kd.C kQ w A1 q.length q) (hc1 : q.length ≤ c1) (hC2 : Kd.C kL w A2 l.length l) (hc2 : l.length ≤ c2)
 (hq : q.length ≤ 4398046511100) (hl : l.length ≤ 5864062014800) (hqm : ∀ d ∈ q, d.f1.length ≤ 140737488351232) (hlm : ∀ m ∈ l, m.length ≤ 140737488351232) :
 Calls Try.prog 42 #[.agg #[.slice A1 q.length c1, .int .i64 tk, .slice A2 l.length c2, .int .u64 nx]] w fun e w' => ∃ A3 c3 A4 c4, e = .returned (.agg #[.slice A3 q.length c3, .int .i64 tk, .slice A4 l.length c4, .int .u64 nx]) ∧ q.length ≤ c3 ∧ l.length ≤ c4 ∧ Own w.heap.size w w' [.row kQ 78 (.slice A3 q.length c3) q, .row kL 74 (.slice A4 l.length c4) l] := by
 have H0 := Aside0.mk (Own.start w)
 have HCL := Aside0.mk (fun W (h : Below w.heap.size w W) => rclist_any l A2 c2 W (Kd.C_below hC2 h) hc2 hl hlm)
 have HC1 := Aside0.mk hC1
 have HQM := Aside0.mk (fun (i : Nat) (h : i < q.length) => hqm q[i] (List.getElem_mem h))
 clear hC1 hC2 hqm hlm hc2
 generalize l.length = m at *
 obtain ⟨n, hn⟩ : ∃ n, n = q.length := ⟨_, rfl⟩
 rw [← hn] at HC1 hc1 hq ⊢
 have HN := Aside0.mk hn
 clear hn
 go_enter Try.func42, Try.ntmps42
 go_upto_region 2 with (first
  | fail
  | ((with_reducible refine Gd 1 ?_); go_loud ( refine OB H0 73 #[.slice A1 n c1, .int .i64 tk, .slice A2 m c2, .int .u64 nx] ?_; intro g1 w1 H1 B1))
  | ((with_reducible refine Gd 2 ?_); go_loud ( refine OA H1 73 #[.slice none 0 0, .int .i64 0, .slice none 0 0, .int .u64 0] 4 ?_; intro g2 w2 H2 B2))
  )
 have H3 : Aside0 (Own w.heap.size w w2 [.row kQ 78 (.slice none 0 0) (q.take 0), .blk g2 #[.slice none 0 0, .int .i64 0, .slice none 0 0, .int .u64 0] 73, .blk g1 #[.slice A1 n c1, .int .i64 tk, .slice A2 m c2, .int .u64 nx] 73]) := ⟨H2.out.null kQ _⟩
 clear H0 H1 H2 B1 B2
 go_wp2_with fail
 go_loopw [3, 4] (fun v3 v4 wr => ∃ (i : Nat) (A : Option Addr) (c : Nat), i ≤ n ∧ v4 = .int .i64 (i : Int) ∧ v3 = .slice A i c ∧ i ≤ c ∧ Aside0 (Own w.heap.size w wr [.row kQ 78 (.slice A i c) (q.take i), .blk g2 #[.slice none 0 0, .int .i64 0, .slice none 0 0, .int .u64 0] 73, .blk g1 #[.slice A1 n c1, .int .i64 tk, .slice A2 m c2, .int .u64 nx] 73])) (fun v3 v4 _ => n - (intOf v4).toNat)
 case atStart => exact ⟨0, none, 0, Nat.zero_le _, rfl, rfl, Nat.le_refl _, H3⟩
 case round =>
  clear H3
  obtain ⟨i, A, c, hin, rfl, rfl, hic, HI⟩ := hrel
  by_cases hlt : i < n
  ·have hdl : decide ((i : Int) < (n : Int)) = true := decide_eq_true (by omega)
   have hwi : IntKind.i64.wrap ((i : Int) + 1) = ((i + 1 : Nat) : Int) := by rw [IntWalk.i64_in _ (by omega)]; omega
   have hib : (0 : Int) ≤ (i : Int) ∧ (i : Int) < (n : Int) := by omega
   have hiq : i < q.length := by rw [← HN.out]; exact hlt
   obtain ⟨ad, Ab, cb, rfl, hcA, hcB, hcb, hCb⟩ := PRF.at_T78 HC1.out (i : Int) hib.1 hib.2
   rw [rdQ q i hiq] at hcA hcB hcb hCb
   rw [Int.toNat_natCast] at hcA hcB
   have HTK : Aside0 (q.take (i + 1) = q.take i ++ [⟨q[i].f0, q[i].f1⟩]) := ⟨List.take_succ_eq_append_getElem hiq⟩
   have HTL : Aside0 ((q.take i).length = i) := ⟨by rw [List.length_take]; omega⟩
   have HCB := Aside0.mk (fun W (h : Below w.heap.size w W) => rcopyB_any q[i].f1 Ab cb W (Kd.C_below hCb h) hcb (HQM.out i hiq))
   have HCA := Aside0.mk hcA
   have HCBe := Aside0.mk hcB
   clear hcA hcB hCb hcb
   generalize q[i].f0 = b at *
   generalize q[i].f1 = msg at *
   generalize hnb : msg.length = nb at *
   clear hnb
   have k0 : wr.cell? ⟨g1, 0, none⟩ = some (.slice (some ad) n c1) := HI.out.cell 2 rfl 0 rfl
   go_upto_region 5 with fail
   clear k0
   have HD := Aside0.mk HI.out.drew
   have hkS : wr.drew.cell? ⟨g1, 0, none⟩ = some (.slice (some ad) n c1) ∧ wr.drew.cell? (ad.add (i * 2)) = some (.int .i64 b) ∧ wr.drew.cell? ⟨(ad.add (i * 2)).block, (ad.add (i * 2)).off + 1, none⟩ = some (.slice Ab nb cb) := ⟨HD.out.cell 2 rfl 0 rfl, pw_cell_below HD.out.below HCA.out, pw_cell_below HD.out.below HCBe.out⟩
   clear HI
   refine St (fun W => W.cell? ⟨g1, 0, none⟩ = some (.slice (some ad) n c1) ∧ W.cell? (ad.add (i * 2)) = some (.int .i64 b) ∧ W.cell? ⟨(ad.add (i * 2)).block, (ad.add (i * 2)).off + 1, none⟩ = some (.slice Ab nb cb)) (fun hHeld => ?_) (by exact hkS)
   refine Tk 0 ?_
   refine Tk 1 ?_
   refine Tk 2 ?_
   refine Tk 3 ?_
   refine Tk 4 ?_
   refine Tk 5 ?_
   refine Tk 6 ?_
   refine Tk 7 ?_
   refine Tk 8 ?_
   refine Tk 9 ?_
   refine Tk 10 ?_
   refine Tk 11 ?_
   refine Tk 12 ?_
   clear hkS hHeld
   generalize wr.drew = wd at *
   refine Rd 13 fun K hK => ?_
   go_simp
   refine (HCB.out _ HD.out.below).mono ?_
   rintro e w5 ⟨A6, c6, rfl, hc6, hO5⟩
   have H5 := Aside0.mk (HD.out.call hO5)
   clear hO5
   go_wp2_with fail
   refine Ag hK (fun hHeld => ?_) (by exact ⟨H5.out.cell 3 rfl 0 rfl, pw_cell_below H5.out.below HCA.out, pw_cell_below H5.out.below HCBe.out⟩)
   clear hK K
   refine Tk 14 ?_
   refine Rd 15 fun K hK => ?_
   have kA : (w5.alloc (.cells #[.int .i64 b, .slice A6 nb c6] 78)).cell? ⟨g1, 0, none⟩ = some (.slice (some ad) n c1) := (H5.out.alloc _).cell 3 rfl 0 rfl
   have kB := pw_cell_below (H5.out.alloc (.cells #[.int .i64 b, .slice A6 nb c6] 78)).below HCA.out
   have kC := pw_cell_below (H5.out.alloc (.cells #[.int .i64 b, .slice A6 nb c6] 78)).below HCBe.out
   refine step_of_run (W1 := w5.alloc (.cells #[.int .i64 b, .slice A6 nb c6] 78)) (v := .slice (some ⟨w5.heap.size, 0, none⟩) 1 1) (by rfl) (by first | (go_simp; done) | (go_simp; rfl)) ?_
   refine Ag hK (fun hHeld => ?_) (by exact ⟨kA, kB, kC⟩)
   clear hK K
   clear kA kB kC
   refine Rd 16 fun K hK => ?_
   refine own_appendM_step kQ kB (H5.out.bring 1 rfl) (by rfl) (.tmp 12) (.tmp 27) 70 (.agg #[.int .i64 0, .slice none 0 0]) 32 rfl Try.underlying70 PRF.info78 rfl (show 0 < 2 by decide) (by decide) ⟨b, msg⟩ [.int .i64 b, .slice A6 nb c6] rfl rfl (fun W ok h => PRF.k78_mkM W 0 ok ⟨b, msg⟩ h) (by rw [HTL.out]; omega) ?_
   intro v8 w8 H8
   obtain ⟨A8, c8, rfl, hc8, _⟩ := H8.reads 0 rfl
   rw [show (q.take i ++ [(⟨b, msg⟩ : SQ)]).length = i + 1 by rw [List.length_append, HTL.out]; rfl] at H8 hc8
   rw [show (q.take i ++ [(⟨b, msg⟩ : SQ)]).length = i + 1 by rw [List.length_append, HTL.out]; rfl]
   rw [← HTK.out] at H8
   replace H8 := Aside0.mk H8
   refine Ag hK (fun hHeld => ?_) (by exact ⟨H8.out.cell 2 rfl 0 rfl, pw_cell_below H8.out.below HCA.out, pw_cell_below H8.out.below HCBe.out⟩)
   clear hK K
   refine Tk 17 ?_
   refine Dn ?_
   go_wp2_with fail
   go_roundw
   case rel => exact ⟨i + 1, A8, c8, hlt, by go_num, rfl, hc8, H8⟩
   case measure => simp [intOf]; omega
  ·have hdl : decide ((i : Int) < (n : Int)) = false := decide_eq_false (by omega)
   obtain rfl : i = n := by omega
   have k0 : wr.cell? ⟨g1, 0, none⟩ = some (.slice A1 i c1) ∧ wr.cell? ⟨g1, 2, none⟩ = some (.slice A2 m c2) := ⟨HI.out.cell 2 rfl 0 rfl, HI.out.cell 2 rfl 2 rfl⟩
   rw [List.take_of_length_le (by rw [← HN.out]; exact Nat.le_refl _)] at HI
   have HA0 : Aside0 (Arr 4 #[.slice none 0 0, .int .i64 0, .slice none 0 0, .int .u64 0]) := ⟨rfl, by simp [Value.oneCell']⟩
   go_wp2_with (first
    | fail
    | (go_at_call 92; go_loud ( refine (HCL.out _ HI.out.below).mono ?_; rintro e w5 ⟨A4, c4, rfl, hc4, hO5⟩; have H5 := Aside0.mk (HI.out.call hO5); have HA1 : Aside0 (Arr 4 #[.slice A i c, .int .i64 tk, .slice A4 m c4, .int .u64 nx]) := ⟨rfl, by simp [Value.oneCell']⟩; clear hO5))
    | ((with_reducible refine Gs 70 33 ?_); go_loud ( refine OT1 33 70 H5 3 g1 73 0 (.slice A i c) #[.slice A i c, .int .i64 tk, .slice A2 m c2, .int .u64 nx] rfl (by simp) ?_; intro w6 H6))
    | ((with_reducible refine Gs 71 34 ?_); go_loud ( refine OT1 34 71 H6 3 g1 73 2 (.slice A4 m c4) #[.slice A i c, .int .i64 tk, .slice A4 m c4, .int .u64 nx] rfl (by simp) ?_; intro w7 H7))
    | ((with_reducible refine Gd 35 ?_); go_loud ( refine OV 1 H7 3 g1 73 rfl Try.underlying73 (by kernel_rfl) ?_))
    | ((with_reducible refine Gs 73 2 ?_); go_loud ( refine OS 2 35 H7 2 g2 73 #[.slice A i c, .int .i64 tk, .slice A4 m c4, .int .u64 nx] 4 HA0 HA1 ?_; intro w8 H8))
    )
   refine bodyPost_ret (own_resultV rfl _ H8.out 2 g2 _ rfl rfl _ Try.underlying73 rfl (by kernel_rfl)) rfl ?_
   exact ⟨A, c, A4, c4, rfl, hic, hc4, ((H8.out.bring 1 rfl).erase 2).erase 2⟩
def waitI (x : Box) (blk : Int) (m : List Int) : Box × Int := if sinceI x.q x.tk x.l blk && decide (m.length ≤ 65536) then queueI x blk m else (zeroB, 2)
theorem enqI_wait (x : Box) (blk : Int) (m : List Int) : enqI x blk m = if depB m = true then (zeroB, 2) else waitI x blk m := by
 unfold enqI waitI
 by_cases h : depB m = true
 ·rw [if_pos h, h]; simp
 ·rw [if_neg h]
  have : depB m = false := by simpa using h
  rw [this]; simp
theorem wait_j0 (k : Nat) (x : Box) (blk : Int) (m : List Int) (hc : PRF.proctorref20_Copy.f k x.q x.tk x.l x.nx = some (x.q, x.tk, x.l, x.nx)) (hm : m.length ≤ 140737488351232) :
 PRF.proctorref20_wait.j0 (k + 1) blk m false x.q x.tk x.l x.nx = some ((queueI x blk m).1.q, (queueI x blk m).1.tk, (queueI x blk m).1.l, (queueI x blk m).1.nx, (queueI x blk m).2) := by
 rw [PRF.proctorref20_wait.j0, if_neg (by decide)]
 unfold queueI
 by_cases h : x.q.length < 4096
 ·rw [if_neg (by omega), if_pos h, hc, Option.bind_some, copy01_f m hm, Option.bind_some]
  dsimp only
  rw [if_pos (by omega)]
 ·rw [if_pos (by omega), if_neg h]
  rfl
theorem wait_ev (x : Box) (blk : Int) (m : List Int) (hq : x.q.length ≤ 9223372036854775807) (hl : x.l.length ≤ 9223372036854775807) :
 ∃ k, PRF.proctorref20_wait.f k x.q x.tk x.l x.nx blk m = some ((waitI x blk m).1.q, (waitI x blk m).1.tk, (waitI x blk m).1.l, (waitI x blk m).1.nx, (waitI x blk m).2) := by
 obtain ⟨k0, hk0⟩ := may20_ev x.q x.tk x.l x.nx hq hl
 obtain ⟨M, hM⟩ := K.Ev.of_mono (fun k => PRF.proctorref20_May.mono x.q x.tk x.l x.nx k) hk0
 dsimp only at hM
 cases hmy : mayI x.q x.tk x.l with
 | false =>
  refine ⟨M + 1, ?_⟩
  have h1 : waitI x blk m = (zeroB, 2) := by unfold waitI sinceI; rw [hmy]; rfl
  rw [PRF.proctorref20_wait.f, hM (M + 1) (by omega), hmy, Option.bind_some, if_neg (by decide), PRF.proctorref20_wait.j0, if_pos rfl, h1]
  rfl
 | true =>
  obtain ⟨m1, m2, m3, m4⟩ := mayI_len hmy
  obtain ⟨m5, m6⟩ := mayI_all hmy
  obtain ⟨kc, hkc⟩ := copy20_ev x (by omega) (by omega) (fun d hd => by have := (m5 d hd).2; omega) (fun z hz => by have := m6 z hz; omega)
  obtain ⟨C, hC⟩ := K.Ev.of_mono (fun k => PRF.proctorref20_Copy.mono x.q x.tk x.l x.nx k) hkc
  refine ⟨M + C + 1, ?_⟩
  have hbad : ∀ (h : sinceI x.q x.tk x.l blk = false ∨ 65536 < m.length), PRF.proctorref20_wait.j0 (M + C + 1) blk m true x.q x.tk x.l x.nx = some ((waitI x blk m).1.q, (waitI x blk m).1.tk, (waitI x blk m).1.l, (waitI x blk m).1.nx, (waitI x blk m).2) := by
   intro h
   have h1 : waitI x blk m = (zeroB, 2) := by
    unfold waitI
    rcases h with h | h
    ·rw [h]; rfl
    ·rw [decide_eq_false (by omega : ¬ m.length ≤ 65536), Bool.and_false]; rfl
   rw [PRF.proctorref20_wait.j0, if_pos rfl, h1]
   rfl
  have hgood : ∀ (h : sinceI x.q x.tk x.l blk = true), PRF.proctorref20_wait.j0 (M + C + 1) blk m (decide ((m.length : Int) > 65536)) x.q x.tk x.l x.nx = some ((waitI x blk m).1.q, (waitI x blk m).1.tk, (waitI x blk m).1.l, (waitI x blk m).1.nx, (waitI x blk m).2) := by
   intro h
   by_cases h6 : m.length ≤ 65536
   ·have h1 : waitI x blk m = queueI x blk m := by unfold waitI; rw [h, decide_eq_true h6]; rfl
    rw [decide_eq_false (by omega), h1]
    exact wait_j0 (M + C) x blk m (hC _ (by omega)) (by omega)
   ·rw [decide_eq_true (by omega)]
    exact hbad (.inr (by omega))
  rw [PRF.proctorref20_wait.f, hM (M + C + 1) (by omega), hmy, Option.bind_some, if_pos rfl]
  by_cases h0 : blk < 0
  ·rw [if_pos h0]
   refine hbad (.inl ?_)
   unfold sinceI
   rw [decide_eq_false (by omega : ¬ 0 ≤ blk)]
   simp
  ·rw [if_neg h0]
   by_cases h1 : (x.q.length : Int) > 0
   ·have hw : wrap64 ((x.q.length : Int) - 1) = (x.q.length : Int) - 1 := K.wrap64_in _ (by omega)
    rw [if_pos h1, hw, if_pos (by omega), if_pos (by omega)]
    have hlb : (PRF.rd_T78 x.q ((x.q.length : Int) - 1)).f0 = lastB x.q := rfl
    rw [hlb]
    by_cases h2 : blk < lastB x.q
    ·rw [if_pos h2]
     refine hbad (.inl ?_)
     unfold sinceI
     rw [decide_eq_false (by omega : ¬ x.q.length = 0), decide_eq_false (by omega : ¬ lastB x.q ≤ blk)]
     simp
    ·rw [if_neg h2]
     refine hgood ?_
     unfold sinceI
     rw [hmy, decide_eq_true (by omega : 0 ≤ blk), decide_eq_true (by omega : lastB x.q ≤ blk)]
     simp
   ·rw [if_neg h1]
    refine hgood ?_
    unfold sinceI
    rw [hmy, decide_eq_true (by omega : 0 ≤ blk), decide_eq_true (by omega : x.q.length = 0)]
    rfl
def Item.rows2 (v1 : Value) (q : List SQ) (v2 : Value) (l : List (List Int)) : Item where
 P := fun W S => Kd.R kQ 78 W 0 S v1 q ∧ Kd.R kL 74 W 0 S v2 l
 move := fun hm h => ⟨Kd.R_move h.1 hm, Kd.R_move h.2 hm⟩
 mono := fun hm h => ⟨Kd.R_mono h.1 hm, Kd.R_mono h.2 hm⟩
theorem Own.rows2_C {B : Nat} {w0 W : World} {L : List Item} {A1 A2 : Option Addr} {n1 c1 n2 c2 : Nat} {q : List SQ} {l : List (List Int)} (h : Own B w0 W L) (k : Nat) (hk : L[k]? = some (.rows2 (.slice A1 n1 c1) q (.slice A2 n2 c2) l)) : Kd.C kQ W A1 n1 q ∧ Kd.C kL W A2 n2 l := by
 obtain ⟨S, _, h1, h2⟩ := h.look k hk
 obtain ⟨A, c, e1, _, k1⟩ := Kd.R_reads h1
 obtain ⟨A', c', e2, _, k2⟩ := Kd.R_reads h2
 cases e1
 cases e2
 exact ⟨k1, k2⟩
def BoxRd (w : World) (r : Box × Int) (e : Ending) (w' : World) : Prop :=
 ∃ A1 c1 A2 c2, e = .returned (.tuple #[.agg #[.slice A1 r.1.q.length c1, .int .i64 r.1.tk, .slice A2 r.1.l.length c2, .int .u64 r.1.nx], .int .i64 r.2]) ∧ r.1.q.length ≤ c1 ∧ r.1.l.length ≤ c2 ∧ Own w.heap.size w w' [.rows2 (.slice A1 r.1.q.length c1) r.1.q (.slice A2 r.1.l.length c2) r.1.l]
theorem Own.to_rows2 {B : Nat} {w0 W : World} {L : List Item} {v1 v2 : Value} {q : List SQ} {l : List (List Int)} (h : Own B w0 W (.row kQ 78 v1 q :: .row kL 74 v2 l :: L)) : Own B w0 W (.rows2 v1 q v2 l :: L) :=
 h.join.turn 0 rfl fun S hj => by
  obtain ⟨S1, S2, c1, c2, _, h1, h2⟩ := hj
  exact ⟨Kd.R_mono h1 c1, Kd.R_mono h2 c2⟩
theorem BoxPost.rd {w : World} {r : Box × Int} {e : Ending} {w' : World} (h : BoxPost w r e w') : BoxRd w r e w' := by
 obtain ⟨v1, v2, rfl, hO⟩ := h
 obtain ⟨A1, c1, rfl, h1, _⟩ := hO.reads 0 rfl
 obtain ⟨A2, c2, rfl, h2, _⟩ := hO.reads 1 rfl
 exact ⟨A1, c1, A2, c2, rfl, h1, h2, hO.to_rows2⟩
theorem rwait_any (x : Box) (blk : Int) (m : List Int) (A1 A2 Am : Option Addr) (c1 c2 cm : Nat) (w : World) (hC1 : Kd.C kQ w A1 x.q.length x.q) (hc1 : x.q.length ≤ c1) (hC2 : Kd.C kL w A2 x.l.length x.l) (hc2 : x.l.length ≤ c2)
 (hC3 : Kd.C kB w Am m.length m) (hc3 : m.length ≤ cm) :
 Calls Try.prog 94 #[.agg #[.slice A1 x.q.length c1, .int .i64 x.tk, .slice A2 x.l.length c2, .int .u64 x.nx], .int .i64 blk, .slice Am m.length cm] w (BoxRd w (waitI x blk m)) := by
 obtain ⟨k, hk⟩ := wait_ev x blk m (Kd.C_max hC1) (Kd.C_max hC2)
 refine (PRF.proctorref20_wait.calls k A1 c1 x.q x.tk A2 c2 x.l x.nx blk Am cm m _ _ _ _ _ w hC1 hc1 hC2 hc2 hC3 hc3 hk).mono ?_
 rintro e w' ⟨v1, v2, rfl, hS1, hS2, hb⟩
 obtain ⟨B1, d1, rfl, h1, k1⟩ := Kd.R_reads (Kd.S_R hS1)
 obtain ⟨B2, d2, rfl, h2, k2⟩ := Kd.R_reads (Kd.S_R hS2)
 exact ⟨B1, d1, B2, d2, rfl, h1, h2, (Own.start w).fresh hb (.rows2 _ _ _ _) ⟨Kd.R_lower (Kd.R_mono (Kd.R_bound (Kd.S_R hS1)) fun k hk => ⟨hk.2.1, hk.2.2.1⟩) (Nat.zero_le _), Kd.R_lower (Kd.R_mono (Kd.R_bound (Kd.S_R hS2)) fun k hk => ⟨hk.2.1, hk.2.2.1⟩) (Nat.zero_le _)⟩⟩
theorem renqueue_any (x : Box) (blk : Int) (m : List Int) (A1 A2 Am : Option Addr) (c1 c2 cm : Nat) (w : World) (hC1 : Kd.C kQ w A1 x.q.length x.q) (hc1 : x.q.length ≤ c1) (hC2 : Kd.C kL w A2 x.l.length x.l) (hc2 : x.l.length ≤ c2)
 (hC3 : Kd.C kB w Am m.length m) (hc3 : m.length ≤ cm) (hb : ∀ y ∈ m, 0 ≤ y ∧ y ≤ 255) :
 Calls Try.prog 48 #[.agg #[.slice A1 x.q.length c1, .int .i64 x.tk, .slice A2 x.l.length c2, .int .u64 x.nx], .int .i64 blk, .slice Am m.length cm] w (BoxRd w (enqI x blk m)) := by
 have H0 := Aside0.mk (Own.start w)
 have HBR := Aside0.mk (fun W (h : Below w.heap.size w W) => brings_any m Am cm W hb (Kd.C_below hC3 h) hc3)
 have HW := Aside0.mk (fun W (h : Below w.heap.size w W) => rwait_any x blk m A1 A2 Am c1 c2 cm W (Kd.C_below hC1 h) hc1 (Kd.C_below hC2 h) hc2 (Kd.C_below hC3 h) hc3)
 rw [enqI_wait]
 generalize waitI x blk m = r at *
 generalize depB m = d at *
 obtain ⟨q, tk, l, nx⟩ := x
 obtain ⟨⟨rq, rtk, rl, rnx⟩, re⟩ := r
 dsimp only at *
 clear hC1 hC2 hC3
 generalize q.length = n at *
 generalize l.length = k at *
 generalize m.length = nm at *
 have HA0 : Aside0 (Arr 4 #[.slice none 0 0, .int .i64 0, .slice none 0 0, .int .u64 0]) := ⟨rfl, by simp [Value.oneCell']⟩
 go_enter Try.func48, Try.ntmps48
 cases d with
 | true =>
  go_wp2_with (first
   | fail
   | ((with_reducible refine Gd 3 ?_); go_loud ( refine OB H0 73 #[.slice A1 n c1, .int .i64 tk, .slice A2 k c2, .int .u64 nx] ?_; intro g3 w1 H1 B1))
   | ((with_reducible refine Gd 6 ?_); go_loud ( refine OA H1 73 #[.slice none 0 0, .int .i64 0, .slice none 0 0, .int .u64 0] 4 ?_; intro g6 w2 H2 B2))
   | (go_at_call 36; refine (HBR.out _ H2.out.below).mono ?_; rintro e w3 ⟨rfl, hB3⟩; have H3 := Aside0.mk (H2.out.step hB3); clear hB3)
   | ((with_reducible refine Gs 73 6 ?_); go_loud ( refine OS 6 10 H3 0 g6 73 #[.slice none 0 0, .int .i64 0, .slice none 0 0, .int .u64 0] 4 HA0 HA0 ?_; intro w7 HG))
   )
  refine bodyPost_ret (own_resultV_t rfl _ HG.out 0 g6 _ rfl rfl _ Try.underlying73 rfl (by kernel_rfl) _ rfl) rfl ?_
  exact ⟨none, 0, none, 0, rfl, Nat.le_refl _, Nat.le_refl _, (((((HG.out.erase 0).erase 0).null kL _).null kQ _)).to_rows2⟩
 | false =>
  go_wp2_with (first
   | fail
   | ((with_reducible refine Gd 3 ?_); go_loud ( refine OB H0 73 #[.slice A1 n c1, .int .i64 tk, .slice A2 k c2, .int .u64 nx] ?_; intro g3 w1 H1 B1))
   | ((with_reducible refine Gd 6 ?_); go_loud ( refine OA H1 73 #[.slice none 0 0, .int .i64 0, .slice none 0 0, .int .u64 0] 4 ?_; intro g6 w2 H2 B2))
   | (go_at_call 36; refine (HBR.out _ H2.out.below).mono ?_; rintro e w3 ⟨rfl, hB3⟩; have H3 := Aside0.mk (H2.out.step hB3); clear hB3)
   | ((with_reducible refine Gd 11 ?_); go_loud ( refine OV 3 H3 1 g3 73 rfl Try.underlying73 (by kernel_rfl) ?_))
   | (go_at_call 94; go_loud ( refine (HW.out _ H3.out.below).mono ?_; rintro e w4 ⟨B1, d1, B2, d2, rfl, h1, h2, hO4⟩; have H4 := Aside0.mk (H3.out.call hO4); have HA1 : Aside0 (Arr 4 #[.slice B1 rq.length d1, .int .i64 rtk, .slice B2 rl.length d2, .int .u64 rnx]) := ⟨rfl, by simp [Value.oneCell']⟩; clear hO4))
   | ((with_reducible refine Gs 73 6 ?_); go_loud ( refine OS 6 15 H4 1 g6 73 #[.slice B1 rq.length d1, .int .i64 rtk, .slice B2 rl.length d2, .int .u64 rnx] 4 HA0 HA1 ?_; intro w5 HG))
   )
  refine bodyPost_ret (own_resultV_t rfl _ HG.out 1 g6 _ rfl rfl _ Try.underlying73 rfl (by kernel_rfl) _ rfl) rfl ?_
  exact ⟨B1, d1, B2, d2, rfl, h1, h2, (HG.out.erase 1).erase 1⟩
def depMsg (dto am : Int) : MsgI := ⟨1, 0, dto, am, 0, z32, z32⟩
theorem depMsg_ok {dto am : Int} (h1 : 0 ≤ dto ∧ dto ≤ 18446744073709551615) (h2 : 0 ≤ am ∧ am ≤ 18446744073709551615) : (depMsg dto am).ok :=
 ⟨⟨by show (0 : Int) ≤ 1; decide, by show (1 : Int) ≤ 255; decide⟩, ⟨Int.le_refl 0, by show (0 : Int) ≤ _; decide⟩, h1, h2, ⟨Int.le_refl 0, by show (0 : Int) ≤ _; decide⟩, ⟨rfl, by show ∀ x ∈ z32, _; decide⟩, ⟨rfl, by show ∀ x ∈ z32, _; decide⟩⟩
theorem builtDep (dto am : Int) : Try.prog.built 92 [(0, .int .u8 1), (2, .int .u64 dto), (3, .int .u64 am)] = some (msgA (depMsg dto am)) := by
 rw [built_placesM]
 rfl
theorem writeM_len (m : MsgI) (hm : m.ok) : (writeM m).length = 104 := by
 unfold writeM
 rw [List.length_append, List.length_append, bytesOf_len, hm.ky.1, hm.nx.1]
 rfl
def depI (x : Box) (blk dto am : Int) : Box × Int := if mayM (depMsg dto am) = true then waitI x blk (writeM (depMsg dto am)) else (zeroB, 2)
theorem depI_not {x : Box} {blk dto am : Int} (h : mayM (depMsg dto am) = false ∨ sinceI x.q x.tk x.l blk = false) : depI x blk dto am = (zeroB, 2) := by
 unfold depI
 rcases h with h | h
 ·rw [h]; rfl
 ·unfold waitI
  rw [h]
  split <;> rfl
theorem depI_yes {x : Box} {blk dto am : Int} (h : mayM (depMsg dto am) = true) (h2 : sinceI x.q x.tk x.l blk = true) (hm : (depMsg dto am).ok) : depI x blk dto am = queueI x blk (writeM (depMsg dto am)) := by
 unfold depI waitI
 rw [h, h2, writeM_len _ hm]
 rfl
theorem deposit7_any (x : Box) (blk dto am : Int) (A1 A2 : Option Addr) (c1 c2 : Nat) (w : World) (hC1 : Kd.C kQ w A1 x.q.length x.q) (hc1 : x.q.length ≤ c1) (hC2 : Kd.C kL w A2 x.l.length x.l) (hc2 : x.l.length ≤ c2)
 (hto : 0 ≤ dto ∧ dto ≤ 18446744073709551615) (ham : 0 ≤ am ∧ am ≤ 18446744073709551615) :
 Calls Try.prog 49 #[.agg #[.slice A1 x.q.length c1, .int .i64 x.tk, .slice A2 x.l.length c2, .int .u64 x.nx], .int .i64 blk, .int .u64 dto, .int .u64 am] w (BoxPost w (depI x blk dto am)) := by
 have H0 := Aside0.mk (Own.start w)
 have hok := depMsg_ok hto ham
 have HWR : Aside0 (∀ W, Calls Try.prog 95 #[.agg (msgA (depMsg dto am))] W fun e w' => ∃ v, e = .returned (.tuple #[v, .int .i64 (wrM (depMsg dto am)).2]) ∧ Own W.heap.size W w' [.row kB 5 v (wrM (depMsg dto am)).1]) := ⟨fun W => mwrite_any (depMsg dto am) hok W⟩
 have HS := Aside0.mk (fun W (h : Below w.heap.size w W) => since_any x.q x.tk x.l x.nx blk A1 A2 c1 c2 W (Kd.C_below hC1 h) hc1 (Kd.C_below hC2 h) hc2)
 have HQ := Aside0.mk (fun (W : World) (h : Below w.heap.size w W) (h1 : mayI x.q x.tk x.l = true) Am cm (h2 : Kd.C kB W Am (writeM (depMsg dto am)).length (writeM (depMsg dto am))) h3 => queue_any x blk (writeM (depMsg dto am)) A1 A2 Am c1 c2 cm W (Kd.C_below hC1 h) hc1 (Kd.C_below hC2 h) hc2 h2 h3 (by rw [writeM_len _ hok]; decide) (by have := (mayI_len h1).2.1; omega) (fun d hd => by have := ((mayI_all h1).1 d hd).2; omega) (fun m hm => by have := (mayI_all h1).2 m hm; omega))
 have HSM := Aside0.mk (fun h : sinceI x.q x.tk x.l blk = true => (sinceI_may h).1)
 have HNO := Aside0.mk (fun h => depI_not (x := x) (blk := blk) (dto := dto) (am := am) h)
 have HYE := Aside0.mk (fun h h2 => depI_yes (x := x) (blk := blk) (dto := dto) (am := am) h h2 hok)
 have HWM : Aside0 (wrM (depMsg dto am) = if mayM (depMsg dto am) = true then (writeM (depMsg dto am), 0) else ([], 2)) := ⟨rfl⟩
 have hbd := builtDep dto am
 have HBD := Aside0.mk hbd
 clear hbd hok
 generalize depI x blk dto am = r at *
 generalize queueI x blk (writeM (depMsg dto am)) = qr at *
 generalize writeM (depMsg dto am) = bb at *
 generalize wrM (depMsg dto am) = wm at *
 generalize mayM (depMsg dto am) = mm at *
 generalize hs1 : sinceI x.q x.tk x.l blk = s1 at *
 clear hs1
 obtain ⟨q, tk, l, nx⟩ := x
 dsimp only at *
 clear hC1 hC2 hto ham
 generalize q.length = n at *
 generalize l.length = k at *
 have HA0 : Aside0 (Arr 4 #[.slice none 0 0, .int .i64 0, .slice none 0 0, .int .u64 0]) := ⟨rfl, by simp [Value.oneCell']⟩
 obtain ⟨A, c, hvf⟩ : ∃ (A : Option Addr) (c : Nat), True := ⟨none, 0, trivial⟩
 clear hvf A c
 go_enter Try.func49, Try.ntmps49
 cases mm
 ·obtain rfl : wm = ([], 2) := by rw [HWM.out]; rfl
  obtain rfl := HNO.out (.inl rfl)
  go_wp2_with (first
   | fail
   | ((with_reducible refine Gd 4 ?_); refine OB H0 73 #[.slice A1 n c1, .int .i64 tk, .slice A2 k c2, .int .u64 nx] ?_; intro g4 w1 H1 B1)
   | ((with_reducible refine Gd 8 ?_); refine OA H1 73 #[.slice none 0 0, .int .i64 0, .slice none 0 0, .int .u64 0] 4 ?_; intro g8 w2 H2 B2)
   | ((with_reducible refine Gd 15 ?_); refine OU 92 [(0, .const (.int .u8 1)), (2, .tmp 13), (3, .tmp 14)] (msgA (depMsg dto am)) rfl (HBD.out) ?_)
   | (go_at_call 95; refine (HWR.out _).mono ?_; rintro e w3 ⟨v3, rfl, hO3⟩; obtain ⟨Ab, cb, hvb, hcb, _⟩ := hO3.reads 0 rfl; have H3 := Aside0.mk (H2.out.call hO3); clear hO3; subst hvb)
   | ((with_reducible refine Gd 22 ?_); refine GV 4 H3 2 g4 73 rfl Try.underlying73 (by kernel_rfl) ?_)
   | (go_at_call 81; refine (HS.out _ H3.out.below).mono ?_; rintro e w4 ⟨rfl, hB4⟩; have H4 := Aside0.mk (H3.out.step hB4); clear hB4)
   | ((with_reducible refine Gs 73 8 ?_); refine OS 8 27 H3 1 g8 73 #[.slice none 0 0, .int .i64 0, .slice none 0 0, .int .u64 0] 4 HA0 HA0 ?_; intro w7 HG)
   | ((with_reducible refine Gd 28 ?_); refine OV 4 H4 2 g4 73 rfl Try.underlying73 (by kernel_rfl) ?_)
   | (go_at_call 84; refine (HQ2.out _ H4.out.below _ _ (H4.out.C_of 0 rfl) hcb).mono ?_; rintro e w8 ⟨v1, v2, rfl, hO8⟩; obtain ⟨Av, cv, rfl, _⟩ := hO8.reads 0 rfl; obtain ⟨Aw, cw, rfl, _⟩ := hO8.reads 1 rfl; have H8 := Aside0.mk (H4.out.call hO8); have HA8 : Aside0 (Arr 4 #[.slice Av qr.1.q.length cv, .int .i64 qr.1.tk, .slice Aw qr.1.l.length cw, .int .u64 qr.1.nx]) := ⟨rfl, by simp [Value.oneCell']⟩; clear hO8)
   | ((with_reducible refine Gs 73 8 ?_); refine OS 8 32 H8 3 g8 73 #[.slice Av qr.1.q.length cv, .int .i64 qr.1.tk, .slice Aw qr.1.l.length cw, .int .u64 qr.1.nx] 4 HA0 HA8 ?_; intro w9 H9)
   )
  refine bodyPost_ret (own_resultV_t rfl _ HG.out 1 g8 _ rfl rfl _ Try.underlying73 rfl (by kernel_rfl) _ rfl) rfl ?_
  exact ⟨_, _, rfl, (((((HG.out.erase 2).erase 1).erase 0).null kL _).null kQ _)⟩
 obtain rfl : wm = (bb, 0) := by rw [HWM.out]; rfl
 cases s1
 ·obtain rfl := HNO.out (.inr rfl)
  go_wp2_with (first
   | fail
   | ((with_reducible refine Gd 4 ?_); refine OB H0 73 #[.slice A1 n c1, .int .i64 tk, .slice A2 k c2, .int .u64 nx] ?_; intro g4 w1 H1 B1)
   | ((with_reducible refine Gd 8 ?_); refine OA H1 73 #[.slice none 0 0, .int .i64 0, .slice none 0 0, .int .u64 0] 4 ?_; intro g8 w2 H2 B2)
   | ((with_reducible refine Gd 15 ?_); refine OU 92 [(0, .const (.int .u8 1)), (2, .tmp 13), (3, .tmp 14)] (msgA (depMsg dto am)) rfl (HBD.out) ?_)
   | (go_at_call 95; refine (HWR.out _).mono ?_; rintro e w3 ⟨v3, rfl, hO3⟩; obtain ⟨Ab, cb, hvb, hcb, _⟩ := hO3.reads 0 rfl; have H3 := Aside0.mk (H2.out.call hO3); clear hO3; subst hvb)
   | ((with_reducible refine Gd 22 ?_); refine GV 4 H3 2 g4 73 rfl Try.underlying73 (by kernel_rfl) ?_)
   | (go_at_call 81; refine (HS.out _ H3.out.below).mono ?_; rintro e w4 ⟨rfl, hB4⟩; have H4 := Aside0.mk (H3.out.step hB4); clear hB4)
   | ((with_reducible refine Gs 73 8 ?_); refine OS 8 27 H4 1 g8 73 #[.slice none 0 0, .int .i64 0, .slice none 0 0, .int .u64 0] 4 HA0 HA0 ?_; intro w7 HG)
   | ((with_reducible refine Gd 28 ?_); refine OV 4 H4 2 g4 73 rfl Try.underlying73 (by kernel_rfl) ?_)
   | (go_at_call 84; refine (HQ2.out _ H4.out.below _ _ (H4.out.C_of 0 rfl) hcb).mono ?_; rintro e w8 ⟨v1, v2, rfl, hO8⟩; obtain ⟨Av, cv, rfl, _⟩ := hO8.reads 0 rfl; obtain ⟨Aw, cw, rfl, _⟩ := hO8.reads 1 rfl; have H8 := Aside0.mk (H4.out.call hO8); have HA8 : Aside0 (Arr 4 #[.slice Av qr.1.q.length cv, .int .i64 qr.1.tk, .slice Aw qr.1.l.length cw, .int .u64 qr.1.nx]) := ⟨rfl, by simp [Value.oneCell']⟩; clear hO8)
   | ((with_reducible refine Gs 73 8 ?_); refine OS 8 32 H8 3 g8 73 #[.slice Av qr.1.q.length cv, .int .i64 qr.1.tk, .slice Aw qr.1.l.length cw, .int .u64 qr.1.nx] 4 HA0 HA8 ?_; intro w9 H9)
   )
  refine bodyPost_ret (own_resultV_t rfl _ HG.out 1 g8 _ rfl rfl _ Try.underlying73 rfl (by kernel_rfl) _ rfl) rfl ?_
  exact ⟨_, _, rfl, (((((HG.out.erase 2).erase 1).erase 0).null kL _).null kQ _)⟩
 obtain rfl := HYE.out rfl rfl
 have HQ2 := Aside0.mk (fun (W : World) (h : Below w.heap.size w W) => HQ.out W h (HSM.out rfl))
 clear HQ HSM HNO HYE HWM
 dsimp only at HWR
 go_wp2_with (first
  | fail
  | ((with_reducible refine Gd 4 ?_); refine OB H0 73 #[.slice A1 n c1, .int .i64 tk, .slice A2 k c2, .int .u64 nx] ?_; intro g4 w1 H1 B1)
  | ((with_reducible refine Gd 8 ?_); refine OA H1 73 #[.slice none 0 0, .int .i64 0, .slice none 0 0, .int .u64 0] 4 ?_; intro g8 w2 H2 B2)
  | ((with_reducible refine Gd 15 ?_); refine OU 92 [(0, .const (.int .u8 1)), (2, .tmp 13), (3, .tmp 14)] (msgA (depMsg dto am)) rfl (HBD.out) ?_)
  | (go_at_call 95; refine (HWR.out _).mono ?_; rintro e w3 ⟨v3, rfl, hO3⟩; obtain ⟨Ab, cb, hvb, hcb, _⟩ := hO3.reads 0 rfl; have H3 := Aside0.mk (H2.out.call hO3); clear hO3; subst hvb)
  | ((with_reducible refine Gd 22 ?_); refine GV 4 H3 2 g4 73 rfl Try.underlying73 (by kernel_rfl) ?_)
  | (go_at_call 81; refine (HS.out _ H3.out.below).mono ?_; rintro e w4 ⟨rfl, hB4⟩; have H4 := Aside0.mk (H3.out.step hB4); clear hB4)
  | ((with_reducible refine Gs 73 8 ?_); refine OS 8 27 H3 1 g8 73 #[.slice none 0 0, .int .i64 0, .slice none 0 0, .int .u64 0] 4 HA0 HA0 ?_; intro w7 HG)
  | ((with_reducible refine Gd 28 ?_); refine OV 4 H4 2 g4 73 rfl Try.underlying73 (by kernel_rfl) ?_)
  | (go_at_call 84; refine (HQ2.out _ H4.out.below _ _ (H4.out.C_of 0 rfl) hcb).mono ?_; rintro e w8 ⟨v1, v2, rfl, hO8⟩; obtain ⟨Av, cv, rfl, _⟩ := hO8.reads 0 rfl; obtain ⟨Aw, cw, rfl, _⟩ := hO8.reads 1 rfl; have H8 := Aside0.mk (H4.out.call hO8); have HA8 : Aside0 (Arr 4 #[.slice Av r.1.q.length cv, .int .i64 r.1.tk, .slice Aw r.1.l.length cw, .int .u64 r.1.nx]) := ⟨rfl, by simp [Value.oneCell']⟩; clear hO8)
  | ((with_reducible refine Gs 73 8 ?_); refine OS 8 32 H8 3 g8 73 #[.slice Av r.1.q.length cv, .int .i64 r.1.tk, .slice Aw r.1.l.length cw, .int .u64 r.1.nx] 4 HA0 HA8 ?_; intro w9 H9)
  )
 refine bodyPost_ret (own_resultV_t rfl _ H9.out 3 g8 _ rfl rfl _ Try.underlying73 rfl (by kernel_rfl) _ rfl) rfl ?_
 exact ⟨_, _, rfl, ((H9.out.erase 4).erase 3).erase 2⟩
theorem rdeposit_any (x : Box) (blk dto am : Int) (A1 A2 : Option Addr) (c1 c2 : Nat) (w : World) (hC1 : Kd.C kQ w A1 x.q.length x.q) (hc1 : x.q.length ≤ c1) (hC2 : Kd.C kL w A2 x.l.length x.l) (hc2 : x.l.length ≤ c2)
 (hto : 0 ≤ dto ∧ dto ≤ 18446744073709551615) (ham : 0 ≤ am ∧ am ≤ 18446744073709551615) :
 Calls Try.prog 50 #[.agg #[.slice A1 x.q.length c1, .int .i64 x.tk, .slice A2 x.l.length c2, .int .u64 x.nx], .int .i64 blk, .int .u64 dto, .int .u64 am] w (BoxRd w (depI x blk dto am)) := by
 have H0 := Aside0.mk (Own.start w)
 have hok := depMsg_ok hto ham
 have HWR : Aside0 (∀ W, Calls Try.prog 41 #[.agg (msgA (depMsg dto am))] W fun e w' => ∃ v, e = .returned (.tuple #[v, .int .i64 (wrM (depMsg dto am)).2]) ∧ Own W.heap.size W w' [.row kB 5 v (wrM (depMsg dto am)).1]) := ⟨fun W => rwrite7_any (depMsg dto am) hok W⟩
 have HW := Aside0.mk (fun (W : World) (h : Below w.heap.size w W) Am cm (h2 : Kd.C kB W Am (writeM (depMsg dto am)).length (writeM (depMsg dto am))) h3 => rwait_any x blk (writeM (depMsg dto am)) A1 A2 Am c1 c2 cm W (Kd.C_below hC1 h) hc1 (Kd.C_below hC2 h) hc2 h2 h3)
 have HR : Aside0 (depI x blk dto am = if mayM (depMsg dto am) = true then waitI x blk (writeM (depMsg dto am)) else (zeroB, 2)) := ⟨rfl⟩
 have HWM : Aside0 (wrM (depMsg dto am) = if mayM (depMsg dto am) = true then (writeM (depMsg dto am), 0) else ([], 2)) := ⟨rfl⟩
 have HBD := Aside0.mk (builtDep dto am)
 clear hok
 generalize depI x blk dto am = r at *
 generalize waitI x blk (writeM (depMsg dto am)) = qr at *
 generalize writeM (depMsg dto am) = bb at *
 generalize wrM (depMsg dto am) = wm at *
 generalize mayM (depMsg dto am) = mm at *
 obtain ⟨q, tk, l, nx⟩ := x
 dsimp only at *
 clear hC1 hC2 hto ham
 generalize q.length = n at *
 generalize l.length = k at *
 have HA0 : Aside0 (Arr 4 #[.slice none 0 0, .int .i64 0, .slice none 0 0, .int .u64 0]) := ⟨rfl, by simp [Value.oneCell']⟩
 go_enter Try.func50, Try.ntmps50
 cases mm
 ·obtain rfl : wm = ([], 2) := by rw [HWM.out]; rfl
  obtain rfl : r = (zeroB, 2) := by rw [HR.out]; rfl
  go_wp2_with (first
   | fail
   | ((with_reducible refine Gd 4 ?_); refine OB H0 73 #[.slice A1 n c1, .int .i64 tk, .slice A2 k c2, .int .u64 nx] ?_; intro g4 w1 H1 B1)
   | ((with_reducible refine Gd 8 ?_); refine OA H1 73 #[.slice none 0 0, .int .i64 0, .slice none 0 0, .int .u64 0] 4 ?_; intro g8 w2 H2 B2)
   | ((with_reducible refine Gd 15 ?_); refine OU 92 [(0, .const (.int .u8 1)), (2, .tmp 13), (3, .tmp 14)] (msgA (depMsg dto am)) rfl (HBD.out) ?_)
   | (go_at_call 41; refine (HWR.out _).mono ?_; rintro e w3 ⟨v3, rfl, hO3⟩; obtain ⟨Ab, cb, hvb, hcb, _⟩ := hO3.reads 0 rfl; have H3 := Aside0.mk (H2.out.call hO3); clear hO3; subst hvb)
   | ((with_reducible refine Gs 73 8 ?_); refine OS 8 21 H3 1 g8 73 #[.slice none 0 0, .int .i64 0, .slice none 0 0, .int .u64 0] 4 HA0 HA0 ?_; intro w7 HG)
   | ((with_reducible refine Gd 23 ?_); refine OV 4 H3 2 g4 73 rfl Try.underlying73 (by kernel_rfl) ?_)
   | (go_at_call 94; refine (HW.out _ H3.out.below _ _ (H3.out.C_of 0 rfl) hcb).mono ?_; rintro e w8 ⟨Av, cv, Aw, cw, rfl, h1, h2, hO8⟩; have H8 := Aside0.mk (H3.out.call hO8); have HA8 : Aside0 (Arr 4 #[.slice Av qr.1.q.length cv, .int .i64 qr.1.tk, .slice Aw qr.1.l.length cw, .int .u64 qr.1.nx]) := ⟨rfl, by simp [Value.oneCell']⟩; clear hO8)
   | ((with_reducible refine Gs 73 8 ?_); refine OS 8 27 H8 2 g8 73 #[.slice Av qr.1.q.length cv, .int .i64 qr.1.tk, .slice Aw qr.1.l.length cw, .int .u64 qr.1.nx] 4 HA0 HA8 ?_; intro w9 H9)
   )
  refine bodyPost_ret (own_resultV_t rfl _ HG.out 1 g8 _ rfl rfl _ Try.underlying73 rfl (by kernel_rfl) _ rfl) rfl ?_
  exact ⟨none, 0, none, 0, rfl, Nat.le_refl _, Nat.le_refl _, ((((((HG.out.erase 2).erase 1).erase 0).null kL _).null kQ _)).to_rows2⟩
 obtain rfl : wm = (bb, 0) := by rw [HWM.out]; rfl
 obtain rfl : r = qr := by rw [HR.out]; rfl
 clear HR HWM
 dsimp only at HWR
 go_wp2_with (first
  | fail
  | ((with_reducible refine Gd 4 ?_); refine OB H0 73 #[.slice A1 n c1, .int .i64 tk, .slice A2 k c2, .int .u64 nx] ?_; intro g4 w1 H1 B1)
  | ((with_reducible refine Gd 8 ?_); refine OA H1 73 #[.slice none 0 0, .int .i64 0, .slice none 0 0, .int .u64 0] 4 ?_; intro g8 w2 H2 B2)
  | ((with_reducible refine Gd 15 ?_); refine OU 92 [(0, .const (.int .u8 1)), (2, .tmp 13), (3, .tmp 14)] (msgA (depMsg dto am)) rfl (HBD.out) ?_)
  | (go_at_call 41; refine (HWR.out _).mono ?_; rintro e w3 ⟨v3, rfl, hO3⟩; obtain ⟨Ab, cb, hvb, hcb, _⟩ := hO3.reads 0 rfl; have H3 := Aside0.mk (H2.out.call hO3); clear hO3; subst hvb)
  | ((with_reducible refine Gs 73 8 ?_); refine OS 8 21 H3 1 g8 73 #[.slice none 0 0, .int .i64 0, .slice none 0 0, .int .u64 0] 4 HA0 HA0 ?_; intro w7 HG)
  | ((with_reducible refine Gd 23 ?_); refine OV 4 H3 2 g4 73 rfl Try.underlying73 (by kernel_rfl) ?_)
  | (go_at_call 94; refine (HW.out _ H3.out.below _ _ (H3.out.C_of 0 rfl) hcb).mono ?_; rintro e w8 ⟨Av, cv, Aw, cw, rfl, h1, h2, hO8⟩; have H8 := Aside0.mk (H3.out.call hO8); have HA8 : Aside0 (Arr 4 #[.slice Av r.1.q.length cv, .int .i64 r.1.tk, .slice Aw r.1.l.length cw, .int .u64 r.1.nx]) := ⟨rfl, by simp [Value.oneCell']⟩; clear hO8)
  | ((with_reducible refine Gs 73 8 ?_); refine OS 8 27 H8 2 g8 73 #[.slice Av r.1.q.length cv, .int .i64 r.1.tk, .slice Aw r.1.l.length cw, .int .u64 r.1.nx] 4 HA0 HA8 ?_; intro w9 H9)
  )
 refine bodyPost_ret (own_resultV_t rfl _ H9.out 2 g8 _ rfl rfl _ Try.underlying73 rfl (by kernel_rfl) _ rfl) rfl ?_
 exact ⟨Av, cv, Aw, cw, rfl, h1, h2, ((H9.out.erase 3).erase 2).erase 1⟩
theorem rtake_any (q : List SQ) (tk : Nat) (l : List (List Int)) (nx : Int) (g gq cq : Nat) (vl : Value) {B : Nat} {w0 w : World} {L : List Item}
 (H : Own B w0 w (.blk g #[.slice (some ⟨gq, 0, none⟩) q.length cq, .int .i64 (tk : Int), vl, .int .u64 nx] 73 :: .row kQ 78 (.slice (some ⟨gq, 0, none⟩) q.length cq) q :: .row kL 74 vl l :: L))
 (hcq : q.length ≤ cq) (hn : tk < q.length) (hq : q.length ≤ 1000000) (hl : l.length ≤ 1000000) (hqm : ∀ d ∈ q, d.f1.length ≤ 1099511627776) :
 Calls Try.prog 93 #[.pointer (some ⟨g, 0, none⟩)] w fun e w' => e = .returned (.tuple #[]) ∧ ∃ vl', Own B w0 w' (.blk g #[.slice (some ⟨gq, 0, none⟩) q.length cq, .int .i64 ((tk + 1 : Nat) : Int), vl', .int .u64 nx] 73 :: .row kQ 78 (.slice (some ⟨gq, 0, none⟩) q.length cq) q :: .row kL 74 vl' (l ++ [q[tk].f1]) :: L) := by
 obtain ⟨A4, c4, rfl, hcl4, _⟩ := H.reads 2 rfl
 obtain ⟨cs, hK, hcell⟩ := H.cells_at 1 rfl tk (List.getElem?_eq_getElem hn)
 obtain ⟨Am, cm, rfl, hcm, hCm⟩ := PRF.k78_open hK
 have kM0 : w.cell? ⟨gq, tk * 2 + 1, none⟩ = some (.slice Am q[tk].f1.length cm) := hcell 1 _ rfl
 have HCB := Aside0.mk (fun W (hb : Below w.heap.size w W) => rcopyB_any q[tk].f1 Am cm W (Kd.C_below hCm hb) hcm (by have := hqm q[tk] (List.getElem_mem hn); omega))
 have hib : (0 : Int) ≤ (tk : Int) ∧ (tk : Int) < (q.length : Int) := by omega
 have hwt : IntKind.i64.wrap ((tk : Int) + 1) = ((tk + 1 : Nat) : Int) := by rw [IntWalk.i64_in _ (by omega)]; omega
 clear hK hcell hCm hqm hcm
 generalize q[tk].f1 = msg at *
 generalize hnm : msg.length = nm at *
 clear hnm
 generalize hll : l.length = n4 at *
 have HLL := Aside0.mk hll
 clear hll
 generalize q.length = nq at *
 have H0 := Aside0.mk H
 have k0 : w.cell? ⟨g, 0, none⟩ = some (.slice (some ⟨gq, 0, none⟩) nq cq) := H.cell 0 rfl 0 rfl
 have k1 : w.cell? ⟨g, 1, none⟩ = some (.int .i64 (tk : Int)) := H.cell 0 rfl 1 rfl
 have k2 : w.cell? ⟨g, 2, none⟩ = some (.slice A4 n4 c4) := H.cell 0 rfl 2 rfl
 have HKM := Aside0.mk (fun W (hb : Below w.heap.size w W) => pw_cell_below hb kM0)
 clear H
 go_enter Try.func93, Try.ntmps93
 go_upto_region 0 with fail
 have HD := Aside0.mk H0.out.drew
 refine StS ((fun W => W.cell? ⟨g, 0, none⟩ = some (.slice (some ⟨gq, 0, none⟩) nq cq) ∧ W.cell? ⟨g, 1, none⟩ = some (.int .i64 (tk : Int)))) ((fun W => W.cell? ⟨g, 2, none⟩ = some (.slice A4 n4 c4) ∧ W.cell? ⟨gq, tk * 2 + 1, none⟩ = some (.slice Am nm cm))) [18] (by exact ⟨k0, k1⟩) (by exact ⟨k2, kM0⟩) fun hHeld => ?_
 refine TkS 0 ?_
 refine TkS 1 ?_
 refine TkS 2 ?_
 refine TkS 3 ?_
 refine TtS 4 [18, 19, 20, 21] ?_
 refine TkS 5 ?_
 refine TkS 6 ?_
 refine TkS 7 ?_
 refine TkS 8 ?_
 refine TkS 9 ?_
 refine TkS 10 ?_
 refine TkS 11 ?_
 refine TkS 12 ?_
 refine TkS 13 ?_
 refine TkS 14 ?_
 refine TtS 15 [16, 17, 18, 19, 20, 21] ?_
 have hBd : Below w.heap.size w w.drew := below_drew (Below.refl _ _)
 clear k0 k1 k2 kM0 H0
 generalize w.drew = wd at *
 refine RdS 16 fun K hK => ?_
 go_simp
 refine (HCB.out _ hBd).mono ?_
 rintro e w5 ⟨A6, c6, rfl, hc6, hO5⟩
 have hB5 := below_step hBd hO5.below
 have H5 := Aside0.mk (HD.out.call hO5)
 clear hO5 HD
 go_wp2_with fail
 refine AgS hK (HoldS.now (⟨H5.out.cell 1 rfl 0 rfl, H5.out.cell 1 rfl 1 rfl⟩) (⟨H5.out.cell 1 rfl 2 rfl, HKM.out _ hB5⟩)) fun hHeld => ?_
 clear hK K
 refine RdS 17 fun K hK => ?_
 have kA := HKM.out _ (below_alloc hB5 (.cells #[.slice A6 nm c6] 74))
 have kC : (w5.alloc (.cells #[.slice A6 nm c6] 74)).cell? ⟨g, 0, none⟩ = some (.slice (some ⟨gq, 0, none⟩) nq cq) ∧ (w5.alloc (.cells #[.slice A6 nm c6] 74)).cell? ⟨g, 1, none⟩ = some (.int .i64 (tk : Int)) ∧ (w5.alloc (.cells #[.slice A6 nm c6] 74)).cell? ⟨g, 2, none⟩ = some (.slice A4 n4 c4) := ⟨(H5.out.alloc _).cell 1 rfl 0 rfl, (H5.out.alloc _).cell 1 rfl 1 rfl, (H5.out.alloc _).cell 1 rfl 2 rfl⟩
 refine step_of_run (W1 := w5.alloc (.cells #[.slice A6 nm c6] 74)) (v := .slice (some ⟨w5.heap.size, 0, none⟩) 1 1) (by rfl) (by first | (go_simp; done) | (go_simp; rfl)) ?_
 refine AgS hK (HoldS.now (⟨kC.1, kC.2.1⟩) (⟨kC.2.2, kA⟩)) fun hHeld => ?_
 clear hK K
 clear kA kC
 refine RdS 18 fun K hK => ?_
 refine own_appendM_step kL kB (H5.out.bring 3 rfl) (by rfl) (.tmp 6) (.tmp 19) 71 (.slice none 0 0) 24 rfl Try.underlying71 PRF.info74 rfl (show 0 < 1 by decide) (by decide) msg [.slice A6 nm c6] rfl rfl (fun W ok h => ⟨_, rfl, h⟩) (by have := HLL.out; omega) ?_
 intro v8 w8 H8
 obtain ⟨A8, c8, hv8, _, _⟩ := H8.reads 0 rfl
 generalize (l ++ [msg]).length = n8 at hv8
 subst hv8
 replace H8 := Aside0.mk H8
 have k8 : w8.cell? ⟨g, 2, none⟩ = some (.slice A4 n4 c4) ∧ w8.frozen? ⟨g, 2, none⟩ = false := ⟨H8.out.cell 1 rfl 2 rfl, H8.out.fz 1 rfl 2⟩
 refine AgS hK (Pst (⟨H8.out.cell 1 rfl 0 rfl, H8.out.cell 1 rfl 1 rfl⟩)) fun hHeld => ?_
 clear hK K
 refine TkS 19 ?_
 refine TkS 20 ?_ (hS := Pst hHeld.1)
 have HP := Aside0.mk (H8.out.put 1 rfl 2 (.slice A8 n8 c8) rfl)
 refine RdS 21 fun K hK => ?_
 go_simp
 refine AgS hK (Pst (⟨HP.out.cell 1 rfl 0 rfl, HP.out.cell 1 rfl 1 rfl⟩)) fun hHeld => ?_
 clear hK K
 refine DnS ?_
 generalize w8.setCell ⟨g, 2, none⟩ (.slice A8 n8 c8) = w9 at *
 have k9 : w9.cell? ⟨g, 1, none⟩ = some (.int .i64 (tk : Int)) ∧ w9.frozen? ⟨g, 1, none⟩ = false := ⟨HP.out.cell 1 rfl 1 rfl, HP.out.fz 1 rfl 1⟩
 go_wp2_with fail
 refine bodyPost_end (results_none rfl _ _ _) rfl ?_
 exact ⟨rfl, _, (((HP.out.put 1 rfl 1 _ rfl).bring 2 rfl).bring 2 rfl)⟩
end Go.Proofs.Ytocphkfkdadhaaa.H
