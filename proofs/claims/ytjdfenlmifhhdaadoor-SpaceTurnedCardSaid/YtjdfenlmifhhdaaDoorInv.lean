/-
  What is made unreadable is read again: decrypt after encrypt, open after seal. Condition: keys of 240 bytes, blocks of 16, data of whole sectors.
-/
import Derived.Test.YtjdfenlmifhhdaaDoorPure2
namespace Go.Proofs.YtjdfenlmifhhdaaDoor

theorem unsb_sb : ∀ x : BitVec 8, unsb (sb x) = x := by decide +kernel
theorem double_xor (x y : BitVec 8) : double (x ^^^ y) = double x ^^^ double y := by
  have key : ∀ x : BitVec 8, double x = (x <<< 1) ^^^ (if x.getLsbD 7 then 27#8 else 0#8) := by decide +kernel
  rw [key, key, key, BitVec.shiftLeft_xor_distrib, BitVec.getLsbD_xor]
  cases x.getLsbD 7 <;> cases y.getLsbD 7 <;> simp only [Bool.xor_false, Bool.xor_true, Bool.not_false, Bool.not_true, Bool.false_eq_true, if_true, if_false, BitVec.xor_zero, Bool.false_xor, Bool.true_xor]
  · ac_rfl
  · ac_rfl
  · have : (x <<< 1 ^^^ 27#8) ^^^ (y <<< 1 ^^^ 27#8) = (x <<< 1 ^^^ y <<< 1) ^^^ (27#8 ^^^ 27#8) := by ac_rfl
    rw [this, BitVec.xor_self, BitVec.xor_zero]
theorem xx (a b : BitVec 8) : a ^^^ (a ^^^ b) = b := by rw [← BitVec.xor_assoc, BitVec.xor_self, BitVec.zero_xor]
/-- a column -/
def mixC (a b c d : BitVec 8) : List (BitVec 8) :=
  [a ^^^ (a ^^^ b ^^^ c ^^^ d ^^^ double (a ^^^ b)), b ^^^ (a ^^^ b ^^^ c ^^^ d ^^^ double (b ^^^ c)), c ^^^ (a ^^^ b ^^^ c ^^^ d ^^^ double (c ^^^ d)), d ^^^ (a ^^^ b ^^^ c ^^^ d ^^^ double (d ^^^ a))]
def preC (a b c d : BitVec 8) : List (BitVec 8) :=
  [a ^^^ double (double (a ^^^ c)), b ^^^ double (double (b ^^^ d)), c ^^^ double (double (a ^^^ c)), d ^^^ double (double (b ^^^ d))]
theorem xl (a b c : BitVec 8) : a ^^^ (b ^^^ c) = b ^^^ (a ^^^ c) := by rw [← BitVec.xor_assoc, ← BitVec.xor_assoc, BitVec.xor_comm a b]
section
attribute [local irreducible] double
theorem set_mid (p l : Bytes) (r : Nat) (x : BitVec 8) : (p ++ l).set (p.length + r) x = p ++ l.set r x := by rw [List.set_append_right _ _ (by omega), Nat.add_sub_cancel_left]
theorem get_mid (p l : Bytes) (r : Nat) : (p ++ l).getD (p.length + r) 0 = l.getD r 0 := by
  simp only [List.getD]; rw [List.getElem?_append_right (by omega), Nat.add_sub_cancel_left]
theorem mixCol_at (p q : Bytes) (a b c d : BitVec 8) (k : Nat) (h : p.length = 4 * k) : mixCol k (p ++ a :: b :: c :: d :: q) = p ++ (mixC a b c d ++ q) := by
  have g0 : ∀ l : Bytes, (p ++ l).getD p.length 0 = l.getD 0 0 := fun l => get_mid p l 0
  have s0 : ∀ (l : Bytes) x, (p ++ l).set p.length x = p ++ l.set 0 x := fun l x => set_mid p l 0 x
  unfold mixCol mixLast mixAll
  rw [← h]
  simp only [iter, mixIn, Nat.add_zero, Nat.add_assoc, g0, s0, get_mid, set_mid, Nat.reduceAdd, List.getD_cons_zero, List.getD_cons_succ, List.set_cons_zero, List.set_cons_succ]
  rfl
theorem preCol_at (p q : Bytes) (a b c d : BitVec 8) (k : Nat) (h : p.length = 4 * k) : preCol k (p ++ a :: b :: c :: d :: q) = p ++ (preC a b c d ++ q) := by
  have g0 : ∀ l : Bytes, (p ++ l).getD p.length 0 = l.getD 0 0 := fun l => get_mid p l 0
  have s0 : ∀ (l : Bytes) x, (p ++ l).set p.length x = p ++ l.set 0 x := fun l x => set_mid p l 0 x
  unfold preCol xorAt preU preV
  rw [← h]
  simp only [g0, s0, get_mid, set_mid, List.getD_cons_zero, List.getD_cons_succ, List.set_cons_zero, List.set_cons_succ]
  rfl
theorem mixed16 (a0 a1 a2 a3 b0 b1 b2 b3 c0 c1 c2 c3 d0 d1 d2 d3 : BitVec 8) : mixed [a0, a1, a2, a3, b0, b1, b2, b3, c0, c1, c2, c3, d0, d1, d2, d3] = mixC a0 a1 a2 a3 ++ (mixC b0 b1 b2 b3 ++ (mixC c0 c1 c2 c3 ++ mixC d0 d1 d2 d3)) := by
  have e0 := mixCol_at [] [b0, b1, b2, b3, c0, c1, c2, c3, d0, d1, d2, d3] a0 a1 a2 a3 0 rfl
  have e1 := mixCol_at (mixC a0 a1 a2 a3) [c0, c1, c2, c3, d0, d1, d2, d3] b0 b1 b2 b3 1 rfl
  have e2 := mixCol_at (mixC a0 a1 a2 a3 ++ mixC b0 b1 b2 b3) [d0, d1, d2, d3] c0 c1 c2 c3 2 rfl
  have e3 := mixCol_at (mixC a0 a1 a2 a3 ++ mixC b0 b1 b2 b3 ++ mixC c0 c1 c2 c3) [] d0 d1 d2 d3 3 rfl
  simp only [List.nil_append, List.append_nil, List.append_assoc] at e0 e1 e2 e3
  show mixCol 3 (mixCol 2 (mixCol 1 (mixCol 0 [a0, a1, a2, a3, b0, b1, b2, b3, c0, c1, c2, c3, d0, d1, d2, d3]))) = _
  rw [e0, e1, e2, e3]
theorem pre16 (a0 a1 a2 a3 b0 b1 b2 b3 c0 c1 c2 c3 d0 d1 d2 d3 : BitVec 8) : iter preCol 4 [a0, a1, a2, a3, b0, b1, b2, b3, c0, c1, c2, c3, d0, d1, d2, d3] = preC a0 a1 a2 a3 ++ (preC b0 b1 b2 b3 ++ (preC c0 c1 c2 c3 ++ preC d0 d1 d2 d3)) := by
  have e0 := preCol_at [] [b0, b1, b2, b3, c0, c1, c2, c3, d0, d1, d2, d3] a0 a1 a2 a3 0 rfl
  have e1 := preCol_at (preC a0 a1 a2 a3) [c0, c1, c2, c3, d0, d1, d2, d3] b0 b1 b2 b3 1 rfl
  have e2 := preCol_at (preC a0 a1 a2 a3 ++ preC b0 b1 b2 b3) [d0, d1, d2, d3] c0 c1 c2 c3 2 rfl
  have e3 := preCol_at (preC a0 a1 a2 a3 ++ preC b0 b1 b2 b3 ++ preC c0 c1 c2 c3) [] d0 d1 d2 d3 3 rfl
  simp only [List.nil_append, List.append_nil, List.append_assoc] at e0 e1 e2 e3
  show preCol 3 (preCol 2 (preCol 1 (preCol 0 [a0, a1, a2, a3, b0, b1, b2, b3, c0, c1, c2, c3, d0, d1, d2, d3]))) = _
  rw [e0, e1, e2, e3]
theorem mixC_eq (a b c d : BitVec 8) : mixC a b c d = [double a ^^^ double b ^^^ (b ^^^ c ^^^ d), double b ^^^ double c ^^^ (c ^^^ d ^^^ a), double c ^^^ double d ^^^ (d ^^^ a ^^^ b), double d ^^^ double a ^^^ (a ^^^ b ^^^ c)] := by
  simp only [mixC, double_xor, List.cons.injEq, and_true]
  generalize double a = a1
  generalize double b = b1
  generalize double c = c1
  generalize double d = d1
  refine ⟨?_, ?_, ?_, ?_⟩ <;> simp only [BitVec.xor_assoc, BitVec.xor_comm, xl, xx, BitVec.xor_self, BitVec.xor_zero, BitVec.zero_xor]
theorem col_alg (D : BitVec 8 → BitVec 8) (hD : ∀ x y, D (x ^^^ y) = D x ^^^ D y) (a b c d p q r s p' q' r' s' t X Y Z : BitVec 8) (hp : p = D a ^^^ D b ^^^ (b ^^^ c ^^^ d)) (hq : q = D b ^^^ D c ^^^ (c ^^^ d ^^^ a)) (hr : r = D c ^^^ D d ^^^ (d ^^^ a ^^^ b)) (hs : s = D d ^^^ D a ^^^ (a ^^^ b ^^^ c))
    (hp' : p' = p ^^^ D (D (p ^^^ r))) (hq' : q' = q ^^^ D (D (q ^^^ s))) (hr' : r' = r ^^^ D (D (p ^^^ r))) (hs' : s' = s ^^^ D (D (q ^^^ s))) (ht : t = a ^^^ b ^^^ c ^^^ d) (hX : X = D (D (D t))) (hY : Y = D (D (a ^^^ c))) (hZ : Z = D (D (b ^^^ d))) :
    D p' ^^^ D q' ^^^ (q' ^^^ r' ^^^ s') = a := by
  have e1 : p ^^^ r = D t ^^^ (a ^^^ c) := by
    rw [hp, hr, ht]; simp only [hD]
    generalize D a = a1; generalize D b = b1; generalize D c = c1; generalize D d = d1
    simp only [BitVec.xor_assoc, BitVec.xor_comm, xl, xx, BitVec.xor_self, BitVec.xor_zero, BitVec.zero_xor]
  have e2 : q ^^^ s = D t ^^^ (b ^^^ d) := by
    rw [hq, hs, ht]; simp only [hD]
    generalize D a = a1; generalize D b = b1; generalize D c = c1; generalize D d = d1
    simp only [BitVec.xor_assoc, BitVec.xor_comm, xl, xx, BitVec.xor_self, BitVec.xor_zero, BitVec.zero_xor]
  have e3 : p ^^^ q = D (a ^^^ c) ^^^ (a ^^^ b) := by
    rw [hp, hq]; simp only [hD]
    generalize D a = a1; generalize D b = b1; generalize D c = c1
    simp only [BitVec.xor_assoc, BitVec.xor_comm, xl, xx, BitVec.xor_self, BitVec.xor_zero, BitVec.zero_xor]
  have e4 : q ^^^ r ^^^ s = D (a ^^^ b) ^^^ a := by
    rw [hq, hr, hs]; simp only [hD]
    generalize D a = a1; generalize D b = b1; generalize D c = c1; generalize D d = d1
    simp only [BitVec.xor_assoc, BitVec.xor_comm, xl, xx, BitVec.xor_self, BitVec.xor_zero, BitVec.zero_xor]
  have e5 : D Y ^^^ D Z = X := by
    rw [hY, hZ, hX, ht, ← hD, ← hD, ← hD]
    have : a ^^^ c ^^^ (b ^^^ d) = a ^^^ b ^^^ c ^^^ d := by ac_rfl
    rw [this]
  have f1 : p' = p ^^^ (X ^^^ Y) := by rw [hp', e1, hD, hD, hX, hY]
  have f2 : q' = q ^^^ (X ^^^ Z) := by rw [hq', e2, hD, hD, hX, hZ]
  have f3 : r' = r ^^^ (X ^^^ Y) := by rw [hr', e1, hD, hD, hX, hY]
  have f4 : s' = s ^^^ (X ^^^ Z) := by rw [hs', e2, hD, hD, hX, hZ]
  have g1 : D p' ^^^ D q' = D (p ^^^ q) ^^^ X := by
    rw [← e5, f1, f2, hD, hD, hD, hD, hD]
    generalize D p = p1; generalize D q = q1; generalize D X = x1; generalize D Y = y1; generalize D Z = z1
    simp only [BitVec.xor_assoc, BitVec.xor_comm, xl, xx, BitVec.xor_self, BitVec.xor_zero, BitVec.zero_xor]
  have g2 : q' ^^^ r' ^^^ s' = (q ^^^ r ^^^ s) ^^^ (X ^^^ Y) := by
    rw [f2, f3, f4]
    simp only [BitVec.xor_assoc, BitVec.xor_comm, xl, xx, BitVec.xor_self, BitVec.xor_zero, BitVec.zero_xor]
  rw [g1, g2, e3, e4, hD (D (a ^^^ c)), ← hY]
  generalize D (a ^^^ b) = u
  simp only [BitVec.xor_assoc, BitVec.xor_comm, xl, xx, BitVec.xor_self, BitVec.xor_zero, BitVec.zero_xor]
theorem col_back (a b c d : BitVec 8) : ∀ p q r s, mixC a b c d = [p, q, r, s] → ∀ p' q' r' s', preC p q r s = [p', q', r', s'] → mixC p' q' r' s' = [a, b, c, d] := by
  intro p q r s h p' q' r' s' h'
  rw [mixC_eq] at h ⊢
  simp only [List.cons.injEq, and_true] at h
  obtain ⟨hp, hq, hr, hs⟩ := h
  simp only [preC, List.cons.injEq, and_true] at h'
  obtain ⟨hp', hq', hr', hs'⟩ := h'
  have cm : ∀ x y : BitVec 8, x ^^^ y = y ^^^ x := BitVec.xor_comm
  simp only [List.cons.injEq, and_true]
  refine ⟨?_, ?_, ?_, ?_⟩
  · exact col_alg double double_xor a b c d p q r s p' q' r' s' _ _ _ _ hp.symm hq.symm hr.symm hs.symm hp'.symm hq'.symm hr'.symm hs'.symm rfl rfl rfl rfl
  · exact col_alg double double_xor b c d a q r s p q' r' s' p' _ _ _ _ hq.symm hr.symm hs.symm hp.symm hq'.symm (by rw [cm r p]; exact hr'.symm) hs'.symm (by rw [cm r p]; exact hp'.symm) rfl rfl rfl rfl
  · exact col_alg double double_xor c d a b r s p q r' s' p' q' _ _ _ _ hr.symm hs.symm hp.symm hq.symm (by rw [cm r p]; exact hr'.symm) (by rw [cm s q]; exact hs'.symm) (by rw [cm r p]; exact hp'.symm) (by rw [cm s q]; exact hq'.symm) rfl rfl rfl rfl
  · exact col_alg double double_xor d a b c s p q r s' p' q' r' _ _ _ _ hs.symm hp.symm hq.symm hr.symm (by rw [cm s q]; exact hs'.symm) hp'.symm (by rw [cm s q]; exact hq'.symm) hr'.symm rfl rfl rfl rfl
end
theorem list16 {α : Type} (l : List α) (h : l.length = 16) : ∃ a0 a1 a2 a3 b0 b1 b2 b3 c0 c1 c2 c3 d0 d1 d2 d3, l = [a0, a1, a2, a3, b0, b1, b2, b3, c0, c1, c2, c3, d0, d1, d2, d3] := by
  match l, h with
  | [a0, a1, a2, a3, b0, b1, b2, b3, c0, c1, c2, c3, d0, d1, d2, d3], _ => exact ⟨_, _, _, _, _, _, _, _, _, _, _, _, _, _, _, _, rfl⟩
section
attribute [local irreducible] mixed double
theorem unmixed_mixed (s : Bytes) (h : s.length = 16) : unmixed (mixed s) = s := by
  obtain ⟨a0, a1, a2, a3, b0, b1, b2, b3, c0, c1, c2, c3, d0, d1, d2, d3, rfl⟩ := list16 s h
  rw [unmixed, mixed16]
  have e : ∀ a b c d, ∃ p q r s p' q' r' s', mixC a b c d = [p, q, r, s] ∧ preC p q r s = [p', q', r', s'] ∧ mixC p' q' r' s' = [a, b, c, d] := fun a b c d =>
    ⟨_, _, _, _, _, _, _, _, rfl, rfl, col_back a b c d _ _ _ _ rfl _ _ _ _ rfl⟩
  obtain ⟨p, q, r, s, p', q', r', s', e1, e2, e3⟩ := e a0 a1 a2 a3
  obtain ⟨pb, qb, rb, sb', pb', qb', rb', sb'', f1, f2, f3⟩ := e b0 b1 b2 b3
  obtain ⟨pc, qc, rc, sc, pc', qc', rc', sc', g1, g2, g3⟩ := e c0 c1 c2 c3
  obtain ⟨pd, qd, rd, sd, pd', qd', rd', sd', i1, i2, i3⟩ := e d0 d1 d2 d3
  rw [e1, f1, g1, i1]
  simp only [List.cons_append, List.nil_append]
  rw [pre16, e2, f2, g2, i2]
  simp only [List.cons_append, List.nil_append]
  rw [mixed16, e3, f3, g3, i3]
  rfl
end
theorem ext16 {s t : Bytes} (hs : s.length = 16) (ht : t.length = 16) (h : ∀ i, i < 16 → s.getD i 0 = t.getD i 0) : s = t := by
  apply List.ext_getElem (by omega)
  intro i h1 h2
  have := h i (by omega)
  simpa [List.getD, h1, h2] using this
theorem iter_setp (p : Nat → Nat) (g : Nat → BitVec 8) (hp : ∀ i j, i < 16 → j < 16 → p i = p j → i = j) : ∀ (n : Nat) (l : Bytes), n ≤ 16 → ∀ j, j < n → p j < l.length → (iter (fun i t => t.set (p i) (g i)) n l).getD (p j) 0 = g j
  | 0, _, _, _, hj, _ => absurd hj (by omega)
  | n + 1, l, hn, j, hj, hl => by
    have hlen : (iter (fun i t => List.set t (p i) (g i)) n l).length = l.length := iter_len _ (fun _ _ => by simp) n l
    rw [iter_succ]
    by_cases he : j = n
    · subst he
      simp [List.getD, List.getElem?_set_self (show p j < (iter (fun i t => List.set t (p i) (g i)) j l).length by omega)]
    · have ih := iter_setp p g hp n l (by omega) j (by omega) hl
      rw [← ih]
      simp only [List.getD]
      rw [List.getElem?_set_ne (fun e => he (hp _ _ (by omega) (by omega) e).symm)]
theorem turn_onto : ∀ k : Fin 16, ∃ j : Fin 16, turnI j.val = k.val := by decide +kernel
theorem turn_inj : ∀ i j : Fin 16, turnI i.val = turnI j.val → i = j := by decide +kernel
theorem unsub_sub (s : Bytes) (h : s.length = 16) : unsubShift (subShift s) = s := by
  refine ext16 (unsubShift_len _) h fun k hk => ?_
  obtain ⟨j, hj⟩ := turn_onto ⟨k, hk⟩
  simp only at hj
  have h1 := iter_setp turnI (fun i => unsb ((subShift s).getD i 0)) (fun i j hi hj e => by
    have := turn_inj ⟨i, hi⟩ ⟨j, hj⟩ e
    exact congrArg Fin.val this) 16 (zeros 16) (by omega) j.val j.isLt (by rw [hj, zeros_len]; omega)
  have h2 : (subShift s).getD j.val 0 = sb (s.getD k 0) := by
    have h3 : subShift s = (List.range 16).map fun i => sb (s.getD (turnI i) 0) := by
      show iter (fun i t => List.set t i (sb (s.getD (turnI i) 0))) 16 (zeros 16) = _
      rw [iter_set _ 16 (zeros 16) (by rw [zeros_len]; omega), List.drop_of_length_le (by rw [zeros_len]; omega), List.append_nil]
    rw [h3]
    have hlt : j.val < ((List.range 16).map fun i => sb (s.getD (turnI i) 0)).length := by simp
    rw [List.getD, List.getElem?_eq_getElem hlt, Option.getD_some, List.getElem_map, List.getElem_range, hj]
  rw [hj] at h1
  show (iter (fun i t => List.set t (turnI i) (unsb ((subShift s).getD i 0))) 16 (zeros 16)).getD k 0 = _
  rw [h1, h2, unsb_sb]
theorem xorL_get (a b : Bytes) : ∀ (n j : Nat), j < a.length → (xorL a b n).getD j 0 = if j < n then a.getD j 0 ^^^ b.getD j 0 else a.getD j 0
  | 0, j, _ => by simp [xorL, iter]
  | n + 1, j, hj => by
    have ih := xorL_get a b n
    have hl := xorL_len a b n
    show (xorStep b n (xorL a b n)).getD j 0 = _
    unfold xorStep
    by_cases he : j = n
    · subst he
      rw [if_pos (by omega)]
      have h0 := ih j hj
      rw [if_neg (by omega)] at h0
      rw [h0]
      simp [List.getD, List.getElem?_set_self (show j < (xorL a b j).length by omega)]
    · have h1 : ((xorL a b n).set n ((xorL a b n).getD n 0 ^^^ b.getD n 0)).getD j 0 = (xorL a b n).getD j 0 := by
        simp only [List.getD]; rw [List.getElem?_set_ne (fun e => he e.symm)]
      rw [h1, ih j hj]
      by_cases hlt : j < n
      · rw [if_pos hlt, if_pos (by omega)]
      · rw [if_neg hlt, if_neg (by omega)]
theorem xor16_back (s k : Bytes) (h : s.length = 16) : xor16 (xor16 s k) k = s := by
  have h1 : (xor16 s k).length = 16 := by rw [xor16_len, h]
  refine ext16 (by rw [xor16_len, h1]) h fun i hi => ?_
  show (xorL (xor16 s k) k 16).getD i 0 = _
  rw [xorL_get _ _ 16 i (by omega), if_pos hi]
  show (xorL s k 16).getD i 0 ^^^ _ = _
  rw [xorL_get _ _ 16 i (by omega), if_pos hi, BitVec.xor_assoc, BitVec.xor_self, BitVec.xor_zero]
section
attribute [local irreducible] xor16 mixed unmixed subShift unsubShift rkey
/-- a round back -/
theorem round_back (keys : Bytes) (i : Nat) (s : Bytes) (hs : s.length = 16) (hi : i < 14) : unsubShift (decMid keys (i + 1) (encRound keys i s)) = s := by
  unfold decMid encRound
  by_cases h : i + 1 < 14
  · rw [if_pos h, if_pos h, xor16_back _ _ (by rw [mixed_len, subShift_len]), unmixed_mixed _ (subShift_len s), unsub_sub s hs]
  · rw [if_neg h, if_neg h, xor16_back _ _ (subShift_len s), unsub_sub s hs]
theorem dec_enc (keys b : Bytes) (hb : b.length = 16) : decrypt keys (encrypt keys b) = b := by
  have h0 : (xor16 b (rkey keys 0)).length = 16 := by rw [xor16_len, hb]
  have key : ∀ n, n ≤ 14 → iter (decRound keys) n (encrypt keys b) = iter (encRound keys) (14 - n) (xor16 b (rkey keys 0)) := by
    intro n
    induction n with
    | zero => intro _; rfl
    | succ n ih =>
      intro hn
      rw [iter_succ, ih (by omega), ← decRound_def, show 14 - n = (14 - (n + 1)) + 1 by omega, iter_succ, round_back keys _ _ ?_ (by omega)]
      exact encN_len keys b hb _
  rw [decrypt, key 14 (by omega)]
  exact xor16_back _ _ hb
end
/-! ### xts -/
def tw (t : Bytes) (n : Nat) : Bytes := iter (fun _ t => twice t) n t
def blk (u : Bytes) (i : Nat) : Bytes := (u.drop (16 * i)).take 16
def blks (f : Bytes → Bytes) (u t : Bytes) : Nat → Bytes
  | 0 => []
  | n + 1 => blks f u t n ++ xor16 (f (xor16 (blk u n) (tw t n))) (tw t n)
section
attribute [local irreducible] xor16 twice xtsFirst encrypt decrypt
variable (f : Bytes → Bytes)
theorem unit_blks (u out t : Bytes) : ∀ n, iter (unitStep f u) n (out, t) = (out ++ blks f u t n, tw t n)
  | 0 => by simp [iter, blks, tw]
  | n + 1 => by rw [iter_succ, unit_blks u out t n, unitStep, blks, List.append_assoc]; rfl
theorem blk_len (u : Bytes) (i : Nat) (h : 16 * (i + 1) ≤ u.length) : (blk u i).length = 16 := by rw [blk, List.length_take, List.length_drop]; omega
variable (hf : ∀ x : Bytes, x.length = 16 → (f x).length = 16)
include hf
theorem blks_len (u t : Bytes) : ∀ n, 16 * n ≤ u.length → (blks f u t n).length = 16 * n
  | 0, _ => rfl
  | n + 1, h => by
    rw [blks, List.length_append, blks_len u t n (by omega), xor16_len, hf _ (by rw [xor16_len, blk_len u n h])]; omega
theorem blks_take (u t : Bytes) (n : Nat) : ∀ m, n ≤ m → 16 * m ≤ u.length → (blks f u t m).take (16 * n) = blks f u t n
  | 0, hn, _ => by obtain rfl : n = 0 := by omega
                   rfl
  | m + 1, hn, h => by
    rcases Nat.lt_or_eq_of_le hn with hlt | rfl
    · rw [blks, List.take_append_of_le_length (by rw [blks_len f hf u t m (by omega)]; omega), blks_take u t n m (by omega) (by omega)]
    · rw [List.take_of_length_le (by rw [blks_len f hf u t _ h]; omega)]
theorem blk_blks (u t : Bytes) (i m : Nat) (hi : i < m) (h : 16 * m ≤ u.length) : blk (blks f u t m) i = xor16 (f (xor16 (blk u i) (tw t i))) (tw t i) := by
  have h1 := blks_take f hf u t (i + 1) m (by omega) h
  have h2 := blks_len f hf u t i (by omega)
  have e : blk (blks f u t m) i = ((blks f u t m).take (16 * (i + 1))).drop (16 * i) := by rw [blk, List.drop_take]; congr 1; omega
  rw [e, h1, blks, show 16 * i = (blks f u t i).length from h2.symm, List.drop_left]
end
theorem blks_back (keys u t : Bytes) (m : Nat) (h : 16 * m ≤ u.length) : ∀ n, n ≤ m → blks (decrypt keys) (blks (encrypt keys) u t m) t n = u.take (16 * n)
  | 0, _ => by simp [blks]
  | n + 1, hn => by
    have hb := blk_len u n (by omega)
    have hE : ∀ x : Bytes, x.length = 16 → (encrypt keys x).length = 16 := fun x hx => encrypt_len keys x hx
    rw [blks, blks_back keys u t m h n (by omega), blk_blks _ hE u t n m (by omega) h, xor16_back _ _ (hE _ (by rw [xor16_len, hb])), dec_enc _ _ (by rw [xor16_len, hb]), xor16_back _ _ hb]
    rw [show 16 * (n + 1) = 16 * n + 16 by omega, List.take_add]; rfl
def sect (data : Bytes) (i : Nat) : Bytes := (data.drop (512 * i)).take 512
def sects (f : Bytes → Bytes) (keys : Bytes) (sector : BitVec 64) (data : Bytes) : Nat → Bytes
  | 0 => []
  | n + 1 => sects f keys sector data n ++ blks f (sect data n) (xtsFirst keys (sector + BitVec.ofNat 64 n)) 32
section
attribute [local irreducible] xor16 twice xtsFirst encrypt decrypt
variable (f : Bytes → Bytes)
theorem over_sects (keys : Bytes) (sector : BitVec 64) (data : Bytes) : ∀ n, iter (overStep f keys sector data) n [] = sects f keys sector data n
  | 0 => rfl
  | n + 1 => by rw [iter_succ, over_sects keys sector data n, overStep, unit_blks, sects]; rfl
theorem sect_len (data : Bytes) (i : Nat) (h : 512 * (i + 1) ≤ data.length) : (sect data i).length = 512 := by rw [sect, List.length_take, List.length_drop]; omega
variable (hf : ∀ x : Bytes, x.length = 16 → (f x).length = 16)
include hf
theorem sects_len (keys : Bytes) (sector : BitVec 64) (data : Bytes) : ∀ n, 512 * n ≤ data.length → (sects f keys sector data n).length = 512 * n
  | 0, _ => rfl
  | n + 1, h => by
    rw [sects, List.length_append, sects_len keys sector data n (by omega), blks_len f hf _ _ 32 (by rw [sect_len data n h]; omega)]; omega
theorem sects_take (keys : Bytes) (sector : BitVec 64) (data : Bytes) (n : Nat) : ∀ m, n ≤ m → 512 * m ≤ data.length → (sects f keys sector data m).take (512 * n) = sects f keys sector data n
  | 0, hn, _ => by obtain rfl : n = 0 := by omega
                   rfl
  | m + 1, hn, h => by
    rcases Nat.lt_or_eq_of_le hn with hlt | rfl
    · rw [sects, List.take_append_of_le_length (by rw [sects_len f hf keys sector data m (by omega)]; omega), sects_take keys sector data n m (by omega) (by omega)]
    · rw [List.take_of_length_le (by rw [sects_len f hf keys sector data _ h]; omega)]
theorem sect_sects (keys : Bytes) (sector : BitVec 64) (data : Bytes) (i m : Nat) (hi : i < m) (h : 512 * m ≤ data.length) : sect (sects f keys sector data m) i = blks f (sect data i) (xtsFirst keys (sector + BitVec.ofNat 64 i)) 32 := by
  have h1 := sects_take f hf keys sector data (i + 1) m (by omega) h
  have h2 := sects_len f hf keys sector data i (by omega)
  have e : sect (sects f keys sector data m) i = ((sects f keys sector data m).take (512 * (i + 1))).drop (512 * i) := by rw [sect, List.drop_take]; congr 1; omega
  rw [e, h1, sects, show 512 * i = (sects f keys sector data i).length from h2.symm, List.drop_left]
end
/-- open after seal -/
theorem open_seal (gk keys : Bytes) (sector : BitVec 64) (data : Bytes) {N : Nat} (hn : data.length = 512 * N) : over (decrypt gk) keys sector (over (encrypt gk) keys sector data) = data := by
  have hE : ∀ x : Bytes, x.length = 16 → (encrypt gk x).length = 16 := fun x hx => encrypt_len gk x hx
  have e1 : over (encrypt gk) keys sector data = sects (encrypt gk) keys sector data N := by rw [over, over_sects, hn, Nat.mul_div_cancel_left _ (by decide)]
  have l1 : (sects (encrypt gk) keys sector data N).length = 512 * N := sects_len _ hE keys sector data N (by omega)
  have key : ∀ n, n ≤ N → sects (decrypt gk) keys sector (sects (encrypt gk) keys sector data N) n = data.take (512 * n) := by
    intro n
    induction n with
    | zero => intro _; simp [sects]
    | succ n ih =>
      intro hle
      rw [sects, ih (by omega), sect_sects _ hE keys sector data n N (by omega) (by omega), blks_back _ _ _ 32 (by rw [sect_len data n (by omega)]; omega) 32 (by omega)]
      rw [List.take_of_length_le (l := sect data n) (by rw [sect_len data n (by omega)]; omega), show 512 * (n + 1) = 512 * n + 512 by omega, List.take_add]; rfl
  rw [e1, over, over_sects, l1, Nat.mul_div_cancel_left _ (by decide), key N (by omega), List.take_of_length_le (by omega)]
end Go.Proofs.YtjdfenlmifhhdaaDoor
