/-
  More laws of operations: words, words at the head of a longer row, negative counts, rows of slices. Condition: none.
-/
import Derived.Test.YtjdfenlmifhhdaaDoorWalk
namespace Go.Proofs.YtjdfenlmifhhdaaDoor
open Go.RowKit
section
variable {P : Program} {E : Env} {w : World} {L F : List (Nat × Obj)} {a : Act} {K : Act → World → Prop} {Q : Exit → Act → World → Prop}
variable {dst : Option Tmp} {ty : TypeId} {pos : String} {after : Array Edge} {g : Option (Nat × Bool)} {x y z : Operand} {v u s : Value} {t t' e : TypeId}
theorem r_conv_negD {k : Nat} {s : TypeId} {d : TypeDesc} (hx : a.eval x = .int .i64 (-(k : Int))) (hs : ∀ w, (underlying s).run P w = .ok d w) (ht : ∀ w, (underlying t).run P w = .ok (.int .u64) w) :
    (execOp a.eval ⟨dst, .convert s t x, ty, pos, after, g⟩).run P w = .ok (.value (D (BitVec.ofInt 64 (-(k : Int))))) w := by
  have h1 : IntKind.u64.wrap (-(k : Int)) = ((BitVec.ofInt 64 (-(k : Int))).toNat : Int) := by
    rw [wrapU rfl, BitVec.toNat_ofInt]
    simp only [IntKind.bits]
    omega
  cases d <;> simp [execOp, hx, convert, hs, ht, Conv.intToInt, h1, D]
theorem op_copyW {b o dn dc n q : Nat} {l xs : List (BitVec 32)} {T : TypeId} {s : Value} {e : TypeId} {t' : TypeId} (h : Has E w L) (hx : a.eval x = .slice (some ⟨b, o, none⟩) dn dc) (hy : a.eval y = s) [am : At L b (ws T l) n] (hs : Rd L 1 s xs.length (xs.map W))
    (hu : ∀ w, (underlying t).run P w = .ok (.slice e) w) (hz : ∀ w, (sizeOf e).run P w = .ok 1 w) (hq : min xs.length dn = q) (hfit : o + q ≤ l.length)
    (k : ∀ w', Has E w' (L.set n (b, ws T (l.take o ++ xs.take q ++ l.drop (o + q)))) → K (a.put dst (.int .i64 (q : Int))) w') : OW P a w K Q (Oper.mk dst (.call ⟨.builtin .copy, #[x, y], #[t, t']⟩) ty pos after g) :=
  op_copy h hx hy hs hu hz hq (by simpa using hfit) oneW fun w' h' => k w' (by simpa [ws, vs, List.map_take, List.map_drop] using h')
theorem Rd.mkW {g off n c : Nat} {t : List (BitVec 32)} {T : TypeId} {fz : Nat × Nat} [m : Mem L g (.cells (t.map W).toArray T fz)] (hn : n ≤ c) (hl : off + n ≤ t.length) : Rd L 1 (.slice (some ⟨g, off, none⟩) n c) ((t.drop off).take n).length (((t.drop off).take n).map W) := by
  have h := Rd.mk (L := L) (sz := 1) (n := n) (c := c) (off := off) (T := T) (g := g) (cs := t.map W) hn (by simpa using hl)
  have e : ((t.drop off).take n).length = n := by simp; omega
  rw [← List.map_drop, ← List.map_take] at h
  rw [Nat.mul_one] at h
  rw [e]; exact h
/-! words at the head of a longer row -/
abbrev wsR (T : TypeId) (l : List (BitVec 32)) (r : List Value) : Obj := .cells (l.map W ++ r).toArray T (0, 0)
theorem getWl {l : List (BitVec 32)} {i : Nat} (h : i < l.length) : (l.map W)[i]? = some (W (l.getD i 0)) := by simp [List.getD, h]
theorem getWR {l : List (BitVec 32)} {r : List Value} {i : Nat} (h : i < l.length) : (l.map W ++ r).toArray[i]? = some (W (l.getD i 0)) := by
  rw [List.getElem?_toArray, List.getElem?_append_left (by simpa using h)]; exact (by simp [List.getD, h])
theorem r_load_wr {b i : Nat} {l : List (BitVec 32)} {r : List Value} {T : TypeId} {fz : Nat × Nat} (h : Has E w L) (hx : a.eval x = ptr b i) [m : Mem L b (.cells (l.map W ++ r).toArray T fz)]
    (hi : i < l.length) (ht : ∀ w, (isAgg t).run P w = .ok false w) : (execOp a.eval ⟨dst, .load t x, ty, pos, after, g⟩).run P w = .ok (.value (W (l.getD i 0))) w := r_load h hx (getWR hi) ht
theorem r_load_wrall {b n : Nat} {l : List (BitVec 32)} {r : List Value} {T : TypeId} {fz : Nat × Nat} (h : Has E w L) (hx : a.eval x = ptr b 0) [m : Mem L b (.cells (l.map W ++ r).toArray T fz)]
    (hi : l.length = n) (ht : ∀ w, (isAgg t).run P w = .ok true w) (hs : ∀ w, (sizeOf t).run P w = .ok n w) : (execOp a.eval ⟨dst, .load t x, ty, pos, after, g⟩).run P w = .ok (.value (aggW l)) w :=
  r_load_seg h hx (by simp; omega) ht hs (by simp [← hi])
theorem op_store_wr {b i n : Nat} {l : List (BitVec 32)} {r : List Value} {p : BitVec 32} {T : TypeId} (h : Has E w L) (hx : a.eval x = ptr b i) (hy : a.eval y = W p) [m : At L b (wsR T l r) n]
    (hi : i < l.length) (hs : ∀ w, (sizeOf t).run P w = .ok 1 w) (k : ∀ w', Has E w' (L.set n (b, wsR T (l.set i p) r)) → K a w') :
    OW P a w K Q (Oper.mk none (.store t x y) ty pos after g) := op_store (l := l.map W ++ r) h hx hy rfl (by simp; omega) hs (by
      have e : (l.map W ++ r).set i (W p) = (l.set i p).map W ++ r := by rw [List.set_append_left _ _ (by simpa using hi), setW]
      rw [e]; exact k)
/-- all words, stored as one value -/
theorem op_store_wall {b n N : Nat} {l cs : List (BitVec 32)} {T : TypeId} (h : Has E w L) (hx : a.eval x = ptr b 0) (hy : a.eval y = aggW cs) [m : At L b (ws T l) n]
    (hc : cs.length = N) (hi : l.length = N) (hs : ∀ w, (sizeOf t).run P w = .ok N w) (k : ∀ w', Has E w' (L.set n (b, ws T cs)) → K a w') :
    OW P a w K Q (Oper.mk none (.store t x y) ty pos after g) :=
  op_store_all h hx hy oneW (by simp [hc, hi]) (by intro w; rw [List.length_map, hc]; exact hs w) k
theorem r_load_wall {b n : Nat} {l : List (BitVec 32)} {T : TypeId} {fz : Nat × Nat} (h : Has E w L) (hx : a.eval x = ptr b 0) [m : Mem L b (.cells (l.map W).toArray T fz)]
    (hi : l.length = n) (ht : ∀ w, (isAgg t).run P w = .ok true w) (hs : ∀ w, (sizeOf t).run P w = .ok n w) : (execOp a.eval ⟨dst, .load t x, ty, pos, after, g⟩).run P w = .ok (.value (aggW l)) w :=
  r_load_all h hx (by simpa using hi) ht hs
theorem wlast {l : List (BitVec 32)} {r : List Value} {v : Value} {n : Nat} (hl : l.length = n) : (l.map W ++ v :: r)[n]? = some v := by
  rw [List.getElem?_append_right (by simp; omega)]; simp [hl]
theorem r_load_wt {b i N j : Nat} {l : List (BitVec 32)} {r : List Value} {T : TypeId} {fz : Nat × Nat} (h : Has E w L) (hx : a.eval x = ptr b i) [m : Mem L b (.cells (l.map W ++ r).toArray T fz)]
    (hl : l.length = N) (hi : N + j = i) (hr : r[j]? = some v) (ht : ∀ w, (isAgg t).run P w = .ok false w) : (execOp a.eval ⟨dst, .load t x, ty, pos, after, g⟩).run P w = .ok (.value v) w :=
  r_load h hx (by rw [List.getElem?_toArray, List.getElem?_append_right (by simp; omega), List.length_map, hl, ← hi, Nat.add_sub_cancel_left, hr]) ht
theorem op_store_wt {b i n N j : Nat} {l : List (BitVec 32)} {r : List Value} {T : TypeId} (h : Has E w L) (hx : a.eval x = ptr b i) (hy : a.eval y = v) [m : At L b (wsR T l r) n] (hv : v.oneCell' = true)
    (hl : l.length = N) (hi : N + j = i) (hj : j < r.length) (hs : ∀ w, (sizeOf t).run P w = .ok 1 w) (k : ∀ w', Has E w' (L.set n (b, wsR T l (r.set j v))) → K a w') :
    OW P a w K Q (Oper.mk none (.store t x y) ty pos after g) := op_store (l := l.map W ++ r) h hx hy hv (by simp; omega) hs (by
      have e : (l.map W ++ r).set i v = l.map W ++ r.set j v := by rw [List.set_append_right _ _ (by simp; omega), List.length_map, hl, ← hi, Nat.add_sub_cancel_left]
      rw [e]; exact k)
theorem op_buildSliceB {parts : List (Nat × Operand)} {zv : Value} {len : Nat} (l : List (BitVec 8)) (h : Has E w L) (hp : (parts.map fun (i, x) => (i, a.eval x)) = enumFrom' 0 (l.map B)) (hl : l.length = len) (hu : ∀ w, (underlying t).run P w = .ok (.slice e) w) (hs : ∀ w, (sizeOf e).run P w = .ok 1 w)
    (hz : ∀ w, (zeroValue e).run P w = .ok zv w) (hzc : zv.cells = #[zv]) (hlen : len ≤ 65536)
    (k : ∀ b w', Has E w' ((b, bs e l) :: L) → K (a.put dst (.slice (some ⟨b, 0, none⟩) len len)) w') : OW P a w K Q (Oper.mk dst (.buildSlice t len parts.toArray) ty pos after g) :=
  op_buildSliceL (l.map B) h hp (by simpa using hl) hu hs hz hzc hlen oneB k
end
section
variable {E : Env} {w : World} {A B R : List (Nat × Obj)}
theorem Has.swapApp (h : Has E w (A ++ (B ++ R))) : Has E w (B ++ (A ++ R)) := h.perm (by rw [← List.append_assoc, ← List.append_assoc]; exact List.Perm.append_right _ List.perm_append_comm)
theorem Has.appTail (h : Has E w (A ++ R)) : Has E w R := h.sub (List.sublist_append_right _ _)
theorem Has.midApp (h : Has E w (A ++ (B ++ R))) : Has E w (A ++ R) := h.swapApp.appTail
theorem Has.assoc (h : Has E w ((A ++ B) ++ R)) : Has E w (A ++ (B ++ R)) := by rw [← List.append_assoc]; exact h
theorem Has.unassoc (h : Has E w (A ++ (B ++ R))) : Has E w ((A ++ B) ++ R) := by rw [List.append_assoc]; exact h
theorem Rd.unassoc {sz n : Nat} {s : Value} {l : List Value} (h : Rd (A ++ (B ++ R)) sz s n l) : Rd ((A ++ B) ++ R) sz s n l := by rw [List.append_assoc]; exact h
end
/-! ### Bytes behind some cells -/
abbrev bsR (T : TypeId) (pre : List Value) (xs : List (BitVec 8)) : Obj := .cells (pre ++ xs.map B).toArray T (0, 0)
section
variable {P : Program} {E : Env} {w : World} {L F : List (Nat × Obj)} {a : Act} {K : Act → World → Prop} {Q : Exit → Act → World → Prop}
variable {dst : Option Tmp} {ty : TypeId} {pos : String} {after : Array Edge} {g : Option (Nat × Bool)} {x y z : Operand} {v u s : Value} {t t' e : TypeId} {b i j N n k : Nat} {pre : List Value} {xs cs : List (BitVec 8)} {T : TypeId} {fz : Nat × Nat}
theorem getBR (hN : pre.length = N) (hi : N + j = i) (hj : j < xs.length) : (pre ++ xs.map B)[i]? = some (B (xs.getD j 0)) := by
  rw [List.getElem?_append_right (by omega), hN, ← hi, Nat.add_sub_cancel_left, getBl hj]
theorem r_load_bR (h : Has E w L) (hx : a.eval x = ptr b i) [m : Mem L b (.cells (pre ++ xs.map B).toArray T fz)] (hN : pre.length = N) (hi : N + j = i) (hj : j < xs.length) (ht : ∀ w, (isAgg t).run P w = .ok false w) :
    (execOp a.eval ⟨dst, .load t x, ty, pos, after, g⟩).run P w = .ok (.value (B (xs.getD j 0))) w := r_load h hx (by rw [List.getElem?_toArray]; exact getBR hN hi hj) ht
theorem r_load_pre (h : Has E w L) (hx : a.eval x = ptr b i) [m : Mem L b (.cells (pre ++ xs.map B).toArray T fz)] (hi : pre[i]? = some v) (ht : ∀ w, (isAgg t).run P w = .ok false w) :
    (execOp a.eval ⟨dst, .load t x, ty, pos, after, g⟩).run P w = .ok (.value v) w := r_load h hx (by
      have hlt := (List.getElem?_eq_some_iff.1 hi).1
      rw [List.getElem?_toArray, List.getElem?_append_left hlt]; exact hi) ht
theorem r_load_bRall (h : Has E w L) (hx : a.eval x = ptr b N) [m : Mem L b (.cells (pre ++ xs.map B).toArray T fz)] (hN : pre.length = N) (hn : xs.length = n) (ht : ∀ w, (isAgg t).run P w = .ok true w) (hs : ∀ w, (sizeOf t).run P w = .ok n w) :
    (execOp a.eval ⟨dst, .load t x, ty, pos, after, g⟩).run P w = .ok (.value (aggB xs)) w :=
  r_load_seg h hx (by simp; omega) ht hs (by subst hN; subst hn; simp [List.take_of_length_le])
/-- some cells of the head, read as one value -/
theorem r_load_preseg (h : Has E w L) (hx : a.eval x = ptr b i) [m : Mem L b (.cells (pre ++ xs.map B).toArray T fz)] (l : List Value) (hl : (pre.drop i).take n = l) (hin : i + n ≤ pre.length) (ht : ∀ w, (isAgg t).run P w = .ok true w) (hs : ∀ w, (sizeOf t).run P w = .ok n w) :
    (execOp a.eval ⟨dst, .load t x, ty, pos, after, g⟩).run P w = .ok (.value (aggV l)) w :=
  r_load_seg h hx (by simp; omega) ht hs (by
    subst hl
    refine congrArg Value.agg ?_
    apply Array.ext'
    simp only [Array.toList_extract, List.extract_eq_take_drop, Nat.add_sub_cancel_left]
    rw [List.drop_append_of_le_length (by omega), List.take_append_of_le_length (by rw [List.length_drop]; omega)])
theorem op_store_bR {p : BitVec 8} (h : Has E w L) (hx : a.eval x = ptr b i) (hy : a.eval y = B p) [m : At L b (bsR T pre xs) n] (hN : pre.length = N) (hi : N + j = i) (hj : j < xs.length) (hs : ∀ w, (sizeOf t).run P w = .ok 1 w)
    (k : ∀ w', Has E w' (L.set n (b, bsR T pre (xs.set j p))) → K a w') : OW P a w K Q (Oper.mk none (.store t x y) ty pos after g) :=
  op_store (l := pre ++ xs.map B) h hx hy rfl (by simp; omega) hs (by
    have e : (pre ++ xs.map B).set i (B p) = pre ++ (xs.set j p).map B := by rw [List.set_append_right _ _ (by omega), hN, ← hi, Nat.add_sub_cancel_left, setB]
    rw [e]; exact k)
theorem op_store_pre (h : Has E w L) (hx : a.eval x = ptr b i) (hy : a.eval y = v) [m : At L b (bsR T pre xs) n] (hv : v.oneCell' = true) (hi : i < pre.length) (hs : ∀ w, (sizeOf t).run P w = .ok 1 w)
    (k : ∀ w', Has E w' (L.set n (b, bsR T (pre.set i v) xs)) → K a w') : OW P a w K Q (Oper.mk none (.store t x y) ty pos after g) :=
  op_store (l := pre ++ xs.map B) h hx hy hv (by simp; omega) hs (by
    have e : (pre ++ xs.map B).set i v = pre.set i v ++ xs.map B := by rw [List.set_append_left _ _ hi]
    rw [e]; exact k)
theorem op_store_bRall (h : Has E w L) (hx : a.eval x = ptr b N) (hy : a.eval y = aggB cs) [m : At L b (bsR T pre xs) n] (hN : pre.length = N) (hc : cs.length = k) (hn : xs.length = k) (hs : ∀ w, (sizeOf t).run P w = .ok k w)
    (K' : ∀ w', Has E w' (L.set n (b, bsR T pre cs)) → K a w') : OW P a w K Q (Oper.mk none (.store t x y) ty pos after g) :=
  op_store_agg (l := pre ++ xs.map B) h hx hy oneB (by simp; omega) (by intro w; rw [List.length_map, hc]; exact hs w) fun w' h' => K' w' (by
    have e : (pre ++ xs.map B).take N ++ cs.map B ++ (pre ++ xs.map B).drop (N + (cs.map B).length) = pre ++ cs.map B := by
      subst hN
      rw [List.take_left, List.drop_of_length_le (by simp; omega), List.append_nil]
    rw [e] at h'; exact h')
theorem Sl.mkR {c : Nat} [m : Mem L b (.cells (pre ++ xs.map B).toArray T fz)] (hN : pre.length = N) (hn : xs.length = n) (hc : n ≤ c) : Sl L (.slice (some ⟨b, N, none⟩) n c) xs := by
  refine ⟨by simp, _, _, by rw [hn], by omega, fun _ => ⟨b, N, _, T, fz, rfl, m.mem, fun j v hv => ?_⟩⟩
  have hj : j < xs.length := by
    rcases Nat.lt_or_ge j xs.length with hlt | hge
    · exact hlt
    · rw [List.getElem?_eq_none (by simpa using hge)] at hv; cases hv
  rw [List.getElem?_toArray, List.getElem?_append_right (by omega), hN, Nat.add_sub_cancel_left]; exact hv
/-- bytes, and some cells behind them -/
theorem Sl.head {c : Nat} {r : List Value} [m : Mem L b (.cells (xs.map B ++ r).toArray T fz)] (hn : xs.length = n) (hc : n ≤ c) : Sl L (.slice (some ⟨b, 0, none⟩) n c) xs := by
  refine ⟨by simp, _, _, by rw [hn], by omega, fun _ => ⟨b, 0, _, T, fz, rfl, m.mem, fun j v hv => ?_⟩⟩
  have hj : j < xs.length := by
    rcases Nat.lt_or_ge j xs.length with hlt | hge
    · exact hlt
    · rw [List.getElem?_eq_none (by simpa using hge)] at hv; cases hv
  rw [List.getElem?_toArray, Nat.zero_add, List.getElem?_append_left (by simpa using hj)]; exact hv
end
theorem OwnB.slm {T : TypeId} {s : Value} {xs : List (BitVec 8)} {Ls L : List (Nat × Obj)} (h : OwnB T s xs Ls) (hs : ∀ p ∈ Ls, p ∈ L) : Sl L s xs := (OwnS.rd0 h).mono hs
section
variable {E : Env} {w : World} {A B R : List (Nat × Obj)} {x y : Nat × Obj} {sz n : Nat} {s : Value} {l : List Value}
theorem Has.unmid1 (h : Has E w (x :: (A ++ y :: R))) : Has E w (x :: y :: (A ++ R)) := h.perm (List.Perm.cons _ List.perm_middle)
theorem Rd.unmid' (h : Rd (A ++ y :: R) sz s n l) : Rd (y :: (A ++ R)) sz s n l := h.mono fun p hp => by
  simp only [List.mem_append, List.mem_cons] at hp ⊢; rcases hp with h1 | h1 | h1 <;> simp [h1]
theorem Has.assoc1 (h : Has E w (x :: (A ++ (B ++ R)))) : Has E w (x :: ((A ++ B) ++ R)) := by rw [List.append_assoc]; exact h
theorem Rd.unassoc1 (h : Rd (x :: (A ++ (B ++ R))) sz s n l) : Rd (x :: ((A ++ B) ++ R)) sz s n l := by rw [List.append_assoc]; exact h
theorem Has.assoc2 (h : Has E w (x :: y :: (A ++ (B ++ R)))) : Has E w (x :: y :: ((A ++ B) ++ R)) := by rw [List.append_assoc]; exact h
end
/-- Operations that come up in any order, each of which makes blocks of its own: what holds at each set of those that came (node 0: all came). -/
theorem dn_dag {P : Program} {Q : Exit → Act → World → Prop} {S : World → Prop} {T : Nat → Bool} {ops : Array Oper} {l : List Value} {w : World} (Sl : List Nat) (N : Nat) (fuel : Nat → Nat) (listed : Nat → Array Bool) (J : Nat → (Nat → Value) → World → Prop)
    (h : J N (fun s => l.getD s undef) w)
    (step : ∀ k, k ≤ N → ∀ f w, J k f w → (∀ j, j < k → ∀ l' w', l' = putFn l Sl (fun s => l'.getD s undef) → J j (fun s => l'.getD s undef) w' → wpN P .any ops (NP Q) S T (fuel j) (listed j) ⟨l'.toArray, []⟩ w') → wpN P .any ops (NP Q) S T (fuel k) (listed k) ⟨(putFn l Sl f).toArray, []⟩ w) :
    wpN P .any ops (NP Q) S T (fuel N) (listed N) ⟨l.toArray, []⟩ w := by
  have key : ∀ k, k ≤ N → ∀ f w, J k f w → wpN P .any ops (NP Q) S T (fuel k) (listed k) ⟨(putFn l Sl f).toArray, []⟩ w := by
    intro k
    induction k using Nat.strongRecOn with
    | _ k ih =>
      intro hk f w hJ
      refine step k hk f w hJ fun j hj l' w' e hJ' => ?_
      rw [e]; exact ih j hj (by omega) _ _ hJ'
  have := key N (Nat.le_refl _) _ _ h
  rw [putFn_self] at this
  exact this
theorem Has.ins {E : Env} {w : World} {L : List (Nat × Obj)} {x : Nat × Obj} (h : Has E w (x :: L)) (n : Nat) (hn : n ≤ L.length) : Has E w (L.take n ++ x :: L.drop n) := h.perm (by
  have := (List.perm_middle (a := x) (l₁ := L.take n) (l₂ := L.drop n)).symm
  rw [List.take_append_drop] at this; exact this)
end Go.Proofs.YtjdfenlmifhhdaaDoor
