/-
  == of arrays and structs of integers: it says whether all cells are the same. Condition: none.
-/
import Derived.Test.YtjdfenlmifhhdaaDoorWalk2
import Derived.ChangeKeysEq
import Derived.Laws.StructEq
namespace Go.Proofs.YtjdfenlmifhhdaaDoor
open Go.RowKit

/-- At depth d, == of values of type t (n cells, as G says) tells whether the cells are the same. -/
def EqT (P : Program) (d : Nat) (t : TypeId) (n : Nat) (G : List Value → Prop) : Prop :=
  ∀ (cs ds : List Value) (o q : Nat) (w : World), o + n ≤ cs.length → q + n ≤ ds.length → G ((cs.drop o).take n) → G ((ds.drop q).take n) →
    ∃ a b r, (part t cs.toArray o).run P w = .ok a w ∧ (part t ds.toArray q).run P w = .ok b w ∧ (Op.equalIn d t a b).run P w = .ok r w ∧ (r = true ↔ (cs.drop o).take n = (ds.drop q).take n)
def IsInt (k : IntKind) (l : List Value) : Prop := ∃ m, l = [.int k m]
theorem EqT.int {P : Program} {d : Nat} {t : TypeId} {k : IntKind} (h : P.underlying t = some (.int k)) (ha : ∀ w, (isAgg t).run P w = .ok false w) : EqT P (d + 1) t 1 (IsInt k) := by
  intro cs ds o q w ho hq ⟨m, hm⟩ ⟨m', hm'⟩
  have e1 : cs[o]? = some (.int k m) := by
    have := congrArg (fun l => l[0]?) hm
    simpa [List.getElem?_take, List.getElem?_drop] using this
  have e2 : ds[q]? = some (.int k m') := by
    have := congrArg (fun l => l[0]?) hm'
    simpa [List.getElem?_take, List.getElem?_drop] using this
  refine ⟨.int k m, .int k m', m == m', by simp [part, ha, e1], by simp [part, ha, e2], run_equalIn_int w d t k k m m' h, ?_⟩
  rw [hm, hm']; simp

theorem split_at {α : Type} (l : List α) (o a b : Nat) : (l.drop o).take (a + b) = (l.drop o).take a ++ (l.drop (o + a)).take b := by
  rw [List.take_add, List.drop_drop]
theorem app_eq {α : Type} {a b c d : List α} (h : a.length = c.length) : (a ++ b = c ++ d) ↔ (a = c ∧ b = d) :=
  ⟨fun e => List.append_inj e h, fun ⟨x, y⟩ => by rw [x, y]⟩

theorem items_run {P : Program} {d e n : Nat} {G : List Value → Prop} (he : EqT P d e n G) (cs ds : List Value) (w : World) : ∀ (m s : Nat), (s + m) * n ≤ cs.length → (s + m) * n ≤ ds.length →
    (∀ i, i < s + m → G ((cs.drop (i * n)).take n)) → (∀ i, i < s + m → G ((ds.drop (i * n)).take n)) →
    ∃ r, (Op.eqItems d e n cs.toArray ds.toArray (List.range' s m)).run P w = .ok r w ∧ (r = true ↔ (cs.drop (s * n)).take (m * n) = (ds.drop (s * n)).take (m * n))
  | 0, s, _, _, _, _ => ⟨true, by simp [Op.eqItems], by simp⟩
  | m + 1, s, h1, h2, g1, g2 => by
    have hle : s * n + n ≤ (s + (m + 1)) * n := by rw [show s * n + n = (s + 1) * n by rw [Nat.succ_mul]]; exact Nat.mul_le_mul_right _ (by omega)
    obtain ⟨a, b, r, ra, rb, re, hr⟩ := he cs ds (s * n) (s * n) w (by omega) (by omega) (g1 s (by omega)) (g2 s (by omega))
    have e1 : s + 1 + m = s + (m + 1) := by omega
    obtain ⟨r', hr1, hr2⟩ := items_run he cs ds w m (s + 1) (by rw [e1]; exact h1) (by rw [e1]; exact h2) (fun i hi => g1 i (by omega)) (fun i hi => g2 i (by omega))
    have e2 : (m + 1) * n = n + m * n := by rw [Nat.succ_mul]; omega
    have e3 : (s + 1) * n = s * n + n := Nat.succ_mul _ _
    rw [List.range'_succ]
    simp only [Op.eqItems, Sem.run_bind, ra, rb, re, Result.andThen_ok]
    rw [e2, split_at, split_at, app_eq (by simp only [List.length_take, List.length_drop]; omega), ← hr, ← e3, ← hr2]
    cases r
    · exact ⟨false, by simp, by simp⟩
    · exact ⟨r', by simpa using hr1, by simp⟩

theorem cellsOf_size {P : Program} {e n : Nat} {i : TypeInfo} (hi : P.info? e = some i) (hs : ∀ w, (sizeOf e).run P w = .ok n w) (w : World) : P.cellsOf e = n := by
  have h1 := run_sizeOf (P := P) w hi
  rw [hs w] at h1
  injection h1 with h2 _
  exact h2.symm
theorem part_agg {P : Program} {t n : Nat} {cs : List Value} {o : Nat} {w : World} (ha : ∀ w, (isAgg t).run P w = .ok true w) (hs : ∀ w, (sizeOf t).run P w = .ok n w) : (part t cs.toArray o).run P w = .ok (.agg ((cs.drop o).take n).toArray) w := by
  simp only [part, Sem.run_bind, ha, hs, Result.andThen_ok, Sem.run_pure, if_true]
  congr 2
  apply Array.ext'
  simp [List.take_drop]
theorem EqT.array {P : Program} {d t e n m N : Nat} {G : List Value → Prop} {i : TypeInfo} (hi : P.info? e = some i) (hs : ∀ w, (sizeOf e).run P w = .ok n w) (hu : P.underlying t = some (.array m e))
    (ha : ∀ w, (isAgg t).run P w = .ok true w) (ht : ∀ w, (sizeOf t).run P w = .ok N w) (hN : m * n = N) (he : EqT P d e n G) : EqT P (d + 1) t N (fun l => ∀ i, i < m → G ((l.drop (i * n)).take n)) := by
  subst hN
  intro cs ds o q w ho hq g1 g2
  have l1 : ((cs.drop o).take (m * n)).length = m * n := by simp; omega
  have l2 : ((ds.drop q).take (m * n)).length = m * n := by simp; omega
  obtain ⟨r, h1, h2⟩ := items_run he ((cs.drop o).take (m * n)) ((ds.drop q).take (m * n)) w m 0 (by rw [Nat.zero_add]; omega) (by rw [Nat.zero_add]; omega) (fun i hi => g1 i (by omega)) (fun i hi => g2 i (by omega))
  refine ⟨_, _, r, part_agg ha ht, part_agg ha ht, ?_, ?_⟩
  · rw [run_equalIn_array w d _ _ hu hi, cellsOf_size hi hs w, List.range_eq_range']; exact h1
  · rw [Nat.zero_mul, List.drop_zero, List.drop_zero, List.take_take, List.take_take, Nat.min_self] at h2; exact h2
theorem EqT.struct2 {P : Program} {d t n1 n2 N : Nat} {G1 G2 : List Value → Prop} {f1 f2 : Field} (hu : P.underlying t = some (.struct (P.fieldsOf t))) (hf : (P.fieldsOf t).toList = [f1, f2]) (hp : P.stoodInHeld t = false)
    (ha : ∀ w, (isAgg t).run P w = .ok true w) (ht : ∀ w, (sizeOf t).run P w = .ok N w) (hN : n1 + n2 = N) (hn1 : (f1.name == "_") = false) (hn2 : (f2.name == "_") = false) (ho1 : f1.offset = 0) (ho2 : f2.offset = n1) (e1 : EqT P d f1.type n1 G1) (e2 : EqT P d f2.type n2 G2) :
    EqT P (d + 1) t N (fun l => G1 (l.take n1) ∧ G2 (l.drop n1)) := by
  subst hN
  intro cs ds o q w ho hq ⟨g1, g1'⟩ ⟨g2, g2'⟩
  have l1 : ((cs.drop o).take (n1 + n2)).length = n1 + n2 := by simp; omega
  have l2 : ((ds.drop q).take (n1 + n2)).length = n1 + n2 := by simp; omega
  obtain ⟨a, b, r, ra, rb, re, hr⟩ := e1 ((cs.drop o).take (n1 + n2)) ((ds.drop q).take (n1 + n2)) 0 0 w (by omega) (by omega) (by simpa using g1) (by simpa using g2)
  have t1 : (((cs.drop o).take (n1 + n2)).drop n1).take n2 = ((cs.drop o).take (n1 + n2)).drop n1 := List.take_of_length_le (by rw [List.length_drop]; omega)
  have t2 : (((ds.drop q).take (n1 + n2)).drop n1).take n2 = ((ds.drop q).take (n1 + n2)).drop n1 := List.take_of_length_le (by rw [List.length_drop]; omega)
  obtain ⟨a', b', r', ra', rb', re', hr'⟩ := e2 ((cs.drop o).take (n1 + n2)) ((ds.drop q).take (n1 + n2)) n1 n1 w (by omega) (by omega) (by rw [t1]; exact g1') (by rw [t2]; exact g2')
  have m1 : f1.name ≠ "_" := by simpa using hn1
  have m2 : f2.name ≠ "_" := by simpa using hn2
  have fin : (cs.drop o).take (n1 + n2) = (ds.drop q).take (n1 + n2) ↔ r = true ∧ r' = true := by
    rw [hr, hr', t1, t2]
    constructor
    · intro e; rw [e]; exact ⟨rfl, rfl⟩
    · rintro ⟨x, y⟩
      rw [List.drop_zero, List.drop_zero] at x
      rw [← List.take_append_drop n1 ((cs.drop o).take (n1 + n2)), x, y, List.take_append_drop]
  refine ⟨_, _, r && r', part_agg ha ht, part_agg ha ht, ?_, ?_⟩
  · rw [run_equalIn_struct w d t _ _ hu hp, hf]
    simp only [Op.eqFields, m1, m2, ne_eq, not_false_eq_true, if_true, Sem.run_bind, ho1, ho2, ra, rb, re, Result.andThen_ok]
    cases r
    · simp
    · simp only [Bool.not_true, Bool.false_eq_true, if_false, Sem.run_bind, ra', rb', re', Result.andThen_ok, Bool.true_and]
      cases r' <;> simp
  · rw [fin]; simp
section
variable {P : Program} {w : World} {a : Act} {dst : Option Tmp} {ty : TypeId} {pos : String} {after : Array Edge} {g : Option (Nat × Bool)} {x y : Operand} {t t' : TypeId}
theorem eq_top {N : Nat} {G : List Value → Prop} {cs ds : List Value} (h : EqT P Op.maxDepth t N G) (ha : ∀ w, (isAgg t).run P w = .ok true w) (hs : ∀ w, (sizeOf t).run P w = .ok N w) (h1 : cs.length = N) (h2 : ds.length = N) (g1 : G cs) (g2 : G ds) :
    ∃ r, (Op.equal t (aggV cs) (aggV ds)).run P w = .ok r w ∧ (r = true ↔ cs = ds) := by
  have t1 : (cs.drop 0).take N = cs := by rw [List.drop_zero]; exact List.take_of_length_le (by omega)
  have t2 : (ds.drop 0).take N = ds := by rw [List.drop_zero]; exact List.take_of_length_le (by omega)
  obtain ⟨a, b, r, ra, rb, re, hr⟩ := h cs ds 0 0 w (by omega) (by omega) (by rw [t1]; exact g1) (by rw [t2]; exact g2)
  rw [part_agg ha hs, t1] at ra
  rw [part_agg ha hs, t2] at rb
  cases ra; cases rb
  rw [t1, t2] at hr
  exact ⟨r, re, hr⟩
theorem guard_agg {op : BinOp} {cs ds : Array Value} (hg : P.eqGuardType P.depth t = false) : (eqGuard op t x y (.agg cs) (.agg ds)).run P w = .ok () w := by
  cases op <;> first | rfl | simp [eqGuard, hg]
theorem r_eql_agg {N : Nat} {G : List Value → Prop} {cs ds : List Value} {b : Bool} (h : EqT P Op.maxDepth t N G) (ha : ∀ w, (isAgg t).run P w = .ok true w) (hs : ∀ w, (sizeOf t).run P w = .ok N w) (hgt : P.eqGuardType P.depth t = false) (hx : a.eval x = aggV cs) (hy : a.eval y = aggV ds)
    (h1 : cs.length = N) (h2 : ds.length = N) (g1 : G cs) (g2 : G ds) (hb : b = true ↔ cs = ds) : (execOp a.eval ⟨dst, .binOp .eql t x y t', ty, pos, after, g⟩).run P w = .ok (.value (.bool b)) w := by
  obtain ⟨r, hr, hrr⟩ := eq_top (w := w) h ha hs h1 h2 g1 g2
  refine exec_bin hx hy (guard_agg hgt) ?_
  have h3 : binOp .eql t (aggV cs) (aggV ds) = (do pure (.bool ((← Op.equal t (aggV cs) (aggV ds))))) := rfl
  rw [h3, Sem.run_bind, hr]
  have : r = b := by rw [Bool.eq_iff_iff, hrr, hb]
  rw [this]; rfl
theorem r_neq_agg {N : Nat} {G : List Value → Prop} {cs ds : List Value} {b : Bool} (h : EqT P Op.maxDepth t N G) (ha : ∀ w, (isAgg t).run P w = .ok true w) (hs : ∀ w, (sizeOf t).run P w = .ok N w) (hgt : P.eqGuardType P.depth t = false) (hx : a.eval x = aggV cs) (hy : a.eval y = aggV ds)
    (h1 : cs.length = N) (h2 : ds.length = N) (g1 : G cs) (g2 : G ds) (hb : b = true ↔ ¬ cs = ds) : (execOp a.eval ⟨dst, .binOp .neq t x y t', ty, pos, after, g⟩).run P w = .ok (.value (.bool b)) w := by
  obtain ⟨r, hr, hrr⟩ := eq_top (w := w) h ha hs h1 h2 g1 g2
  refine exec_bin hx hy (guard_agg hgt) ?_
  have h3 : binOp .neq t (aggV cs) (aggV ds) = (do pure (.bool (!(← Op.equal t (aggV cs) (aggV ds))))) := rfl
  rw [h3, Sem.run_bind, hr]
  have : (!r) = b := by rw [Bool.eq_iff_iff, hb, ← hrr]; cases r <;> simp
  simp only [Result.andThen_ok, Sem.run_pure, this]
end
/-! bytes -/
theorem isB (xs : List (BitVec 8)) (n : Nat) (h : xs.length = n) : ∀ i, i < n → IsInt .u8 (((xs.map B).drop (i * 1)).take 1) := fun i hi => by
  refine ⟨(xs.getD i 0).toNat, ?_⟩
  rw [Nat.mul_one, List.drop_eq_getElem_cons (by simpa using (by omega : i < xs.length)), List.take_succ_cons, List.take_zero]
  simp [B, List.getD, show i < xs.length by omega]
theorem B_inj {x y : BitVec 8} (h : B x = B y) : x = y := by
  unfold B at h
  injection h with _ h
  exact cast_eq.1 h
theorem mapB_inj {xs ys : List (BitVec 8)} : xs.map B = ys.map B ↔ xs = ys :=
  ⟨fun h => by
    induction xs generalizing ys with
    | nil => cases ys <;> simp_all
    | cons x xs ih =>
      cases ys with
      | nil => simp at h
      | cons y ys =>
        simp only [List.map_cons, List.cons.injEq] at h
        rw [B_inj h.1, ih h.2], fun h => by rw [h]⟩
theorem W_inj {x y : BitVec 32} (h : W x = W y) : x = y := by
  unfold W at h
  injection h with _ h
  exact cast_eq.1 h
end Go.Proofs.YtjdfenlmifhhdaaDoor
