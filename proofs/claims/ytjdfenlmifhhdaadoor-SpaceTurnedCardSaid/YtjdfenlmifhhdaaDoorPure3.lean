/-
  Refs and nodes as lists of bit vectors, and as cells. Condition: none.
-/
import Derived.Test.YtjdfenlmifhhdaaDoorPure2
import Derived.Test.YtjdfenlmifhhdaaDoorRng
import Derived.Test.YtjdfenlmifhhdaaDoorEql
namespace Go.Proofs.YtjdfenlmifhhdaaDoor
open Go.RowKit

structure Rf where
  at_ : BitVec 32
  sum : Bytes
deriving DecidableEq
def rfZ : Rf := ⟨0#32, zeros 32⟩
def refV (r : Rf) : List Value := W r.at_ :: r.sum.map B
def nodeV (n : List Rf) : List Value := (n.map refV).flatten
def ndOk (n : List Rf) : Prop := n.length = 8 ∧ ∀ r ∈ n, r.sum.length = 32
def sums (n : List Rf) : Prop := ∀ r ∈ n, r.sum.length = 32
theorem refV_len (r : Rf) (h : r.sum.length = 32) : (refV r).length = 33 := by simp [refV, h]
theorem nodeV_cons (r : Rf) (n : List Rf) : nodeV (r :: n) = refV r ++ nodeV n := rfl
theorem nodeV_len : ∀ (n : List Rf), sums n → (nodeV n).length = n.length * 33
  | [], _ => rfl
  | r :: n, h => by
    rw [nodeV_cons, List.length_append, nodeV_len n (fun x hx => h x (List.mem_cons_of_mem _ hx)), refV_len r (h r (List.mem_cons_self ..)), List.length_cons]; omega
theorem nodeV_one : ∀ (n : List Rf), ∀ v ∈ nodeV n, v.oneCell' = true
  | [], v, hv => by simp [nodeV] at hv
  | r :: n, v, hv => by
    rw [nodeV_cons, List.mem_append] at hv
    rcases hv with hv | hv
    · rcases List.mem_cons.1 hv with rfl | hv
      · rfl
      · exact oneB v hv
    · exact nodeV_one n v hv
theorem nodeV_get : ∀ (n : List Rf) (i : Nat), sums n → i < n.length → ((nodeV n).drop (i * 33)).take 33 = refV (n.getD i rfZ)
  | [], _, _, hi => absurd hi (by simp)
  | r :: n, 0, h, _ => by
    rw [Nat.zero_mul, List.drop_zero, nodeV_cons, List.take_append_of_le_length (by rw [refV_len r (h r (List.mem_cons_self ..))]; omega), List.take_of_length_le (by rw [refV_len r (h r (List.mem_cons_self ..))]; omega)]
    rfl
  | r :: n, i + 1, h, hi => by
    have hr := refV_len r (h r (List.mem_cons_self ..))
    rw [nodeV_cons, show (i + 1) * 33 = (refV r).length + i * 33 by rw [hr]; omega, ← List.drop_drop, List.drop_left, nodeV_get n i (fun x hx => h x (List.mem_cons_of_mem _ hx)) (by simpa using hi)]
    rfl
theorem nodeV_put : ∀ (n : List Rf) (i : Nat) (r : Rf), sums n → i < n.length → r.sum.length = 32 → (nodeV n).take (i * 33) ++ refV r ++ (nodeV n).drop (i * 33 + 33) = nodeV (n.set i r)
  | [], _, _, _, hi, _ => absurd hi (by simp)
  | q :: n, 0, r, h, _, _ => by
    have hq := refV_len q (h q (List.mem_cons_self ..))
    rw [Nat.zero_mul, List.take_zero, List.nil_append, nodeV_cons, Nat.zero_add, show (33 : Nat) = (refV q).length by rw [hq], List.drop_left]; rfl
  | q :: n, i + 1, r, h, hi, hr => by
    have hq := refV_len q (h q (List.mem_cons_self ..))
    have e1 : (i + 1) * 33 = (refV q).length + i * 33 := by rw [hq]; omega
    have e2 : (refV q).length + i * 33 + 33 = (refV q).length + (i * 33 + 33) := by omega
    have ih := nodeV_put n i r (fun x hx => h x (List.mem_cons_of_mem _ hx)) (by simpa using hi) hr
    rw [nodeV_cons, e1, e2, List.take_append, List.drop_append, List.take_of_length_le (l := refV q) (by omega), Nat.add_sub_cancel_left, List.drop_of_length_le (l := refV q) (by omega), Nat.add_sub_cancel_left, List.nil_append, List.set_cons_succ, nodeV_cons, ← ih]
    simp only [List.append_assoc]
theorem nodeV_at (n : List Rf) (i : Nat) (x : BitVec 32) (h : sums n) (hi : i < n.length) : (nodeV n).set (i * 33) (W x) = nodeV (n.set i ⟨x, (n.getD i rfZ).sum⟩) := by
  have hl := nodeV_len n h
  have hm : (n.getD i rfZ).sum.length = 32 := by rw [show n.getD i rfZ = n[i] by simp [List.getD, hi]]; exact h _ (List.getElem_mem hi)
  have hle : (i + 1) * 33 ≤ n.length * 33 := Nat.mul_le_mul_right _ (by omega)
  have hg := nodeV_get n i h hi
  rw [← nodeV_put n i ⟨x, (n.getD i rfZ).sum⟩ h hi hm]
  have e : nodeV n = (nodeV n).take (i * 33) ++ (refV (n.getD i rfZ) ++ (nodeV n).drop (i * 33 + 33)) := by
    rw [← hg, ← List.drop_drop, List.take_append_drop, List.take_append_drop]
  conv => lhs; rw [e]
  rw [List.set_append_right _ _ (by rw [List.length_take]; omega), List.length_take, show i * 33 - min (i * 33) (nodeV n).length = 0 by omega, List.append_assoc]
  rfl
theorem nodeV_sum (n : List Rf) (i : Nat) (ys : Bytes) (h : sums n) (hi : i < n.length) (hy : ys.length = 32) : (nodeV n).take (i * 33 + 1) ++ ys.map B ++ (nodeV n).drop (i * 33 + 1 + 32) = nodeV (n.set i ⟨(n.getD i rfZ).at_, ys⟩) := by
  have hl := nodeV_len n h
  have hle : (i + 1) * 33 ≤ n.length * 33 := Nat.mul_le_mul_right _ (by omega)
  have hg := nodeV_get n i h hi
  rw [← nodeV_put n i ⟨(n.getD i rfZ).at_, ys⟩ h hi hy]
  have e : (nodeV n).take (i * 33 + 1) = (nodeV n).take (i * 33) ++ [W (n.getD i rfZ).at_] := by
    rw [List.take_add]
    have := congrArg (fun l => l.take 1) hg
    simp only [List.take_take] at this
    rw [show min 1 33 = 1 from rfl] at this
    rw [this]; rfl
  rw [e]
  simp only [refV, List.append_assoc, List.cons_append, List.nil_append, Nat.add_assoc]
theorem sums_set {n : List Rf} {i : Nat} {r : Rf} (h : sums n) (hr : r.sum.length = 32) : sums (n.set i r) := fun x hx => by
  rcases List.mem_or_eq_of_mem_set hx with hx | rfl
  · exact h x hx
  · exact hr
theorem sums_getD {n : List Rf} (i : Nat) (h : sums n) : (n.getD i rfZ).sum.length = 32 := by
  by_cases hi : i < n.length
  · rw [show n.getD i rfZ = n[i] by simp [List.getD, hi]]; exact h _ (List.getElem_mem hi)
  · rw [show n.getD i rfZ = rfZ by simp [List.getD, hi]]; rfl
/-! laid as bytes -/
def putRef (r : Rf) : Bytes := be 4 (r.at_.setWidth 64) ++ r.sum
def putNode (n : List Rf) : Bytes := (n.map putRef).flatten
theorem putNode_nil : putNode [] = [] := rfl
theorem putRef_len (r : Rf) (h : r.sum.length = 32) : (putRef r).length = 36 := by rw [putRef, List.length_append, be_length, h]
theorem putNode_len : ∀ (n : List Rf), sums n → (putNode n).length = n.length * 36
  | [], _ => rfl
  | r :: n, h => by
    show (putRef r ++ putNode n).length = _
    rw [List.length_append, putNode_len n (fun x hx => h x (List.mem_cons_of_mem _ hx)), putRef_len r (h r (List.mem_cons_self ..)), List.length_cons]; omega
theorem putNode_succ (n : List Rf) (i : Nat) (h : i < n.length) : putNode (n.take (i + 1)) = putNode (n.take i) ++ (be 4 ((n.getD i rfZ).at_.setWidth 64) ++ (n.getD i rfZ).sum) := by
  rw [List.take_add_one, List.getElem?_eq_getElem h, putNode, List.map_append, List.flatten_append]
  simp [putRef, putNode, List.getD, h]
theorem putNode_take_len (n : List Rf) (i : Nat) (h : sums n) (hn : n.length = 8) (hi : i ≤ 8) : (putNode (n.take i)).length = i * 36 := by
  rw [putNode_len _ (fun x hx => h x (List.mem_of_mem_take hx)), List.length_take, Nat.min_eq_left (by omega)]
/-! read back -/
def ndZ : List Rf := List.replicate 8 rfZ
theorem ndZ_sums : sums ndZ := fun r hr => by rw [List.eq_of_mem_replicate hr]; rfl
def getRef (xs : Bytes) (i : Nat) : Rf := ⟨(beNum ((xs.drop (36 * i)).take 4)).setWidth 32, (xs.drop (36 * i + 4)).take 32⟩
def getN (xs : Bytes) (i : Nat) : List Rf := (List.range i).map (getRef xs) ++ List.replicate (8 - i) rfZ
def getNode (xs : Bytes) : List Rf := getN xs 8
def okRef (r : Rf) : Prop := r.at_ = 0#32 → r.sum = zeros 32
instance (r : Rf) : Decidable (okRef r) := inferInstanceAs (Decidable (r.at_ = 0#32 → r.sum = zeros 32))
def getOk (xs : Bytes) : Prop := ∀ j, j < 8 → okRef (getRef xs j)
instance (xs : Bytes) : Decidable (getOk xs) := Nat.decidableBallLT 8 (fun j _ => okRef (getRef xs j))
theorem getRef_len (xs : Bytes) (h : xs.length = 288) (i : Nat) (hi : i < 8) : (getRef xs i).sum.length = 32 := by
  show ((xs.drop (36 * i + 4)).take 32).length = 32
  rw [List.length_take, List.length_drop]; omega
theorem getN_zero (xs : Bytes) : getN xs 0 = ndZ := rfl
theorem getN_len (xs : Bytes) (i : Nat) (hi : i ≤ 8) : (getN xs i).length = 8 := by simp [getN]; omega
theorem getN_sums (xs : Bytes) (h : xs.length = 288) (i : Nat) (hi : i ≤ 8) : sums (getN xs i) := fun r hr => by
  rw [getN, List.mem_append] at hr
  rcases hr with hr | hr
  · obtain ⟨j, hj, rfl⟩ := List.mem_map.1 hr
    exact getRef_len xs h j (by have := List.mem_range.1 hj; omega)
  · rw [List.eq_of_mem_replicate hr]; rfl
theorem getN_succ (xs : Bytes) (i : Nat) (hi : i < 8) : (getN xs i).set i (getRef xs i) = getN xs (i + 1) := by
  unfold getN
  rw [List.set_append_right _ _ (by simp), List.length_map, List.length_range, Nat.sub_self, List.range_succ, List.map_append, show 8 - i = (8 - (i + 1)) + 1 by omega, List.replicate_succ, List.set_cons_zero]
  simp
theorem getN_at (xs : Bytes) (i : Nat) (hi : i < 8) : (getN xs i).getD i rfZ = rfZ := by
  unfold getN
  rw [List.getD, List.getElem?_append_right (by simp), List.length_map, List.length_range, Nat.sub_self, List.getElem?_replicate, if_pos (by omega)]; rfl
theorem set_set {α : Type} (l : List α) (i : Nat) (x y : α) : (l.set i x).set i y = l.set i y := List.set_set ..
theorem getD_set {l : List Rf} {i : Nat} {x : Rf} (h : i < l.length) : (l.set i x).getD i rfZ = x := by simp [List.getD, h]
theorem refV_inj {r s : Rf} (h : refV r = refV s) : r = s := by
  unfold refV at h
  injection h with h1 h2
  have h3 := W_inj h1
  have h4 := mapB_inj.1 h2
  cases r; cases s; simp_all
section
variable {P : Program} {w : World} {a : Act} {dst : Option Tmp} {ty : TypeId} {pos : String} {after : Array Edge} {g : Option (Nat × Bool)} {x y : Operand} {t : TypeId}
theorem r_index_agg {l : List Value} {len e j sz : Nat} {kd : IntKind} {i : Int} (hx : a.eval x = .agg l.toArray) (hy : a.eval y = .int kd i) (hu : ∀ w, (underlying t).run P w = .ok (.array len e) w)
    (hs : ∀ w, (sizeOf e).run P w = .ok sz w) (ha : ∀ w, (isAgg e).run P w = .ok true w) (hj : i = (j : Int)) (hl : j < len) {cs : List Value} (hv : (l.drop (j * sz)).take sz = cs) :
    (execOp a.eval ⟨dst, .index t x y, ty, pos, after, g⟩).run P w = .ok (.value (aggV cs)) w := by
  subst hj; subst hv
  have hp := part_agg (P := P) (cs := l) (o := j * sz) (w := w) ha hs
  simp [execOp, hx, hy, Instr.index, asIntOf, hu, hs, hl, hp]
end
theorem isRef (r : Rf) (h : r.sum.length = 32) : IsInt .u32 ((refV r).take 1) ∧ ∀ i, i < 32 → IsInt .u8 ((((refV r).drop 1).drop (i * 1)).take 1) :=
  ⟨⟨_, rfl⟩, isB r.sum 32 h⟩
theorem isNode (n : List Rf) (h : sums n) (hl : n.length = 8) : ∀ i, i < 8 → (fun l => IsInt .u32 (l.take 1) ∧ (fun l => ∀ i, i < 32 → (IsInt .u8) ((l.drop (i * 1)).take 1)) (l.drop 1)) (((nodeV n).drop (i * 33)).take 33) := fun i hi => by
  rw [nodeV_get n i h (by omega)]; exact isRef _ (sums_getD i h)
theorem nodeV_inj : ∀ {n m : List Rf}, sums n → sums m → nodeV n = nodeV m → n = m
  | [], [], _, _, _ => rfl
  | [], r :: m, _, hm, e => by
    have := congrArg List.length e
    rw [nodeV_len _ hm] at this
    simp [nodeV] at this
  | r :: n, [], hn, _, e => by
    have := congrArg List.length e
    rw [nodeV_len _ hn] at this
    simp [nodeV] at this
  | r :: n, q :: m, hn, hm, e => by
    rw [nodeV_cons, nodeV_cons] at e
    obtain ⟨e1, e2⟩ := List.append_inj e (by rw [refV_len r (hn r (List.mem_cons_self ..)), refV_len q (hm q (List.mem_cons_self ..))])
    rw [refV_inj e1, nodeV_inj (fun x hx => hn x (List.mem_cons_of_mem _ hx)) (fun x hx => hm x (List.mem_cons_of_mem _ hx)) e2]
theorem build_ref (x : BitVec 32) (ys : Bytes) (h : ys.length = 32) : fillL [(0, 1), (1, 32)] (refV rfZ) [(0, W x), (1, aggB ys)] = some (refV ⟨x, ys⟩) := by
  refine (fill_step (cs := [W x]) rfl rfl rfl (by simp [refV])).trans ((fill_step (cs := ys.map B) rfl rfl (by simpa using h) (by simp [refV, rfZ, zeros])).trans ?_)
  simp only [fillL, refV, rfZ]
  simp [zeros]
/-! ### space -/
def place (p n : Nat) : Nat := 512 * (8 + n * p)
/-- what a cluster's bytes are told as: an error and the bytes -/
def spGet (seen : Bytes) (p : Nat) (φ : Bytes → Bytes) (r : Rf) : Nat × Bytes :=
  if r.at_ = 0#32 ∨ 65536 < r.at_.toNat then (2, []) else
  if place p (r.at_.toNat - 1) + 512 * p ≤ seen.length then
    if φ ((seen.drop (place p (r.at_.toNat - 1))).take (512 * p)) = r.sum then (0, (seen.drop (place p (r.at_.toNat - 1))).take (512 * p)) else (40, [])
  else (40, [])
/-- a cluster is laid: an error, and the file -/
def spPut (most : Nat) (seen : Bytes) (p n : Nat) (xs : Bytes) : Nat × Bytes :=
  if 65535 < n then (2, seen) else if 512 * p < xs.length then (2, seen) else
  if seen.length < place p n then (40, seen) else if most < place p n + 512 * p then (21, seen) else (0, layZ seen (place p n) (padTo (512 * p) xs))
def spRef (e : Nat) (p : Nat) (φ : Bytes → Bytes) (n : BitVec 32) (xs : Bytes) : Rf := if e = 0 then ⟨n + 1#32, φ (padTo (512 * p) xs)⟩ else rfZ
theorem spRef_len (e p : Nat) (φ : Bytes → Bytes) (hφ : ∀ xs, (φ xs).length = 32) (n : BitVec 32) (xs : Bytes) : (spRef e p φ n xs).sum.length = 32 := by
  unfold spRef; split
  · exact hφ _
  · rfl
theorem build_space (d c p x : Value) (hd : d.cells = #[d]) (hx : x.cells = #[x]) (tag : Bytes) (h : tag.length = 32) : fillL [(0, 1), (1, 2), (3, 1), (4, 32)] ([.pointer none, i64 0, i64 0, .pointer none] ++ (List.replicate 32 0#8).map B) [(0, d), (1, aggV [c, p]), (2, x), (3, aggB tag)] = some ([d, c, p, x] ++ tag.map B) := by
  refine (fill_step (cs := [d]) rfl hd rfl (by simp)).trans ((fill_step (cs := [c, p]) rfl rfl rfl (by simp)).trans ((fill_step (cs := [x]) rfl hx rfl (by simp)).trans ((fill_step (cs := tag.map B) rfl rfl (by simpa using h) (by simp)).trans ?_)))
  simp only [fillL]
  simp
def nameOne : Bytes := [100#8, 97#8, 116#8, 97#8, 32#8, 111#8, 110#8, 101#8]
def nameTwo : Bytes := [100#8, 97#8, 116#8, 97#8, 32#8, 116#8, 119#8, 111#8]
def nameTag : Bytes := [116#8, 97#8, 103#8]
/-- a cluster of data is laid / read -/
def spPutD (most : Nat) (seen : Bytes) (p n : Nat) (gk keys xs : Bytes) : Nat × Bytes :=
  if 65535 < n ∨ xs.length ≠ 512 * p then (2, seen) else spPut most seen p n (over (encrypt gk) keys (BitVec.ofNat 64 (8 + n * p)) xs)
def spGetD (seen : Bytes) (p : Nat) (tag gk keys : Bytes) (r : Rf) : Nat × Bytes :=
  if (spGet seen p (leafSum tag r.at_) r).1 = 0 then (0, over (decrypt gk) keys (BitVec.ofNat 64 (8 + (r.at_.toNat - 1) * p)) (spGet seen p (leafSum tag r.at_) r).2) else ((spGet seen p (leafSum tag r.at_) r).1, [])
def spGetN (seen : Bytes) (p : Nat) (r : Rf) : Nat × List Rf :=
  if (spGet seen p nodeSum r).1 = 0 then
    if getOk ((spGet seen p nodeSum r).2.take 288) ∧ isNought ((spGet seen p nodeSum r).2.drop 288) = true then (0, getNode ((spGet seen p nodeSum r).2.take 288)) else (40, ndZ)
  else ((spGet seen p nodeSum r).1, ndZ)
end Go.Proofs.YtjdfenlmifhhdaaDoor
