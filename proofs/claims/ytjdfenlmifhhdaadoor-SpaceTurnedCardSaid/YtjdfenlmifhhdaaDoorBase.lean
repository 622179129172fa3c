/-
  The ground of all walks here: 'Has E w L' (the heap holds the blocks of a list, all apart), and one law for each operation of the model on such worlds. Condition: none.
-/
import Derived.WalkKit
import Derived.ProofKit
namespace Go.Proofs.YtjdfenlmifhhdaaDoor
open Go.RowKit

/-! ### Values -/
def B (x : BitVec 8) : Value := .int .u8 (x.toNat : Int)
def W (x : BitVec 32) : Value := .int .u32 (x.toNat : Int)
def D (x : BitVec 64) : Value := .int .u64 (x.toNat : Int)
def H (x : BitVec 16) : Value := .int .u16 (x.toNat : Int)

theorem B_one (x : BitVec 8) : (B x).oneCell' = true := rfl
theorem W_one (x : BitVec 32) : (W x).oneCell' = true := rfl
theorem D_one (x : BitVec 64) : (D x).oneCell' = true := rfl

abbrev vs (T : TypeId) (l : List Value) : Obj := .cells l.toArray T (0, 0)
abbrev bs (T : TypeId) (l : List (BitVec 8)) : Obj := .cells (l.map B).toArray T (0, 0)
abbrev ws (T : TypeId) (l : List (BitVec 32)) : Obj := .cells (l.map W).toArray T (0, 0)
abbrev ds (T : TypeId) (l : List (BitVec 64)) : Obj := .cells (l.map D).toArray T (0, 0)
abbrev aggV (l : List Value) : Value := .agg l.toArray
abbrev aggB (l : List (BitVec 8)) : Value := .agg (l.map B).toArray
abbrev aggW (l : List (BitVec 32)) : Value := .agg (l.map W).toArray
abbrev ptr (b o : Nat) : Value := .pointer (some ⟨b, o, none⟩)
abbrev i64 (n : Int) : Value := .int .i64 n

/-! ### The heap as a list of blocks -/
structure Env where
  os : Os
  tape : Nat → Question → Nat
  out : Array (Nat × ByteArray)

structure Has (E : Env) (w : World) (L : List (Nat × Obj)) : Prop where
  os : w.os = E.os
  tape : w.tape = E.tape
  out : w.output = E.out
  at_ : ∀ p ∈ L, w.heap[p.1]? = some p.2
  apart : (L.map (·.1)).Nodup

section has
variable {E : Env} {w : World} {L L' : List (Nat × Obj)} {b : Nat} {o : Obj}

theorem Has.get (h : Has E w L) (hm : (b, o) ∈ L) : w.heap[b]? = some o := h.at_ _ hm
theorem Has.lt (h : Has E w L) (hm : (b, o) ∈ L) : b < w.heap.size := by
  have := h.get hm
  rcases Nat.lt_or_ge b w.heap.size with hlt | hge
  · exact hlt
  · rw [Array.getElem?_eq_none hge] at this; cases this
theorem Has.drew (h : Has E w L) : Has E w.drew L := ⟨h.os, h.tape, h.out, h.at_, h.apart⟩
theorem Has.drawn (h : Has E w L) (n : Nat) : Has E { w with drawn := n } L := ⟨h.os, h.tape, h.out, h.at_, h.apart⟩
theorem Has.alloc (h : Has E w L) (o : Obj) : Has E (w.alloc o) ((w.heap.size, o) :: L) := by
  refine ⟨h.os, h.tape, h.out, ?_, ?_⟩
  · intro p hp
    rcases List.mem_cons.1 hp with rfl | hp
    · exact heap_alloc_new w o
    · have hlt : p.1 < w.heap.size := h.lt (b := p.1) (o := p.2) hp
      rw [Below.heap_alloc w o p.1 hlt]; exact h.at_ p hp
  · simp only [List.map_cons, List.nodup_cons]
    refine ⟨?_, h.apart⟩
    intro hm
    obtain ⟨p, hp, he⟩ := List.mem_map.1 hm
    have hlt : p.1 < w.heap.size := h.lt (b := p.1) (o := p.2) hp
    omega
theorem Has.sub (h : Has E w L) (hs : List.Sublist L' L) : Has E w L' :=
  ⟨h.os, h.tape, h.out, fun p hp => h.at_ p (hs.subset hp), (hs.map _).nodup h.apart⟩
theorem Has.perm (h : Has E w L) (hp : L.Perm L') : Has E w L' :=
  ⟨h.os, h.tape, h.out, fun p hq => h.at_ p (hp.mem_iff.2 hq), ((hp.map _).nodup_iff).1 h.apart⟩
theorem Has.tail {x : Nat × Obj} (h : Has E w (x :: L)) : Has E w L := h.sub (List.sublist_cons_self _ _)
theorem Has.front (h : Has E w L) (n : Nat) {x : Nat × Obj} (hn : L[n]? = some x) : Has E w (x :: L.eraseIdx n) := by
  obtain ⟨hlt, rfl⟩ := List.getElem?_eq_some_iff.1 hn
  refine h.perm ?_
  rw [List.eraseIdx_eq_take_drop_succ]
  have h1 : L = L.take n ++ L[n] :: L.drop (n + 1) := by simp
  have h2 : (L.take n ++ L[n] :: L.drop (n + 1)).Perm (L[n] :: (L.take n ++ L.drop (n + 1))) := List.perm_middle
  rw [← h1] at h2; exact h2
theorem Has.swap {x y : Nat × Obj} (h : Has E w (x :: y :: L)) : Has E w (y :: x :: L) := h.perm (List.Perm.swap _ _ _)

/-- A block of the list is written anew, whole. -/
theorem Has.put {w' : World} (h : Has E w L) (n : Nat) (hn : L[n]? = some (b, o)) (o' : Obj) (ho : w'.os = w.os) (ht : w'.tape = w.tape) (hu : w'.output = w.output)
    (hb : w'.heap[b]? = some o') (hk : ∀ k, k ≠ b → k < w.heap.size → w'.heap[k]? = w.heap[k]?) : Has E w' (L.set n (b, o')) := by
  obtain ⟨hlt, he⟩ := List.getElem?_eq_some_iff.1 hn
  refine ⟨ho.trans h.os, ht.trans h.tape, hu.trans h.out, ?_, ?_⟩
  · intro p hp
    obtain ⟨i, hi, rfl⟩ := List.mem_iff_getElem.1 hp
    rw [List.getElem_set]
    split
    · exact hb
    · rename_i hne
      have hi' : i < L.length := by simpa using hi
      have hm : L[i] ∈ L := List.getElem_mem hi'
      have hkeys : L[i].1 ≠ b := by
        intro hkb
        have hnd := h.apart
        have h1 : (L.map (·.1))[i]'(by simpa using hi') = (L.map (·.1))[n]'(by simpa using hlt) := by simp [hkb, he]
        exact hne ((List.getElem_inj (hnd)).1 h1).symm
      rw [hk _ hkeys (h.lt (b := L[i].1) (o := L[i].2) hm)]
      exact h.at_ _ hm
  · have : (L.set n (b, o')).map (·.1) = L.map (·.1) := by
      apply List.ext_getElem
      · simp
      · intro i h1 h2
        simp only [List.getElem_map, List.getElem_set]
        split
        · rename_i heq; subst heq; simp [he]
        · rfl
    rw [this]; exact h.apart

theorem setCell_heap_same (w : World) (b i : Nat) (cs : Array Value) (T : TypeId) (fz : Nat × Nat) (v : Value) (hb : w.heap[b]? = some (.cells cs T fz)) :
    (w.setCell ⟨b, i, none⟩ v).heap[b]? = some (.cells (cs.setIfInBounds i v) T fz) := by
  simp [World.setCell, Array.getElem?_modify, hb]
theorem setCell_heap_other (w : World) (b i k : Nat) (v : Value) (hk : k ≠ b) : (w.setCell ⟨b, i, none⟩ v).heap[k]? = w.heap[k]? := by
  simp only [World.setCell, Array.getElem?_modify]
  rw [if_neg (fun e => hk e.symm)]

theorem Has.store {cs : Array Value} {T : TypeId} {fz : Nat × Nat} (h : Has E w L) (n i : Nat) (v : Value) (hn : L[n]? = some (b, .cells cs T fz)) :
    Has E (w.setCell ⟨b, i, none⟩ v) (L.set n (b, .cells (cs.setIfInBounds i v) T fz)) :=
  h.put n hn _ rfl rfl rfl (setCell_heap_same w b i cs T fz v (h.get (List.mem_of_getElem? hn))) (fun k hk _ => setCell_heap_other w b i k v hk)

theorem setRow_heap_other (w : World) (g k : Nat) (cs : Array Value) (hk : k ≠ g) : (w.setRow g cs).heap[k]? = w.heap[k]? := by
  simp only [World.setRow, Array.getElem?_modify]
  rw [if_neg (fun e => hk e.symm)]
theorem Has.row {cs cs' : Array Value} {T : TypeId} {fz : Nat × Nat} (h : Has E w L) (n : Nat) (hn : L[n]? = some (b, .cells cs T fz)) :
    Has E (w.setRow b cs') (L.set n (b, .cells cs' T fz)) :=
  h.put n hn _ rfl rfl rfl (setRow_heap w b cs cs' T fz (h.get (List.mem_of_getElem? hn))) (fun k hk _ => setRow_heap_other w b k cs' hk)

theorem Has.cell {cs : Array Value} {T : TypeId} {fz : Nat × Nat} (h : Has E w L) (hm : (b, .cells cs T fz) ∈ L) (i : Nat) : w.cell? ⟨b, i, none⟩ = cs[i]? :=
  cell_of_row w b i cs T fz (h.get hm)
theorem Has.frozen {cs : Array Value} {T : TypeId} (h : Has E w L) (hm : (b, .cells cs T (0, 0)) ∈ L) (i : Nat) : w.frozen? ⟨b, i, none⟩ = false := by
  simp [World.frozen?, h.get hm]
theorem Has.shape {cs : Array Value} {T : TypeId} {fz : Nat × Nat} (h : Has E w L) (hm : (b, .cells cs T fz) ∈ L) : w.shape? b = some (T, cs.size) := by
  simp [World.shape?, h.get hm]
end has

/-- Where a block stands in the list: found by looking (instances), from the head on. -/
class At (L : List (Nat × Obj)) (b : Nat) (o : outParam Obj) (n : outParam Nat) : Prop where
  get : L[n]? = some (b, o)
instance At.tail {L : List (Nat × Obj)} {b : Nat} {o : Obj} {n : Nat} {x : Nat × Obj} [h : At L b o n] : At (x :: L) b o (n + 1) := ⟨by simpa using h.get⟩
instance (priority := high) At.head {L : List (Nat × Obj)} {b : Nat} {o : Obj} : At ((b, o) :: L) b o 0 := ⟨rfl⟩
class Mem (L : List (Nat × Obj)) (b : Nat) (o : outParam Obj) : Prop where
  mem : (b, o) ∈ L
instance Mem.tail {L : List (Nat × Obj)} {b : Nat} {o : Obj} {x : Nat × Obj} [h : Mem L b o] : Mem (x :: L) b o := ⟨List.mem_cons_of_mem _ h.mem⟩
instance (priority := high) Mem.head {L : List (Nat × Obj)} {b : Nat} {o : Obj} : Mem ((b, o) :: L) b o := ⟨List.mem_cons_self⟩

theorem add_mk (b o n : Nat) : (⟨b, o, none⟩ : Addr).add n = ⟨b, o + n, none⟩ := by unfold Addr.add; split <;> simp_all

/-! ### Operations -/
section ops
variable {P : Program} {E : Env} {w : World} {L : List (Nat × Obj)} {a : Act} {K : Act → World → Prop} {Q : Exit → Act → World → Prop}
variable {dst : Option Tmp} {ty : TypeId} {pos : String} {after : Array Edge} {g : Option (Nat × Bool)} {x y z : Operand} {v u : Value} {t : TypeId}

/-- One operation, hidden (so that the elaborator doesn't carry it out when it looks at the goal). -/
structure OW (P : Program) (a : Act) (w : World) (K : Act → World → Prop) (Q : Exit → Act → World → Prop) (o : Oper) : Prop where
  up : o.wp P a w K Q
theorem op_of {o : Oper} {w' : World} (hr : (execOp a.eval o).run P w = .ok (.value v) w') (k : K (a.put o.dst v) w') : OW P a w K Q o := by
  refine ⟨?_⟩; unfold Oper.wp Oper.upon; rw [hr]; exact k
theorem op_of_skip {o : Oper} {w' : World} (hr : (execOp a.eval o).run P w = .ok .skip w') (k : K (a.put o.dst undef) w') : OW P a w K Q o := by
  refine ⟨?_⟩; unfold Oper.wp Oper.upon; rw [hr]; exact k

theorem r_move (hx : a.eval x = v) : (execOp a.eval ⟨dst, .move x, ty, pos, after, g⟩).run P w = .ok (.value v) w := by
  simp [execOp, hx]
theorem r_assign (hx : a.eval x = v) : (execOp a.eval ⟨dst, .assign x, ty, pos, after, g⟩).run P w = .ok (.value v) w := by
  simp [execOp, hx]
theorem r_pick {c : Operand} (hc : a.eval c = .bool true) (hx : a.eval x = v) : (execOp a.eval ⟨dst, .pick c x y, ty, pos, after, g⟩).run P w = .ok (.value v) w := by
  simp [execOp, hc, hx, asBool]
theorem r_pick_f {c : Operand} (hc : a.eval c = .bool false) (hy : a.eval y = v) : (execOp a.eval ⟨dst, .pick c x y, ty, pos, after, g⟩).run P w = .ok (.value v) w := by
  simp [execOp, hc, hy, asBool]
theorem r_nilCheck {ad : Addr} (hx : a.eval x = .pointer (some ad)) : (execOp a.eval ⟨dst, .nilCheck x, ty, pos, after, g⟩).run P w = .ok (.value (.pointer (some ad))) w := by
  simp [execOp, hx]

theorem r_load {b i : Nat} {cs : Array Value} {T : TypeId} {fz : Nat × Nat} (h : Has E w L) (hx : a.eval x = .pointer (some ⟨b, i, none⟩)) [m : Mem L b (.cells cs T fz)]
    (hc : cs[i]? = some v) (ht : ∀ w, (isAgg t).run P w = .ok false w) : (execOp a.eval ⟨dst, .load t x, ty, pos, after, g⟩).run P w = .ok (.value v) w := by
  simp [execOp, hx, Instr.loadAt, Instr.sureAddr, loadVar, ht, h.cell m.mem, hc]
theorem run_loadCells_seg {b o n : Nat} {cs : Array Value} {T : TypeId} {fz : Nat × Nat} (h : Has E w L) (hm : (b, .cells cs T fz) ∈ L) (hn : o + n ≤ cs.size) :
    (loadCells ⟨b, o, none⟩ n).run P w = .ok (cs.extract o (o + n)) w := by
  have hl : (cs.extract o (o + n)).toList.length = n := by simp; omega
  have := run_loadCells_list (P := P) w ⟨b, o, none⟩ (cs.extract o (o + n)).toList (fun j v hv => by
    rw [add_mk, h.cell hm]
    have hj : j < n := by
      rcases Nat.lt_or_ge j n with hlt | hge
      · exact hlt
      · rw [List.getElem?_eq_none (by omega)] at hv; cases hv
    rw [Array.getElem?_toList, Array.getElem?_extract] at hv
    rw [if_pos (by omega)] at hv
    exact hv)
  rw [hl] at this
  rw [this]
theorem run_loadVar_seg {b o n : Nat} {cs : Array Value} {T : TypeId} {fz : Nat × Nat} (h : Has E w L) (hm : (b, .cells cs T fz) ∈ L) (hn : o + n ≤ cs.size)
    (ht : ∀ w, (isAgg t).run P w = .ok true w) (hs : ∀ w, (sizeOf t).run P w = .ok n w) : (loadVar t ⟨b, o, none⟩).run P w = .ok (.agg (cs.extract o (o + n))) w := by
  simp [loadVar, ht, hs, run_loadCells_seg h hm hn]
theorem r_load_seg {b o n : Nat} {cs : Array Value} {T : TypeId} {fz : Nat × Nat} (h : Has E w L) (hx : a.eval x = .pointer (some ⟨b, o, none⟩)) [m : Mem L b (.cells cs T fz)]
    (hn : o + n ≤ cs.size) (ht : ∀ w, (isAgg t).run P w = .ok true w) (hs : ∀ w, (sizeOf t).run P w = .ok n w) (hv : v = .agg (cs.extract o (o + n))) :
    (execOp a.eval ⟨dst, .load t x, ty, pos, after, g⟩).run P w = .ok (.value v) w := by
  subst hv
  simp [execOp, hx, Instr.loadAt, Instr.sureAddr, run_loadVar_seg h m.mem hn ht hs]
/-- A whole block, read as one value. -/
theorem r_load_all {b n : Nat} {cs : Array Value} {T : TypeId} {fz : Nat × Nat} (h : Has E w L) (hx : a.eval x = .pointer (some ⟨b, 0, none⟩)) [m : Mem L b (.cells cs T fz)]
    (hn : cs.size = n) (ht : ∀ w, (isAgg t).run P w = .ok true w) (hs : ∀ w, (sizeOf t).run P w = .ok n w) :
    (execOp a.eval ⟨dst, .load t x, ty, pos, after, g⟩).run P w = .ok (.value (.agg cs)) w :=
  r_load_seg h hx (by omega) ht hs (by subst hn; simp)

theorem Act.put_none (a : Act) (v : Value) : a.put none v = a := rfl

theorem op_store {b i n : Nat} {l : List Value} {T : TypeId} (h : Has E w L) (hx : a.eval x = .pointer (some ⟨b, i, none⟩)) (hy : a.eval y = v) [m : At L b (vs T l) n]
    (hv : v.oneCell' = true) (hi : i < l.length) (hs : ∀ w, (sizeOf t).run P w = .ok 1 w) (k : ∀ w', Has E w' (L.set n (b, vs T (l.set i v))) → K a w') :
    OW P a w K Q (Oper.mk none (.store t x y) ty pos after g) := by
  have hm := List.mem_of_getElem? m.get
  have hc : w.cell? ⟨b, i, none⟩ = some l[i] := by rw [h.cell hm]; simp [hi]
  have hcell : v.cells = #[v] := by cases v <;> first | rfl | (simp [Value.oneCell'] at hv)
  refine op_of_skip (w' := w.setCell ⟨b, i, none⟩ v) ?_ ?_
  · simp [execOp, hx, hy, Instr.storeAt, Instr.sureAddr, storeVar, hs, hcell, storeCells, run_store _ _ _ _ _ hv, add_mk, hc, h.frozen hm]
  · refine k _ ?_
    have := h.store n i v m.get
    simpa using this

theorem op_store_agg {b n o : Nat} {l cs : List Value} {T : TypeId} (h : Has E w L) (hx : a.eval x = .pointer (some ⟨b, o, none⟩)) (hy : a.eval y = .agg cs.toArray) [m : At L b (vs T l) n]
    (hv : ∀ u ∈ cs, u.oneCell' = true) (hi : o + cs.length ≤ l.length) (hs : ∀ w, (sizeOf t).run P w = .ok cs.length w)
    (k : ∀ w', Has E w' (L.set n (b, vs T (l.take o ++ cs ++ l.drop (o + cs.length)))) → K a w') :
    OW P a w K Q (Oper.mk none (.store t x y) ty pos after g) := by
  have hm := List.mem_of_getElem? m.get
  have hrun := run_storeCells_at (P := P) b o T cs 0 l.toArray w (h.get hm) (by simpa using hi) hv
  refine op_of_skip (w' := w.setRow b (l.take o ++ cs ++ l.drop (o + cs.length)).toArray) ?_ ?_
  · simp [execOp, hx, hy, Instr.storeAt, Instr.sureAddr, storeVar, hs, Value.cells] at hrun ⊢
    rw [hrun]; rfl
  · exact k _ (h.row n m.get)
/-- A whole block, written as one value. -/
theorem op_store_all {b n : Nat} {l cs : List Value} {T : TypeId} (h : Has E w L) (hx : a.eval x = .pointer (some ⟨b, 0, none⟩)) (hy : a.eval y = .agg cs.toArray) [m : At L b (vs T l) n]
    (hv : ∀ u ∈ cs, u.oneCell' = true) (hi : cs.length = l.length) (hs : ∀ w, (sizeOf t).run P w = .ok cs.length w)
    (k : ∀ w', Has E w' (L.set n (b, vs T cs)) → K a w') :
    OW P a w K Q (Oper.mk none (.store t x y) ty pos after g) :=
  op_store_agg h hx hy hv (by omega) hs (fun w' h' => k w' (by rw [show l.drop (0 + cs.length) = [] by simp [hi]] at h'; simpa using h'))

theorem op_new {T : TypeId} {cs : List Value} {o : Oper} (h : Has E w L) (hr : (execOp a.eval o).run P w = .ok (.value (.pointer (some ⟨w.heap.size, 0, none⟩))) (w.alloc (vs T cs)))
    (k : ∀ b w', Has E w' ((b, vs T cs) :: L) → K (a.put o.dst (ptr b 0)) w') : OW P a w K Q o :=
  op_of hr (k _ _ (h.alloc _))
theorem op_box {T : TypeId} {cs : List Value} (h : Has E w L) (hx : a.eval x = v) (hc : v.cells = cs.toArray)
    (k : ∀ b w', Has E w' ((b, vs T cs) :: L) → K (a.put dst (ptr b 0)) w') : OW P a w K Q (Oper.mk dst (.box T x) ty pos after g) :=
  op_new h (by simp [execOp, hx, Instr.box, newVar, newRow, hc]) k
theorem op_alloc {T : TypeId} {cs : List Value} (h : Has E w L) (hz : ∀ w, (zeroValue T).run P w = .ok v w) (hc : v.cells = cs.toArray)
    (k : ∀ b w', Has E w' ((b, vs T cs) :: L) → K (a.put dst (ptr b 0)) w') : OW P a w K Q (Oper.mk dst (.alloc T) ty pos after g) :=
  op_new h (by simp [execOp, Instr.alloc, hz, newVar, newRow, hc]) k

theorem r_fieldAddr {s f b o n off : Nat} {fields : Array Field} {fd : Field} (hx : a.eval x = ptr b o) (hu : ∀ w, (underlying s).run P w = .ok (.struct fields) w) (hf : fields[f]? = some fd)
    (hs : ∀ w, (sizeOf fd.type).run P w = .ok n w) (hn : (n == 0) = false) (ho : fd.offset = off) : (execOp a.eval ⟨dst, .fieldAddr s x f, ty, pos, after, g⟩).run P w = .ok (.value (ptr b (o + off))) w := by
  subst ho
  have hn' : n ≠ 0 := by simpa using hn
  simp [execOp, hx, Instr.fieldAt, Instr.sureAddr, fieldPlace, hu, hf, hs, hn', add_mk]
theorem r_indexAddr_arr {b o len e sz j : Nat} {kd : IntKind} {i : Int} (hx : a.eval x = ptr b o) (hy : a.eval y = .int kd i) (hu : ∀ w, (underlying t).run P w = .ok (.array len e) w)
    (hs : ∀ w, (sizeOf e).run P w = .ok sz w) (hj : i = (j : Int)) (hl : j < len) : (execOp a.eval ⟨dst, .indexAddr t x y, ty, pos, after, g⟩).run P w = .ok (.value (ptr b (o + j * sz))) w := by
  subst hj
  simp [execOp, hx, hy, Instr.indexAt, Instr.sureAddr, asIntOf, hu, hs, hl, add_mk]
theorem r_indexAddr_sl {b o len cap e sz j : Nat} {kd : IntKind} {i : Int} (hx : a.eval x = .slice (some ⟨b, o, none⟩) len cap) (hy : a.eval y = .int kd i) (hu : ∀ w, (underlying t).run P w = .ok (.slice e) w)
    (hs : ∀ w, (sizeOf e).run P w = .ok sz w) (hj : i = (j : Int)) (hl : j < len) : (execOp a.eval ⟨dst, .indexAddr t x y, ty, pos, after, g⟩).run P w = .ok (.value (ptr b (o + j * sz))) w := by
  subst hj
  simp [execOp, hx, hy, Instr.indexAt, asIntOf, hu, hs, hl, add_mk]
theorem r_index {l : List Value} {len e j : Nat} {kd : IntKind} {i : Int} (hx : a.eval x = .agg l.toArray) (hy : a.eval y = .int kd i) (hu : ∀ w, (underlying t).run P w = .ok (.array len e) w)
    (hs : ∀ w, (sizeOf e).run P w = .ok 1 w) (ha : ∀ w, (isAgg e).run P w = .ok false w) (hj : i = (j : Int)) (hl : j < len) (hv : l[j]? = some v) :
    (execOp a.eval ⟨dst, .index t x y, ty, pos, after, g⟩).run P w = .ok (.value v) w := by
  subst hj
  simp [execOp, hx, hy, Instr.index, asIntOf, hu, hs, hl, part, ha, hv]
theorem r_extract {i : Nat} {l : List Value} (hx : a.eval x = .tuple l.toArray) (hv : l[i]? = some v) : (execOp a.eval ⟨dst, .extract x i, ty, pos, after, g⟩).run P w = .ok (.value v) w := by
  simp [execOp, hx, Instr.extract, hv]
end ops
end Go.Proofs.YtjdfenlmifhhdaaDoor
