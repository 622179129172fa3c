/-
  What the printed walks use beside the laws of operations: loops over named slots, regions that draw with the post hidden, cells of rows of bytes. Condition: none.
-/
import Derived.Test.YtjdfenlmifhhdaaDoorSlices
import Derived.KernelRfl
import Derived.Laws.Tables
namespace Go.Proofs.YtjdfenlmifhhdaaDoor
open Go.RowKit

theorem set_app0 (L R : List (Nat × Obj)) (x y : Nat × Obj) : (L ++ x :: R).set L.length y = L ++ y :: R := by rw [List.set_append_right _ _ (by omega)]; simp
theorem ev_c (a : Act) (v : Value) : a.eval (.const v) = v := rfl
theorem ev_t (l : List Value) (d : List Deferred) (t : Tmp) : (Act.mk l.toArray d).eval (.tmp t) = l.getD t undef := by simp [Act.eval]
theorem ev_g (a : Act) (g : Nat) : a.eval (.global g) = .pointer (some ⟨g, 0, none⟩) := rfl
theorem ev_f (a : Act) (f : FuncId) : a.eval (.func f) = .func (.func f) #[] #[] := rfl

/-! ### Loops: the slots S may turn -/
def putFn (l : List Value) (S : List Nat) (f : Nat → Value) : List Value := S.foldl (fun l s => l.set s (f s)) l
theorem putFn_self (S : List Nat) : ∀ (l : List Value), putFn l S (fun s => l.getD s undef) = l := by
  have key : ∀ (S : List Nat) (l l₀ : List Value), l = l₀ → S.foldl (fun l s => l.set s (l₀.getD s undef)) l = l₀ := by
    intro S
    induction S with
    | nil => intro l l₀ h; exact h
    | cons s S ih =>
      intro l l₀ h
      subst h
      simp only [List.foldl_cons]
      refine ih _ _ ?_
      apply List.ext_getElem?
      intro j
      rw [List.getElem?_set]
      split
      · rename_i hs
        subst hs
        split
        · rename_i hlt; simp [List.getD, List.getElem?_eq_getElem hlt]
        · rename_i hge; rw [List.getElem?_eq_none (by omega)]
      · rfl
  exact fun l => key S l l rfl
theorem cw_loopf {P : Program} {w : World} {Q : Exit → Act → World → Prop} {c : Code} {l : List Value} (S : List Nat) (J : (Nat → Value) → World → Nat → Prop) (n : Nat) (h₀ : J (fun s => l.getD s undef) w n)
    (round : ∀ f w n, J f w n → ∀ K : Act → World → Prop, (∀ l' w' m, l' = putFn l S (fun s => l'.getD s undef) → J (fun s => l'.getD s undef) w' m → m < n → K ⟨l'.toArray, []⟩ w') → c.wp P (Exit.then K Q) ⟨(putFn l S f).toArray, []⟩ w) :
    (Code.loop c).wp P Q ⟨l.toArray, []⟩ w := by
  refine cw_loop (fun l' w n => ∃ f, l' = putFn l S f ∧ J f w n) n ⟨_, (putFn_self S l).symm, h₀⟩ ?_
  rintro l' w n ⟨f, rfl, hJ⟩ K hK
  exact round f w n hJ K fun l' w' m e hj hm => hK l' w' m ⟨_, e, hj⟩ hm

/-- A piece of code whose ways meet again: J of the slots S and the world behind it. -/
theorem cw_cut {P : Program} {w : World} {Q : Exit → Act → World → Prop} {c : Code} {l : List Value} (S : List Nat) (J : (Nat → Value) → World → Prop)
    (h1 : ∀ K : Act → World → Prop, (∀ l' w', l' = putFn l S (fun s => l'.getD s undef) → J (fun s => l'.getD s undef) w' → K ⟨l'.toArray, []⟩ w') → c.wp P (Exit.then K Q) ⟨l.toArray, []⟩ w)
    (h2 : ∀ f w', J f w' → Q .normal ⟨(putFn l S f).toArray, []⟩ w') : c.wp P Q ⟨l.toArray, []⟩ w := by
  refine Code.wp_mono ?_ (h1 (fun a w' => Q .normal a w') fun l' w' e hj => by rw [e]; exact h2 _ w' hj)
  intro e a w h
  cases e <;> exact h

/-! ### Regions that draw: nothing panics -/
def NP (Q : Exit → Act → World → Prop) : Exit → Act → World → Prop
  | .panic _, _, _ => False
  | e, a, w => Q e a w
section
variable {P : Program} {Q : Exit → Act → World → Prop} {S : World → Prop} {T : Nat → Bool} {ops : Array Oper} {fuel : Nat} {listed listed' : Array Bool} {a : Act} {w : World} {i : Nat} {v : Value}
theorem cw_drawn {id : Nat} {l : List Oper} (S : World → Prop) (T : Nat → Bool) (hm : P.follows .mixedOrders = true) (n : Nat) (hn : l.length = n) (listed : Array Bool) (hl : Array.replicate n false = listed)
    (h : ∀ w', w' = w.drew → wpN P .any l.toArray (NP Q) S T n listed a w') : (Code.region id l.toArray true).wp P Q a w := by
  refine Code.wp_mono (Q := NP Q) (fun e a w h => by cases e <;> first | exact h | exact h.elim) ?_
  refine cw_draw S T hm ?_
  have := h _ rfl
  rw [← hl, ← hn] at this
  simpa using this
theorem dn_pure {oi : Oper} (hi : ops[i]? = some oi) (hf : (Region.noSelect ops && Region.free .any ops listed i && (Region.ready .any ops listed).contains i) = true) (hl : listed.setIfInBounds i true = listed')
    (hw : Region.wanted oi (yielded ops a.tmps) = true) (hy : ∀ w, (execOp a.eval oi).run P w = .ok (.value v) w)
    (h : ∀ K : Act → Prop, (∀ a, wpN P .any ops (NP Q) S T fuel listed' a w → K a) → K (a.put oi.dst v)) : wpN P .any ops (NP Q) S T (fuel + 1) listed a w := by
  subst hl; exact wpN_pure hi hf (fun _ _ _ h => h) hy hw (h _ fun _ h => h)
theorem dn_skip {oi : Oper} (hi : ops[i]? = some oi) (hf : (Region.noSelect ops && Region.free .any ops listed i && (Region.ready .any ops listed).contains i) = true) (hl : listed.setIfInBounds i true = listed')
    (hw : Region.wanted oi (yielded ops a.tmps) = false)
    (h : ∀ K : Act → Prop, (∀ a, wpN P .any ops (NP Q) S T fuel listed' a w → K a) → K (a.put oi.dst undef)) : wpN P .any ops (NP Q) S T (fuel + 1) listed a w := by
  subst hl; exact wpN_skip hi hf (fun _ _ _ h => h) hw (h _ fun _ h => h)
theorem dn_load {oi : Oper} (hi : ops[i]? = some oi) (hf : (Region.noSelect ops && Region.free .any ops listed i && (Region.ready .any ops listed).contains i && waits .any ops T listed i) = true) (hl : listed.setIfInBounds i true = listed')
    (hw : Region.wanted oi (yielded ops a.tmps) = true) (hS : S w) (hy : ∀ w, S w → (execOp a.eval oi).run P w = .ok (.value v) w)
    (h : ∀ K : Act → Prop, (∀ a, wpN P .any ops (NP Q) S T fuel listed' a w → K a) → K (a.put oi.dst v)) : wpN P .any ops (NP Q) S T (fuel + 1) listed a w := by
  subst hl; exact wpN_load hi hf (fun _ _ _ h => h) hy hw hS (h _ fun _ h => h)
theorem dn_op {oi : Oper} (hr : Region.ready .any ops listed = [i]) (hi : ops[i]? = some oi) (hl : listed.setIfInBounds i true = listed') (hw : Region.wanted oi (yielded ops a.tmps) = true)
    (h : ∀ K : Act → World → Prop, (∀ a' w', (T i = false → S w') → wpN P .any ops (NP Q) S T fuel listed' a' w' → K a' w') → OW P a w K (NP Q) oi) : wpN P .any ops (NP Q) S T (fuel + 1) listed a w := by
  subst hl
  refine wpN_op hr hi hw fun K hK => h K fun a' w' h1 h2 => hK a' w' (fun hT _ => h1 hT) h2
/-- The step of one operation that came up. -/
structure OneUp (P : Program) (Q : Exit → Act → World → Prop) (S : World → Prop) (T : Nat → Bool) (ops : Array Oper) (fuel : Nat) (listed : Array Bool) (a : Act) (w : World) (i : Nat) : Prop where
  up : wpOp P ops (NP Q) i (fun a' w' => (T i = false → S w → S w') ∧ wpN P .any ops (NP Q) S T fuel (listed.setIfInBounds i true) a' w') a w
/-- Whichever of these comes up. -/
theorem dn_ops {rs : List Nat} (hr : Region.ready .any ops listed = rs) (hne : rs ≠ [])
    (h : ∀ i ∈ rs, OneUp P Q S T ops fuel listed a w i) : wpN P .any ops (NP Q) S T (fuel + 1) listed a w :=
  ⟨fun h0 => absurd (hr.symm.trans h0) hne, by rw [hr]; exact fun i hi => (h i hi).up⟩
theorem dn_one {oi : Oper} (hi : ops[i]? = some oi) (hl : listed.setIfInBounds i true = listed') (hw : Region.wanted oi (yielded ops a.tmps) = true)
    (h : ∀ K : Act → World → Prop, (∀ a' w', (T i = false → S w') → wpN P .any ops (NP Q) S T fuel listed' a' w' → K a' w') → OW P a w K (NP Q) oi) :
    OneUp P Q S T ops fuel listed a w i := by
  subst hl
  refine ⟨?_⟩
  unfold wpOp
  simp only [hi, hw, if_true]
  exact .inl (h _ fun a' w' h1 h2 => ⟨fun hT _ => h1 hT, h2⟩).up
theorem all_nil {p : Nat → Prop} : ∀ i ∈ ([] : List Nat), p i := fun _ h => absurd h List.not_mem_nil
theorem all_cons {p : Nat → Prop} {i : Nat} {rs : List Nat} (h : p i) (t : ∀ j ∈ rs, p j) : ∀ j ∈ i :: rs, p j := fun j hj => by
  rcases List.mem_cons.1 hj with rfl | hj
  · exact h
  · exact t j hj
theorem dn_done (hr : Region.ready .any ops listed = []) (h : Q .normal a w) : wpN P .any ops (NP Q) S T fuel listed a w := wpN_done (Q := NP Q) hr (show NP Q .normal a w from h) fuel
end

/-! ### Steps that reckon the slots anew by themselves -/
section
variable {P : Program} {Q : Exit → Act → World → Prop} {S : World → Prop} {T : Nat → Bool} {ops : Array Oper} {fuel : Nat} {listed listed' : Array Bool} {a a' : Act} {w : World} {i : Nat} {v : Value} {rest : List Oper} {o oi : Oper}
theorem wl_p (hr : (execOp a.eval o).run P w = .ok (.value v) w) (k : LW P ops Q rest a' w) (hg : o.guard = none := by rfl) (e : a.put o.dst v = a' := by (try simp only [Act.put, List.setIfInBounds_toArray, List.set_cons_zero, List.set_cons_succ, ev_c, ev_t, ev_g, ev_f, List.getD_cons_zero, List.getD_cons_succ, Nat.zero_add, Nat.add_zero, Nat.zero_mul, Nat.mul_one]); rfl) : LW P ops Q (o :: rest) a w :=
  wl_op hg fun K hK => op_of hr (hK _ _ (by rw [e]; exact k))
theorem wl_pw (hr : (execOp a.eval o).run P w = .ok (.value v) w) (k : LW P ops Q rest a' w) (hg : Region.wanted o (yielded ops a.tmps) = true := by rfl) (e : a.put o.dst v = a' := by (try simp only [Act.put, List.setIfInBounds_toArray, List.set_cons_zero, List.set_cons_succ, ev_c, ev_t, ev_g, ev_f, List.getD_cons_zero, List.getD_cons_succ, Nat.zero_add, Nat.add_zero, Nat.zero_mul, Nat.mul_one]); rfl) : LW P ops Q (o :: rest) a w :=
  wl_want hg fun K hK => op_of hr (hK _ _ (by rw [e]; exact k))
theorem wl_s (k : LW P ops Q rest a' w) (hg : Region.wanted o (yielded ops a.tmps) = false := by rfl) (e : a.put o.dst undef = a' := by (try simp only [Act.put, List.setIfInBounds_toArray, List.set_cons_zero, List.set_cons_succ, ev_c, ev_t, ev_g, ev_f, List.getD_cons_zero, List.getD_cons_succ, Nat.zero_add, Nat.add_zero, Nat.zero_mul, Nat.mul_one]); rfl) : LW P ops Q (o :: rest) a w :=
  wl_skip hg fun K hK => hK _ _ (by rw [e]; exact k)
theorem wl_o (h : ∀ K : Act → World → Prop, (∀ (a a' : Act) (w : World), LW P ops Q rest a' w → ∀ (_ : a = a' := by (try simp only [Act.put, List.setIfInBounds_toArray, List.set_cons_zero, List.set_cons_succ, ev_c, ev_t, ev_g, ev_f, List.getD_cons_zero, List.getD_cons_succ, Nat.zero_add, Nat.add_zero, Nat.zero_mul, Nat.mul_one]); rfl), K a w) → OW P a w K Q o) (hg : o.guard = none := by rfl) : LW P ops Q (o :: rest) a w :=
  wl_op hg fun K hK => h K fun a a' w hl e => hK a w (by rw [e]; exact hl)
theorem wl_w (h : ∀ K : Act → World → Prop, (∀ (a a' : Act) (w : World), LW P ops Q rest a' w → ∀ (_ : a = a' := by (try simp only [Act.put, List.setIfInBounds_toArray, List.set_cons_zero, List.set_cons_succ, ev_c, ev_t, ev_g, ev_f, List.getD_cons_zero, List.getD_cons_succ, Nat.zero_add, Nat.add_zero, Nat.zero_mul, Nat.mul_one]); rfl), K a w) → OW P a w K Q o) (hg : Region.wanted o (yielded ops a.tmps) = true := by rfl) : LW P ops Q (o :: rest) a w :=
  wl_want hg fun K hK => h K fun a a' w hl e => hK a w (by rw [e]; exact hl)
theorem dn_p (i : Nat) (listed' : Array Bool) (oi : Oper) (hi : ops[i]? = some oi) (hy : ∀ w, (execOp a.eval oi).run P w = .ok (.value v) w) (k : wpN P .any ops (NP Q) S T fuel listed' a' w)
    (hf : (Region.noSelect ops && Region.free .any ops listed i && (Region.ready .any ops listed).contains i) = true := by kernel_rfl) (hl : listed.setIfInBounds i true = listed' := by rfl)
    (hw : Region.wanted oi (yielded ops a.tmps) = true := by rfl) (e : a.put oi.dst v = a' := by (try simp only [Act.put, List.setIfInBounds_toArray, List.set_cons_zero, List.set_cons_succ, ev_c, ev_t, ev_g, ev_f, List.getD_cons_zero, List.getD_cons_succ, Nat.zero_add, Nat.add_zero, Nat.zero_mul, Nat.mul_one]); rfl) : wpN P .any ops (NP Q) S T (fuel + 1) listed a w :=
  dn_pure hi hf hl hw hy fun K hK => hK _ (by rw [e]; exact k)
theorem dn_l (i : Nat) (listed' : Array Bool) (oi : Oper) (hi : ops[i]? = some oi) (hS : S w) (hy : ∀ w, S w → (execOp a.eval oi).run P w = .ok (.value v) w) (k : wpN P .any ops (NP Q) S T fuel listed' a' w)
    (hf : (Region.noSelect ops && Region.free .any ops listed i && (Region.ready .any ops listed).contains i && waits .any ops T listed i) = true := by kernel_rfl) (hl : listed.setIfInBounds i true = listed' := by rfl)
    (hw : Region.wanted oi (yielded ops a.tmps) = true := by rfl) (e : a.put oi.dst v = a' := by (try simp only [Act.put, List.setIfInBounds_toArray, List.set_cons_zero, List.set_cons_succ, ev_c, ev_t, ev_g, ev_f, List.getD_cons_zero, List.getD_cons_succ, Nat.zero_add, Nat.add_zero, Nat.zero_mul, Nat.mul_one]); rfl) : wpN P .any ops (NP Q) S T (fuel + 1) listed a w :=
  dn_load hi hf hl hw hS hy fun K hK => hK _ (by rw [e]; exact k)
theorem dn_s (i : Nat) (listed' : Array Bool) (oi : Oper) (hi : ops[i]? = some oi) (k : wpN P .any ops (NP Q) S T fuel listed' a' w)
    (hf : (Region.noSelect ops && Region.free .any ops listed i && (Region.ready .any ops listed).contains i) = true := by kernel_rfl) (hl : listed.setIfInBounds i true = listed' := by rfl)
    (hw : Region.wanted oi (yielded ops a.tmps) = false := by rfl) (e : a.put oi.dst undef = a' := by (try simp only [Act.put, List.setIfInBounds_toArray, List.set_cons_zero, List.set_cons_succ, ev_c, ev_t, ev_g, ev_f, List.getD_cons_zero, List.getD_cons_succ, Nat.zero_add, Nat.add_zero, Nat.zero_mul, Nat.mul_one]); rfl) : wpN P .any ops (NP Q) S T (fuel + 1) listed a w :=
  dn_skip hi hf hl hw fun K hK => hK _ (by rw [e]; exact k)
theorem dn_o (i : Nat) (listed' : Array Bool) (oi : Oper) (h : ∀ K : Act → World → Prop, (∀ (a a' : Act) (w' : World), (T i = false → S w') → wpN P .any ops (NP Q) S T fuel listed' a' w' → ∀ (_ : a = a' := by (try simp only [Act.put, List.setIfInBounds_toArray, List.set_cons_zero, List.set_cons_succ, ev_c, ev_t, ev_g, ev_f, List.getD_cons_zero, List.getD_cons_succ, Nat.zero_add, Nat.add_zero, Nat.zero_mul, Nat.mul_one]); rfl), K a w') → OW P a w K (NP Q) oi)
    (hr : Region.ready .any ops listed = [i] := by kernel_rfl) (hi : ops[i]? = some oi := by rfl) (hl : listed.setIfInBounds i true = listed' := by rfl) (hw : Region.wanted oi (yielded ops a.tmps) = true := by rfl) : wpN P .any ops (NP Q) S T (fuel + 1) listed a w :=
  dn_op hr hi hl hw fun K hK => h K fun a a' w' hT hn e => hK a w' hT (by rw [e]; exact hn)
theorem dn_1 (i : Nat) (listed' : Array Bool) (oi : Oper) (h : ∀ K : Act → World → Prop, (∀ (a a' : Act) (w' : World), (T i = false → S w') → wpN P .any ops (NP Q) S T fuel listed' a' w' → ∀ (_ : a = a' := by (try simp only [Act.put, List.setIfInBounds_toArray, List.set_cons_zero, List.set_cons_succ, ev_c, ev_t, ev_g, ev_f, List.getD_cons_zero, List.getD_cons_succ, Nat.zero_add, Nat.add_zero, Nat.zero_mul, Nat.mul_one]); rfl), K a w') → OW P a w K (NP Q) oi)
    (hi : ops[i]? = some oi := by rfl) (hl : listed.setIfInBounds i true = listed' := by rfl) (hw : Region.wanted oi (yielded ops a.tmps) = true := by rfl) : OneUp P Q S T ops fuel listed a w i :=
  dn_one hi hl hw fun K hK => h K fun a a' w' hT hn e => hK a w' hT (by rw [e]; exact hn)
end
theorem cw_drawnH {E : Env} {P : Program} {Q : Exit → Act → World → Prop} {L Ls : List (Nat × Obj)} {a : Act} {w : World} {id : Nat} {l : List Oper} (h : Has E w L) (hs : Has E w Ls) (T : Nat → Bool) (hm : P.follows .mixedOrders = true) (n : Nat) (hn : l.length = n) (listed : Array Bool) (hl : Array.replicate n false = listed)
    (k : ∀ w', Has E w' L → Has E w' Ls → wpN P .any l.toArray (NP Q) (fun w' => Has E w' Ls) T n listed a w') : (Code.region id l.toArray true).wp P Q a w :=
  cw_drawn _ T hm n hn listed hl fun w' e => k w' (e ▸ h.drew) (e ▸ hs.drew)
theorem cw_drawn0 {E : Env} {P : Program} {Q : Exit → Act → World → Prop} {L : List (Nat × Obj)} {a : Act} {w : World} {id : Nat} {l : List Oper} (h : Has E w L) (hm : P.follows .mixedOrders = true) (n : Nat) (hn : l.length = n) (listed : Array Bool) (hl : Array.replicate n false = listed)
    (k : ∀ w', Has E w' L → wpN P .any l.toArray (NP Q) (fun _ => True) (fun _ => true) n listed a w') : (Code.region id l.toArray true).wp P Q a w :=
  cw_drawn _ _ hm n hn listed hl fun w' e => k w' (e ▸ h.drew)

/-! ### Rows of bytes and words -/
theorem getB {l : List (BitVec 8)} {i : Nat} (h : i < l.length) : (l.map B).toArray[i]? = some (B (l.getD i 0)) := by simp [List.getD, h]
theorem getBl {l : List (BitVec 8)} {i : Nat} (h : i < l.length) : (l.map B)[i]? = some (B (l.getD i 0)) := by simp [List.getD, h]
theorem getW {l : List (BitVec 32)} {i : Nat} (h : i < l.length) : (l.map W).toArray[i]? = some (W (l.getD i 0)) := by simp [List.getD, h]
theorem getD64 {l : List (BitVec 64)} {i : Nat} (h : i < l.length) : (l.map D).toArray[i]? = some (D (l.getD i 0)) := by simp [List.getD, h]
theorem setB {l : List (BitVec 8)} {i : Nat} {x : BitVec 8} : (l.map B).set i (B x) = (l.set i x).map B := by simp [List.map_set]
theorem setW {l : List (BitVec 32)} {i : Nat} {x : BitVec 32} : (l.map W).set i (W x) = (l.set i x).map W := by simp [List.map_set]
theorem setD64 {l : List (BitVec 64)} {i : Nat} {x : BitVec 64} : (l.map D).set i (D x) = (l.set i x).map D := by simp [List.map_set]
theorem oneB {l : List (BitVec 8)} : ∀ v ∈ l.map B, v.oneCell' = true := fun v hv => by obtain ⟨x, _, rfl⟩ := List.mem_map.1 hv; rfl
theorem oneW {l : List (BitVec 32)} : ∀ v ∈ l.map W, v.oneCell' = true := fun v hv => by obtain ⟨x, _, rfl⟩ := List.mem_map.1 hv; rfl
theorem oneD {l : List (BitVec 64)} : ∀ v ∈ l.map D, v.oneCell' = true := fun v hv => by obtain ⟨x, _, rfl⟩ := List.mem_map.1 hv; rfl

/-! ### Slices of slices, by name -/
def cutL (s : Value) (lo sz : Nat) : Value := match s with | .slice A n c => .slice (if c = lo then A else A.map (·.add (lo * sz))) (n - lo) (c - lo) | v => v
def cutH (s : Value) (hi : Nat) : Value := match s with | .slice A _ c => .slice A hi c | v => v
def cutLH (s : Value) (lo hi sz : Nat) : Value := match s with | .slice A _ c => .slice (if c = lo then A else A.map (·.add (lo * sz))) (hi - lo) (c - lo) | v => v
def cutHM (s : Value) (hi mx : Nat) : Value := match s with | .slice A _ _ => .slice A hi mx | v => v
def elemA (s : Value) (i sz : Nat) : Value := match s with | .slice (some ad) _ _ => .pointer (some (ad.add (i * sz))) | v => v
theorem map_add0 (A : Option Addr) : A.map (·.add 0) = A := by cases A <;> rfl
section
variable {L : List (Nat × Obj)} {sz n : Nat} {s : Value} {l : List Value}
theorem Rd.cutL (h : Rd L sz s n l) {lo : Nat} (h1 : lo ≤ n) : Rd L sz (cutL s lo sz) (n - lo) (l.drop (lo * sz)) := by
  obtain ⟨A, c, rfl, hc⟩ : ∃ A c, s = .slice A n c ∧ n ≤ c := by obtain ⟨_, A, c, e, hc, _⟩ := h; exact ⟨A, c, e, hc⟩
  obtain ⟨A', c', he, _, hr⟩ := h.cut (lo := lo) (hi := n) (mx := c) h1 (Nat.le_refl _) hc
  cases he
  have e : l.take (n * sz) = l := List.take_of_length_le (by rw [h.1]; omega)
  rw [e] at hr
  exact hr
theorem Rd.cutH (h : Rd L sz s n l) {hi : Nat} (h1 : hi ≤ n) : Rd L sz (cutH s hi) hi (l.take (hi * sz)) := by
  obtain ⟨A, c, rfl, hc⟩ : ∃ A c, s = .slice A n c ∧ n ≤ c := by obtain ⟨_, A, c, e, hc, _⟩ := h; exact ⟨A, c, e, hc⟩
  obtain ⟨A', c', he, _, hr⟩ := h.cut (lo := 0) (hi := hi) (mx := c) (by omega) h1 (by omega)
  cases he
  simp only [Nat.zero_mul, List.drop_zero, Nat.sub_zero, map_add0, ite_self] at hr
  exact hr
theorem Rd.cutLH (h : Rd L sz s n l) {lo hi : Nat} (h0 : lo ≤ hi) (h1 : hi ≤ n) : Rd L sz (cutLH s lo hi sz) (hi - lo) ((l.take (hi * sz)).drop (lo * sz)) := by
  obtain ⟨A, c, rfl, hc⟩ : ∃ A c, s = .slice A n c ∧ n ≤ c := by obtain ⟨_, A, c, e, hc, _⟩ := h; exact ⟨A, c, e, hc⟩
  obtain ⟨A', c', he, _, hr⟩ := h.cut (lo := lo) (hi := hi) (mx := c) h0 h1 (by omega)
  cases he
  exact hr
theorem Rd.cutHM (h : Rd L sz s n l) {hi mx : Nat} (h0 : hi ≤ mx) (h1 : mx ≤ n) : Rd L sz (cutHM s hi mx) hi (l.take (hi * sz)) := by
  obtain ⟨A, c, rfl, hc⟩ : ∃ A c, s = .slice A n c ∧ n ≤ c := by obtain ⟨_, A, c, e, hc, _⟩ := h; exact ⟨A, c, e, hc⟩
  obtain ⟨A', c', he, _, hr⟩ := h.cut (lo := 0) (hi := hi) (mx := mx) (by omega) (by omega) h0
  cases he
  simp only [Nat.zero_mul, List.drop_zero, Nat.sub_zero, map_add0, ite_self] at hr
  exact hr
theorem Sl.cutL {xs : List (BitVec 8)} (h : Sl L s xs) {lo : Nat} (h1 : lo ≤ xs.length) : Sl L (cutL s lo 1) (xs.drop lo) := by
  have := Rd.cutL h h1
  simpa [Sl, List.map_drop] using this
theorem Sl.cutH {xs : List (BitVec 8)} (h : Sl L s xs) {hi : Nat} (h1 : hi ≤ xs.length) : Sl L (cutH s hi) (xs.take hi) := by
  have := Rd.cutH h h1
  have e : min hi xs.length = hi := by omega
  simpa [Sl, List.map_take, e] using this
theorem Sl.cutLH {xs : List (BitVec 8)} (h : Sl L s xs) {lo hi : Nat} (h0 : lo ≤ hi) (h1 : hi ≤ xs.length) : Sl L (cutLH s lo hi 1) ((xs.take hi).drop lo) := by
  have := Rd.cutLH h h0 h1
  have e : min hi xs.length = hi := by omega
  simpa [Sl, List.map_take, List.map_drop, e] using this
theorem Sl.cutHM {xs : List (BitVec 8)} (h : Sl L s xs) {hi mx : Nat} (h0 : hi ≤ mx) (h1 : mx ≤ xs.length) : Sl L (cutHM s hi mx) (xs.take hi) := by
  have := Rd.cutHM h h0 h1
  have e : min hi xs.length = hi := by omega
  simpa [Sl, List.map_take, e] using this
end
section
variable {P : Program} {E : Env} {w : World} {L : List (Nat × Obj)} {a : Act} {K : Act → World → Prop} {Q : Exit → Act → World → Prop}
variable {dst : Option Tmp} {ty : TypeId} {pos : String} {after : Array Edge} {g : Option (Nat × Bool)} {x y z : Operand} {v u s : Value} {t t' e : TypeId} {n m sz : Nat} {l : List Value}
theorem r_slice_l (hs : Rd L sz s n l) (hx : a.eval x = s) {k : IntKind} {lo : Nat} (hl : a.eval y = .int k (lo : Int)) (h1 : lo ≤ n) (hu : ∀ w, (underlying t).run P w = .ok (.slice e) w) (hz : ∀ w, (sizeOf e).run P w = .ok sz w) :
    (execOp a.eval ⟨dst, .slice t x (some y) none none, ty, pos, after, g⟩).run P w = .ok (.value (cutL s lo sz)) w := by
  obtain ⟨A, c, rfl, hc⟩ : ∃ A c, s = .slice A n c ∧ n ≤ c := by obtain ⟨_, A, c, e, hc, _⟩ := hs; exact ⟨A, c, e, hc⟩
  have hb : (Instr.sliceBounds true n c (some (.int k (lo : Int))) none none).run P w = .ok (lo, n, c) w := by simp [Instr.sliceBounds, bound_nat h1]
  simp [execOp, hx, hl, sliceAt_sl (A := A) hu hz hb, cutL]
theorem r_slice_h (hs : Rd L sz s n l) (hx : a.eval x = s) {k : IntKind} {hi : Nat} (hh : a.eval y = .int k (hi : Int)) (h1 : hi ≤ n) (hu : ∀ w, (underlying t).run P w = .ok (.slice e) w) (hz : ∀ w, (sizeOf e).run P w = .ok sz w) :
    (execOp a.eval ⟨dst, .slice t x none (some y) none, ty, pos, after, g⟩).run P w = .ok (.value (cutH s hi)) w := by
  obtain ⟨A, c, rfl, hc⟩ : ∃ A c, s = .slice A n c ∧ n ≤ c := by obtain ⟨_, A, c, e, hc, _⟩ := hs; exact ⟨A, c, e, hc⟩
  have hb : (Instr.sliceBounds true n c none (some (.int k (hi : Int))) none).run P w = .ok (0, hi, c) w := by simp [Instr.sliceBounds, bound_nat (show hi ≤ c by omega)]
  have := sliceAt_sl (A := A) hu hz hb
  simp only [Nat.zero_mul, Nat.sub_zero, map_add0, ite_self] at this
  simp [execOp, hx, hh, this, cutH]
theorem r_slice_lh (hs : Rd L sz s n l) (hx : a.eval x = s) {k k' : IntKind} {lo hi : Nat} (hl : a.eval y = .int k (lo : Int)) (hh : a.eval z = .int k' (hi : Int)) (h0 : lo ≤ hi) (h1 : hi ≤ n) (hu : ∀ w, (underlying t).run P w = .ok (.slice e) w) (hz : ∀ w, (sizeOf e).run P w = .ok sz w) :
    (execOp a.eval ⟨dst, .slice t x (some y) (some z) none, ty, pos, after, g⟩).run P w = .ok (.value (cutLH s lo hi sz)) w := by
  obtain ⟨A, c, rfl, hc⟩ : ∃ A c, s = .slice A n c ∧ n ≤ c := by obtain ⟨_, A, c, e, hc, _⟩ := hs; exact ⟨A, c, e, hc⟩
  have hb : (Instr.sliceBounds true n c (some (.int k (lo : Int))) (some (.int k' (hi : Int))) none).run P w = .ok (lo, hi, c) w := by simp [Instr.sliceBounds, bound_nat (show hi ≤ c by omega), bound_nat h0]
  simp [execOp, hx, hl, hh, sliceAt_sl (A := A) hu hz hb, cutLH]
theorem r_slice_hm (hs : Rd L sz s n l) (hx : a.eval x = s) {k k' : IntKind} {hi mx : Nat} (hh : a.eval y = .int k (hi : Int)) (hm : a.eval z = .int k' (mx : Int)) (h0 : hi ≤ mx) (h1 : mx ≤ n) (hu : ∀ w, (underlying t).run P w = .ok (.slice e) w) (hz : ∀ w, (sizeOf e).run P w = .ok sz w) :
    (execOp a.eval ⟨dst, .slice t x none (some y) (some z), ty, pos, after, g⟩).run P w = .ok (.value (cutHM s hi mx)) w := by
  obtain ⟨A, c, rfl, hc⟩ : ∃ A c, s = .slice A n c ∧ n ≤ c := by obtain ⟨_, A, c, e, hc, _⟩ := hs; exact ⟨A, c, e, hc⟩
  have hb : (Instr.sliceBounds true n c none (some (.int k (hi : Int))) (some (.int k' (mx : Int)))).run P w = .ok (0, hi, mx) w := by simp [Instr.sliceBounds, bound_nat (show mx ≤ c by omega), bound_nat h0]
  have := sliceAt_sl (A := A) hu hz hb
  simp only [Nat.zero_mul, Nat.sub_zero, map_add0, ite_self] at this
  simp [execOp, hx, hh, hm, this, cutHM]
/-- An element's place in whatever slice, and what is read there. -/
theorem r_elem (hs : Rd L sz s n l) (hx : a.eval x = s) {k : IntKind} {i : Int} {j : Nat} (hy : a.eval y = .int k i) (hj : i = (j : Int)) (h1 : j < n) (hu : ∀ w, (underlying t).run P w = .ok (.slice e) w) (hz : ∀ w, (sizeOf e).run P w = .ok sz w) :
    (execOp a.eval ⟨dst, .indexAddr t x y, ty, pos, after, g⟩).run P w = .ok (.value (elemA s j sz)) w := by
  obtain ⟨_, A, c, rfl, hc, hr⟩ := hs
  obtain ⟨b, off, cs, T, fz, rfl, hm, hv⟩ := hr (by omega)
  rw [r_indexAddr_sl hx hy hu hz hj h1]
  simp [elemA, add_mk]
theorem r_load_elem (h : Has E w L) (hs : Rd L 1 s n l) {j : Nat} (hx : a.eval x = elemA s j 1) (hv : l[j]? = some v) (ht : ∀ w, (isAgg t).run P w = .ok false w) :
    (execOp a.eval ⟨dst, .load t x, ty, pos, after, g⟩).run P w = .ok (.value v) w := by
  obtain ⟨hl, A, c, rfl, hc, hr⟩ := hs
  have hj : j < n := by
    rcases Nat.lt_or_ge j l.length with hlt | hge
    · omega
    · rw [List.getElem?_eq_none hge] at hv; cases hv
  obtain ⟨b, off, cs, T, fz, rfl, hm, hcs⟩ := hr (by omega)
  haveI : Mem L b (.cells cs T fz) := ⟨hm⟩
  exact r_load (b := b) (i := off + j) h (by rw [hx]; simp [elemA, add_mk]) (hcs j v hv) ht
theorem r_load_elemb {xs : List (BitVec 8)} (h : Has E w L) (hs : Sl L s xs) {j : Nat} (hx : a.eval x = elemA s j 1) (hj : j < xs.length) (ht : ∀ w, (isAgg t).run P w = .ok false w) :
    (execOp a.eval ⟨dst, .load t x, ty, pos, after, g⟩).run P w = .ok (.value (B (xs.getD j 0))) w := r_load_elem h hs hx (getBl hj) ht
/-- An array read out of whatever slice. -/
theorem r_load_segs (h : Has E w L) (hs : Rd L 1 s n l) {A : Option Addr} {k c : Nat} (hx : a.eval x = .pointer A) (hA : s = .slice A n c) (hk : 0 < k) (hn : k ≤ n) (ht : ∀ w, (isAgg t).run P w = .ok true w) (hz : ∀ w, (sizeOf t).run P w = .ok k w) :
    (execOp a.eval ⟨dst, .load t x, ty, pos, after, g⟩).run P w = .ok (.value (aggV (l.take k))) w := by
  obtain ⟨hl, A', c', e1, hc, hr⟩ := hs
  rw [hA] at e1; cases e1
  obtain ⟨b, off, cs, T, fz, rfl, hm, hcs⟩ := hr (by omega)
  haveI : Mem L b (.cells cs T fz) := ⟨hm⟩
  have hlen : ∀ j, j < k → cs[off + j]? = l[j]? := fun j hj => by
    have : j < l.length := by omega
    rw [List.getElem?_eq_getElem this]
    exact hcs j _ (List.getElem?_eq_getElem this)
  have hsz : off + k ≤ cs.size := by
    have h1 := hlen (k - 1) (by omega)
    rw [List.getElem?_eq_getElem (by omega)] at h1
    obtain ⟨h2, _⟩ := Array.getElem?_eq_some_iff.1 h1
    omega
  refine r_load_seg h hx hsz ht hz ?_
  refine congrArg Value.agg ?_
  apply Array.ext_getElem?
  intro j
  rw [Array.getElem?_extract]
  split
  · rw [hlen j (by omega)]; simp [List.getElem?_take]; omega
  · simp [List.getElem?_take]; omega
end

section
variable {P : Program} {E : Env} {w : World} {L : List (Nat × Obj)} {a : Act} {K : Act → World → Prop} {Q : Exit → Act → World → Prop}
variable {dst : Option Tmp} {ty : TypeId} {pos : String} {after : Array Edge} {g : Option (Nat × Bool)} {x y z : Operand} {v u : Value} {t t' : TypeId}
theorem op_allocB {T : TypeId} (n : Nat) (h : Has E w L) (hz : ∀ w, (zeroValue T).run P w = .ok v w) (hc : v.cells = ((List.replicate n (0 : BitVec 8)).map B).toArray)
    (k : ∀ b w', Has E w' ((b, bs T (List.replicate n 0)) :: L) → K (a.put dst (ptr b 0)) w') : OW P a w K Q (Oper.mk dst (.alloc T) ty pos after g) := op_alloc h hz hc k
theorem op_allocW {T : TypeId} (n : Nat) (h : Has E w L) (hz : ∀ w, (zeroValue T).run P w = .ok v w) (hc : v.cells = ((List.replicate n (0 : BitVec 32)).map W).toArray)
    (k : ∀ b w', Has E w' ((b, ws T (List.replicate n 0)) :: L) → K (a.put dst (ptr b 0)) w') : OW P a w K Q (Oper.mk dst (.alloc T) ty pos after g) := op_alloc h hz hc k
theorem op_makeB {i : TypeInfo} {p q : Nat} {e : TypeId} (h : Has E w L) (hx : a.eval x = .int .i64 (p : Int)) (hy : a.eval y = .int .i64 (q : Int)) (hpq : p ≤ q) (hu : ∀ w, (underlying t).run P w = .ok (.slice e) w)
    (hi : ∀ w, (typeInfo e).run P w = .ok i w) (hb : q * i.bytes ≤ 281474976710656) (hq : q ≤ 9223372036854775807) (hs : ∀ w, (sizeOf e).run P w = .ok 1 w) (hz : ∀ w, (zeroValue e).run P w = .ok (.int .u8 0) w)
    (k : ∀ b w', Has E w' ((b, bs e (List.replicate q 0)) :: L) → K (a.put dst (.slice (some ⟨b, 0, none⟩) p q)) w') : OW P a w K Q (Oper.mk dst (.makeSlice t x y) ty pos after g) :=
  op_make h hx hy hpq hu hi hb hq hs hz rfl fun b w' h' => k b w' (by rw [show vs e (List.replicate q (.int .u8 0)) = bs e (List.replicate q 0) by simp [B]] at h'; exact h')
/-! ### int's arithmetic where nothing is below nought -/
theorem r_add_n {m n : Nat} (hx : a.eval x = .int .i64 (m : Int)) (hy : a.eval y = .int .i64 (n : Int)) (h1 : m + n ≤ 9223372036854775807) : (execOp a.eval ⟨dst, .binOp .add t x y t', ty, pos, after, g⟩).run P w = .ok (.value (.int .i64 ((m + n : Nat) : Int))) w :=
  r_add_i hx hy (by omega) (by omega) (by omega)
theorem r_sub_n {m n : Nat} (hx : a.eval x = .int .i64 (m : Int)) (hy : a.eval y = .int .i64 (n : Int)) (h0 : n ≤ m) (h1 : m ≤ 9223372036854775807) : (execOp a.eval ⟨dst, .binOp .sub t x y t', ty, pos, after, g⟩).run P w = .ok (.value (.int .i64 ((m - n : Nat) : Int))) w :=
  r_sub_i hx hy (by omega) (by omega) (by omega)
theorem r_mul_n {m n : Nat} (hx : a.eval x = .int .i64 (m : Int)) (hy : a.eval y = .int .i64 (n : Int)) (h1 : m * n ≤ 9223372036854775807) : (execOp a.eval ⟨dst, .binOp .mul t x y t', ty, pos, after, g⟩).run P w = .ok (.value (.int .i64 ((m * n : Nat) : Int))) w :=
  r_mul_i hx hy (by rw [Int.natCast_mul]) (by omega) (by omega)
theorem r_quo_n {m n : Nat} (hx : a.eval x = .int .i64 (m : Int)) (hy : a.eval y = .int .i64 (n : Int)) (h0 : 0 < n) (h1 : m ≤ 9223372036854775807) : (execOp a.eval ⟨dst, .binOp .quo t x y t', ty, pos, after, g⟩).run P w = .ok (.value (.int .i64 ((m / n : Nat) : Int))) w :=
  r_quo_i hx hy (by omega) (by omega) (by omega) (by simp)
theorem r_rem_n {m n : Nat} (hx : a.eval x = .int .i64 (m : Int)) (hy : a.eval y = .int .i64 (n : Int)) (h0 : 0 < n) : (execOp a.eval ⟨dst, .binOp .rem t x y t', ty, pos, after, g⟩).run P w = .ok (.value (.int .i64 ((m % n : Nat) : Int))) w :=
  r_rem_i hx hy (by omega) (by omega) (by simp)
/-- A byte of a row of bytes. -/
theorem r_load_b {b i : Nat} {l : List (BitVec 8)} {T : TypeId} {fz : Nat × Nat} (h : Has E w L) (hx : a.eval x = ptr b i) [m : Mem L b (.cells (l.map B).toArray T fz)]
    (hi : i < l.length) (ht : ∀ w, (isAgg t).run P w = .ok false w) : (execOp a.eval ⟨dst, .load t x, ty, pos, after, g⟩).run P w = .ok (.value (B (l.getD i 0))) w := r_load h hx (getB hi) ht
theorem r_load_w {b i : Nat} {l : List (BitVec 32)} {T : TypeId} {fz : Nat × Nat} (h : Has E w L) (hx : a.eval x = ptr b i) [m : Mem L b (.cells (l.map W).toArray T fz)]
    (hi : i < l.length) (ht : ∀ w, (isAgg t).run P w = .ok false w) : (execOp a.eval ⟨dst, .load t x, ty, pos, after, g⟩).run P w = .ok (.value (W (l.getD i 0))) w := r_load h hx (getW hi) ht
theorem r_load_d {b i : Nat} {l : List (BitVec 64)} {T : TypeId} {fz : Nat × Nat} (h : Has E w L) (hx : a.eval x = ptr b i) [m : Mem L b (.cells (l.map D).toArray T fz)]
    (hi : i < l.length) (ht : ∀ w, (isAgg t).run P w = .ok false w) : (execOp a.eval ⟨dst, .load t x, ty, pos, after, g⟩).run P w = .ok (.value (D (l.getD i 0))) w := r_load h hx (getD64 hi) ht
/-- sixteen bytes out of a longer row. -/
theorem r_load_segb {b o n : Nat} {l : List (BitVec 8)} {T : TypeId} {fz : Nat × Nat} (h : Has E w L) (hx : a.eval x = ptr b o) [m : Mem L b (.cells (l.map B).toArray T fz)]
    (hn : o + n ≤ l.length) (ht : ∀ w, (isAgg t).run P w = .ok true w) (hs : ∀ w, (sizeOf t).run P w = .ok n w) :
    (execOp a.eval ⟨dst, .load t x, ty, pos, after, g⟩).run P w = .ok (.value (aggB ((l.drop o).take n))) w :=
  r_load_seg h hx (by simpa using hn) ht hs (by simp [List.map_drop, List.map_take])
theorem r_load_allb {b n : Nat} {l : List (BitVec 8)} {T : TypeId} {fz : Nat × Nat} (h : Has E w L) (hx : a.eval x = ptr b 0) [m : Mem L b (.cells (l.map B).toArray T fz)]
    (hn : l.length = n) (ht : ∀ w, (isAgg t).run P w = .ok true w) (hs : ∀ w, (sizeOf t).run P w = .ok n w) :
    (execOp a.eval ⟨dst, .load t x, ty, pos, after, g⟩).run P w = .ok (.value (aggB l)) w := r_load_all h hx (by simpa using hn) ht hs
theorem op_copyB {b o dn dc n q : Nat} {l xs : List (BitVec 8)} {T : TypeId} {s : Value} {e : TypeId} {t' : TypeId} (h : Has E w L) (hx : a.eval x = .slice (some ⟨b, o, none⟩) dn dc) (hy : a.eval y = s) [am : At L b (bs T l) n] (hs : Sl L s xs)
    (hu : ∀ w, (underlying t).run P w = .ok (.slice e) w) (hz : ∀ w, (sizeOf e).run P w = .ok 1 w) (hq : min xs.length dn = q) (hfit : o + q ≤ l.length)
    (k : ∀ w', Has E w' (L.set n (b, bs T (l.take o ++ xs.take q ++ l.drop (o + q)))) → K (a.put dst (.int .i64 (q : Int))) w') : OW P a w K Q (Oper.mk dst (.call ⟨.builtin .copy, #[x, y], #[t, t']⟩) ty pos after g) :=
  op_copy h hx hy hs hu hz hq (by simpa using hfit) oneB fun w' h' => k w' (by simpa [bs, vs, List.map_take, List.map_drop] using h')
theorem op_store_ball {b n N : Nat} {l cs : List (BitVec 8)} {T : TypeId} (h : Has E w L) (hx : a.eval x = ptr b 0) (hy : a.eval y = aggB cs) [m : At L b (bs T l) n]
    (hc : cs.length = N) (hi : l.length = N) (hs : ∀ w, (sizeOf t).run P w = .ok N w) (k : ∀ w', Has E w' (L.set n (b, bs T cs)) → K a w') :
    OW P a w K Q (Oper.mk none (.store t x y) ty pos after g) :=
  op_store_all h hx hy oneB (by simp [hc, hi]) (by intro w; rw [List.length_map, hc]; exact hs w) k
theorem op_store_bseg {b o n N : Nat} {l cs : List (BitVec 8)} {T : TypeId} (h : Has E w L) (hx : a.eval x = ptr b o) (hy : a.eval y = aggB cs) [m : At L b (bs T l) n]
    (hc : cs.length = N) (hi : o + N ≤ l.length) (hs : ∀ w, (sizeOf t).run P w = .ok N w) (k : ∀ w', Has E w' (L.set n (b, bs T (l.take o ++ cs ++ l.drop (o + N)))) → K a w') :
    OW P a w K Q (Oper.mk none (.store t x y) ty pos after g) :=
  op_store_agg h hx hy oneB (by simp [hc]; exact hi) (by intro w; rw [List.length_map, hc]; exact hs w) fun w' h' => k w' (by simpa [bs, vs, hc, List.map_take, List.map_drop] using h')
theorem op_store_b {b i n : Nat} {l : List (BitVec 8)} {p : BitVec 8} {T : TypeId} (h : Has E w L) (hx : a.eval x = ptr b i) (hy : a.eval y = B p) [m : At L b (bs T l) n]
    (hi : i < l.length) (hs : ∀ w, (sizeOf t).run P w = .ok 1 w) (k : ∀ w', Has E w' (L.set n (b, bs T (l.set i p))) → K a w') :
    OW P a w K Q (Oper.mk none (.store t x y) ty pos after g) := op_store (l := l.map B) h hx hy rfl (by simpa using hi) hs (by rw [setB]; exact k)
theorem op_store_w {b i n : Nat} {l : List (BitVec 32)} {p : BitVec 32} {T : TypeId} (h : Has E w L) (hx : a.eval x = ptr b i) (hy : a.eval y = W p) [m : At L b (ws T l) n]
    (hi : i < l.length) (hs : ∀ w, (sizeOf t).run P w = .ok 1 w) (k : ∀ w', Has E w' (L.set n (b, ws T (l.set i p))) → K a w') :
    OW P a w K Q (Oper.mk none (.store t x y) ty pos after g) := op_store (l := l.map W) h hx hy rfl (by simpa using hi) hs (by rw [setW]; exact k)
theorem op_store_d {b i n : Nat} {l : List (BitVec 64)} {p : BitVec 64} {T : TypeId} (h : Has E w L) (hx : a.eval x = ptr b i) (hy : a.eval y = D p) [m : At L b (ds T l) n]
    (hi : i < l.length) (hs : ∀ w, (sizeOf t).run P w = .ok 1 w) (k : ∀ w', Has E w' (L.set n (b, ds T (l.set i p))) → K a w') :
    OW P a w K Q (Oper.mk none (.store t x y) ty pos after g) := op_store (l := l.map D) h hx hy rfl (by simpa using hi) hs (by rw [setD64]; exact k)
end

/-! ### A slice built of elements of one cell each -/
theorem one_cells {v : Value} (h : v.oneCell' = true) : v.cells = #[v] := by cases v <;> first | rfl | (simp [Value.oneCell'] at h)
theorem Rd.one {L : List (Nat × Obj)} {sz n : Nat} {s : Value} {l : List Value} (h : Rd L sz s n l) : s.oneCell' = true := by
  obtain ⟨_, A, c, rfl, _⟩ := h; rfl
def enumFrom' (k : Nat) : List Value → List (Nat × Value)
  | [] => []
  | v :: l => (k, v) :: enumFrom' (k + 1) l
theorem fill_enum : ∀ (l : List Value) (k : Nat) (cells : List Value), (∀ v ∈ l, v.oneCell' = true) → cells.length = k + l.length →
    Instr.fill (fun i => some (i * 1, 1)) cells.toArray (enumFrom' k l) = some (cells.take k ++ l).toArray
  | [], k, cells, _, h => by simp only [enumFrom', Instr.fill, List.append_nil]; rw [List.take_of_length_le (by simp at h; omega)]
  | v :: l, k, cells, h1, h => by
    have hc := one_cells (h1 v (by simp))
    have ih := fill_enum l (k + 1) (cells.set k v) (fun u hu => h1 u (by simp [hu])) (by simp at h ⊢; omega)
    simp only [enumFrom', Instr.fill, hc]
    rw [if_neg (by simp at h ⊢; omega)]
    have e : (Array.foldl (fun cs (x : Value × Nat) => cs.setIfInBounds (k * 1 + x.2) x.1) cells.toArray (#[v] : Array Value).zipIdx) = (cells.set k v).toArray := by simp
    have e2 : (cells.set k v).take (k + 1) ++ l = cells.take k ++ v :: l := by
      have hk : k < cells.length := by simp at h; omega
      rw [List.take_succ_eq_append_getElem (by simpa using hk), List.take_set_of_le (Nat.le_refl _)]
      simp
    rw [e2] at ih
    rw [← ih]
    congr 1
section
variable {P : Program} {E : Env} {w : World} {L : List (Nat × Obj)} {a : Act} {K : Act → World → Prop} {Q : Exit → Act → World → Prop}
variable {dst : Option Tmp} {ty : TypeId} {pos : String} {after : Array Edge} {g : Option (Nat × Bool)} {t e : TypeId}
theorem op_buildSlice {parts : Array (Nat × Operand)} {zv : Value} {len : Nat} (l : List Value) (h : Has E w L) (hp : (parts.map fun (i, x) => (i, a.eval x)) = (enumFrom' 0 l).toArray) (hl : l.length = len) (hu : ∀ w, (underlying t).run P w = .ok (.slice e) w) (hs : ∀ w, (sizeOf e).run P w = .ok 1 w)
    (hz : ∀ w, (zeroValue e).run P w = .ok zv w) (hzc : zv.cells = #[zv]) (hlen : len ≤ 65536) (h1 : ∀ v ∈ l, v.oneCell' = true)
    (k : ∀ b w', Has E w' ((b, vs e l) :: L) → K (a.put dst (.slice (some ⟨b, 0, none⟩) len len)) w') : OW P a w K Q (Oper.mk dst (.buildSlice t len parts) ty pos after g) := by
  have hf := fill_enum l 0 (List.replicate len zv) h1 (by simp [hl])
  simp only [List.take_zero, List.nil_append] at hf
  have hrun : (Instr.buildSlice t len (enumFrom' 0 l).toArray).run P w = .ok (.slice (some ⟨w.heap.size, 0, none⟩) len len) (w.alloc (vs e l)) := by
    unfold Instr.buildSlice
    simp only [Sem.run_bind, hu, hs, Result.andThen_ok, Nat.mul_one]
    rw [if_neg (by omega)]
    by_cases h0 : len = 0
    · subst h0
      have hl0 : l = [] := List.eq_nil_of_length_eq_zero hl
      subst hl0
      have e0 : (Array.map (fun _ => (default : Value)) (Array.range 0)) = #[] := by apply Array.ext <;> simp
      simp [Instr.fill, enumFrom', newRow, e0]
    · rw [if_neg h0]
      simp only [Nat.mul_one] at hf
      simp only [Sem.run_bind, hz, hzc, Result.andThen_ok, Sem.run_pure, range_map_const, hf, newRow, run_newObj]
      rfl
  refine op_of (v := .slice (some ⟨w.heap.size, 0, none⟩) len len) (w' := w.alloc (vs e l)) ?_ (k _ _ (h.alloc _))
  simp only [execOp, hp, Sem.run_bind, hrun, Result.andThen_ok, Sem.run_pure]
end

/-! ### Values built of parts -/
def plan (P : Program) (t : TypeId) : Option (List (Nat × Nat) × List Value) :=
  match P.info? t, P.underlying t with
  | some it, some (.array n e) =>
    match it.zero, P.info? e with
    | some z, some ie => some ((List.range n).map fun i => (i * ie.size, ie.size), z.cells.toList)
    | _, _ => none
  | some it, some (.struct fields) =>
    match it.zero, fields.toList.mapM (fun f => (P.info? f.type).map fun i => (f.offset, i.size)) with
    | some z, some places => some (places, z.cells.toList)
    | _, _ => none
  | _, _ => none
def fillL (pl : List (Nat × Nat)) : List Value → List (Nat × Value) → Option (List Value)
  | z, [] => some z
  | z, (i, v) :: rest =>
    match pl[i]? with
    | none => none
    | some (off, size) => if v.cells.toList.length = size ∧ off + size ≤ z.length then fillL pl (z.take off ++ v.cells.toList ++ z.drop (off + size)) rest else none
theorem fill_step {pl : List (Nat × Nat)} {z cs : List Value} {i off size : Nat} {v : Value} {rest : List (Nat × Value)} (hp : pl[i]? = some (off, size)) (hc : v.cells = cs.toArray) (hl : cs.length = size) (hz : off + size ≤ z.length) :
    fillL pl z ((i, v) :: rest) = fillL pl (z.take off ++ cs ++ z.drop (off + size)) rest := by
  simp only [fillL, hp, hc, List.toList_toArray, hl, hz, and_self, if_true]
theorem fold_put (z : List Value) (off : Nat) : ∀ (cs : List Value) (k : Nat) (z : List Value), off + k + cs.length ≤ z.length →
    (cs.zipIdx k).foldl (fun (a : Array Value) (x : Value × Nat) => a.setIfInBounds (off + x.2) x.1) z.toArray = (z.take (off + k) ++ cs ++ z.drop (off + k + cs.length)).toArray
  | [], k, z, _ => by simp
  | c :: cs, k, z, h => by
    simp only [List.length_cons] at h
    rw [List.zipIdx_cons, List.foldl_cons, List.setIfInBounds_toArray, fold_put z off cs (k + 1) _ (by rw [List.length_set]; omega)]
    congr 1
    rw [show off + (k + 1) = off + k + 1 from rfl, List.take_add_one, List.take_set, List.getElem?_set_self (by omega), List.drop_set_of_lt (by omega), List.set_eq_of_length_le (by rw [List.length_take]; omega)]
    simp only [Option.toList_some, List.append_assoc, List.singleton_append, List.cons_append, List.length_cons]
    rw [show off + k + 1 + cs.length = off + k + (cs.length + 1) by omega]; rfl
theorem fill_of_L {pl : List (Nat × Nat)} {place : Nat → Option (Nat × Nat)} (hpl : ∀ i p, pl[i]? = some p → place i = some p) : ∀ (ps : List (Nat × Value)) (z cs : List Value), fillL pl z ps = some cs → Instr.fill place z.toArray ps = some cs.toArray
  | [], z, cs, h => by simp only [fillL, Option.some.injEq] at h; subst h; rfl
  | (i, v) :: ps, z, cs, h => by
    unfold fillL at h
    cases hp : pl[i]? with
    | none => rw [hp] at h; cases h
    | some p =>
      obtain ⟨off, size⟩ := p
      rw [hp] at h
      simp only at h
      split at h
      · rename_i hc
        have hz : v.cells.size = size := by simpa using hc.1
        unfold Instr.fill
        rw [hpl _ _ hp]
        have hn : (decide (v.cells.size ≠ size) || decide (off + v.cells.size > z.toArray.size)) = false := by simp [hz]; omega
        simp only [hn, Bool.false_eq_true, if_false]
        rw [← fill_of_L hpl ps _ cs h]
        congr 1
        have := fold_put z off v.cells.toList 0 z (by rw [hc.1]; omega)
        simp only [Nat.add_zero] at this
        rw [hc.1] at this
        rw [← this, ← Array.foldl_toList, Array.toList_zipIdx]
      · cases h
theorem r_buildP {P : Program} {a : Act} {w : World} {dst : Option Tmp} {t ty : TypeId} {pos : String} {after : Array Edge} {g : Option (Nat × Bool)} {parts : List (Nat × Operand)} {ps : List (Nat × Value)} {pl : List (Nat × Nat)} {z cs : List Value}
    (hp : (parts.map fun (i, x) => (i, a.eval x)) = ps) (hpl : plan P t = some (pl, z)) (hf : fillL pl z ps = some cs) :
    (execOp a.eval ⟨dst, .build t parts.toArray, ty, pos, after, g⟩).run P w = .ok (.value (aggV cs)) w := by
  refine r_build (ps := ps) (by rw [← hp, List.map_toArray]) fun w => run_build w t _ cs.toArray ?_
  unfold plan at hpl
  unfold Program.built
  cases hi : P.info? t with
  | none => simp [hi] at hpl
  | some it =>
    cases hu : P.underlying t with
    | none => simp [hi, hu] at hpl
    | some d =>
      cases hz : it.zero with
      | none => cases d <;> simp [hi, hu, hz] at hpl
      | some zv =>
        cases d <;> try (simp [hi, hu] at hpl; done)
        case array n e =>
          cases hie : P.info? e with
          | none => simp [hi, hu, hz, hie] at hpl
          | some ie =>
            simp only [hi, hu, hz, hie, Option.some.injEq, Prod.mk.injEq] at hpl ⊢
            obtain ⟨rfl, rfl⟩ := hpl
            refine (fill_of_L ?_ ps _ cs hf)
            intro i p hip
            rw [List.getElem?_map] at hip
            cases hr : (List.range n)[i]? with
            | none => simp [hr] at hip
            | some j =>
              simp only [hr, Option.map_some, Option.some.injEq] at hip
              have : j = i := by have := List.getElem?_eq_some_iff.1 hr; simpa using this.2.symm
              subst this; rw [← hip]
        case struct fields =>
          cases hm : fields.toList.mapM (fun f => (P.info? f.type).map fun i => (f.offset, i.size)) with
          | none => simp [hi, hu, hz, hm] at hpl
          | some places =>
            simp only [hi, hu, hz, hm, Option.some.injEq, Prod.mk.injEq] at hpl ⊢
            obtain ⟨rfl, rfl⟩ := hpl
            refine (fill_of_L ?_ ps _ cs hf)
            intro i p hip
            simpa using hip
theorem Has.drop2 {E : Env} {w : World} {L : List (Nat × Obj)} {a b c d e : Nat × Obj} (h : Has E w (a :: b :: c :: d :: e :: L)) : Has E w (a :: b :: c :: L) :=
  h.sub (.cons_cons _ (.cons_cons _ (.cons_cons _ (.cons _ (.cons _ (List.Sublist.refl _))))))
theorem Has.mid {E : Env} {w : World} {Ls F : List (Nat × Obj)} {x : Nat × Obj} (h : Has E w (x :: (Ls ++ F))) : Has E w (Ls ++ x :: F) := h.perm List.perm_middle.symm
theorem Has.unmid {E : Env} {w : World} {Ls F : List (Nat × Obj)} {x : Nat × Obj} (h : Has E w (Ls ++ x :: F)) : Has E w (x :: (Ls ++ F)) := h.perm List.perm_middle
theorem Has.midTail {E : Env} {w : World} {Ls F : List (Nat × Obj)} {x : Nat × Obj} (h : Has E w (Ls ++ x :: F)) : Has E w (Ls ++ F) := h.unmid.tail
/-- where a slice begins -/
def ptrOf (s : Value) : Value := match s with | .slice A _ _ => .pointer A | v => v
section
variable {P : Program} {E : Env} {w : World} {L : List (Nat × Obj)} {a : Act} {dst : Option Tmp} {ty t : TypeId} {pos : String} {after : Array Edge} {g : Option (Nat × Bool)} {x : Operand} {s : Value} {e : TypeId}
theorem r_arrayPtr_s {sz n k : Nat} {l : List Value} (hs : Rd L sz s n l) (hx : a.eval x = s) (hu : ∀ w, (underlying t).run P w = .ok (.array k e) w) (hk : k ≤ n) :
    (execOp a.eval ⟨dst, .sliceToArrayPointer t x, ty, pos, after, g⟩).run P w = .ok (.value (ptrOf s)) w := by
  obtain ⟨_, A, c, rfl, hc, _⟩ := hs
  exact r_arrayPtr hx hu hk
theorem r_load_ptr {k : Nat} {xs : List (BitVec 8)} (h : Has E w L) (hs : Sl L s xs) (hx : a.eval x = ptrOf s) (hk : 0 < k) (hn : k ≤ xs.length) (ht : ∀ w, (isAgg t).run P w = .ok true w) (hz : ∀ w, (sizeOf t).run P w = .ok k w) :
    (execOp a.eval ⟨dst, .load t x, ty, pos, after, g⟩).run P w = .ok (.value (aggB (xs.take k))) w := by
  have hs' := hs
  obtain ⟨_, A, c, rfl, hc, _⟩ := hs
  have := r_load_segs (P := P) (a := a) (dst := dst) (ty := ty) (pos := pos) (after := after) (g := g) h hs' hx rfl hk hn ht hz
  rw [← List.map_take] at this; exact this
end
/-- a slice of bytes of one's own -/
abbrev OwnB (T : TypeId) (s : Value) (xs : List (BitVec 8)) (Ls : List (Nat × Obj)) : Prop := OwnS T 1 s xs.length (xs.map B) Ls
theorem OwnB.new {T : TypeId} {b q : Nat} : OwnB T (.slice (some ⟨b, 0, none⟩) 0 q) [] [(b, bs T (List.replicate q 0))] :=
  .inr ⟨b, q, (List.replicate q 0).map B, rfl, rfl, by simp, Nat.zero_le _, rfl⟩
theorem OwnB.sl {T : TypeId} {s : Value} {xs : List (BitVec 8)} {Ls : List (Nat × Obj)} (h : OwnB T s xs Ls) (F : List (Nat × Obj)) : Sl (Ls ++ F) s xs := OwnS.rd h F
section
variable {P : Program} {E : Env} {w : World} {F : List (Nat × Obj)} {a : Act} {K : Act → World → Prop} {Q : Exit → Act → World → Prop} {dst : Option Tmp} {ty t : TypeId} {pos : String} {after : Array Edge} {g : Option (Nat × Bool)} {x y : Operand} {s s' : Value} {e : TypeId}
theorem op_appendB {T : TypeId} {i : TypeInfo} {zv : Value} {Ls : List (Nat × Obj)} {xs ys : List (BitVec 8)} (h : Has E w (Ls ++ F)) (hx : a.eval x = s) (hy : a.eval y = s') (ho : OwnB T s xs Ls) (hs : Sl (Ls ++ F) s' ys)
    (hT : e = T) (hu : ∀ w, (underlying t).run P w = .ok (.slice e) w) (hi : ∀ w, (typeInfo e).run P w = .ok i w) (hz : ∀ w, (sizeOf e).run P w = .ok 1 w) (hzv : ∀ w, (zeroValue e).run P w = .ok zv w) (hcs : zv.cells.size = 1)
    (hb : (xs.length + ys.length) * i.bytes ≤ 140737488355328) (hnm : xs.length + ys.length ≤ 4611686018427387904)
    (k : ∀ s'' Ls' w', OwnB T s'' (xs ++ ys) Ls' → Has E w' (Ls' ++ F) → K (a.put dst s'') w') : OW P a w K Q (Oper.mk dst (.call ⟨.builtin .append, #[x, y], #[t, t]⟩) ty pos after g) :=
  op_append h hx hy ho hs hT hu hi hz hzv hcs (by decide) hb hnm oneB fun s'' Ls' w' h1 h2 => k s'' Ls' w' (by simpa [OwnB] using h1) h2
end
theorem r_makeFuncL {P : Program} {w : World} {a : Act} {dst : Option Tmp} {ty : TypeId} {pos : String} {after : Array Edge} {g : Option (Nat × Bool)} {fn : Fn} {first captured : List Operand} {f1 c1 : List Value} (h1 : first.map a.eval = f1) (h2 : captured.map a.eval = c1) :
    (execOp a.eval ⟨dst, .makeFunc fn first.toArray captured.toArray, ty, pos, after, g⟩).run P w = .ok (.value (.func fn f1.toArray c1.toArray)) w :=
  r_makeFunc (by rw [← h1, List.map_toArray]) (by rw [← h2, List.map_toArray])
theorem OwnB.block {T : TypeId} {b n : Nat} {xs : List (BitVec 8)} (h : xs.length = n) : OwnB T (.slice (some ⟨b, 0, none⟩) n n) xs [(b, bs T xs)] :=
  .inr ⟨b, n, [], by rw [h], by simp, by simp [h], by omega, by simp [vs]⟩
theorem r_eql_slnil {P : Program} {w : World} {a : Act} {dst : Option Tmp} {t ty t' : TypeId} {pos : String} {after : Array Edge} {g : Option (Nat × Bool)} {x y : Operand} {e : TypeId} {A : Option Addr} {n c : Nat} (hx : a.eval x = .slice A n c) (hy : a.eval y = .slice none 0 0) (hu : ∀ w, (underlying t).run P w = .ok (.slice e) w) :
    (execOp a.eval ⟨dst, .binOp .eql t x y t', ty, pos, after, g⟩).run P w = .ok (.value (.bool A.isNone)) w := by
  refine exec_bin hx hy (by rfl) ?_
  have h2 : binOp .eql t (.slice A n c) (.slice none 0 0) = (do pure (.bool ((← Op.equal t (.slice A n c) (.slice none 0 0))))) := rfl
  have h3 : ∀ d, (Op.equalIn (d + 1) t (.slice A n c) (.slice none 0 0)).run P w = .ok A.isNone w := fun d => by cases A <;> simp [Op.equalIn, hu]
  rw [h2, Sem.run_bind, show (Op.equal t (.slice A n c) (.slice none 0 0)).run P w = .ok A.isNone w from h3 9999]; rfl
theorem OwnB.nil {T : TypeId} {A : Option Addr} : OwnB T (.slice A 0 0) [] [] := OwnS.nil
theorem op_buildSliceL {P : Program} {E : Env} {w : World} {L : List (Nat × Obj)} {a : Act} {K : Act → World → Prop} {Q : Exit → Act → World → Prop} {dst : Option Tmp} {t ty e : TypeId} {pos : String} {after : Array Edge} {g : Option (Nat × Bool)} {parts : List (Nat × Operand)} {zv : Value} {len : Nat} (l : List Value) (h : Has E w L) (hp : (parts.map fun (i, x) => (i, a.eval x)) = enumFrom' 0 l) (hl : l.length = len) (hu : ∀ w, (underlying t).run P w = .ok (.slice e) w) (hs : ∀ w, (sizeOf e).run P w = .ok 1 w)
    (hz : ∀ w, (zeroValue e).run P w = .ok zv w) (hzc : zv.cells = #[zv]) (hlen : len ≤ 65536) (h1 : ∀ v ∈ l, v.oneCell' = true)
    (k : ∀ b w', Has E w' ((b, vs e l) :: L) → K (a.put dst (.slice (some ⟨b, 0, none⟩) len len)) w') : OW P a w K Q (Oper.mk dst (.buildSlice t len parts.toArray) ty pos after g) :=
  op_buildSlice l h (by rw [← hp, List.map_toArray]) hl hu hs hz hzc hlen h1 k
theorem OwnB.empty {T : TypeId} {s : Value} {n : Nat} {l : List Value} {Ls : List (Nat × Obj)} (h : OwnS T 1 s n l Ls) : OwnB T (cutH s 0) [] Ls := by
  rcases h with ⟨A, rfl, rfl, rfl, rfl⟩ | ⟨g, c, junk, rfl, h1, h2, h3, rfl⟩
  · exact OwnS.nil
  · exact .inr ⟨g, c, l ++ junk, rfl, rfl, by simp at h2 ⊢; omega, Nat.zero_le _, rfl⟩
/-- slices, each of which reads its bytes -/
def Sls (L : List (Nat × Obj)) (ss : List Value) (xss : List (List (BitVec 8))) : Prop := ∀ i, i < ss.length → ∃ v, ss[i]? = some v ∧ Sl L v (xss.getD i [])
theorem Sls.nil {L : List (Nat × Obj)} : Sls L [] [] := fun i h => absurd h (by simp)
theorem Sls.cons {L : List (Nat × Obj)} {v : Value} {ss : List Value} {xs : List (BitVec 8)} {xss : List (List (BitVec 8))} (h : Sl L v xs) (t : Sls L ss xss) : Sls L (v :: ss) (xs :: xss)
  | 0, _ => ⟨v, rfl, h⟩
  | i + 1, hi => t i (by simpa using hi)
theorem take_flat {xss : List (List (BitVec 8))} {i : Nat} (h : i < xss.length) : (xss.take (i + 1)).flatten = (xss.take i).flatten ++ xss.getD i [] := by
  rw [List.take_add_one, List.flatten_append]; simp [List.getD, h]
theorem take_flat_len {xss : List (List (BitVec 8))} (i : Nat) : (xss.take i).flatten.length ≤ xss.flatten.length := by
  conv => rhs; rw [← List.take_append_drop i xss, List.flatten_append, List.length_append]
  exact Nat.le_add_right _ _
end Go.Proofs.YtjdfenlmifhhdaaDoor
