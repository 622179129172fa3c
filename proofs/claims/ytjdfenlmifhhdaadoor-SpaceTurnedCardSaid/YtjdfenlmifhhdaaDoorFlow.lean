/-
  Calls that return, loops, and regions that draw their order (a load may be taken first where only operations that wait for it write its cell). Condition: none.
-/
import Derived.Test.YtjdfenlmifhhdaaDoorBase
import Derived.OrdersHeld
import Derived.RegionTactic
namespace Go.Proofs.YtjdfenlmifhhdaaDoor
open Go.RowKit

section
variable {P : Program} {E : Env} {w : World} {L : List (Nat × Obj)} {a : Act} {K : Act → World → Prop} {Q : Exit → Act → World → Prop}
variable {dst : Option Tmp} {ty : TypeId} {pos : String} {after : Array Edge} {g : Option (Nat × Bool)} {x y z : Operand} {v u : Value} {t : TypeId}

/-- A call that returns. -/
def Ret (P : Program) (f : FuncId) (args : List Value) (w : World) (R : Value → World → Prop) : Prop :=
  Calls P f args.toArray w fun e w' => ∃ v, e = .returned v ∧ R v w'

theorem Ret.mono {f : FuncId} {args : List Value} {R R' : Value → World → Prop} (h : Ret P f args w R) (hr : ∀ v w', R v w' → R' v w') : Ret P f args w R' :=
  Calls.mono h fun _ _ ⟨v, he, hv⟩ => ⟨v, he, hr _ _ hv⟩

theorem op_call {f : FuncId} {as : List Operand} {tys : Array TypeId} (args : List Value) {R : Value → World → Prop}
    (hf : ∀ args w, (callFunc f args).run P w = .ok (.enter f args) w) (ha : as.map a.eval = args) (hc : Ret P f args w R) (k : ∀ v w', R v w' → K (a.put dst v) w') :
    OW P a w K Q (Oper.mk dst (.call ⟨.value (.func f), as.toArray, tys⟩) ty pos after g) := by
  refine ⟨?_⟩
  unfold Oper.wp
  have hr : (execOp a.eval (Oper.mk dst (.call ⟨.value (.func f), as.toArray, tys⟩) ty pos after g)).run P w = .ok (.enter f args.toArray) w := by
    have h1 := hf args.toArray w
    simp only [execOp, resolve, Deferred.ofValue, Sem.run_bind, Sem.run_pure, Result.andThen_ok, invoke, List.map_toArray, ha, Act.eval]
    simpa using h1
  rw [hr]
  unfold Oper.upon
  exact Calls.mono hc fun e w' ⟨v, he, hv⟩ => by subst he; exact k v w' hv
/-- A call of a function value. -/
theorem op_callv {f : FuncId} {first captured : List Value} {as : List Operand} {tys : Array TypeId} (args : List Value) {R : Value → World → Prop}
    (hx : a.eval x = .func (.func f) first.toArray captured.toArray) (hf : ∀ args w, (callFunc f args).run P w = .ok (.enter f args) w) (ha : first ++ as.map a.eval ++ captured = args) (hc : Ret P f args w R) (k : ∀ v w', R v w' → K (a.put dst v) w') :
    OW P a w K Q (Oper.mk dst (.call ⟨.value x, as.toArray, tys⟩) ty pos after g) := by
  subst ha
  refine ⟨?_⟩
  unfold Oper.wp
  have hr : (execOp a.eval (Oper.mk dst (.call ⟨.value x, as.toArray, tys⟩) ty pos after g)).run P w = .ok (.enter f (first ++ as.map a.eval ++ captured).toArray) w := by
    have h1 := hf (first ++ as.map a.eval ++ captured).toArray w
    simp only [execOp, resolve, Deferred.ofValue, Sem.run_bind, Sem.run_pure, Result.andThen_ok, invoke, hx, List.map_toArray]
    simpa using h1
  rw [hr]
  unfold Oper.upon
  exact Calls.mono hc fun e w' ⟨v, he, hv⟩ => by subst he; exact k v w' hv

/-- Into a function: its post behind a letter. -/
theorem ret_of_wp {f : FuncId} {fn : Func} {c : Code} {args l : List Value} {R : Value → World → Prop} (hf : P.funcs[f]? = some fn) (hb : fn.body = some c)
    (hl : args.toArray ++ Array.replicate (fn.ntmps - args.toArray.size) undef = l.toArray)
    (h : ∀ Q : Exit → Act → World → Prop, (∀ (l' : List Value) w' v, (results fn l'.toArray).run P w' = .ok v w' → R v w' → Q .ret ⟨l'.toArray, []⟩ w' ∧ Q .normal ⟨l'.toArray, []⟩ w') → c.wp P Q ⟨l.toArray, []⟩ w) :
    Ret P f args w R := by
  refine calls_of_wp hf hb ?_
  rw [hl]
  refine h _ fun l' w' v hr hR => ⟨⟨rfl, v, hr, v, rfl, hR⟩, ⟨rfl, v, hr, v, rfl, hR⟩⟩

theorem res_tmp {fn : Func} {t : Tmp} {l : List Value} (h : fn.results = #[.tmp t]) (hv : l.getD t undef = v) : (results fn l.toArray).run P w = .ok v w := by
  subst hv; rw [results_tmp h]; simp
theorem res_tmp2 {fn : Func} {t s : Tmp} {l : List Value} (h : fn.results = #[.tmp t, .tmp s]) (hv : l.getD t undef = v) (hu : l.getD s undef = u) : (results fn l.toArray).run P w = .ok (.tuple [v, u].toArray) w := by
  subst hv; subst hu; rw [results_tmp2 h]; simp
theorem res_none {fn : Func} {l : List Value} (h : fn.results = #[]) : (results fn l.toArray).run P w = .ok (.tuple [].toArray) w := results_none h _ _ _
theorem res_cell {fn : Func} {s : Tmp} {l : List Value} {b n : Nat} {cs : Array Value} {T : TypeId} {fz : Nat × Nat} (h : Has E w L) (hr : fn.results = #[.cell s t]) (hp : l.getD s undef = ptr b 0) [m : Mem L b (.cells cs T fz)]
    (hn : cs.size = n) (ht : ∀ w, (isAgg t).run P w = .ok true w) (hs : ∀ w, (sizeOf t).run P w = .ok n w) : (results fn l.toArray).run P w = .ok (.agg cs) w := by
  have hl := run_loadVar_seg (P := P) (t := t) (o := 0) (n := n) h m.mem (by omega) ht hs
  have hp' : l[s]?.getD undef = ptr b 0 := by simpa using hp
  simp [results, hr, hp', asAddr, hl]
  subst hn; simp
theorem res_cell2 {fn : Func} {s q : Tmp} {l : List Value} {b n : Nat} {cs : Array Value} {T : TypeId} {fz : Nat × Nat} (h : Has E w L) (hr : fn.results = #[.cell s t, .tmp q]) (hp : l.getD s undef = ptr b 0) [m : Mem L b (.cells cs T fz)]
    (hn : cs.size = n) (ht : ∀ w, (isAgg t).run P w = .ok true w) (hs : ∀ w, (sizeOf t).run P w = .ok n w) (hu : l.getD q undef = u) : (results fn l.toArray).run P w = .ok (.tuple [.agg cs, u].toArray) w := by
  have hl := run_loadVar_seg (P := P) (t := t) (o := 0) (n := n) h m.mem (by omega) ht hs
  have hp' : l[s]?.getD undef = ptr b 0 := by simpa using hp
  have hu' : l[q]?.getD undef = u := by simpa using hu
  simp [results, hr, hp', hu', asAddr, hl]
  subst hn; simp

/-! ### Pieces of code: what follows lies behind a letter -/
theorem cw_seq {c d : Code} (h : ∀ K : Act → World → Prop, (∀ a w, d.wp P Q a w → K a w) → c.wp P (Exit.then K Q) a w) : (Code.seq c d).wp P Q a w := wp_seq_k h
/-- The rest of a region, hidden. -/
structure LW (P : Program) (ops : Array Oper) (Q : Exit → Act → World → Prop) (l : List Oper) (a : Act) (w : World) : Prop where
  up : wpList P ops Q l a w
theorem cw_region {id : Nat} {l : List Oper} (h : LW P l.toArray Q l a w) : (Code.region id l.toArray false).wp P Q a w := wp_region_lit h.up
theorem wl_nil {ops : Array Oper} (h : Q .normal a w) : LW P ops Q [] a w := ⟨wpList_nil h⟩
theorem wl_op {ops : Array Oper} {rest : List Oper} {o : Oper} (hg : o.guard = none) (h : ∀ K : Act → World → Prop, (∀ a w, LW P ops Q rest a w → K a w) → OW P a w K Q o) : LW P ops Q (o :: rest) a w :=
  ⟨wpList_plain hg fun K hK => (h K fun a w hl => hK a w hl.up).up⟩
theorem wl_want {ops : Array Oper} {rest : List Oper} {o : Oper} (hg : Region.wanted o (yielded ops a.tmps) = true) (h : ∀ K : Act → World → Prop, (∀ a w, LW P ops Q rest a w → K a w) → OW P a w K Q o) : LW P ops Q (o :: rest) a w :=
  ⟨wpList_step fun K hK => by rw [if_pos hg]; exact (h K fun a w hl => hK a w hl.up).up⟩
theorem wl_skip {ops : Array Oper} {rest : List Oper} {o : Oper} (hg : Region.wanted o (yielded ops a.tmps) = false) (h : ∀ K : Act → World → Prop, (∀ a w, LW P ops Q rest a w → K a w) → K (a.put o.dst undef) w) : LW P ops Q (o :: rest) a w :=
  ⟨wpList_step fun K hK => by rw [if_neg (by simp [hg])]; exact h K fun a w hl => hK a w hl.up⟩

/-- A loop: what holds at each round's head; a measure that sinks. -/
theorem cw_loop {c : Code} (J : List Value → World → Nat → Prop) {l : List Value} (n : Nat) (h₀ : J l w n)
    (round : ∀ l w n, J l w n → ∀ K : Act → World → Prop, (∀ l' w' m, J l' w' m → m < n → K ⟨l'.toArray, []⟩ w') → c.wp P (Exit.then K Q) ⟨l.toArray, []⟩ w) : (Code.loop c).wp P Q ⟨l.toArray, []⟩ w := by
  have key : ∀ n l w m, J l w m → m < n → Code.rounds P c Q n ⟨l.toArray, []⟩ w := by
    intro n
    induction n with
    | zero => intro l w m _ h; omega
    | succ n ih =>
      intro l w m hJ hm
      rw [rounds_succ]
      exact round l w m hJ _ fun l' w' m' hj hm' => ih l' w' m' hj (by omega)
  exact wp_loop_rounds (n + 1) (key (n + 1) l w n h₀ (by omega))
end

/-! ### A region that draws its order: S is asked behind every operation but the last ones (T), and what is taken first by S is waited for by these -/
section
variable {P : Program} {ops : Array Oper} {Q : Exit → Act → World → Prop} {md : Region.Mode} {S : World → Prop} {T : Nat → Bool}

def wpN (P : Program) (md : Region.Mode) (ops : Array Oper) (Q : Exit → Act → World → Prop) (S : World → Prop) (T : Nat → Bool) : Nat → Array Bool → Act → World → Prop
  | 0, listed, a, w => Region.ready md ops listed = [] ∧ Q .normal a w
  | fuel + 1, listed, a, w =>
    (Region.ready md ops listed = [] → Q .normal a w) ∧
    ∀ i ∈ Region.ready md ops listed, wpOp P ops Q i (fun a' w' => (T i = false → S w → S w') ∧ wpN P md ops Q S T fuel (listed.setIfInBounds i true) a' w') a w

theorem wpAny_of_N : ∀ (fuel : Nat) (listed : Array Bool) (a : Act) (w : World), wpN P md ops Q S T fuel listed a w → wpAny P md ops Q fuel listed a w
  | 0, _, _, _, h => h
  | fuel + 1, _, _, _, h => ⟨h.1, fun i hi => wpOp_mono (fun a' w' h' => wpAny_of_N fuel _ a' w' h'.2) (h.2 i hi)⟩

/-- Does every operation of the tail that has not come up wait for number i? -/
def waits (md : Region.Mode) (ops : Array Oper) (T : Nat → Bool) (listed : Array Bool) (i : Nat) : Bool :=
  (List.range ops.size).all fun j => !T j || j == i || listed.getD j true || match ops[j]? with
    | some oj => oj.after.any (fun e => Region.binds md e && e.on == i)
    | none => true

theorem wpN_first {i : Nat} {oi : Oper} {v : Value} (S₀ : World → Prop) (hi : ops[i]? = some oi) (hsel : ∀ (j : Nat) (o : Oper) cs b, ops[j]? = some o → o.op ≠ .select cs b)
    (hQ : ∀ c a w, Q (.panic c) (a.put oi.dst v) w → Q (.panic c) a w) (hSS : ∀ w, S w → S₀ w) :
    ∀ (fuel : Nat) (listed : Array Bool) (a : Act) (w : World),
      (∀ j oj, ops[j]? = some oj → j ≠ i → listed.getD j true = false → (∀ e ∈ oj.after, Region.binds md e = true → e.on ≠ i) → oi.apart ops oj = true ∧ (T j = false ∨ ∀ w, S₀ w)) →
      i ∈ Region.ready md ops listed → YieldsIf P ops S₀ oi v a → (S w ∨ ∀ w, S₀ w) →
      wpN P md ops Q S T fuel (listed.setIfInBounds i true) (a.put oi.dst v) w → wpN P md ops Q S T (fuel + 1) listed a w := by
  intro fuel
  induction fuel with
  | zero =>
    intro listed a w _ hr hy hS H
    refine ⟨fun h => (by rw [h] at hr; cases hr), fun j hj => ?_⟩
    by_cases hji : j = i
    · subst hji; exact hy.wpOp hi (hS.elim (hSS w) (fun h => h w)) ⟨fun _ h => h, H⟩
    · have := ready_mono hj hji
      rw [H.1] at this
      cases this
  | succ fuel ih =>
    intro listed a w hfree hr hy hS H
    refine ⟨fun h => (by rw [h] at hr; cases hr), fun j hj => ?_⟩
    by_cases hji : j = i
    · subst hji; exact hy.wpOp hi (hS.elim (hSS w) (fun h => h w)) ⟨fun _ h => h, H⟩
    · have h1 := H.2 j (ready_mono hj hji)
      obtain ⟨hjun, oj, hoj, hall⟩ := mem_ready.1 hj
      have hnot : ∀ e ∈ oj.after, Region.binds md e = true → e.on ≠ i := fun e he hb heq => by
        have h1 := hall e he hb
        have h0 := (mem_ready.1 hr).1
        rw [heq] at h1
        rcases Nat.lt_or_ge i listed.size with h' | h'
        · simp [h'] at h0 h1; rw [h0] at h1; cases h1
        · simp [Array.getElem?_eq_none h'] at h1
      obtain ⟨hap, hT⟩ := hfree j oj hoj hji hjun hnot
      have h2 := wpOp_putIf hoj hap (fun cs b => hsel i oi cs b hi) (fun cs b => hsel j oj cs b hoj) hQ hy h1
      have hfree' : ∀ k ok, ops[k]? = some ok → k ≠ i → (listed.setIfInBounds j true).getD k true = false →
          (∀ e ∈ ok.after, Region.binds md e = true → e.on ≠ i) → oi.apart ops ok = true ∧ (T k = false ∨ ∀ w, S₀ w) := fun k ok hk hki hun hno => by
        refine hfree k ok hk hki ?_ hno
        by_cases hjk : j = k
        · subst hjk; exact hjun
        · rw [getD_set_ne true hjk] at hun; exact hun
      refine wpOp_mono (fun a' w' h3 => ⟨h3.2.1, ih (listed.setIfInBounds j true) a' w' hfree' (ready_mono hr (Ne.symm hji)) h3.1 ?_ ?_⟩) h2
      · rcases hS with hS | hS
        · rcases hT with hT | hT
          · exact .inl (h3.2.1 hT hS)
          · exact .inr hT
        · exact .inr hS
      · rw [Array.setIfInBounds_comm _ _ hji]
        exact h3.2.2

/-- Take number i first: it yields v in every world (nothing of memory is read). -/
theorem wpN_pure {i : Nat} {oi : Oper} {v : Value} {fuel : Nat} {listed : Array Bool} {a : Act} {w : World} (hi : ops[i]? = some oi)
    (hf : (Region.noSelect ops && Region.free md ops listed i && (Region.ready md ops listed).contains i) = true)
    (hQ : ∀ c a w, Q (.panic c) (a.put oi.dst v) w → Q (.panic c) a w) (hy : ∀ w, (execOp a.eval oi).run P w = .ok (.value v) w) (hw : Region.wanted oi (yielded ops a.tmps) = true)
    (h : wpN P md ops Q S T fuel (listed.setIfInBounds i true) (a.put oi.dst v) w) : wpN P md ops Q S T (fuel + 1) listed a w := by
  simp only [Bool.and_eq_true] at hf
  refine wpN_first (fun _ => True) hi (Region.noSelect_spec hf.1.1) hQ (fun _ _ => trivial) fuel listed a w ?_ (by simpa using hf.2) (.inl ⟨hw, fun w _ => hy w⟩) (.inr fun _ => trivial) h
  exact fun j oj hj hne hun hno => ⟨Region.free_spec hi hf.1.2 j oj hj hne hun hno, .inr fun _ => trivial⟩
/-- Number i is not wanted: its guard says no. -/
theorem wpN_skip {i : Nat} {oi : Oper} {fuel : Nat} {listed : Array Bool} {a : Act} {w : World} (hi : ops[i]? = some oi)
    (hf : (Region.noSelect ops && Region.free md ops listed i && (Region.ready md ops listed).contains i) = true)
    (hQ : ∀ c a w, Q (.panic c) (a.put oi.dst undef) w → Q (.panic c) a w) (hw : Region.wanted oi (yielded ops a.tmps) = false)
    (h : wpN P md ops Q S T fuel (listed.setIfInBounds i true) (a.put oi.dst undef) w) : wpN P md ops Q S T (fuel + 1) listed a w := by
  simp only [Bool.and_eq_true] at hf
  refine wpN_first (fun _ => True) hi (Region.noSelect_spec hf.1.1) hQ (fun _ _ => trivial) fuel listed a w ?_ (by simpa using hf.2) (.inr ⟨hw, rfl⟩) (.inr fun _ => trivial) h
  exact fun j oj hj hne hun hno => ⟨Region.free_spec hi hf.1.2 j oj hj hne hun hno, .inr fun _ => trivial⟩
/-- Take number i first: it yields v in every world that meets S. -/
theorem wpN_load {i : Nat} {oi : Oper} {v : Value} {fuel : Nat} {listed : Array Bool} {a : Act} {w : World} (hi : ops[i]? = some oi)
    (hf : (Region.noSelect ops && Region.free md ops listed i && (Region.ready md ops listed).contains i && waits md ops T listed i) = true)
    (hQ : ∀ c a w, Q (.panic c) (a.put oi.dst v) w → Q (.panic c) a w) (hy : ∀ w, S w → (execOp a.eval oi).run P w = .ok (.value v) w) (hw : Region.wanted oi (yielded ops a.tmps) = true) (hS : S w)
    (h : wpN P md ops Q S T fuel (listed.setIfInBounds i true) (a.put oi.dst v) w) : wpN P md ops Q S T (fuel + 1) listed a w := by
  simp only [Bool.and_eq_true] at hf
  refine wpN_first S hi (Region.noSelect_spec hf.1.1.1) hQ (fun _ h => h) fuel listed a w ?_ (by simpa using hf.1.2) (.inl ⟨hw, hy⟩) (.inl hS) h
  intro j oj hj hne hun hno
  refine ⟨Region.free_spec hi hf.1.1.2 j oj hj hne hun hno, .inl ?_⟩
  have h4 := hf.2
  simp only [waits, List.all_eq_true, List.mem_range] at h4
  have h5 := h4 j (Array.getElem?_eq_some_iff.1 hj).1
  simp only [hj, Bool.or_eq_true, beq_iff_eq, hne, hun, Bool.not_eq_true', or_false, Bool.false_eq_true] at h5
  rcases h5 with h5 | h5
  · exact h5
  · obtain ⟨e, he, hb⟩ := Array.any_eq_true'.1 h5
    simp only [Bool.and_eq_true, beq_iff_eq] at hb
    exact absurd hb.2 (hno e he hb.1)
/-- Only number i may come up: it is carried out. -/
theorem wpN_op {i : Nat} {oi : Oper} {fuel : Nat} {listed : Array Bool} {a : Act} {w : World} (hr : Region.ready md ops listed = [i]) (hi : ops[i]? = some oi) (hw : Region.wanted oi (yielded ops a.tmps) = true)
    (h : ∀ K : Act → World → Prop, (∀ a' w', (T i = false → S w → S w') → wpN P md ops Q S T fuel (listed.setIfInBounds i true) a' w' → K a' w') → OW P a w K Q oi) : wpN P md ops Q S T (fuel + 1) listed a w := by
  refine And.intro (fun h0 => absurd (hr.symm.trans h0) (by simp)) (fun j hj => ?_)
  rw [hr] at hj
  obtain rfl : j = i := by simpa using hj
  unfold wpOp
  simp only [hi, hw, if_true]
  exact .inl (h _ fun a' w' h1 h2 => ⟨h1, h2⟩).up
theorem wpN_done {listed : Array Bool} {a : Act} {w : World} (hr : Region.ready md ops listed = []) (h : Q .normal a w) : ∀ fuel, wpN P md ops Q S T fuel listed a w
  | 0 => ⟨hr, h⟩
  | _ + 1 => ⟨fun _ => h, by rw [hr]; simp⟩
theorem cw_draw {id : Nat} {a : Act} {w : World} (S : World → Prop) (T : Nat → Bool) (hm : P.follows .mixedOrders = true)
    (h : wpN P .any ops Q S T ops.size (Array.replicate ops.size false) a w.drew) : (Code.region id ops true).wp P Q a w :=
  wp_region_any hm (wpAny_of_N _ _ _ _ h)
end
end Go.Proofs.YtjdfenlmifhhdaaDoor
