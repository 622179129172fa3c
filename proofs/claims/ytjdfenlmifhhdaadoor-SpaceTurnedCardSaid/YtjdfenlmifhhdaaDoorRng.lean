/-
  A range over a function: the statement, its rounds, the iterator that calls yield. Condition: none.
-/
import Derived.Test.YtjdfenlmifhhdaaDoorWalk2
import Derived.RangeFuncRecord
import Derived.RangeFuncLeaves
import Derived.TacticsIn
import Derived.OrdersIn
namespace Go.Proofs.YtjdfenlmifhhdaaDoor
open Go.RowKit

/-- In a round of the loop r. -/
abbrev FR (r : Nat) : Fence := Fence.wide.inRound r
section
variable {P : Program} {E : Env} {w : World} {L : List (Nat × Obj)} {a : Act} {K : Act → World → Prop} {Q : Exit → Act → World → Prop} {r n : Nat}

theorem callsIn_fr {f : FuncId} {args : Array Value} {R : Ending → World → Prop} (h : Calls P f args w R) : CallsIn (FR r) n P f args w R := (callsIn_wide (n := n)).2 h
theorem callsIn_w {f : FuncId} {args : Array Value} {R : Ending → World → Prop} (h : Calls P f args w R) : CallsIn Fence.wide n P f args w R := callsIn_wide.2 h
theorem rowsIn_w {row : String} {args : Array Value} {R : Value → World → Prop} (h : Rows P row args w R) : RowsIn Fence.wide n P row args w R :=
  fun c cs _ => let ⟨v, w', r, s⟩ := h c cs; ⟨v, w', r, stepsIn_wide.2 s⟩
def plainOp (o : Oper) : Bool := match o.op with
  | .defer _ => false
  | _ => true
theorem plainOp_spec {o : Oper} (h : plainOp o = true) : ∀ c, o.op ≠ .defer c := fun c e => by simp [plainOp, e] at h
theorem op_inF {F : Fence} (hF : F = Fence.wide ∨ ∃ r, F = FR r) {o : Oper} (hd : plainOp o = true) (h : o.wp P a w K Q) : o.wpIn F n P a w K Q := by
  have hfn : ∀ f, F.fn f := by rcases hF with rfl | ⟨r, rfl⟩ <;> exact fun _ => trivial
  have hdp : F.depth.isSome = true → 1 ≤ n := by rcases hF with rfl | ⟨r, rfl⟩ <;> exact fun h => absurd h (by simp [Fence.wide])
  have hc : ∀ {f args w R}, Calls P f args w R → CallsIn F (n - 1) P f args w R := by rcases hF with rfl | ⟨r, rfl⟩ <;> exact fun h => callsIn_w h
  have hr : ∀ {row args w R}, Rows P row args w R → RowsIn F (n - 1) P row args w R := by rcases hF with rfl | ⟨r, rfl⟩ <;> exact fun h => rowsIn_w h
  refine ⟨fun f _ => hfn f, ?_⟩
  rw [Oper.semAt_eq _ _ _ (plainOp_spec hd)]
  unfold Oper.wp at h
  generalize (execOp a.eval o).run P w = res at h
  cases res with
  | ok x w' =>
    cases x <;> simp only [Oper.upon] at h <;> simp only [Oper.uponIn] <;> first
      | exact h
      | exact ⟨hdp, hc h⟩
      | exact ⟨hdp, hr h⟩
  | halt x w' => cases x <;> simp only [Oper.upon] at h <;> simp only [Oper.uponIn] <;> exact h
theorem list_inF {F : Fence} (hF : F = Fence.wide ∨ ∃ r, F = FR r) {ops : Array Oper} (hno : ∀ a w, ¬ Q .outgrown a w) : ∀ (l : List Oper), l.all plainOp = true → ∀ a w, wpList P ops Q l a w → wpListIn F n P ops Q l a w
  | [], _, _, _, h => h
  | o :: l, hl, a, w, h => by
    simp only [List.all_cons, Bool.and_eq_true] at hl
    have hfn : ∀ f, F.fn f := by rcases hF with rfl | ⟨r, rfl⟩ <;> exact fun _ => trivial
    unfold wpList at h
    unfold wpListIn
    split
    · rename_i hw
      rw [if_pos hw] at h
      rcases h with h | ⟨_, a', w', h⟩
      · exact op_inF hF hl.1 (Oper.wp_mono (fun a w h => list_inF hF hno l hl.2 a w h) h)
      · exact absurd h (hno _ _)
    · rename_i hw
      rw [if_neg hw] at h
      exact ⟨fun f _ => hfn f, list_inF hF hno l hl.2 _ _ h⟩
theorem any_inF {F : Fence} (hF : F = Fence.wide ∨ ∃ r, F = FR r) {md : Region.Mode} {ops : Array Oper} (hno : ∀ a w, ¬ Q .outgrown a w) (hl : ∀ (i : Nat) (o : Oper), ops[i]? = some o → plainOp o = true) : ∀ (fuel : Nat) (listed : Array Bool) (a : Act) (w : World), wpAny P md ops Q fuel listed a w → wpAnyIn F n P md ops Q fuel listed a w
  | 0, _, _, _, h => h
  | fuel + 1, listed, a, w, h => by
    have hfn : ∀ f, F.fn f := by rcases hF with rfl | ⟨r, rfl⟩ <;> exact fun _ => trivial
    refine ⟨h.1, fun i hi => ?_⟩
    have h1 := h.2 i hi
    unfold wpOp at h1
    unfold wpOpIn
    cases ho : ops[i]? with
    | none => simp only [ho] at h1; exact any_inF hF hno hl fuel _ _ _ h1
    | some o =>
      simp only [ho] at h1 ⊢
      split
      · rename_i hw
        rw [if_pos hw] at h1
        rcases h1 with h1 | ⟨_, a', w', h1⟩
        · exact op_inF hF (hl i o ho) (Oper.wp_mono (fun a w h => any_inF hF hno hl fuel _ a w h) h1)
        · exact absurd h1 (hno _ _)
      · rename_i hw
        rw [if_neg hw] at h1
        exact ⟨fun f _ => hfn f, any_inF hF hno hl fuel _ _ _ h1⟩
/-! Regions in a round -/
theorem cw_regionI {id : Nat} {l : List Oper} (hd : l.all plainOp = true) (hno : ∀ a w, ¬ Q .outgrown a w) (h : LW P l.toArray Q l a w) : (Code.region id l.toArray false).wpIn (FR r) n P Q a w :=
  wpIn_region_lit (list_inF (.inr ⟨r, rfl⟩) hno l hd a w h.up)
theorem cw_drawnI {id : Nat} {l : List Oper} (hd : l.all plainOp = true) (hno : ∀ a w, ¬ Q .outgrown a w) (S : World → Prop) (T : Nat → Bool) (hm : P.follows .mixedOrders = true) (m : Nat) (hn : l.length = m) (listed : Array Bool) (hl : Array.replicate m false = listed)
    (h : ∀ w', w' = w.drew → wpN P .any l.toArray (NP Q) S T m listed a w') : (Code.region id l.toArray true).wpIn (FR r) n P Q a w := by
  refine Code.wpIn_mono (Q := NP Q) (fun e a w h => by cases e <;> first | exact h | exact h.elim) ?_
  refine wpIn_region_any hm ?_
  have h1 := h _ rfl
  rw [← hl, ← hn] at h1
  refine any_inF (Q := NP Q) (.inr ⟨r, rfl⟩) (fun a w h => hno a w h) ?_ _ _ _ _ (wpAny_of_N (Q := NP Q) (S := S) (T := T) _ _ _ _ (by simpa using h1))
  intro i o ho
  rw [List.getElem?_toArray] at ho
  exact List.all_eq_true.1 hd o (List.mem_of_getElem? ho)
theorem cw_drawnHI {Ls : List (Nat × Obj)} {id : Nat} {l : List Oper} (hd : l.all plainOp = true) (hno : ∀ a w, ¬ Q .outgrown a w) (h : Has E w L) (hs : Has E w Ls) (T : Nat → Bool) (hm : P.follows .mixedOrders = true) (m : Nat) (hn : l.length = m) (listed : Array Bool) (hl : Array.replicate m false = listed)
    (k : ∀ w', Has E w' L → Has E w' Ls → wpN P .any l.toArray (NP Q) (fun w' => Has E w' Ls) T m listed a w') : (Code.region id l.toArray true).wpIn (FR r) n P Q a w :=
  cw_drawnI hd hno _ T hm m hn listed hl fun w' e => k w' (e ▸ h.drew) (e ▸ hs.drew)
/-! A region of the iterator's, with a call of yield -/
structure LWW (P : Program) (ops : Array Oper) (Q : Exit → Act → World → Prop) (l : List Oper) (a : Act) (w : World) : Prop where
  up : wpListIn Fence.wide 1 P ops Q l a w
theorem cw_regionW {id : Nat} {l : List Oper} (h : LWW P l.toArray Q l a w) : (Code.region id l.toArray false).wp P Q a w := wpIn_wide.1 (wpIn_region_lit h.up)
theorem lww_nil {ops : Array Oper} (h : Q .normal a w) : LWW P ops Q [] a w := ⟨wpListIn_nil h⟩
theorem lww_op {ops : Array Oper} {rest : List Oper} {o : Oper} (hg : o.guard = none) (hd : plainOp o = true) (h : ∀ K : Act → World → Prop, (∀ a w, LWW P ops Q rest a w → K a w) → OW P a w K Q o) : LWW P ops Q (o :: rest) a w := by
  refine ⟨?_⟩
  have h1 := (h _ fun a w h => h.up).up
  have hw : Region.wanted o (yielded ops a.tmps) = true := by simp [Region.wanted, hg]
  unfold wpListIn
  rw [if_pos hw]
  exact op_inF (.inl rfl) hd h1
/-- A call of yield, and what it brings about. -/
def YieldR (P : Program) (l : Nat) (v : Value) (w : World) (J : World → Prop) : Prop :=
  ∃ (fn : FuncId) (tmps : Array Value) (assign body : Code), (Instr.yield l #[v]).run P w = .ok (.round l fn tmps assign body) w ∧ RoundIn Fence.wide 0 P l fn tmps assign body w fun e w' => e = .returned (.bool true) ∧ J w'
theorem lww_yield {ops : Array Oper} {rest : List Oper} {dst : Option Tmp} {x y : Operand} {tys : Array TypeId} {ty : TypeId} {pos : String} {after : Array Edge} {l : Nat} {v : Value} {J : World → Prop}
    (hx : a.eval x = .func (.yield l) #[] #[]) (hy : a.eval y = v) (hY : YieldR P l v w J) (k : ∀ w', J w' → LWW P ops Q rest (a.put dst (.bool true)) w') : LWW P ops Q (Oper.mk dst (.call ⟨.value x, #[y], tys⟩) ty pos after none :: rest) a w := by
  obtain ⟨fn, tmps, assign, body, hrun, hR⟩ := hY
  refine ⟨?_⟩
  unfold wpListIn
  rw [if_pos (by rfl)]
  refine ⟨fun _ _ => trivial, ?_⟩
  have e : (Oper.semAt (Fence.wide).round a.eval (Oper.mk dst (.call ⟨.value x, #[y], tys⟩) ty pos after none)).run P w = .ok (.round l fn tmps assign body) w := by
    rw [Oper.semAt_eq _ _ _ (fun c e => by cases e)]
    simp only [execOp, resolve, Deferred.ofValue, Sem.run_bind, Sem.run_pure, Result.andThen_ok, invoke, hx, hy, List.map_toArray, List.map_cons, List.map_nil]
    simpa using hrun
  rw [e]
  refine ⟨fun h => absurd h (by decide), RoundIn.mono hR fun e w' ⟨he, hj⟩ => ?_⟩
  subst he
  exact (k w' hj).up
/-! The statement -/
theorem Has.putObj {b : Nat} {o : Obj} (h : Has E w L) (n : Nat) (hn : L[n]? = some (b, o)) (o' : Obj) : Has E (w.putObj b o') (L.set n (b, o')) :=
  h.put n hn o' rfl rfl rfl (World.putObj_heap_same (h.lt (List.mem_of_getElem? hn))) (fun k hk _ => World.putObj_heap_other hk)
theorem cw_rangeFunc {l : List Value} (h : Has E w L) {g : Operand} {ps : Array Tmp} {assign body : Code} {gf : FuncId} {caps : List Value} (hg : (Act.mk l.toArray []).eval g = .func (.func gf) #[] caps.toArray) (eg : ∀ args w, (callFunc gf args).run P w = .ok (.enter gf args) w)
    (p : Tmp) (hps : ps = #[p]) (N : Nat) (val : Nat → Value) (M : Nat → List (Nat × Obj) → Prop) (h0 : M 0 L)
    (hiter : ∀ (lp : Nat) (J : Nat → World → Prop), (∀ i w, J i w → ∃ L', M i L' ∧ Has E w L') → (∀ i w, i < N → J i w → YieldR P lp (val i) w (J (i + 1))) → ∀ w, J 0 w → Calls P gf (.func (.yield lp) #[] #[] :: caps).toArray w fun e w' => ∃ v, e = .returned v ∧ J N w')
    (hround : ∀ i, i < N → ∀ (lp : Nat) (D : Nat) (L' : List (Nat × Obj)) w, M i L' → ∀ K₁ : Act → World → Prop,
      (∀ a, (∀ (B : Obj) w₂ (Kq : Exit → Act → World → Prop), Has E w₂ ((lp, B) :: (D, .deferred (some [])) :: L') → (∀ a w, ¬ Kq .outgrown a w) →
        (∀ a' w' L'', M (i + 1) L'' → Has E w' ((lp, B) :: (D, .deferred (some [])) :: L'') → Kq .normal a' w') → body.wpIn (FR lp) 0 P Kq a w₂) → K₁ a w) →
      assign.wpIn (FR lp) 0 P (Exit.then K₁ fun _ _ _ => False) ⟨(l.set p (val i)).toArray, []⟩ w)
    (hdone : ∀ (lp : Nat) (B : Obj) (D : Nat) (L' : List (Nat × Obj)) w, M N L' → Has E w ((lp, B) :: (D, .deferred (some [])) :: L') → Q .normal ⟨l.toArray, [⟨.collected D, #[]⟩]⟩ w) :
    (Code.rangeFunc g ps assign body).wp P Q ⟨l.toArray, []⟩ w := by
  subst hps
  refine (wpIn_wide (n := 1)).1 (wpIn_rangeFunc fun fn _ => ?_)
  obtain ⟨rec, hrec⟩ : ∃ rec : LoopState → Option Code → Loop, rec = fun st pe => { state := st, pending := pe, fn, tmps := l.toArray, params := #[p], assign, body, defers := w.heap.size } := ⟨_, rfl⟩
  have hW : Has E ((w.alloc (.deferred (some []))).alloc (.loop (rec .ready none))) ((w.heap.size + 1, .loop (rec .ready none)) :: (w.heap.size, .deferred (some [])) :: L) := by
    have := (h.alloc (.deferred (some []))).alloc (.loop (rec .ready none))
    rwa [World.size_alloc] at this
  refine ⟨w.heap.size + 1, [⟨.collected w.heap.size, #[]⟩], (w.alloc (.deferred (some []))).alloc (.loop (rec .ready none)), ⟨.fn (.func gf) caps.toArray, #[.func (.yield (w.heap.size + 1)) #[] #[]]⟩, (w.alloc (.deferred (some []))).alloc (.loop (rec .ready none)), gf,
    (.func (.yield (w.heap.size + 1)) #[] #[] :: caps).toArray, (w.alloc (.deferred (some []))).alloc (.loop (rec .ready none)), ?_, ?_, ?_, ?_, fun _ => Nat.le_refl _, ?_⟩
  · rw [hrec]; exact run_enterLoop_outer _ _ _ _ _
  · simp only [resolve, hg]
    simp [Deferred.ofValue, Act.eval]
  · exact fun _ _ => trivial
  · have := eg (.func (.yield (w.heap.size + 1)) #[] #[] :: caps).toArray ((w.alloc (.deferred (some []))).alloc (.loop (rec .ready none)))
    simpa [invoke] using this
  · refine callsIn_w (Calls.mono (hiter (w.heap.size + 1) (fun i w' => ∃ L', M i L' ∧ Has E w' ((w.heap.size + 1, .loop (rec .ready none)) :: (w.heap.size, .deferred (some [])) :: L')) ?_ ?_ _ ⟨L, h0, hW⟩) ?_)
    · rintro i w' ⟨L', hM, h'⟩
      exact ⟨L', hM, h'.tail.tail⟩
    · rintro i w' hi ⟨L', hM, h'⟩
      have hl := h'.get (List.mem_cons_self ..)
      have hy := run_yield (P := P) (args := #[val i]) hl (by rw [hrec]; rfl)
      refine ⟨_, _, _, _, hy, roundIn_of_wpIn trivial ?_⟩
      have e1 : ((rec .ready none).params.zip #[val i]).foldl (fun tmps (t, a) => tmps.setIfInBounds t a) (rec .ready none).tmps = (l.set p (val i)).toArray := by rw [hrec]; simp
      have e2 : (rec .ready none).assign = assign := by rw [hrec]
      have e3 : (rec .ready none).body = body := by rw [hrec]
      rw [e1, e2, e3]
      refine hround i hi _ w.heap.size L' _ hM _ fun a ha => ?_
      have hst : (rec .ready none).state = .ready := by rw [hrec]
      refine ⟨_, run_beginRound hl hst, ?_⟩
      have hB := h'.putObj 0 rfl (.loop { rec .ready none with state := .busy })
      simp only [List.set_cons_zero] at hB
      refine ha _ _ _ hB (fun _ _ h => h) fun a' w'' L'' hM' h'' => ?_
      have hl' := h''.get (List.mem_cons_self ..)
      refine ⟨_, _, run_endRound none hl', rfl, L'', hM', ?_⟩
      have hE := h''.putObj 0 rfl (.loop (rec .ready none))
      simp only [List.set_cons_zero] at hE
      rw [hrec] at hE ⊢
      exact hE
    · rintro e w' ⟨v, rfl, L', hM, h'⟩
      have hl := h'.get (List.mem_cons_self ..)
      have he := run_endLoop (P := P) hl (by rw [hrec]; simp)
      have hp : (rec .ready none).pending = none := by rw [hrec]
      rw [hp] at he
      refine ⟨none, _, he, ?_⟩
      have hE := h'.putObj 0 rfl (.loop { rec .ready none with state := .exhausted })
      simp only [List.set_cons_zero] at hE
      rw [hp] at hE
      exact hdone _ _ _ L' _ hM hE
/-- A function that holds such a statement. -/
theorem ret_of_marks {f : FuncId} {fn : Func} {c : Code} {args l : List Value} {R : Value → World → Prop} (hf : P.funcs[f]? = some fn) (hb : fn.body = some c)
    (hl : args.toArray ++ Array.replicate (fn.ntmps - args.toArray.size) undef = l.toArray)
    (h : ∀ Q : Exit → Act → World → Prop, (∀ (l' : List Value) (D : Nat) w' w'' v, (Instr.takeDeferred D).run P w' = .ok [] w'' → (results fn l'.toArray).run P w'' = .ok v w'' → R v w'' → Q .normal ⟨l'.toArray, [⟨.collected D, #[]⟩]⟩ w') → c.wp P Q ⟨l.toArray, []⟩ w) :
    Ret P f args w R := by
  refine callsIn_wide.1 (callsIn_of_wp_marks (n := 0) hf hb trivial ?_)
  rw [hl]
  refine wpIn_wide.2 (h _ fun l' D w' w'' v ht hr hR => ?_)
  exact ⟨by simp, .inl ⟨D, w'', rfl, ht, v, hr, v, rfl, hR⟩⟩
theorem run_take {D : Nat} {B : Obj} {lp : Nat} (h : Has E w ((lp, B) :: (D, .deferred (some [])) :: L)) : (Instr.takeDeferred D).run P w = .ok [] (w.putObj D (.deferred none)) ∧ Has E (w.putObj D (.deferred none)) L :=
  ⟨run_takeDeferred (h.get (by simp)), (h.putObj 1 rfl (.deferred none)).tail.tail⟩
end

/-! ### More on slices -/
section
variable {P : Program} {E : Env} {w : World} {L F : List (Nat × Obj)} {a : Act} {K : Act → World → Prop} {Q : Exit → Act → World → Prop}
variable {dst : Option Tmp} {ty : TypeId} {pos : String} {after : Array Edge} {g : Option (Nat × Bool)} {x y z : Operand} {v u s s' : Value} {t t' e : TypeId}
/-- A slice built of one element of some cells. -/
theorem op_buildSlice1 {parts : List (Nat × Operand)} {zv : Value} {sz : Nat} {cs : List Value} (h : Has E w L) (hp : (parts.map fun (i, x) => (i, a.eval x)) = [(0, v)]) (hv : v.cells = cs.toArray) (hl : cs.length = sz) (hu : ∀ w, (underlying t).run P w = .ok (.slice e) w) (hs : ∀ w, (sizeOf e).run P w = .ok sz w)
    (hz : ∀ w, (zeroValue e).run P w = .ok zv w) (h0 : 0 < sz) (hsz : sz ≤ 65536)
    (k : ∀ b w', Has E w' ((b, vs e cs) :: L) → K (a.put dst (.slice (some ⟨b, 0, none⟩) 1 1)) w') : OW P a w K Q (Oper.mk dst (.buildSlice t 1 parts.toArray) ty pos after g) := by
  have hfill : ∀ (c0 : List Value), c0.length = sz → Instr.fill (fun i => some (i * sz, sz)) c0.toArray [(0, v)] = some cs.toArray := by
    intro c0 hc0
    unfold Instr.fill
    have hsize : v.cells.size = sz := by rw [hv]; simpa using hl
    have hn : (decide (v.cells.size ≠ sz) || decide (0 * sz + v.cells.size > c0.toArray.size)) = false := by simp [hsize, hc0]
    simp only [hn, Bool.false_eq_true, if_false, Instr.fill]
    have := fold_put c0 0 cs 0 c0 (by omega)
    simp only [Nat.add_zero, Nat.zero_add, List.take_zero, List.nil_append] at this
    rw [List.drop_of_length_le (by omega), List.append_nil] at this
    rw [← Array.foldl_toList, Array.toList_zipIdx, hv, Nat.zero_mul]
    simp only [Nat.zero_add]
    rw [← this]
  have hrun : (Instr.buildSlice t 1 #[(0, v)]).run P w = .ok (.slice (some ⟨w.heap.size, 0, none⟩) 1 1) (w.alloc (vs e cs)) := by
    unfold Instr.buildSlice
    simp only [Sem.run_bind, hu, hs, Result.andThen_ok, Nat.one_mul]
    rw [if_neg (by omega), if_neg (by omega)]
    simp only [Sem.run_bind, hz, Result.andThen_ok, Sem.run_pure]
    have hc := hfill ((Array.range sz).map (fun x => zv.cells[x % zv.cells.size]!)).toList (by simp)
    simp only [Array.toArray_toList] at hc
    simp only [hc, newRow, run_newObj, Sem.run_pure]
    simp
  refine op_of (v := .slice (some ⟨w.heap.size, 0, none⟩) 1 1) (w' := w.alloc (vs e cs)) ?_ (k _ _ (h.alloc _))
  simp only [execOp, List.map_toArray, hp, Sem.run_bind, hrun, Result.andThen_ok, Sem.run_pure]
/-- copy into the bytes behind some cells. -/
theorem op_copyBR {b n q N dn dc : Nat} {pre : List Value} {xs ys : List (BitVec 8)} {T : TypeId} (h : Has E w L) (hx : a.eval x = .slice (some ⟨b, N, none⟩) dn dc) (hy : a.eval y = s) [am : At L b (bsR T pre xs) n] (hN : pre.length = N) (hs : Sl L s ys)
    (hu : ∀ w, (underlying t).run P w = .ok (.slice e) w) (hz : ∀ w, (sizeOf e).run P w = .ok 1 w) (hq : min ys.length dn = q) (hfit : q ≤ xs.length)
    (k : ∀ w', Has E w' (L.set n (b, bsR T pre (ys.take q ++ xs.drop q))) → K (a.put dst (.int .i64 (q : Int))) w') : OW P a w K Q (Oper.mk dst (.call ⟨.builtin .copy, #[x, y], #[t, t']⟩) ty pos after g) :=
  op_copy (l := pre ++ xs.map B) h hx hy hs hu hz hq (by simp; omega) oneB fun w' h' => k w' (by
    have e1 : (pre ++ xs.map B).take N ++ (ys.map B).take (q * 1) ++ (pre ++ xs.map B).drop (N + q * 1) = pre ++ (ys.take q ++ xs.drop q).map B := by
      subst hN
      rw [List.take_left, ← List.drop_drop, List.drop_left, Nat.mul_one, List.map_append, List.map_take, List.map_drop, List.append_assoc]
    rw [e1] at h'; exact h')
/-- copy into a slice of one's own, from a place on: the slice stays what it was. -/
theorem op_copyOwn {T : TypeId} {Ls : List (Nat × Obj)} {xs ys : List (BitVec 8)} {lo : Nat} (h : Has E w (Ls ++ F)) (ho : OwnB T s xs Ls) (hx : a.eval x = cutL s lo 1) (hy : a.eval y = s') (hs : Sl (Ls ++ F) s' ys)
    (hu : ∀ w, (underlying t).run P w = .ok (.slice e) w) (hz : ∀ w, (sizeOf e).run P w = .ok 1 w) (hlo : lo < xs.length) (hfit : lo + ys.length ≤ xs.length)
    (k : ∀ Ls' w', OwnB T s (xs.take lo ++ ys ++ xs.drop (lo + ys.length)) Ls' → Has E w' (Ls' ++ F) → K (a.put dst (.int .i64 (ys.length : Int))) w') : OW P a w K Q (Oper.mk dst (.call ⟨.builtin .copy, #[x, y], #[t, t']⟩) ty pos after g) := by
  rcases ho with ⟨A, rfl, hn, _⟩ | ⟨b, c, junk, rfl, h1, h2, h3, rfl⟩
  · omega
  · have hx' : a.eval x = .slice (some ⟨b, lo, none⟩) (xs.length - lo) (c - lo) := by
      rw [hx]; simp only [cutL]; rw [if_neg (by omega)]; simp [add_mk]
    refine op_copy (l := xs.map B ++ junk) (n := 0) (am := ⟨rfl⟩) h hx' hy hs hu hz (q := ys.length) (by omega) (by simp; omega) oneB fun w' h' => ?_
    have e1 : (xs.map B ++ junk).take lo ++ (ys.map B).take (ys.length * 1) ++ (xs.map B ++ junk).drop (lo + ys.length * 1) = (xs.take lo ++ ys ++ xs.drop (lo + ys.length)).map B ++ junk := by
      rw [List.take_append_of_le_length (by simp; omega), List.take_of_length_le (l := ys.map B) (by simp), Nat.mul_one, List.drop_append_of_le_length (by simp; omega)]
      simp only [List.map_append, List.map_take, List.map_drop, List.append_assoc]
    rw [e1] at h'
    have hl : (xs.take lo ++ ys ++ xs.drop (lo + ys.length)).length = xs.length := by simp; omega
    exact k [(b, vs T ((xs.take lo ++ ys ++ xs.drop (lo + ys.length)).map B ++ junk))] w' (.inr ⟨b, c, junk, by rw [hl], by simp, by simp only [List.length_map] at h2 ⊢; rw [hl]; exact h2, by rw [hl]; exact h3, rfl⟩) h'
theorem op_appendBz {T : TypeId} {i : TypeInfo} {ik : IntKind} {m : Nat} {Ls : List (Nat × Obj)} {xs : List (BitVec 8)} (h : Has E w (Ls ++ F)) (hx : a.eval x = s) (hy : a.eval y = .int .i64 (m : Int)) (ho : OwnB T s xs Ls)
    (hT : e = T) (hu : ∀ w, (underlying t).run P w = .ok (.slice e) w) (hi : ∀ w, (typeInfo e).run P w = .ok i w) (hi' : ∀ w, (underlying t').run P w = .ok (.int ik) w) (hz : ∀ w, (sizeOf e).run P w = .ok 1 w) (hzv : ∀ w, (zeroValue e).run P w = .ok (.int .u8 0) w)
    (hb : (xs.length + m) * i.bytes ≤ 140737488355328) (hnm : xs.length + m ≤ 4611686018427387904)
    (k : ∀ s'' Ls' w', OwnB T s'' (xs ++ List.replicate m 0) Ls' → Has E w' (Ls' ++ F) → K (a.put dst s'') w') : OW P a w K Q (Oper.mk dst (.call ⟨.builtin .append, #[x, y], #[t, t']⟩) ty pos after g) :=
  op_append_zeros (td := .bool) h hx hy ho hT hu hi hi' hz hzv rfl rfl hb hnm fun s'' Ls' w' h1 h2 => k s'' Ls' w' (by simpa [OwnB, B] using h1) h2
theorem r_add_wrap {m n : Int} (hx : a.eval x = .int .i64 m) (hy : a.eval y = .int .i64 n) : (execOp a.eval ⟨dst, .binOp .add t x y t', ty, pos, after, g⟩).run P w = .ok (.value (.int .i64 (IntKind.i64.wrap (m + n)))) w := by
  simp [execOp, hx, hy, eqGuard, binOp, Op.intArith]
end
section
variable {E : Env} {w : World} {A B C D F : List (Nat × Obj)} {d : Nat × Obj}
theorem Has.only {L : List (Nat × Obj)} (h : Has E w L) (b : Nat) {o : Obj} [m : Mem L b o] : Has E w [(b, o)] :=
  ⟨h.os, h.tape, h.out, fun p hp => by rw [List.mem_singleton.1 hp]; exact h.at_ _ m.mem, by simp⟩
theorem Has.midTail2 (h : Has E w (A ++ (B ++ d :: F))) : Has E w (A ++ (B ++ F)) := h.sub (List.Sublist.append_left (List.Sublist.append_left (List.sublist_cons_self d F) _) _)
theorem Has.appHead (h : Has E w (A ++ B)) : Has E w A := h.sub (List.sublist_append_left A B)
theorem bring_perm : (d :: (A ++ (B ++ (C ++ (D ++ F))))).Perm (d :: (D ++ (A ++ (B ++ (C ++ F))))) := by
  refine List.Perm.cons _ ?_
  have e1 : A ++ (B ++ (C ++ (D ++ F))) = ((A ++ (B ++ C)) ++ D) ++ F := by simp only [List.append_assoc]
  have e2 : D ++ (A ++ (B ++ (C ++ F))) = (D ++ (A ++ (B ++ C))) ++ F := by simp only [List.append_assoc]
  rw [e1, e2]; exact List.Perm.append_right _ List.perm_append_comm
theorem Has.drop4 (h : Has E w (d :: (A ++ (B ++ (C ++ (D ++ F)))))) : Has E w (d :: (A ++ (B ++ (C ++ F)))) :=
  h.sub (List.Sublist.cons_cons _ (List.Sublist.append_left (List.Sublist.append_left (List.Sublist.append_left (List.sublist_append_right D F) _) _) _))
theorem Has.dropB (h : Has E w (d :: (D ++ F))) : Has E w (d :: F) := h.sub (List.Sublist.cons_cons _ (List.sublist_append_right D F))
theorem Has.bring (h : Has E w (d :: (A ++ (B ++ (C ++ (D ++ F)))))) : Has E w (d :: (D ++ (A ++ (B ++ (C ++ F))))) := h.perm bring_perm
theorem Has.unbring (h : Has E w (d :: (D ++ (A ++ (B ++ (C ++ F)))))) : Has E w (d :: (A ++ (B ++ (C ++ (D ++ F))))) := h.perm bring_perm.symm
end
end Go.Proofs.YtjdfenlmifhhdaaDoor
