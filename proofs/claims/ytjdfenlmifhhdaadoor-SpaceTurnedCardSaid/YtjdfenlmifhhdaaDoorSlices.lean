/-
  Slices: what they read, slicing, make, append, copy, conversions of texts. Condition: none.
-/
import Derived.Test.YtjdfenlmifhhdaaDoorOps
namespace Go.Proofs.YtjdfenlmifhhdaaDoor
open Go.RowKit

instance Mem.app {L R : List (Nat × Obj)} {b : Nat} {o : Obj} [h : Mem R b o] : Mem (L ++ R) b o := ⟨List.mem_append_right _ h.mem⟩
instance At.app {L R : List (Nat × Obj)} {b : Nat} {o : Obj} {n : Nat} [h : At R b o n] : At (L ++ R) b o (L.length + n) := ⟨by
  rw [List.getElem?_append_right (by omega)]; simpa using h.get⟩
theorem set_app (L R : List (Nat × Obj)) (n : Nat) (x : Nat × Obj) : (L ++ R).set (L.length + n) x = L ++ R.set n x := by
  rw [List.set_append_right _ _ (by omega)]; simp

/-- What a slice reads: n elements of sz cells each. -/
def Rd (L : List (Nat × Obj)) (sz : Nat) (s : Value) (n : Nat) (l : List Value) : Prop :=
  l.length = n * sz ∧ ∃ A c, s = .slice A n c ∧ n ≤ c ∧ (0 < n → ∃ g off cs T fz, A = some ⟨g, off, none⟩ ∧ (g, Obj.cells cs T fz) ∈ L ∧ ∀ j v, l[j]? = some v → cs[off + j]? = some v)
/-- .. of bytes. -/
abbrev Sl (L : List (Nat × Obj)) (s : Value) (xs : List (BitVec 8)) : Prop := Rd L 1 s xs.length (xs.map B)

section rd
variable {L L' : List (Nat × Obj)} {sz n : Nat} {s : Value} {l : List Value}
theorem Rd.mono (h : Rd L sz s n l) (hs : ∀ p ∈ L, p ∈ L') : Rd L' sz s n l := by
  obtain ⟨h1, A, c, e, hc, h2⟩ := h
  refine ⟨h1, A, c, e, hc, fun hn => ?_⟩
  obtain ⟨g, off, cs, T, fz, e, hm, hv⟩ := h2 hn
  exact ⟨g, off, cs, T, fz, e, hs _ hm, hv⟩
theorem Rd.cons {x : Nat × Obj} (h : Rd L sz s n l) : Rd (x :: L) sz s n l := h.mono fun _ hp => List.mem_cons_of_mem _ hp
theorem Rd.app (L₀ : List (Nat × Obj)) (h : Rd L sz s n l) : Rd (L₀ ++ L) sz s n l := h.mono fun _ hp => List.mem_append_right _ hp
theorem Rd.nil {A : Option Addr} {c : Nat} : Rd L sz (.slice A 0 c) 0 [] := ⟨by simp, A, c, rfl, by omega, fun h => by omega⟩
theorem Rd.mk {g off c : Nat} {cs : List Value} {T : TypeId} {fz : Nat × Nat} [m : Mem L g (.cells cs.toArray T fz)] (hn : n ≤ c) (hl : off + n * sz ≤ cs.length) : Rd L sz (.slice (some ⟨g, off, none⟩) n c) n ((cs.drop off).take (n * sz)) := by
  refine ⟨by simp; omega, _, _, rfl, hn, fun h => ⟨g, off, _, T, fz, rfl, m.mem, fun j v hv => ?_⟩⟩
  rw [List.getElem?_take] at hv
  split at hv
  · simpa using hv
  · cases hv
theorem Sl.mk {g off n c : Nat} {t : List (BitVec 8)} {T : TypeId} {fz : Nat × Nat} [m : Mem L g (.cells (t.map B).toArray T fz)] (hn : n ≤ c) (hl : off + n ≤ t.length) : Sl L (.slice (some ⟨g, off, none⟩) n c) ((t.drop off).take n) := by
  have h := Rd.mk (L := L) (sz := 1) (n := n) (c := c) (off := off) (T := T) (g := g) (cs := t.map B) hn (by simpa using hl)
  have e : ((t.drop off).take n).length = n := by simp; omega
  rw [← List.map_drop, ← List.map_take] at h
  rw [Nat.mul_one] at h
  unfold Sl
  rw [e]; exact h
theorem Sl.all {g n c : Nat} {t : List (BitVec 8)} {T : TypeId} {fz : Nat × Nat} [m : Mem L g (.cells (t.map B).toArray T fz)] (hn : n ≤ c) (hl : t.length = n) : Sl L (.slice (some ⟨g, 0, none⟩) n c) t := by
  have h := Sl.mk (L := L) (g := g) (off := 0) (n := n) (c := c) (t := t) (T := T) hn (by omega)
  simpa [← hl] using h

/-- A slice of a slice. -/
theorem Rd.cut (h : Rd L sz s n l) {lo hi mx : Nat} (h1 : lo ≤ hi) (h2 : hi ≤ n) (h3 : hi ≤ mx) : ∃ A c, s = .slice A n c ∧ n ≤ c ∧ Rd L sz (.slice (if mx = lo then A else A.map (·.add (lo * sz))) (hi - lo) (mx - lo)) (hi - lo) ((l.take (hi * sz)).drop (lo * sz)) := by
  obtain ⟨hl, A, c, e, hc, hr⟩ := h
  have hm1 : lo * sz ≤ hi * sz := Nat.mul_le_mul_right _ h1
  have hm2 : hi * sz ≤ n * sz := Nat.mul_le_mul_right _ h2
  refine ⟨A, c, e, hc, by simp only [List.length_drop, List.length_take, Nat.sub_mul]; omega, _, _, rfl, by omega, fun hp => ?_⟩
  obtain ⟨g, off, cs, T, fz, rfl, hm, hv⟩ := hr (by omega)
  rw [if_neg (by omega)]
  refine ⟨g, off + lo * sz, cs, T, fz, by simp [add_mk], hm, fun j v hj => ?_⟩
  rw [List.getElem?_drop, List.getElem?_take] at hj
  split at hj
  · rw [Nat.add_assoc]; exact hv _ v hj
  · cases hj
theorem Sl.get {xs : List (BitVec 8)} (h : Sl L s xs) : ∃ A c, s = .slice A xs.length c ∧ xs.length ≤ c := by
  obtain ⟨_, A, c, e, hc, _⟩ := h; exact ⟨A, c, e, hc⟩
end rd

section ops
variable {P : Program} {E : Env} {w : World} {L F : List (Nat × Obj)} {a : Act} {K : Act → World → Prop} {Q : Exit → Act → World → Prop}
variable {dst : Option Tmp} {ty : TypeId} {pos : String} {after : Array Edge} {g : Option (Nat × Bool)} {x y z : Operand} {v u s s' : Value} {t t' e : TypeId} {n m sz : Nat} {l : List Value}

theorem r_len (hx : a.eval x = s) (hs : Rd L sz s n l) (hu : ∀ w, (underlying t).run P w = .ok (.slice e) w) : (execOp a.eval ⟨dst, .call ⟨.builtin .len, #[x], #[t]⟩, ty, pos, after, g⟩).run P w = .ok (.value (.int .i64 (n : Int))) w := by
  obtain ⟨_, A, c, rfl, _, _⟩ := hs
  simp [execOp, resolve, invoke, builtin, Builtin.len_, hx, hu, goInt]
theorem r_len_sl {xs : List (BitVec 8)} (hx : a.eval x = s) (hs : Sl L s xs) (hu : ∀ w, (underlying t).run P w = .ok (.slice e) w) : (execOp a.eval ⟨dst, .call ⟨.builtin .len, #[x], #[t]⟩, ty, pos, after, g⟩).run P w = .ok (.value (.int .i64 (xs.length : Int))) w := r_len hx hs hu
theorem r_len_v {A : Option Addr} {c : Nat} (hx : a.eval x = .slice A n c) (hu : ∀ w, (underlying t).run P w = .ok (.slice e) w) : (execOp a.eval ⟨dst, .call ⟨.builtin .len, #[x], #[t]⟩, ty, pos, after, g⟩).run P w = .ok (.value (.int .i64 (n : Int))) w := by
  simp [execOp, resolve, invoke, builtin, Builtin.len_, hx, hu, goInt]
theorem r_len_arr {k : Nat} (hu : ∀ w, (underlying t).run P w = .ok (.array k e) w) : (execOp a.eval ⟨dst, .call ⟨.builtin .len, #[x], #[t]⟩, ty, pos, after, g⟩).run P w = .ok (.value (.int .i64 (k : Int))) w := by
  simp [execOp, resolve, invoke, builtin, Builtin.len_, hu, goInt]
theorem r_cap_v {A : Option Addr} {c : Nat} (hx : a.eval x = .slice A n c) (hu : ∀ w, (underlying t).run P w = .ok (.slice e) w) : (execOp a.eval ⟨dst, .call ⟨.builtin .cap, #[x], #[t]⟩, ty, pos, after, g⟩).run P w = .ok (.value (.int .i64 (c : Int))) w := by
  simp [execOp, resolve, invoke, builtin, Builtin.cap_, hx, hu, goInt]
theorem r_min {p q r : Int} {ts : Array TypeId} (hx : a.eval x = .int .i64 p) (hy : a.eval y = .int .i64 q) (hr : min p q = r) : (execOp a.eval ⟨dst, .call ⟨.builtin .min, #[x, y], ts⟩, ty, pos, after, g⟩).run P w = .ok (.value (.int .i64 r)) w := by
  have : (if q < p then q else p) = r := by omega
  simp [execOp, resolve, invoke, builtin, Builtin.min_, Builtin.min2, hx, hy, this]
theorem r_max {p q r : Int} {ts : Array TypeId} (hx : a.eval x = .int .i64 p) (hy : a.eval y = .int .i64 q) (hr : max p q = r) : (execOp a.eval ⟨dst, .call ⟨.builtin .max, #[x, y], ts⟩, ty, pos, after, g⟩).run P w = .ok (.value (.int .i64 r)) w := by
  have : (if q > p then q else p) = r := by omega
  simp [execOp, resolve, invoke, builtin, Builtin.max_, Builtin.max2, hx, hy, this]

/-! ### Slicing. What is read is known; the value itself lies behind a letter. -/
theorem bound_nat {k : IntKind} {i y : Nat} {code : BoundsCode} (h : i ≤ y) : (Instr.sliceBound (.int k (i : Int)) y code).run P w = .ok i w := by
  have := run_sliceBound (P := P) w k (i : Int) y code (by omega) (by omega)
  simpa using this
theorem sliceAt_sl {A : Option Addr} {c : Nat} {lo hi mx : Option Value} {l₀ h₀ m₀ : Nat} (hu : ∀ w, (underlying t).run P w = .ok (.slice e) w) (hs : ∀ w, (sizeOf e).run P w = .ok sz w)
    (hb : (Instr.sliceBounds true n c lo hi mx).run P w = .ok (l₀, h₀, m₀) w) : (Instr.sliceAt t (.slice A n c) lo hi mx).run P w = .ok (.slice (if m₀ = l₀ then A else A.map (·.add (l₀ * sz))) (h₀ - l₀) (m₀ - l₀)) w := by
  simp [Instr.sliceAt, Instr.slice, hu, hs, hb]
theorem x_slice_l (hx : a.eval x = s) (hs : Rd L sz s n l) {k : IntKind} {lo : Nat} (hl : a.eval y = .int k (lo : Int)) (h1 : lo ≤ n) (hu : ∀ w, (underlying t).run P w = .ok (.slice e) w) (hz : ∀ w, (sizeOf e).run P w = .ok sz w) :
    ∃ s', Rd L sz s' (n - lo) (l.drop (lo * sz)) ∧ ∀ w, (execOp a.eval ⟨dst, .slice t x (some y) none none, ty, pos, after, g⟩).run P w = .ok (.value s') w := by
  obtain ⟨A, c, rfl, hc⟩ : ∃ A c, s = .slice A n c ∧ n ≤ c := by obtain ⟨_, A, c, e, hc, _⟩ := hs; exact ⟨A, c, e, hc⟩
  obtain ⟨A', c', he, _, hr⟩ := hs.cut (lo := lo) (hi := n) (mx := c) h1 (Nat.le_refl _) hc
  cases he
  have e : l.take (n * sz) = l := List.take_of_length_le (by rw [hs.1]; omega)
  rw [e] at hr
  refine ⟨_, hr, fun w => ?_⟩
  have hb : (Instr.sliceBounds true n c (some (.int k (lo : Int))) none none).run P w = .ok (lo, n, c) w := by simp [Instr.sliceBounds, bound_nat h1]
  simp [execOp, hx, hl, sliceAt_sl (A := A) hu hz hb]
theorem x_slice_h (hx : a.eval x = s) (hs : Rd L sz s n l) {k : IntKind} {hi : Nat} (hh : a.eval y = .int k (hi : Int)) (h1 : hi ≤ n) (hu : ∀ w, (underlying t).run P w = .ok (.slice e) w) (hz : ∀ w, (sizeOf e).run P w = .ok sz w) :
    ∃ s', Rd L sz s' hi (l.take (hi * sz)) ∧ ∀ w, (execOp a.eval ⟨dst, .slice t x none (some y) none, ty, pos, after, g⟩).run P w = .ok (.value s') w := by
  obtain ⟨A, c, rfl, hc⟩ : ∃ A c, s = .slice A n c ∧ n ≤ c := by obtain ⟨_, A, c, e, hc, _⟩ := hs; exact ⟨A, c, e, hc⟩
  obtain ⟨A', c', he, _, hr⟩ := hs.cut (lo := 0) (hi := hi) (mx := c) (by omega) h1 (by omega)
  cases he
  simp only [Nat.zero_mul, List.drop_zero, Nat.sub_zero] at hr
  refine ⟨_, hr, fun w => ?_⟩
  have hb : (Instr.sliceBounds true n c none (some (.int k (hi : Int))) none).run P w = .ok (0, hi, c) w := by simp [Instr.sliceBounds, bound_nat (show hi ≤ c by omega)]
  have := sliceAt_sl (A := A) hu hz hb
  simp only [Nat.zero_mul, Nat.sub_zero] at this
  simp [execOp, hx, hh, this]
theorem x_slice_lh (hx : a.eval x = s) (hs : Rd L sz s n l) {k k' : IntKind} {lo hi : Nat} (hl : a.eval y = .int k (lo : Int)) (hh : a.eval z = .int k' (hi : Int)) (h0 : lo ≤ hi) (h1 : hi ≤ n) (hu : ∀ w, (underlying t).run P w = .ok (.slice e) w) (hz : ∀ w, (sizeOf e).run P w = .ok sz w) :
    ∃ s', Rd L sz s' (hi - lo) ((l.take (hi * sz)).drop (lo * sz)) ∧ ∀ w, (execOp a.eval ⟨dst, .slice t x (some y) (some z) none, ty, pos, after, g⟩).run P w = .ok (.value s') w := by
  obtain ⟨A, c, rfl, hc⟩ : ∃ A c, s = .slice A n c ∧ n ≤ c := by obtain ⟨_, A, c, e, hc, _⟩ := hs; exact ⟨A, c, e, hc⟩
  obtain ⟨A', c', he, _, hr⟩ := hs.cut (lo := lo) (hi := hi) (mx := c) h0 h1 (by omega)
  cases he
  refine ⟨_, hr, fun w => ?_⟩
  have hb : (Instr.sliceBounds true n c (some (.int k (lo : Int))) (some (.int k' (hi : Int))) none).run P w = .ok (lo, hi, c) w := by simp [Instr.sliceBounds, bound_nat (show hi ≤ c by omega), bound_nat h0]
  simp [execOp, hx, hl, hh, sliceAt_sl (A := A) hu hz hb]
theorem x_slice_hm (hx : a.eval x = s) (hs : Rd L sz s n l) {k k' : IntKind} {hi mx : Nat} (hh : a.eval y = .int k (hi : Int)) (hm : a.eval z = .int k' (mx : Int)) (h0 : hi ≤ mx) (h1 : mx ≤ n) (hu : ∀ w, (underlying t).run P w = .ok (.slice e) w) (hz : ∀ w, (sizeOf e).run P w = .ok sz w) :
    ∃ s', Rd L sz s' hi (l.take (hi * sz)) ∧ ∀ w, (execOp a.eval ⟨dst, .slice t x none (some y) (some z), ty, pos, after, g⟩).run P w = .ok (.value s') w := by
  obtain ⟨A, c, rfl, hc⟩ : ∃ A c, s = .slice A n c ∧ n ≤ c := by obtain ⟨_, A, c, e, hc, _⟩ := hs; exact ⟨A, c, e, hc⟩
  obtain ⟨A', c', he, _, hr⟩ := hs.cut (lo := 0) (hi := hi) (mx := mx) (by omega) (by omega) h0
  cases he
  simp only [Nat.zero_mul, List.drop_zero, Nat.sub_zero] at hr
  refine ⟨_, hr, fun w => ?_⟩
  have hb : (Instr.sliceBounds true n c none (some (.int k (hi : Int))) (some (.int k' (mx : Int)))).run P w = .ok (0, hi, mx) w := by simp [Instr.sliceBounds, bound_nat (show mx ≤ c by omega), bound_nat h0]
  have := sliceAt_sl (A := A) hu hz hb
  simp only [Nat.zero_mul, Nat.sub_zero] at this
  simp [execOp, hx, hh, hm, this]
/-- A slice of an array, by its place. -/
theorem sliceAt_arr {b o k : Nat} {lo hi : Option Value} {l₀ h₀ : Nat} (hu : ∀ w, (underlying t).run P w = .ok (.array k e) w) (hs : ∀ w, (sizeOf e).run P w = .ok sz w) (hlt : l₀ < k)
    (hb : (Instr.sliceBounds false k k lo hi none).run P w = .ok (l₀, h₀, k) w) : (Instr.sliceAt t (ptr b o) lo hi none).run P w = .ok (.slice (some ⟨b, o + l₀ * sz, none⟩) (h₀ - l₀) (k - l₀)) w := by
  simp [Instr.sliceAt, Instr.sureAddr, hu, hs, hb, add_mk, show k ≠ l₀ by omega]
theorem r_slice_arr {b o k : Nat} (hx : a.eval x = ptr b o) (hu : ∀ w, (underlying t).run P w = .ok (.array k e) w) (hs : ∀ w, (sizeOf e).run P w = .ok sz w) (hk : 0 < k) :
    (execOp a.eval ⟨dst, .slice t x none none none, ty, pos, after, g⟩).run P w = .ok (.value (.slice (some ⟨b, o, none⟩) k k)) w := by
  have hb : (Instr.sliceBounds false k k none none none).run P w = .ok (0, k, k) w := by simp [Instr.sliceBounds]
  have := sliceAt_arr (b := b) (o := o) hu hs hk hb
  simp only [Nat.zero_mul, Nat.sub_zero, Nat.add_zero] at this
  simp [execOp, hx, this]
theorem r_slice_arr_l {b o k lo : Nat} {kd : IntKind} (hx : a.eval x = ptr b o) (hl : a.eval y = .int kd (lo : Int)) (hu : ∀ w, (underlying t).run P w = .ok (.array k e) w) (hs : ∀ w, (sizeOf e).run P w = .ok sz w) (hk : lo < k) :
    (execOp a.eval ⟨dst, .slice t x (some y) none none, ty, pos, after, g⟩).run P w = .ok (.value (.slice (some ⟨b, o + lo * sz, none⟩) (k - lo) (k - lo))) w := by
  have hb : (Instr.sliceBounds false k k (some (.int kd (lo : Int))) none none).run P w = .ok (lo, k, k) w := by simp [Instr.sliceBounds, bound_nat (show lo ≤ k by omega)]
  simp [execOp, hx, hl, sliceAt_arr (b := b) (o := o) hu hs hk hb]
theorem r_slice_arr_h {b o k hi : Nat} {kd : IntKind} (hx : a.eval x = ptr b o) (hl : a.eval y = .int kd (hi : Int)) (hu : ∀ w, (underlying t).run P w = .ok (.array k e) w) (hs : ∀ w, (sizeOf e).run P w = .ok sz w) (hk : 0 < k) (hh : hi ≤ k) :
    (execOp a.eval ⟨dst, .slice t x none (some y) none, ty, pos, after, g⟩).run P w = .ok (.value (.slice (some ⟨b, o, none⟩) hi k)) w := by
  have hb : (Instr.sliceBounds false k k none (some (.int kd (hi : Int))) none).run P w = .ok (0, hi, k) w := by simp [Instr.sliceBounds, bound_nat hh]
  have := sliceAt_arr (b := b) (o := o) hu hs hk hb
  simp only [Nat.zero_mul, Nat.sub_zero, Nat.add_zero] at this
  simp [execOp, hx, hl, this]
theorem r_slice_arr_lh {b o k lo hi : Nat} {kd kd' : IntKind} (hx : a.eval x = ptr b o) (hl : a.eval y = .int kd (lo : Int)) (hh : a.eval z = .int kd' (hi : Int)) (hu : ∀ w, (underlying t).run P w = .ok (.array k e) w) (hs : ∀ w, (sizeOf e).run P w = .ok sz w) (h0 : lo ≤ hi) (h1 : hi ≤ k) (hk : lo < k) :
    (execOp a.eval ⟨dst, .slice t x (some y) (some z) none, ty, pos, after, g⟩).run P w = .ok (.value (.slice (some ⟨b, o + lo * sz, none⟩) (hi - lo) (k - lo))) w := by
  have hb : (Instr.sliceBounds false k k (some (.int kd (lo : Int))) (some (.int kd' (hi : Int))) none).run P w = .ok (lo, hi, k) w := by simp [Instr.sliceBounds, bound_nat h1, bound_nat h0]
  simp [execOp, hx, hl, hh, sliceAt_arr (b := b) (o := o) hu hs hk hb]
/-- A slice taken for an array: its place. -/
theorem r_arrayPtr {A : Option Addr} {c k : Nat} (hx : a.eval x = .slice A n c) (hu : ∀ w, (underlying t).run P w = .ok (.array k e) w) (hk : k ≤ n) : (execOp a.eval ⟨dst, .sliceToArrayPointer t x, ty, pos, after, g⟩).run P w = .ok (.value (.pointer A)) w := by
  simp [execOp, hx, Instr.arrayAt, hu, show ¬ n < k by omega]
/-- An element's place, through what a slice reads. -/
theorem x_elem (hx : a.eval x = s) (hs : Rd L sz s n l) {k : IntKind} {i : Int} {j : Nat} (hy : a.eval y = .int k i) (hj : i = (j : Int)) (h1 : j < n) (hu : ∀ w, (underlying t).run P w = .ok (.slice e) w) (hz : ∀ w, (sizeOf e).run P w = .ok sz w) :
    ∃ b o cs T fz, (b, Obj.cells cs T fz) ∈ L ∧ (∀ i v, i < sz → l[j * sz + i]? = some v → cs[o + i]? = some v) ∧ ∀ w, (execOp a.eval ⟨dst, .indexAddr t x y, ty, pos, after, g⟩).run P w = .ok (.value (ptr b o)) w := by
  obtain ⟨hl, A, c, rfl, hc, hr⟩ := hs
  obtain ⟨b, off, cs, T, fz, rfl, hm, hv⟩ := hr (by omega)
  refine ⟨b, off + j * sz, cs, T, fz, hm, fun i v hi he => ?_, fun w => r_indexAddr_sl hx hy hu hz hj h1⟩
  rw [Nat.add_assoc]; exact hv _ v he

/-! ### make, append, copy -/
theorem range_map_const (c : Nat) (z : Value) : ((Array.range c).map fun i => (#[z] : Array Value)[i % (#[z] : Array Value).size]!) = (List.replicate c z).toArray := by
  apply Array.ext
  · simp
  · intro i h1 h2
    simp [Nat.mod_one]
theorem zeroCells_one (z : Value) (n : Nat) : Builtin.zeroCells #[z] n = (List.replicate n z).toArray := by
  unfold Builtin.zeroCells
  simpa using range_map_const n z
theorem op_make {zv : Value} {i : TypeInfo} {p q : Nat} (h : Has E w L) (hx : a.eval x = .int .i64 (p : Int)) (hy : a.eval y = .int .i64 (q : Int)) (hpq : p ≤ q) (hu : ∀ w, (underlying t).run P w = .ok (.slice e) w)
    (hi : ∀ w, (typeInfo e).run P w = .ok i w) (hb : q * i.bytes ≤ 281474976710656) (hq : q ≤ 9223372036854775807) (hs : ∀ w, (sizeOf e).run P w = .ok 1 w) (hz : ∀ w, (zeroValue e).run P w = .ok zv w) (hc : zv.cells = #[zv])
    (k : ∀ b w', Has E w' ((b, vs e (List.replicate q zv)) :: L) → K (a.put dst (.slice (some ⟨b, 0, none⟩) p q)) w') : OW P a w K Q (Oper.mk dst (.makeSlice t x y) ty pos after g) := by
  have hp1 : IntKind.i64.wrap (p : Int) = p := IntWalk.i64_in _ (by omega)
  have hq1 : IntKind.i64.wrap (q : Int) = q := IntWalk.i64_in _ (by omega)
  have hb' : ¬ ((i.bytes : Int) * (q : Int) > 2 ^ 48) := by
    have : ((q * i.bytes : Nat) : Int) ≤ 281474976710656 := by omega
    rw [Int.natCast_mul] at this
    rw [Int.mul_comm]; omega
  have hrun : (Instr.makeSlice t (.int .i64 (p : Int)) (.int .i64 (q : Int))).run P w = .ok (.slice (some ⟨w.heap.size, 0, none⟩) p q) (w.alloc (vs e (List.replicate q zv))) := by
    unfold Instr.makeSlice
    simp only [Sem.run_bind, hu, Result.andThen_ok, asInt, asIntOf, Sem.run_pure, hi, hp1, hq1]
    rw [if_neg (by simp only [Bool.or_eq_true, decide_eq_true_eq]; omega)]
    simp only [run_askRoom, Sem.run_bind, Result.andThen_ok, hs, Nat.mul_one, Int.toNat_natCast]
    by_cases h0 : q = 0
    · subst h0
      have e0 : (Array.map (fun _ => (default : Value)) (Array.range 0)) = #[] := by apply Array.ext <;> simp
      simp [newRow, e0]
    · rw [if_neg h0]
      simp only [Sem.run_bind, hz, Result.andThen_ok, hc, Sem.run_pure, newRow, run_newObj, range_map_const]
      rfl
  refine op_of (v := .slice (some ⟨w.heap.size, 0, none⟩) p q) (w' := w.alloc (vs e (List.replicate q zv))) ?_ (k _ _ (h.alloc _))
  simp only [execOp, hx, hy, Sem.run_bind, hrun, Result.andThen_ok, Sem.run_pure]

/-- A slice of the call's own: it begins at the head of a block that nobody else has (or it has no elements). -/
def OwnS (T : TypeId) (sz : Nat) (s : Value) (n : Nat) (l : List Value) (Ls : List (Nat × Obj)) : Prop :=
  (∃ A, s = .slice A 0 0 ∧ n = 0 ∧ l = [] ∧ Ls = []) ∨
  ∃ g c junk, s = .slice (some ⟨g, 0, none⟩) n c ∧ l.length = n * sz ∧ l.length + junk.length = c * sz ∧ n ≤ c ∧ Ls = [(g, vs T (l ++ junk))]
theorem OwnS.rd {T : TypeId} {Ls : List (Nat × Obj)} (h : OwnS T sz s n l Ls) (F : List (Nat × Obj)) : Rd (Ls ++ F) sz s n l := by
  rcases h with ⟨A, rfl, rfl, rfl, rfl⟩ | ⟨g, c, junk, rfl, h1, h2, h3, rfl⟩
  · exact Rd.nil
  · refine ⟨h1, _, _, rfl, h3, fun _ => ⟨g, 0, (l ++ junk).toArray, T, (0, 0), rfl, by simp, fun j v hv => ?_⟩⟩
    have hj : j < l.length := by
      rcases Nat.lt_or_ge j l.length with hlt | hge
      · exact hlt
      · rw [List.getElem?_eq_none hge] at hv; cases hv
    rw [Nat.zero_add, List.getElem?_toArray, List.getElem?_append_left hj]; exact hv
theorem OwnS.nil {T : TypeId} {A : Option Addr} : OwnS T sz (.slice A 0 0) 0 [] [] := .inl ⟨A, rfl, rfl, rfl, rfl⟩
theorem OwnS.rd0 {T : TypeId} {Ls : List (Nat × Obj)} (h : OwnS T sz s n l Ls) : Rd Ls sz s n l := by simpa using h.rd []

theorem run_firstCells (h : Has E w L) (hs : Rd L sz s n l) : (Builtin.firstCells sz n s).run P w = .ok l.toArray w := by
  obtain ⟨hl, A, c, rfl, hc, hr⟩ := hs
  by_cases hn : n = 0
  · subst hn
    have : l = [] := List.eq_nil_of_length_eq_zero (by omega)
    subst this
    cases A with
    | none => simp [Builtin.firstCells]
    | some a => simp [Builtin.firstCells, loadCells, loadCellsFrom]
  · obtain ⟨g, off, cs, T, fz, rfl, hm, hv⟩ := hr (by omega)
    exact run_firstCells_some w sz n ⟨g, off, none⟩ n c l hl fun j v hj => by rw [add_mk, h.cell hm]; exact hv j v hj
theorem run_lenOf (hs : Rd L sz s n l) : (Builtin.lenOf s).run P w = .ok n w := by
  obtain ⟨_, A, c, rfl, _, _⟩ := hs; simp [Builtin.lenOf]

/-- append: a slice of the call's own, and what any slice reads. -/
theorem op_append {T : TypeId} {i : TypeInfo} {zv : Value} {Ls : List (Nat × Obj)} {src : List Value} (h : Has E w (Ls ++ F)) (hx : a.eval x = s) (hy : a.eval y = s') (ho : OwnS T sz s n l Ls) (hs : Rd (Ls ++ F) sz s' m src)
    (hT : e = T) (hu : ∀ w, (underlying t).run P w = .ok (.slice e) w) (hi : ∀ w, (typeInfo e).run P w = .ok i w) (hz : ∀ w, (sizeOf e).run P w = .ok sz w) (hzv : ∀ w, (zeroValue e).run P w = .ok zv w) (hcs : zv.cells.size = sz) (hsz : 0 < sz)
    (hb : (n + m) * i.bytes ≤ 140737488355328) (hnm : n + m ≤ 4611686018427387904) (hone : ∀ v ∈ src, v.oneCell' = true)
    (k : ∀ s'' Ls' w', OwnS T sz s'' (n + m) (l ++ src) Ls' → Has E w' (Ls' ++ F) → K (a.put dst s'') w') : OW P a w K Q (Oper.mk dst (.call ⟨.builtin .append, #[x, y], #[t, t]⟩) ty pos after g) := by
  subst hT
  have hlen : l.length = n * sz := by rcases ho with ⟨A, rfl, rfl, rfl, rfl⟩ | ⟨g, c, junk, rfl, h1, h2, h3, rfl⟩ <;> simp_all
  have hsl : src.length = m * sz := hs.1
  obtain ⟨A, c, hc⟩ : ∃ A c, s = .slice A n c := by rcases ho with ⟨A, rfl, rfl, rfl, rfl⟩ | ⟨g, c, junk, rfl, h1, h2, h3, rfl⟩ <;> exact ⟨_, _, rfl⟩
  have hf := run_firstCells (P := P) h hs
  have hl' := run_lenOf (P := P) (w := w) hs
  have key : ∀ (s'' : Value) (w' : World) (Ls' : List (Nat × Obj)), (Builtin.append_ #[t, t] ty #[s, s']).run P w = .ok s'' w' → OwnS e sz s'' (n + m) (l ++ src) Ls' → Has E w' (Ls' ++ F) →
      OW P a w K Q (Oper.mk dst (.call ⟨.builtin .append, #[x, y], #[t, t]⟩) ty pos after g) := by
    intro s'' w' Ls' hr h1 h2
    refine op_of (v := s'') (w' := w') ?_ (k _ _ _ h1 h2)
    simp [execOp, resolve, invoke, builtin, hx, hy, hr]
  by_cases hfit : n + m ≤ c
  · rcases ho with ⟨A', he, rfl, rfl, rfl⟩ | ⟨g', c', junk, he, h1, h2, h3, rfl⟩
    · rw [hc] at he; cases he
      obtain rfl : m = 0 := by omega
      have hs0 : src = [] := List.eq_nil_of_length_eq_zero (by omega)
      subst hs0
      refine key (.slice A 0 0) w [] ?_ OwnS.nil h
      cases A <;> simp [Builtin.append_, hu, hz, hl', hf, hc, storeCells]
    · rw [hc] at he; cases he
      have hm : (g', vs e (l ++ junk)) ∈ [(g', vs e (l ++ junk))] ++ F := by simp
      have hroom : n * sz + src.length ≤ (l ++ junk).length := by
        have := Nat.mul_le_mul_right sz hfit
        rw [Nat.add_mul] at this
        simp only [List.length_append]; omega
      have hst := run_storeCells_at (P := P) g' (n * sz) e src 0 (l ++ junk).toArray w (h.get hm) (by simpa using hroom) hone
      refine key (.slice (some ⟨g', 0, none⟩) (n + m) c) (w.setRow g' ((l ++ src) ++ junk.drop src.length).toArray) [(g', vs e ((l ++ src) ++ junk.drop src.length))] ?_ ?_ ?_
      · simp only [Builtin.append_, Sem.run_bind, Sem.run_pure, hu, hz, Result.andThen_ok, hc, hl']
        have e1 : ((l ++ junk).toArray.toList.take (n * sz + 0) ++ src ++ (l ++ junk).toArray.toList.drop (n * sz + 0 + src.length)) = (l ++ src) ++ junk.drop src.length := by
          simp only [Nat.add_zero]
          rw [← hlen, List.take_left]
          rw [show l.length + src.length = l.length + src.length from rfl, List.drop_append]
          simp
        rw [e1] at hst
        simp [hfit, hf, hl', add_mk, hu, hz, hst]
      · exact .inr ⟨g', c, junk.drop src.length, rfl, by simp [hlen, hsl, Nat.add_mul], by
          have := Nat.mul_le_mul_right sz hfit
          rw [Nat.add_mul] at this
          simp only [List.length_append, List.length_drop]; omega, hfit, rfl⟩
      · have := h.row (cs' := ((l ++ src) ++ junk.drop src.length).toArray) 0 (show ([(g', vs e (l ++ junk))] ++ F)[0]? = some (g', vs e (l ++ junk)) from rfl)
        simpa using this
  · have hgrow : ¬ (Builtin.nextslicecap (n + m) c * i.bytes > 2 ^ 48) := by
      have := growslice_fits (need := n + m) (old := c) (bytes := i.bytes) (by omega) hb
      omega
    have hold : (Builtin.firstCells sz n s).run P w.drew = .ok l.toArray w.drew := run_firstCells h.drew (ho.rd F)
    have hnew : (Builtin.firstCells sz m s').run P w.drew = .ok src.toArray w.drew := run_firstCells h.drew hs
    have hcut : ∀ N, (Question.appendCap N c e).forced = false := fun _ => rfl
    let N := grownCap w (n + m) c e
    have hN : n + m ≤ N := grownCap_ge w (n + m) c e
    let junk : List Value := (Builtin.zeroCells zv.cells (N - (n + m))).toList
    have hjunk : junk.length = (N - (n + m)) * sz := by simp [junk, Builtin.zeroCells, hcs]
    have hbig : ¬ (((n + m : Nat) : Int) > IntKind.i64.max ∧ i.bytes = 0) := by
      have : IntKind.i64.max = 9223372036854775807 := rfl
      omega
    refine key (.slice (some ⟨w.heap.size, 0, none⟩) (n + m) N) (w.drew.alloc (vs e ((l ++ src) ++ junk))) [(w.heap.size, vs e ((l ++ src) ++ junk))] ?_ ?_ ?_
    · rw [hc] at hold ⊢
      unfold Builtin.append_
      have hforced : (Question.appendCap (n + m) c e).forced = false := rfl
      have hbig' : ¬ (9223372036854775807 < (n : Int) + (m : Int) ∧ i.bytes = 0) := by omega
      have hgrow' : ¬ 281474976710656 < Builtin.nextslicecap (n + m) c * i.bytes := by omega
      have hd : ({ w with drawn := w.drawn + 1 } : World) = w.drew := rfl
      simp [hu, hz, hl', hfit, hi, hbig', hgrow', IntKind.max, IntKind.bits, IntKind.signed, hforced, hd, hold, hnew, hzv, newRow]
      exact ⟨rfl, by congr 2; apply Array.ext'; simp [junk, N, grownCap]⟩
    · exact .inr ⟨_, _, junk, rfl, by simp [hlen, hsl, Nat.add_mul], by
        simp only [List.length_append, hlen, hsl, hjunk, ← Nat.add_mul]
        congr 1; omega, hN, rfl⟩
    · exact (h.drew.alloc (vs e ((l ++ src) ++ junk))).sub (by
        simp only [List.singleton_append]
        exact (List.sublist_append_right _ _).cons_cons _)
/-- append(s, make([]T, m)...) -/
theorem op_append_zeros {T : TypeId} {i : TypeInfo} {zv : Value} {Ls : List (Nat × Obj)} {td : TypeDesc} {ik : IntKind} (h : Has E w (Ls ++ F)) (hx : a.eval x = s) (hy : a.eval y = .int .i64 (m : Int)) (ho : OwnS T 1 s n l Ls)
    (hT : e = T) (hu : ∀ w, (underlying t).run P w = .ok (.slice e) w) (hi : ∀ w, (typeInfo e).run P w = .ok i w) (hi' : ∀ w, (underlying t').run P w = .ok (.int ik) w) (hz : ∀ w, (sizeOf e).run P w = .ok 1 w) (hzv : ∀ w, (zeroValue e).run P w = .ok zv w) (hcs : zv.cells = #[zv]) (hone1 : zv.oneCell' = true)
    (hb : (n + m) * i.bytes ≤ 140737488355328) (hnm : n + m ≤ 4611686018427387904)
    (k : ∀ s'' Ls' w', OwnS T 1 s'' (n + m) (l ++ List.replicate m zv) Ls' → Has E w' (Ls' ++ F) → K (a.put dst s'') w') : OW P a w K Q (Oper.mk dst (.call ⟨.builtin .append, #[x, y], #[t, t']⟩) ty pos after g) := by
  subst hT
  have hone : ∀ v ∈ List.replicate m zv, v.oneCell' = true := fun v hv => by rw [List.eq_of_mem_replicate hv]; exact hone1
  have hm1 : IntKind.i64.wrap (m : Int) = (m : Int) := IntWalk.i64_in _ (by omega)
  have hmb : ¬ ((m : Int) * (i.bytes : Int) > 2 ^ 48) := by
    have h1 : m * i.bytes ≤ (n + m) * i.bytes := Nat.mul_le_mul_right _ (by omega)
    have h2 : ((m * i.bytes : Nat) : Int) ≤ 140737488355328 := by omega
    rw [Int.natCast_mul] at h2; omega
  have hzc : Builtin.zeroCells zv.cells m = (List.replicate m zv).toArray := by rw [hcs, zeroCells_one]
  have hlen : l.length = n * 1 := by rcases ho with ⟨A, rfl, rfl, rfl, rfl⟩ | ⟨g, c, junk, rfl, h1, h2, h3, rfl⟩ <;> simp_all
  obtain ⟨src, hsrc⟩ : ∃ src, src = List.replicate m zv := ⟨_, rfl⟩
  have hsl : src.length = m * 1 := by subst hsrc; simp
  rw [← hsrc] at hone hzc
  obtain ⟨A, c, hc⟩ : ∃ A c, s = .slice A n c := by rcases ho with ⟨A, rfl, rfl, rfl, rfl⟩ | ⟨g, c, junk, rfl, h1, h2, h3, rfl⟩ <;> exact ⟨_, _, rfl⟩
  have key : ∀ (s'' : Value) (w' : World) (Ls' : List (Nat × Obj)), (Builtin.append_ #[t, t'] ty #[s, .int .i64 (m : Int)]).run P w = .ok s'' w' → OwnS e 1 s'' (n + m) (l ++ src) Ls' → Has E w' (Ls' ++ F) →
      OW P a w K Q (Oper.mk dst (.call ⟨.builtin .append, #[x, y], #[t, t']⟩) ty pos after g) := by
    intro s'' w' Ls' hr h1 h2
    refine op_of (v := s'') (w' := w') ?_ (k _ _ _ (by rw [← hsrc]; exact h1) h2)
    simp [execOp, resolve, invoke, builtin, hx, hy, hr]
  by_cases hfit : n + m ≤ c
  · rcases ho with ⟨A', he, rfl, rfl, rfl⟩ | ⟨g', c', junk, he, h1, h2, h3, rfl⟩
    · rw [hc] at he; cases he
      obtain rfl : m = 0 := by omega
      have hs0 : src = [] := List.eq_nil_of_length_eq_zero (by omega)
      refine key (.slice A 0 0) w [] ?_ (by rw [hs0]; exact OwnS.nil) h
      have hm0 : IntKind.i64.wrap 0 = 0 := by simpa using hm1
      cases A <;> simp [Builtin.append_, hu, hz, hi', hi, asInt, asIntOf, hm0, hc, storeCells]
    · rw [hc] at he; cases he
      have hm : (g', vs e (l ++ junk)) ∈ [(g', vs e (l ++ junk))] ++ F := by simp
      have hroom : n * 1 + src.length ≤ (l ++ junk).length := by
        have := Nat.mul_le_mul_right 1 hfit
        rw [Nat.add_mul] at this
        simp only [List.length_append]; omega
      have hst := run_storeCells_at (P := P) g' (n * 1) e src 0 (l ++ junk).toArray w (h.get hm) (by simpa using hroom) hone
      refine key (.slice (some ⟨g', 0, none⟩) (n + m) c) (w.setRow g' ((l ++ src) ++ junk.drop src.length).toArray) [(g', vs e ((l ++ src) ++ junk.drop src.length))] ?_ ?_ ?_
      · simp only [Builtin.append_, Sem.run_bind, Sem.run_pure, hu, hz, Result.andThen_ok, hc]
        have e1 : ((l ++ junk).toArray.toList.take (n * 1 + 0) ++ src ++ (l ++ junk).toArray.toList.drop (n * 1 + 0 + src.length)) = (l ++ src) ++ junk.drop src.length := by
          simp only [Nat.add_zero]
          rw [← hlen, List.take_left]
          rw [show l.length + src.length = l.length + src.length from rfl, List.drop_append]
          simp
        rw [e1] at hst
        simp only [Nat.mul_one] at hst
        have hm0 : m = 0 → src = [] := fun e => List.eq_nil_of_length_eq_zero (by omega)
        by_cases hmz : m = 0
        · have := hm0 hmz
          subst this
          subst hmz
          have hm0 : IntKind.i64.wrap 0 = 0 := by simpa using hm1
          have hfit' : n ≤ c := by omega
          simp [hfit', hi', hi, asInt, asIntOf, hm0, add_mk, hu, hz] at hst ⊢
          simp [hst]
        · have hneg : ¬ ((m : Int) < 0) := by omega
          have hmb' : ¬ (281474976710656 < (m : Int) * (i.bytes : Int)) := by omega
          simp [hfit, hi', hi, hm1, hneg, hmb', asInt, asIntOf, hzv, hzc, hmz, add_mk, hu, hz, hst]
      · exact .inr ⟨g', c, junk.drop src.length, rfl, by simp [hlen, hsl, Nat.add_mul], by
          have := Nat.mul_le_mul_right 1 hfit
          rw [Nat.add_mul] at this
          simp only [List.length_append, List.length_drop]; omega, hfit, rfl⟩
      · have := h.row (cs' := ((l ++ src) ++ junk.drop src.length).toArray) 0 (show ([(g', vs e (l ++ junk))] ++ F)[0]? = some (g', vs e (l ++ junk)) from rfl)
        simpa using this
  · have hgrow : ¬ (Builtin.nextslicecap (n + m) c * i.bytes > 2 ^ 48) := by
      have := growslice_fits (need := n + m) (old := c) (bytes := i.bytes) (by omega) hb
      omega
    have hold : (Builtin.firstCells 1 n s).run P w.drew = .ok l.toArray w.drew := run_firstCells h.drew (ho.rd F)
    have hcut : ∀ N, (Question.appendCap N c e).forced = false := fun _ => rfl
    let N := grownCap w (n + m) c e
    have hN : n + m ≤ N := grownCap_ge w (n + m) c e
    let junk : List Value := (Builtin.zeroCells zv.cells (N - (n + m))).toList
    have hjunk : junk.length = (N - (n + m)) * 1 := by simp [junk, Builtin.zeroCells, hcs]
    have hbig : ¬ (((n + m : Nat) : Int) > IntKind.i64.max ∧ i.bytes = 0) := by
      have : IntKind.i64.max = 9223372036854775807 := rfl
      omega
    refine key (.slice (some ⟨w.heap.size, 0, none⟩) (n + m) N) (w.drew.alloc (vs e ((l ++ src) ++ junk))) [(w.heap.size, vs e ((l ++ src) ++ junk))] ?_ ?_ ?_
    · rw [hc] at hold ⊢
      unfold Builtin.append_
      have hforced : (Question.appendCap (n + m) c e).forced = false := rfl
      have hbig' : ¬ (9223372036854775807 < (n : Int) + (m : Int)) := by omega
      have hgrow' : ¬ 281474976710656 < Builtin.nextslicecap (n + m) c * i.bytes := by omega
      have hd : ({ w with drawn := w.drawn + 1 } : World) = w.drew := rfl
      have hneg : ¬ ((m : Int) < 0) := by omega
      have hmb' : ¬ (281474976710656 < (m : Int) * (i.bytes : Int)) := by omega
      by_cases hmz : m = 0
      · have hs0 : src = [] := List.eq_nil_of_length_eq_zero (by omega)
        subst hmz
        have hm0 : IntKind.i64.wrap 0 = 0 := by simpa using hm1
        exact absurd (by rcases ho with ⟨A, he, rfl, rfl, rfl⟩ | ⟨g, c, junk, he, h1, h2, h3, rfl⟩ <;> (rw [hc] at he; cases he) <;> omega) hfit
      · simp [hu, hz, hi', hm1, hneg, hmb', asInt, asIntOf, hfit, hi, hbig', hgrow', IntKind.max, IntKind.bits, IntKind.signed, hforced, hd, hold, hzc, hzv, hmz, newRow]
        exact ⟨rfl, by congr 2; apply Array.ext'; simp [junk, N, grownCap]⟩
    · exact .inr ⟨_, _, junk, rfl, by simp [hlen, hsl, Nat.add_mul], by
        simp only [List.length_append, hlen, hsl, hjunk, ← Nat.add_mul]
        congr 1; omega, hN, rfl⟩
    · exact (h.drew.alloc (vs e ((l ++ src) ++ junk))).sub (by
        simp only [List.singleton_append]
        exact (List.sublist_append_right _ _).cons_cons _)

/-- copy into a block of the call's own, of what any slice reads. -/
theorem op_copy {b o dn dc n : Nat} {l src : List Value} {T : TypeId} (h : Has E w L) (hx : a.eval x = .slice (some ⟨b, o, none⟩) dn dc) (hy : a.eval y = s) [am : At L b (vs T l) n] (hs : Rd L sz s m src)
    (hu : ∀ w, (underlying t).run P w = .ok (.slice e) w) (hz : ∀ w, (sizeOf e).run P w = .ok sz w) {q : Nat} (hq : min m dn = q) (hfit : o + q * sz ≤ l.length) (hone : ∀ v ∈ src, v.oneCell' = true)
    (k : ∀ w', Has E w' (L.set n (b, vs T (l.take o ++ src.take (q * sz) ++ l.drop (o + q * sz)))) → K (a.put dst (.int .i64 (q : Int))) w') : OW P a w K Q (Oper.mk dst (.call ⟨.builtin .copy, #[x, y], #[t, t']⟩) ty pos after g) := by
  subst hq
  have hm := List.mem_of_getElem? am.get
  obtain ⟨hl, A, c, rfl, hc, hr⟩ := id hs
  have hs' : Rd L sz (.slice A m c) m src := hs
  have hcut : Rd L sz (.slice A (min m dn) c) (min m dn) (src.take (min m dn * sz)) := by
    have hle : min m dn * sz ≤ m * sz := Nat.mul_le_mul_right _ (Nat.min_le_left _ _)
    refine ⟨by simp only [List.length_take, hl]; omega, A, c, rfl, by omega, fun hp => ?_⟩
    obtain ⟨g', off, cs, T', fz, e1, hm', hv⟩ := hr (by omega)
    refine ⟨g', off, cs, T', fz, e1, hm', fun j v hj => ?_⟩
    rw [List.getElem?_take] at hj
    split at hj
    · exact hv j v hj
    · cases hj
  have hf := run_firstCells (P := P) h hcut
  have hf' : (Builtin.firstCells sz (min m dn) (.slice A m c)).run P w = .ok (src.take (min m dn * sz)).toArray w := by
    cases A with
    | none => simpa [Builtin.firstCells] using hf
    | some ad => simpa [Builtin.firstCells] using hf
  have hlen : (src.take (min m dn * sz)).length = min m dn * sz := by
    have hle : min m dn * sz ≤ m * sz := Nat.mul_le_mul_right _ (Nat.min_le_left _ _)
    simp only [List.length_take, hl]; omega
  have hst := run_storeCells_at (P := P) b o T (src.take (min m dn * sz)) 0 l.toArray w (h.get hm) (by simp only [Nat.add_zero, hlen]; simpa using hfit) (fun v hv => hone v (List.mem_of_mem_take hv))
  simp only [Nat.add_zero, hlen] at hst
  have hmin : Nat.min m dn = min m dn := rfl
  refine op_of (v := .int .i64 ((min m dn : Nat) : Int)) (w' := w.setRow b (l.take o ++ src.take (min m dn * sz) ++ l.drop (o + min m dn * sz)).toArray) ?_ (k _ (h.row n am.get))
  have hrun : (Builtin.copy_ #[t, t'] ty #[.slice (some ⟨b, o, none⟩) dn dc, .slice A m c]).run P w = .ok (.int .i64 ((min m dn : Nat) : Int)) (w.setRow b (l.take o ++ src.take (min m dn * sz) ++ l.drop (o + min m dn * sz)).toArray) := by
    unfold Builtin.copy_
    simp only [Sem.run_bind, Sem.run_pure, hu, hz, Result.andThen_ok, List.getElem?_toArray, List.getElem?_cons_zero, List.getElem?_cons_succ, Builtin.lenOf, hmin, hf']
    simp only [Sem.run_bind, hu, hz, Result.andThen_ok, Sem.run_pure, hmin, hf', hst, goInt]
  simp only [execOp, resolve, invoke, builtin, Sem.run_bind, Sem.run_pure, Result.andThen_ok, List.map_toArray, List.map_cons, List.map_nil, hx, hy, hrun]

/-! ### Texts and bytes -/
/-- []byte of a constant text: as a slice that was built, converted to its own type: the cell behind its end is marked. -/
theorem Has.freeze {b off len : Nat} {cs : Array Value} {T : TypeId} {n : Nat} (h : Has E w L) (hn : L[n]? = some (b, .cells cs T (0, 0))) :
    Has E (w.freeze ⟨b, off, none⟩ 1) (L.set n (b, .cells cs T (off, off + 1))) := by
  refine h.put n hn _ ?_ ?_ ?_ ?_ ?_
  · simp [World.freeze]
  · simp [World.freeze]
  · simp [World.freeze]
  · simp [World.freeze, Array.getElem?_modify, h.get (List.mem_of_getElem? hn)]
  · intro k hk _
    simp only [World.freeze]
    rw [if_neg (by omega)]
    simp only [Array.getElem?_modify]
    rw [if_neg (fun e => hk e.symm)]
theorem op_conv_bytes {b n len c : Nat} {cs : Array Value} {T : TypeId} (h : Has E w L) (hx : a.eval x = .slice (some ⟨b, 0, none⟩) len c) [am : At L b (.cells cs T (0, 0)) n] (hu : ∀ w, (underlying t).run P w = .ok (.slice e) w) (he : ∀ w, (underlying e).run P w = .ok (.int .u8) w)
    (k : ∀ w', Has E w' (L.set n (b, .cells cs T (cs.size, cs.size + 1))) → K (a.put dst (.slice (some ⟨b, 0, none⟩) len c)) w') : OW P a w K Q (Oper.mk dst (.convert t t x) ty pos after g) := by
  have hm := List.mem_of_getElem? am.get
  refine op_of (v := .slice (some ⟨b, 0, none⟩) len c) (w' := w.freeze ⟨b, cs.size, none⟩ 1) ?_ (k _ (h.freeze (len := len) am.get))
  have hsh := h.shape hm
  simp [execOp, hx, convert, hu, he, markStringish, hsh]
/-- []byte of a text. -/
theorem op_conv_string {t₀ : TypeId} {st : ByteArray} (h : Has E w L) (hx : a.eval x = .string st) (h0 : ∀ w, (underlying t₀).run P w = .ok .string w) (hu : ∀ w, (underlying t).run P w = .ok (.slice e) w) (he : ∀ w, (underlying e).run P w = .ok (.int .u8) w)
    (k : ∀ b c cs fz w', st.size ≤ c → Has E w' ((b, .cells ((st.data.toList.map fun u => B u.toBitVec) ++ cs).toArray e fz) :: L) → K (a.put dst (.slice (some ⟨b, 0, none⟩) st.size c)) w') : OW P a w K Q (Oper.mk dst (.convert t₀ t x) ty pos after g) := by
  have hd : ({ w with drawn := w.drawn + 1 } : World) = w.drew := rfl
  let N := grownCap w st.size 0 e
  have hN : st.size ≤ N := grownCap_ge w st.size 0 e
  let cs : List Value := List.replicate (N - st.size) (.int .u8 0)
  let X : List Value := (st.data.toList.map fun u => B u.toBitVec) ++ cs
  have hX : (Array.map (fun (b : UInt8) => Value.int .u8 b.toNat) st.data ++ Array.replicate (N - st.size) (.int .u8 0)) = X.toArray := by
    apply Array.ext'
    simp [X, cs, B]
  have hA : Has E (w.drew.alloc (vs e X)) ((w.heap.size, vs e X) :: L) := h.drew.alloc (vs e X)
  have hs : (w.drew.alloc (vs e X)).shape? w.heap.size = some (e, X.toArray.size) := hA.shape (fz := (0, 0)) (by simp)
  refine op_of (v := .slice (some ⟨w.heap.size, 0, none⟩) st.size N) (w' := (w.drew.alloc (vs e X)).freeze ⟨w.heap.size, X.toArray.size, none⟩ 1) ?_ ?_
  · have hcap : (Question.appendCap st.size 0 e).cut (w.tape w.drawn (Question.appendCap st.size 0 e)) = N := rfl
    have hf : (Question.appendCap st.size 0 e).forced = false := rfl
    have hrun : (Conv.stringToBytes e st).run P w = .ok (.slice (some ⟨w.heap.size, 0, none⟩) st.size N) ((w.drew.alloc (vs e X)).freeze ⟨w.heap.size, X.toArray.size, none⟩ 1) := by
      unfold Conv.stringToBytes
      simp only [Sem.run_bind, run_choose, hf, Bool.false_eq_true, if_false, Result.andThen_ok, hcap, hX, newRow, run_newObj, Sem.run_pure, hd, markStringish, run_shape]
      have e1 : ({ w.drew with heap := w.drew.heap.push (vs e X) } : World) = w.drew.alloc (vs e X) := rfl
      have e2 : w.drew.heap.size = w.heap.size := rfl
      rw [e1, e2, hs]
      rfl
    simp [execOp, hx, convert, h0, hu, he, hrun]
  · have := hA.freeze (b := w.heap.size) (off := X.toArray.size) (len := 0) (n := 0) rfl
    exact k _ _ cs (X.toArray.size, X.toArray.size + 1) _ hN this

def bytesOf (xs : List (BitVec 8)) : ByteArray := ⟨(xs.map UInt8.ofBitVec).toArray⟩
theorem bytesOf_inj {xs ys : List (BitVec 8)} (h : bytesOf xs = bytesOf ys) : xs = ys := by
  unfold bytesOf at h
  have h1 : (xs.map UInt8.ofBitVec).toArray = (ys.map UInt8.ofBitVec).toArray := by injection h
  have h2 : xs.map UInt8.ofBitVec = ys.map UInt8.ofBitVec := by simpa using h1
  have h3 := congrArg (List.map UInt8.toBitVec) h2
  simpa [Function.comp_def] using h3
theorem run_toString : ∀ (xs : List (BitVec 8)) (acc : ByteArray), ((forIn (xs.map B) acc fun c s => match c with
      | .int .u8 n => pure (.yield (s.push (UInt8.ofNat n.toNat)))
      | _ => do
        stuck (α := PUnit) "bytesToString: byte expected"
        pure (.yield s)) : Sem ByteArray).run P w = .ok ⟨acc.data ++ (xs.map UInt8.ofBitVec).toArray⟩ w
  | [], acc => by simp
  | c :: xs, acc => by
    have ih := run_toString xs (acc.push (UInt8.ofBitVec c))
    simp only [List.map_cons, List.forIn_cons, Sem.run_bind]
    have e0 : (match B c with
      | .int .u8 n => pure (.yield (acc.push (UInt8.ofNat n.toNat)))
      | _ => do
        stuck (α := PUnit) "bytesToString: byte expected"
        pure (.yield acc) : Sem (ForInStep ByteArray)) = pure (.yield (acc.push (UInt8.ofNat c.toNat))) := rfl
    rw [e0]
    simp only [Sem.run_pure, Result.andThen_ok]
    have e : UInt8.ofNat c.toNat = UInt8.ofBitVec c := by
      apply UInt8.toBitVec_inj.1
      simp [UInt8.ofNat]
    rw [e]
    rw [ih]
    congr 2
    apply Array.ext'
    simp [ByteArray.push]
/-- string of bytes. -/
theorem r_conv_str {t₁ : TypeId} {xs : List (BitVec 8)} (h : Has E w L) (hx : a.eval x = s) (hs : Sl L s xs) (hu : ∀ w, (underlying t).run P w = .ok (.slice e) w) (he : ∀ w, (underlying e).run P w = .ok (.int .u8) w) (h1 : ∀ w, (underlying t₁).run P w = .ok .string w) :
    (execOp a.eval ⟨dst, .convert t t₁ x, ty, pos, after, g⟩).run P w = .ok (.value (.string (bytesOf xs))) w := by
  have hf := run_firstCells (P := P) h hs
  obtain ⟨_, A, c, rfl, hc, hr⟩ := hs
  have key : (Conv.bytesToString (.slice A xs.length c)).run P w = .ok (.string (bytesOf xs)) w := by
    cases A with
    | none =>
      by_cases h0 : xs.length = 0
      · have : xs = [] := List.eq_nil_of_length_eq_zero h0
        subst this
        rfl
      · obtain ⟨_, _, _, _, _, e1, _⟩ := hr (by omega); cases e1
    | some ad =>
      simp only [Builtin.firstCells, Nat.mul_one] at hf
      simp only [Conv.bytesToString, Sem.run_bind, hf, Result.andThen_ok]
      have := run_toString (P := P) (w := w) xs ByteArray.empty
      rw [← Array.forIn_toList]
      have e : (List.map B xs).toArray.toList = List.map B xs := rfl
      rw [e]
      exact (congrArg (fun r : Result ByteArray => r.andThen fun a w' => Sem.run P (pure (Value.string a)) w') this).trans (by simp [bytesOf])
  simp [execOp, hx, convert, hu, he, h1, key]
theorem r_eql_str {xs ys : List (BitVec 8)} (hx : a.eval x = .string (bytesOf xs)) (hy : a.eval y = .string (bytesOf ys)) : (execOp a.eval ⟨dst, .binOp .eql t x y t', ty, pos, after, g⟩).run P w = .ok (.value (.bool (decide (xs = ys)))) w := by
  have h1 : (bytesOf xs == bytesOf ys) = decide (xs = ys) := by
    have e : (bytesOf xs == bytesOf ys) = ((xs.map UInt8.ofBitVec).toArray == (ys.map UInt8.ofBitVec).toArray) := rfl
    rw [e, Bool.eq_iff_iff, beq_iff_eq, decide_eq_true_eq]
    exact ⟨fun h => bytesOf_inj (by unfold bytesOf; rw [h]), fun h => by rw [h]⟩
  refine exec_bin hx hy rfl ?_
  show (Op.stringOp .eql (bytesOf xs) (bytesOf ys)).run P w = _
  simp only [Op.stringOp, ← beq_toListBytes, h1]
  rfl
end ops
end Go.Proofs.YtjdfenlmifhhdaaDoor
