/-
  Side goals that close by themselves (as values left out): lengths, places, slots. Condition: none.
-/
import Derived.Test.YtjdfenlmifhhdaaDoorWalk
import Derived.Test.YtjdfenlmifhhdaaDoorPure
namespace Go.Proofs.YtjdfenlmifhhdaaDoor
theorem len_of {p : Prop} (h : p := by first | with_reducible assumption | (simp only [List.size_toArray, List.length_map, List.length_set, List.length_replicate, xor16_len, mixed_len, unmixed_len, subShift_len, unsubShift_len]; first | done | with_reducible assumption | omega) | omega | (simp [*]; done)) : p := h
theorem side_of {p : Prop} (h : p := by (simp only [List.length_map, List.length_set, List.length_replicate, List.length_append, List.length_take, List.length_drop, List.length_cons, List.length_nil, Nat.mul_one, Nat.zero_add, Nat.add_zero]; omega)) : p := h
theorem om_of {p : Prop} (h : p := by first | omega | (simp only [List.length_map, List.length_set, List.length_replicate, List.length_append, List.length_take, List.length_drop, List.length_cons, List.length_nil, Nat.mul_one, Nat.zero_add, Nat.add_zero]; omega)) : p := h
theorem pfn_of {p : Prop} (h : p := by simp only [putFn, List.foldl_cons, List.foldl_nil, List.set_cons_zero, List.set_cons_succ, List.getD_cons_zero, List.getD_cons_succ]) : p := h
theorem Has.nm {E : Env} {w : World} {L L' : List (Nat × Obj)} (h : Has E w L) (e : L = L' := by (try simp only [List.set_cons_zero, List.set_cons_succ, set_app, set_app0, setB, setW, setD64, List.take_zero, List.nil_append, List.drop_zero, Nat.zero_add]); rfl) : Has E w L' := e ▸ h
theorem Has.nv {E : Env} {w : World} {L L' : List (Nat × Obj)} (h : Has E w L) (e : L = L' := by (try simp only [ev_c, ev_t, List.getD_cons_zero, List.getD_cons_succ]); rfl) : Has E w L' := e ▸ h
theorem Has.ns {E : Env} {w : World} {L L' : List (Nat × Obj)} (h : Has E w L) (e : L = L' := by (try simp only [ev_c, ev_t, List.getD_cons_zero, List.getD_cons_succ, List.set_cons_zero, List.set_cons_succ, set_app, set_app0]); rfl) : Has E w L' := e ▸ h
end Go.Proofs.YtjdfenlmifhhdaaDoor
