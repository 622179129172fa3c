/-
  SpaceTurned returns true for every input, and each argument reads as it did; her card. Condition: none but what the given card says.
-/
import Derived.Test.YtjdfenlmifhhdaaDoorRow
import Derived.Test.YtjdfenlmifhhdaaDoorLaw4
namespace Go.Proofs.YtjdfenlmifhhdaaDoor.turned
open Go.ChangeShapes Go.WideShapes Go.ChangeAt Go.RowKit

theorem table {W : World} (h : laidMetH Tryd.prog Rows.spaceTurnedRow.laid W) (hs : W.ShapedOpen Tryd.prog) : Mem (allB W) 0 (ws 157 rootsL) := by
  have h1 : Lib.TabIs Tryd.prog W "reliquary/sha.roots" .u32 (rootsL.map fun x => (x.toNat : Int)) := Lib.tabIs_of_head (rest := []) (n := 64) gTab gTabType Tryd.underlying157 Tryd.underlying34 (by kernel_rfl) (by kernel_rfl) h
  obtain ⟨cs, h2, _, _⟩ := hs.1 0 _ 157 (by decide +kernel) root_row
  have h3 : W.var? Tryd.prog "reliquary/sha.roots" = some cs := by
    unfold World.var?; rw [gTab]; simp [h2]
  have h4 : W.var? Tryd.prog "reliquary/sha.roots" = some ((rootsL.map fun x => (x.toNat : Int)).map fun z => Value.int .u32 z).toArray := h1
  rw [h3] at h4
  have h5 := Option.some.inj h4
  subst h5
  exact ⟨mem_allB.2 (h2.trans (by rw [List.map_map]; rfl))⟩

set_option maxRecDepth 100000 in
theorem contract (H : Type) (enc : TypeId × Value → H) (W : World) (base : Nat) (args : Array Value) (ds gs : List (DataW H)) (before : List MemPlace)
    (hval : ∀ (j : Nat) t v, Tryd.f5.params[j]? = some t → args[j]? = some v → Value.okWide Tryd.prog W .any base t v)
    (hW : DataW.Whole enc Tryd.prog Tryd.f5.params.toList Rows.spaceTurnedSpec.vars false W args.toList ds gs before) (hL : laidMetH Tryd.prog Rows.spaceTurnedRow.laid W) (hS : W.ShapedOpen Tryd.prog) :
    Calls Tryd.prog 5 args W fun e W' => ∃ v, e = .returned v ∧ Rows.spaceTurnedSpec.post enc Tryd.prog Tryd.f5 false true false false W args v W' := by
  have hW' := hW
  obtain ⟨p, q, hA, hV, rfl, hfz, hnd⟩ := hW
  rw [Tryd.params5] at hA hval
  obtain ⟨v0, vs0, d0, ds0, p0, q0, hargs, rfl, rfl, h0, r0⟩ := trodAll_cons hA
  obtain ⟨v1, vs1, d1, ds1, p1, q1, rfl, rfl, rfl, h1, r1⟩ := trodAll_cons r0
  obtain ⟨v2, vs2, d2, ds2, p2, q2, rfl, rfl, rfl, h2, r2⟩ := trodAll_cons r1
  obtain ⟨rfl, rfl, rfl⟩ := trodAll_nil r2
  obtain rfl : args = #[v0, v1, v2] := by cases args; simp_all
  obtain ⟨rfl, rfl⟩ := trodVars_none hV
  obtain ⟨key, rfl, hk⟩ := open_arr (k := .u8) (n := 32) rfl Tryd.underlying23 Tryd.underlying5 (by kernel_rfl) (by kernel_rfl) (hval 0 _ v0 rfl rfl)
  obtain ⟨bb, rfl, hbb⟩ := open_arr (k := .u8) (n := 512) rfl Tryd.underlying50 Tryd.underlying5 (by kernel_rfl) (by kernel_rfl) (hval 1 _ v1 rfl rfl)
  obtain ⟨hs, rfl, hhs⟩ := open_arr (k := .u16) (n := 2) rfl Tryd.underlying52 Tryd.underlying51 (by kernel_rfl) (by kernel_rfl) (hval 2 _ v2 rfl rfl)
  obtain ⟨a0, a1, rfl⟩ : ∃ a0 a1, hs = [a0, a1] := by
    match hs, hhs with
    | [a0, a1], _ => exact ⟨a0, a1, rfl⟩
  haveI := table hL hS
  refine Calls.mono (turned_ok (has_all W) (key := key) (bb := bb) (h0 := a0) (h1 := a1) hk hbb) fun e W' ⟨v, he, hv, hh⟩ => ?_
  subst he; subst hv
  exact ⟨_, rfl, post_kept laid_ok hW' rfl (by rw [Tryd.params5]; intro t ht; simp only [List.mem_cons, List.not_mem_nil, or_false] at ht; rcases ht with rfl | rfl | rfl <;> exact ⟨by kernel_rfl, by decide +kernel⟩) hh rfl rfl rfl (by kernel_rfl) Tryd.underlying4⟩

noncomputable def laidWorld (os : Os) : World :=
  { World.holding Tryd.prog os ⟨#[], #[], []⟩ with heap := (World.holding Tryd.prog os ⟨#[], #[], []⟩).heap.modify 0 fun
      | .cells _ t frozen => .cells (rootsL.map W).toArray t frozen
      | o => o }
def wargs : Array Value := #[.agg (List.replicate 32 (Value.int .u8 0)).toArray, .agg (List.replicate 512 (Value.int .u8 0)).toArray, .agg #[.int .u16 0, .int .u16 0]]
theorem laid_met (os : Os) : laidMet Tryd.prog Rows.spaceTurnedRow.laid ((laidWorld os).forCall (fun _ _ => 0) ⟨#[], wargs, []⟩).memory :=
  laidMet_of_run' 8 (by kernel_rfl) (by kernel_rfl)
set_option maxRecDepth 100000 in
theorem reads (os : Os) {H : Type} (enc : TypeId × Value → H) : ∃ places, DataW.whole enc Tryd.prog ((laidWorld os).forCall (fun _ _ => 0) ⟨#[], wargs, []⟩).memory Tryd.f5.params.toList Rows.spaceTurnedSpec.vars false wargs.toList 8 =
    some ([.agg (List.replicate 32 (.lit (.int .u8 0))), .agg (List.replicate 512 (.lit (.int .u8 0))), .agg [.lit (.int .u16 0), .lit (.int .u16 0)]], [], places) :=
  ⟨[], by kernel_rfl⟩
set_option maxRecDepth 100000 in
theorem lifted (os : Os) (started : os.Started) (H : Type) (enc : TypeId × Value → H) (F : Stop.Interp) :
    ReturnsInHanded {} Tryd.checked os 5 .any ((OpenSpec.ofChange Rows.spaceTurnedSpec).preRow enc Tryd.prog Tryd.f5 Rows.spaceTurnedRow.domain false Rows.spaceTurnedRow.laid) (((OpenSpec.ofChange Rows.spaceTurnedSpec).at F).post enc Tryd.prog Tryd.f5 false true false false) := by
  obtain ⟨places, hx⟩ := reads os enc
  refine returnsInHanded_of_row (C := Tryd.checked) (s := OpenSpec.ofChange Rows.spaceTurnedSpec) own started (by kernel_rfl) Tryd.func5
    (witness_row_at (enc := enc) (C := Tryd.checked) false (laidWorld os) wargs rfl (by kernel_rfl) (by kernel_rfl) (by kernel_rfl)
      (OpenSpec.preRow_of_cond 8 hx (by kernel_rfl) (fun k hk => by cases hk) (by kernel_rfl) (laid_met os))) ?_
  intro W base args ds gs before hval hW _ _ _ hL hS _
  exact contract H enc W base args ds gs before hval hW hL hS
theorem said : Rows.SpaceTurnedSaid :=
  OpenClaim.holds_of_cond 5 Tryd.f5 rfl rfl rfl rfl rfl rfl rfl ⟨rfl, rfl, rfl, rfl, rfl⟩ rfl rfl rfl rfl rfl (by kernel_rfl) Tryd.func5 (by kernel_rfl)
    (of_decide_eq_true (by kernel_rfl)) (by unfold Func.isWrapper; first | (rw [if_pos (by decide +kernel)]; kernel_rfl) | (rw [if_neg (by decide +kernel)]; exact ⟨rfl, rfl⟩))
    (fun os started H enc _ F => by rw [OpenClaim.pre_eq_preRow]; exact lifted os started H enc F)
theorem plain (f : FuncId) (fn : Func) (hf : Tryd.pinned.checked.prog.funcNamed "reliquary/reliquarylaw16.SpaceTurned" = some f) (hfn : Tryd.pinned.checked.prog.funcs[f]? = some fn) :
    false = Tryd.pinned.checked.prog.looks [] ∧ ∀ (j : Nat) t, fn.params[j]? = some t → Tryd.pinned.checked.prog.wantsStandIn t = false := by
  obtain rfl : f = 5 := Option.some.inj ((show Tryd.prog.funcNamed "reliquary/reliquarylaw16.SpaceTurned" = some 5 by kernel_rfl).symm.trans hf) |>.symm
  obtain rfl : fn = Tryd.f5 := (Option.some.inj (Tryd.func5.symm.trans hfn)).symm
  refine ⟨by kernel_rfl, fun j t ht => ?_⟩
  have hm := Array.mem_of_getElem? ht
  rw [Tryd.params5] at hm
  simp only [List.mem_toArray, List.mem_cons, List.not_mem_nil, or_false] at hm
  rcases hm with rfl | rfl | rfl
  · exact (show Tryd.prog.wantsStandIn 23 = false by kernel_rfl)
  · exact (show Tryd.prog.wantsStandIn 50 = false by kernel_rfl)
  · exact (show Tryd.prog.wantsStandIn 52 = false by kernel_rfl)
end Go.Proofs.YtjdfenlmifhhdaaDoor.turned
namespace Go.Proofs.YtjdfenlmifhhdaaDoor
theorem spaceTurned_card : Rows.SpaceTurnedCardSaid :=
  Claim7.holds_tied_plain_at .later [] _ _ _ _ turned.said (fun _ h => by cases h) (by kernel_rfl) (fun _ h => by cases h) spaceTurned_row_tie rfl ⟨rfl, rfl⟩ (by kernel_rfl) rfl turned.plain (by kernel_rfl)
#print axioms spaceTurned_card
end Go.Proofs.YtjdfenlmifhhdaaDoor
