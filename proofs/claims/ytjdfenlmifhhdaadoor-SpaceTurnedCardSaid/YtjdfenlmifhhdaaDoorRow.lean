/-
  What the rows share: every block of the world that the call came into stands in the list; arguments opened; the row's promise out of what was kept. Condition: none.
-/
import Derived.Test.YtjdfenlmifhhdaaDoorCards
import Derived.Test.YtjdfenlmifhhdaaDoorTie
import Derived.WalkKit
import Derived.ProofKit
import Derived.OpenShut
import Derived.ReadAgain
import Derived.Deep.DeepHandedRow
import Derived.Lib.LaidTab
import Derived.Test.YtjdfenlmifhhdaaDoorPure3
namespace Go.Proofs.YtjdfenlmifhhdaaDoor
open Go.ChangeShapes Go.WideShapes Go.ChangeAt Go.RowKit

def allB (w : World) : List (Nat × Obj) := w.heap.toList.zipIdx.map fun p => (p.2, p.1)
theorem mem_allB {w : World} {b : Nat} {o : Obj} : (b, o) ∈ allB w ↔ w.heap[b]? = some o := by
  unfold allB
  rw [List.mem_map]
  constructor
  · rintro ⟨⟨o', b'⟩, h, e⟩
    cases e
    have := List.mem_zipIdx_iff_getElem?.1 h
    simpa using this
  · intro h
    exact ⟨(o, b), List.mem_zipIdx_iff_getElem?.2 (by simpa using h), rfl⟩
def envOf (w : World) : Env := ⟨w.os, w.tape, w.output⟩
theorem has_all (w : World) : Has (envOf w) w (allB w) := by
  refine ⟨rfl, rfl, rfl, fun p hp => mem_allB.1 hp, ?_⟩
  unfold allB
  rw [List.map_map]
  have : ((fun x : Nat × Obj => x.1) ∘ fun p : Obj × Nat => (p.2, p.1)) = Prod.snd := rfl
  rw [show (List.map ((fun x => x.1) ∘ fun p : Obj × Nat => (p.2, p.1)) w.heap.toList.zipIdx) = List.map Prod.snd w.heap.toList.zipIdx from rfl, List.zipIdx_map_snd]
  exact List.nodup_range'
theorem kept {w w' : World} (h : Has (envOf w) w' (allB w)) {i : Nat} (hi : i < w.heap.size) : w'.heap[i]? = w.heap[i]? := by
  have e : w.heap[i]? = some w.heap[i] := Array.getElem?_eq_getElem hi
  rw [e]; exact h.at_ _ (mem_allB.2 e)
theorem kept_cell {w w' : World} (h : Has (envOf w) w' (allB w)) {a : Addr} (hi : a.block < w.heap.size) : w'.cell? a = w.cell? a := by
  unfold World.cell?; rw [kept h hi]
theorem kept_frozen {w w' : World} (h : Has (envOf w) w' (allB w)) {a : Addr} (hi : a.block < w.heap.size) : w'.frozen? a = w.frozen? a := by
  unfold World.frozen?; rw [kept h hi]
theorem kept_same {w w' : World} (h : Has (envOf w) w' (allB w)) {p : MemPlace} (hi : p.block < w.heap.size) : w.sameAt w' p := by
  cases p with
  | cell b off => exact kept_cell h hi
  | map b => exact kept h hi
theorem kept_but {w w' : World} (h : Has (envOf w) w' (allB w)) (may : MemPlace → Prop) : w.keptBut w' may := by
  refine ⟨h.os, h.out, fun i hi => ?_⟩
  rw [kept h hi]
  cases hw : w.heap[i]? with
  | none => simp
  | some o => cases o <;> simp
section
variable {H : Type} {enc : TypeId × Value → H} {P : Program}
theorem trod_kept {W W' : World} {t : TypeId} {sp : Nat → Bool} {v : Value} {d : DataW H} {ps : List MemPlace} (hl : laidOutB P = true) (hr : P.readableRec t = true) (hrow : t < P.types.size)
    (h : DataW.Trod enc P W 0 (fun _ => true) true t v d ps) (hsame : ∀ p ∈ ps, W.sameAt W' p) (hs : ∀ p ∈ ps, sp p.block = true) : DataW.Trod enc P W' 0 sp true t v d ps := by
  obtain ⟨n, hn⟩ := h
  exact DataW.Trod.respare (kids_book hl hr) (fun t e ht hu => book_sized hr ht hu) ⟨hrow, book_self t⟩ ⟨n, DataW.trod_carry n _ _ _ hn hsame⟩ hs
theorem trodAll_kept {W W' : World} {sp : Nat → Bool} (hl : laidOutB P = true) : ∀ {ts : List TypeId} {vs : List Value} {ds : List (DataW H)} {ps : List MemPlace}, (∀ t ∈ ts, P.readableRec t = true ∧ t < P.types.size) →
    DataW.TrodAll enc P W 0 (fun _ => true) true ts vs ds ps → (∀ p ∈ ps, W.sameAt W' p) → (∀ p ∈ ps, sp p.block = true) → DataW.TrodAll enc P W' 0 sp true ts vs ds ps
  | [], [], [], _, _, h, _, _ => h
  | _ :: _, _ :: _, _ :: _, _, hT, ⟨p, q, h1, h2, e⟩, h3, h4 => ⟨p, q, trod_kept hl (hT _ (List.mem_cons_self ..)).1 (hT _ (List.mem_cons_self ..)).2 h1 (fun x hx => h3 x (by rw [e]; exact List.mem_append_left _ hx)) (fun x hx => h4 x (by rw [e]; exact List.mem_append_left _ hx)),
      trodAll_kept hl (fun t ht => hT t (List.mem_cons_of_mem _ ht)) h2 (fun x hx => h3 x (by rw [e]; exact List.mem_append_right _ hx)) (fun x hx => h4 x (by rw [e]; exact List.mem_append_right _ hx)), e⟩
/-- What the row promises, where every block is as it was and the answer is true. -/
theorem post_kept {f : Func} {s : ChangeSpec} {W W' : World} {args : Array Value} {ds gs : List (DataW H)} {before : List MemPlace} {b : TypeId} (hl : laidOutB P = true)
    (hW : DataW.Whole enc P f.params.toList s.vars false W args.toList ds gs before) (hv : s.vars = []) (hts : ∀ t ∈ f.params.toList, P.readableRec t = true ∧ t < P.types.size) (hh : Has (envOf W) W' (allB W))
    (hres : (s.fn H (ds ++ gs)).results = [.lit (.bool true)]) (hargs : (s.fn H (ds ++ gs)).args = ds) (hvars : (s.fn H (ds ++ gs)).vars = []) (hrt : f.resultTypes = #[b]) (hb : P.underlying b = some .bool) :
    s.post enc P f false true false false W args (.bool true) W' := by
  have hlt : ∀ p ∈ before, p.block < W.heap.size := fun p hp => hW.lt p hp
  have hold : ∀ p ∈ before, (fun b => decide (b < W.heap.size)) p.block = true := fun p hp => by simpa using hlt p hp
  have hW' := hW
  obtain ⟨p, q, hA, hV, rfl, hz, hn⟩ := hW
  rw [hv] at hV
  obtain ⟨rfl, rfl⟩ := trodVars_none hV
  simp only [List.append_nil] at *
  have hA' : ∀ sp : Nat → Bool, (∀ x ∈ p, sp x.block = true) → DataW.TrodAll enc P W' 0 sp true f.params.toList args.toList (s.fn H ds).args p := fun sp hs => by
    rw [hargs]; exact trodAll_kept hl hts hA (fun x hx => kept_same hh (hlt x hx)) hs
  have hR : ∀ (c : Nat) (sp : Nat → Bool) (hd : Bool), DataW.TrodAll enc P W' c sp hd f.resultTypes.toList ((Value.bool true).resultList f.resultTypes.size) (s.fn H ds).results [] := fun c sp hd => by
    rw [hres, hrt]; exact trodAll_cons_mk (shut_bool hb _) trodAll_mk0
  have hV' : ∀ sp : Nat → Bool, DataW.TrodVars enc P W' sp s.vars (s.fn H ds).vars [] := fun sp => by rw [hv, hvars]; exact hV
  have hok : ∀ (j : Nat) (t : TypeId) (r : Value), f.resultTypes[j]? = some t → ((Value.bool true).resultList f.resultTypes.size)[j]? = some r → Value.okWide P W' .any 0 t r := ok_one hrt rfl (okWide_bool_mk hb _)
  refine ⟨ds, [], p, [], p, [], by simpa using hW', by simpa using hR _ _ _, by simpa using hA' _ hold, by simpa using hV' _, World.keptBut_mono (fun x hx => ⟨hx, Or.inr (Or.inl hx)⟩) (kept_but hh (· ∈ p)), fun _ => ?_⟩
  refine ⟨hok, _, _, ([] ++ p) ++ [], ⟨[] ++ p, [], trodAll_append (hA' _ (fun _ _ => rfl)) (hR _ _ _), hV' _, rfl, ?_, ?_⟩, ?_⟩
  · intro b off hp
    have hp' : MemPlace.cell b off ∈ p := by simpa using hp
    rw [kept_frozen hh (hlt _ hp')]
    exact hz b off hp'
  · intro ha; cases ha
  · intro x hx _
    simpa using hx
end
/-! ### arguments -/
section
variable {P : Program}
theorem list_of {k : IntKind} : ∀ {l : List Value}, (∀ v ∈ l, ∃ x : BitVec k.bits, v = U k x) → ∃ xs : List (BitVec k.bits), l = xs.map (U k)
  | [], _ => ⟨[], rfl⟩
  | v :: l, h => by
    obtain ⟨x, rfl⟩ := h v (List.mem_cons_self ..)
    obtain ⟨xs, rfl⟩ := list_of (fun w hw => h w (List.mem_cons_of_mem _ hw))
    exact ⟨x :: xs, rfl⟩
theorem int_U {k : IntKind} (hk : k.signed = false) {n : Int} (h : k.has n) : ∃ x : BitVec k.bits, Value.int k n = U k x := by
  have h0 : 0 ≤ n ∧ n < (2 ^ k.bits : Nat) := by
    obtain ⟨h1, h2⟩ := h
    cases k <;> first | (simp [IntKind.signed] at hk; done) | (simp only [IntKind.min, IntKind.max, IntKind.bits, IntKind.signed, Bool.false_eq_true, if_false] at *; omega)
  refine ⟨BitVec.ofNat _ n.toNat, ?_⟩
  unfold U
  rw [BitVec.toNat_ofNat, Nat.mod_eq_of_lt (by omega)]
  congr 1; omega
theorem open_arr {W : World} {k : IntKind} (hk : k.signed = false) {t e : TypeId} {n base : Nat} {v : Value} (ht : P.underlying t = some (.array n e)) (he : P.underlying e = some (.int k)) (hc : P.cellTypes P.depth t = some (List.replicate n e)) (hsz : P.cellsOf t = n)
    (hv : Value.okWide P W .any base t v) : ∃ xs : List (BitVec k.bits), v = .agg (xs.map (U k)).toArray ∧ xs.length = n := by
  simp only [Value.okWide, ht] at hv
  obtain ⟨cs, rfl, hcs, ts, hts, _, hcell⟩ := hv
  rw [hc] at hts
  obtain rfl := Option.some.inj hts
  obtain ⟨xs, hxs⟩ := list_of (k := k) (l := cs.toList) (fun v hv => by
    obtain ⟨i, hi⟩ := List.mem_iff_getElem?.1 hv
    obtain ⟨u, hu, hok⟩ := hcell i v (by simpa using hi)
    have hue : u = e := List.eq_of_mem_replicate (List.mem_of_getElem? hu)
    subst hue
    simp only [Cell.okWide, he, Cell.ok] at hok
    cases v <;> first | (simp only at hok; obtain ⟨rfl, hh⟩ := hok; exact int_U hk hh) | (simp at hok))
  refine ⟨xs, by rw [← hxs], ?_⟩
  have := congrArg List.length hxs
  simp at this; omega
theorem open_sl {H : Type} {enc : TypeId × Value → H} {W : World} {t e : TypeId} {base : Nat} {v : Value} {d : DataW H} {ps : List MemPlace} (ht : P.underlying t = some (.slice e)) (he : P.underlying e = some (.int .u8)) (hc : P.cellsOf e = 1)
    (hv : Value.okWide P W .any base t v) (h : DataW.Trod enc P W 0 (fun _ => true) true t v d ps) : ∃ xs : Bytes, Sl (allB W) v xs := by
  obtain ⟨n, hn⟩ := h
  simp only [Value.okWide, ht, Cell.okWide] at hv
  have hsl : ∃ A len cap, v = .slice A len cap := by
    cases v <;> first | exact ⟨_, _, _, rfl⟩ | (simp [Cell.ok, ht] at hv)
  obtain ⟨A, len, cap, rfl⟩ := hsl
  rcases open_ints ht he hc hn with ⟨hcs, _⟩ | ⟨a, len', cap', zs, hcs, _, hl, hm, hz, _, hcell, hwz⟩
  · simp [Value.cells] at hcs
    obtain ⟨rfl, rfl, rfl⟩ := hcs
    exact ⟨[], Rd.nil⟩
  · simp [Value.cells] at hcs
    obtain ⟨rfl, rfl, rfl⟩ := hcs
    simp only [if_true] at hz
    have hbyte : ∀ z ∈ zs, Value.int .u8 z = B (BitVec.ofNat 8 z.toNat) := fun z hz => by
      have h2 := hwz z hz
      have h3 : IntKind.u8.min = 0 := rfl
      have h4 : IntKind.u8.max = 255 := rfl
      simp only [Lit.wf, Bool.and_eq_true, decide_eq_true_eq] at h2
      show Value.int .u8 z = Value.int .u8 (((BitVec.ofNat 8 z.toNat).toNat : Nat) : Int)
      rw [BitVec.toNat_ofNat, Nat.mod_eq_of_lt (by omega)]
      congr 1; omega
    have hlen : ((zs.take len).map fun z => BitVec.ofNat 8 z.toNat).length = len := by simp; omega
    refine ⟨(zs.take len).map fun z => BitVec.ofNat 8 z.toNat, ?_⟩
    refine ⟨by simp, some a, cap, by rw [hlen], by rw [hlen]; exact hl, fun hp => ?_⟩
    rw [hlen] at hp
    have h0 := hcell 0 (by omega)
    simp only [Cell.ok, ht] at hv
    obtain ⟨_, _, _, hspot, _⟩ := hv
    obtain ⟨blk, off, spot⟩ := a
    simp only at hspot
    subst hspot
    simp only [World.cell?, add_mk] at h0 hcell
    cases hh : W.heap[blk]? with
    | none => rw [hh] at h0; cases h0
    | some o =>
      rw [hh] at h0 hcell
      cases o <;> first | (simp at h0; done) | skip
      rename_i cs T fz
      refine ⟨blk, off, cs, T, fz, rfl, mem_allB.2 hh, fun j v hj => ?_⟩
      rw [List.map_map, List.getElem?_map] at hj
      obtain ⟨z, hz1, rfl⟩ := Option.map_eq_some_iff.1 hj
      have hj2 : j < len := by
        have := (List.getElem?_eq_some_iff.1 hz1).1
        simp at this; omega
      have := hcell j (by omega)
      simp only [Option.isSome_none, Bool.false_eq_true, if_false] at this
      rw [this]
      have hz2 : zs[j]? = some z := by rw [List.getElem?_take, if_pos hj2] at hz1; exact hz1
      simp only [List.getD, hz2, Option.getD_some, Function.comp]
      rw [hbyte z (List.mem_of_getElem? hz2)]
end
/-! ### the table of roots -/
theorem root_row : ((begin Tryd.prog (fun _ _ => 0) default).world.heap[0]?).bind Obj.row? = some ((List.replicate 64 (Value.int .u32 0)).toArray, 157) := by kernel_rfl
theorem own : ownKnob Tryd.prog.godebug = none := by kernel_rfl
theorem laid_ok : laidOutB Tryd.prog = true := by kernel_rfl
theorem gTab : Tryd.prog.globalNamed "reliquary/sha.roots" = some 0 := by kernel_rfl
theorem gTabType : (Tryd.prog.globals[0]?).map (·.type) = some 157 := by kernel_rfl
end Go.Proofs.YtjdfenlmifhhdaaDoor
