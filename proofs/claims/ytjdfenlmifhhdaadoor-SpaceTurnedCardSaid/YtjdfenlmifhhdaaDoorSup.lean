/-
  Walks, printed by mk.py (a program of this work) out of specs12.py: what the Go functions compute, and that nobody else's memory turns. Condition: none.
-/
import Derived.Test.YtjdfenlmifhhdaaDoorProg
import Derived.Test.YtjdfenlmifhhdaaDoorAuto
import Derived.Test.YtjdfenlmifhhdaaDoorSha3
import Derived.Test.YtjdfenlmifhhdaaDoorEql
namespace Go.Proofs.YtjdfenlmifhhdaaDoor
open Go.RowKit

theorem eqInt (d : Nat) : EqT Tryd.prog (d + 1) 3 1 (IsInt .i64) := EqT.int (by kernel_rfl) Tryd.isAgg3

theorem eqU32 (d : Nat) : EqT Tryd.prog (d + 1) 34 1 (IsInt .u32) := EqT.int (by kernel_rfl) Tryd.isAgg34

theorem eqU8 (d : Nat) : EqT Tryd.prog (d + 1) 5 1 (IsInt .u8) := EqT.int (by kernel_rfl) Tryd.isAgg5

theorem eqGeo (d : Nat) : EqT Tryd.prog (d + 2) 33 2 (fun l => IsInt .i64 (l.take 1) ∧ IsInt .i64 (l.drop 1)) :=
  EqT.struct2 (f1 := (Field.mk "Clusters" 3 0 false "" "" 0)) (f2 := (Field.mk "Per" 3 1 false "" "" 8)) (by kernel_rfl) (by kernel_rfl) (by kernel_rfl) Tryd.isAgg33 Tryd.sizeOf33 rfl rfl rfl rfl rfl (eqInt d) (eqInt d)

theorem eqSum (d : Nat) : EqT Tryd.prog (d + 2) 35 32 (fun l => ∀ i, i < 32 → (IsInt .u8) ((l.drop (i * 1)).take 1)) := by
  have hi : Tryd.prog.info? 5 = some Tryd.t5 := by kernel_rfl
  exact EqT.array hi Tryd.sizeOf5 (by kernel_rfl) Tryd.isAgg35 Tryd.sizeOf35 rfl (eqU8 d)

theorem eqRef (d : Nat) : EqT Tryd.prog (d + 3) 37 33 (fun l => IsInt .u32 (l.take 1) ∧ (fun l => ∀ i, i < 32 → (IsInt .u8) ((l.drop (i * 1)).take 1)) (l.drop 1)) :=
  EqT.struct2 (f1 := (Field.mk "At" 34 0 false "" "" 0)) (f2 := (Field.mk "Sum" 35 1 false "" "" 4)) (by kernel_rfl) (by kernel_rfl) (by kernel_rfl) Tryd.isAgg37 Tryd.sizeOf37 rfl rfl rfl rfl rfl (eqU32 (d + 1)) (eqSum d)

theorem eqNode (d : Nat) : EqT Tryd.prog (d + 4) 43 264 (fun l => ∀ i, i < 8 → (fun l => IsInt .u32 (l.take 1) ∧ (fun l => ∀ i, i < 32 → (IsInt .u8) ((l.drop (i * 1)).take 1)) (l.drop 1)) ((l.drop (i * 33)).take 33)) := by
  have hi : Tryd.prog.info? 37 = some Tryd.t37 := by kernel_rfl
  exact EqT.array hi Tryd.sizeOf37 (by kernel_rfl) Tryd.isAgg43 Tryd.sizeOf43 rfl (eqRef d)

attribute [local irreducible] superB superSum padTo sha be
set_option maxHeartbeats 1000000 in
set_option maxRecDepth 100000 in
theorem may_ok {E : Env} {w : World} {F : List (Nat × Obj)} (h : Has E w F) {c p : Nat} (hc1 : 1 ≤ c) (hc2 : c ≤ 64) (hp1 : 1 ≤ p) (hp2 : p ≤ 2) : Ret Tryd.prog 64 [aggV [i64 c, i64 p]] w fun v w' => v = .bool true ∧ Has E w' F := by
  refine ret_of_wp (l := [aggV [i64 c, i64 p], undef, undef, undef, undef, undef, undef, undef, undef, undef, undef, undef, undef, undef, undef, undef, undef, undef, undef, undef, undef, undef, undef, undef, undef, undef]) Tryd.func64 rfl (by simp only [Tryd.ntmps64, List.size_toArray, List.length_cons, List.length_nil, Nat.reduceAdd, Nat.reduceSub, Array.replicate_succ, Array.replicate_zero, List.push_toArray, List.append_toArray, List.nil_append, List.cons_append]) fun Q hQ => ?_
  refine cw_seq fun K1 hK1 => ?_
  refine cw_region ?_
  refine wl_o fun Ko hKo => ?_
  refine op_box h rfl rfl fun b1 w h => ?_
  refine hKo _ _ _ ?_; clear hKo Ko
  refine wl_p (r_assign rfl) ?_
  refine wl_nil ?_
  refine hK1 _ _ ?_
  clear hK1 K1
  refine cw_seq fun K2 hK2 => ?_
  refine cw_region ?_
  refine wl_p (r_load_all h rfl (by first | rfl | (simp; done) | (exact side_of)) Tryd.isAgg33 Tryd.sizeOf33) ?_
  refine wl_p (r_buildP (ps := []) (pl := [(0, 1), (1, 1)]) (z := [(Value.int IntKind.i64 0), (Value.int IntKind.i64 0)]) rfl (by kernel_rfl) rfl) ?_
  refine wl_p (r_neq_agg (b := true) (eqGeo 9998) Tryd.isAgg33 Tryd.sizeOf33 (by kernel_rfl) rfl rfl rfl rfl ⟨⟨_, rfl⟩, ⟨_, rfl⟩⟩ ⟨⟨_, rfl⟩, ⟨_, rfl⟩⟩ (by simp; omega)) ?_
  refine wl_p (r_move rfl) ?_
  refine wl_pw (r_fieldAddr (off := 0) rfl Tryd.runUnderlying33 rfl Tryd.sizeOf3 rfl rfl) ?_
  refine wl_pw (r_load (v := i64 c) h rfl rfl Tryd.isAgg3) ?_
  refine wl_pw (r_geq_t  (n := 1) rfl rfl (by omega)) ?_
  refine wl_p (r_pick rfl rfl) ?_
  refine wl_p (r_move rfl) ?_
  refine wl_pw (r_fieldAddr (off := 0) rfl Tryd.runUnderlying33 rfl Tryd.sizeOf3 rfl rfl) ?_
  refine wl_pw (r_load (v := i64 c) h rfl rfl Tryd.isAgg3) ?_
  refine wl_pw (r_leq_t  (n := 64) rfl rfl (by omega)) ?_
  refine wl_p (r_pick rfl rfl) ?_
  refine wl_p (r_move rfl) ?_
  refine wl_pw (r_fieldAddr (off := 1) rfl Tryd.runUnderlying33 rfl Tryd.sizeOf3 rfl rfl) ?_
  refine wl_pw (r_load (v := i64 p) h rfl rfl Tryd.isAgg3) ?_
  refine wl_pw (r_geq_t  (n := 1) rfl rfl (by omega)) ?_
  refine wl_p (r_pick rfl rfl) ?_
  refine wl_p (r_move rfl) ?_
  refine wl_pw (r_fieldAddr (off := 1) rfl Tryd.runUnderlying33 rfl Tryd.sizeOf3 rfl rfl) ?_
  refine wl_pw (r_load (v := i64 p) h rfl rfl Tryd.isAgg3) ?_
  refine wl_pw (r_leq_t  (n := 2) rfl rfl (by omega)) ?_
  refine wl_p (r_pick rfl rfl) ?_
  refine wl_p (r_assign rfl) ?_
  refine wl_nil ?_
  refine hK2 _ _ ?_
  clear hK2 K2
  refine wp_ret ?_
  refine (hQ _ _ _ (res_tmp rfl rfl) ?_).1
  try simp only [List.getD_cons_zero, List.getD_cons_succ]
  exact ⟨by trivial, h.tail⟩

set_option maxHeartbeats 1000000 in
set_option maxRecDepth 100000 in
theorem place_ok {E : Env} {w : World} {F : List (Nat × Obj)} (h : Has E w F) {c p : Nat} (hc1 : 1 ≤ c) (hc2 : c ≤ 64) (hp1 : 1 ≤ p) (hp2 : p ≤ 2) (n : BitVec 32) (hn : n.toNat ≤ 65535) : Ret Tryd.prog 44 [aggV [i64 c, i64 p], W n] w fun v w' => v = i64 ((512 * (8 + n.toNat * p) : Nat) : Int) ∧ Has E w' F := by
  have hmul : n.toNat * p ≤ n.toNat * 2 := Nat.mul_le_mul_left _ hp2
  refine ret_of_wp (l := [aggV [i64 c, i64 p], W n, undef, undef, undef, undef, undef, undef, undef, undef, undef, undef, undef, undef, undef, undef, undef, undef, undef]) Tryd.func44 rfl (by simp only [Tryd.ntmps44, List.size_toArray, List.length_cons, List.length_nil, Nat.reduceAdd, Nat.reduceSub, Array.replicate_succ, Array.replicate_zero, List.push_toArray, List.append_toArray, List.nil_append, List.cons_append]) fun Q hQ => ?_
  refine cw_seq fun K1 hK1 => ?_
  refine cw_region ?_
  refine wl_o fun Ko hKo => ?_
  refine op_box h rfl rfl fun b2 w h => ?_
  refine hKo _ _ _ ?_; clear hKo Ko
  refine wl_p (r_assign rfl) ?_
  refine wl_nil ?_
  refine hK1 _ _ ?_
  clear hK1 K1
  refine cw_seq fun K2 hK2 => ?_
  refine cw_seq fun K3 hK3 => ?_
  refine cw_region ?_
  refine wl_p (r_load_all h rfl (by first | rfl | (simp; done) | (exact side_of)) Tryd.isAgg33 Tryd.sizeOf33) ?_
  refine wl_o fun Ko hKo => ?_
  refine op_call [_] Tryd.call64 rfl (may_ok h hc1 hc2 hp1 hp2) ?_
  clear h; rintro _ w ⟨rfl, h⟩
  refine hKo _ _ _ ?_; clear hKo Ko
  refine wl_p (r_not rfl) ?_
  refine wl_p (r_move rfl) ?_
  refine wl_pw (r_move rfl) ?_
  refine wl_pw (r_gtr_f   rfl rfl (by omega)) ?_
  refine wl_p (r_pick_f rfl rfl) ?_
  refine wl_nil ?_
  refine hK3 _ _ ?_
  clear hK3 K3
  refine wp_cond_false rfl ?_
  refine wp_skip ?_
  refine hK2 _ _ ?_
  clear hK2 K2
  refine cw_seq fun K4 hK4 => ?_
  refine cw_region ?_
  refine wl_p (r_move rfl) ?_
  refine wl_p (r_conv_Wi  rfl Tryd.runUnderlying34 Tryd.runUnderlying3 (by omega)) ?_
  refine wl_p (r_fieldAddr (off := 1) rfl Tryd.runUnderlying33 rfl Tryd.sizeOf3 rfl rfl) ?_
  refine wl_p (r_load (v := i64 p) h rfl rfl Tryd.isAgg3) ?_
  refine wl_p (r_mul_n (m := n.toNat)  (n := p)  rfl rfl (by omega)) ?_
  refine wl_p (r_add_n (m := 8)  (n := n.toNat * p)  rfl rfl (by omega)) ?_
  refine wl_p (r_mul_n (m := 8 + n.toNat * p)  (n := 512)  rfl rfl (by omega)) ?_
  refine wl_p (r_assign rfl) ?_
  refine wl_nil ?_
  refine hK4 _ _ ?_
  clear hK4 K4
  refine wp_ret ?_
  refine (hQ _ _ _ (res_tmp rfl rfl) ?_).1
  try simp only [List.getD_cons_zero, List.getD_cons_succ]
  exact ⟨by rw [Nat.mul_comm 512], h.tail⟩

set_option maxHeartbeats 4000000 in
set_option maxRecDepth 100000 in
theorem superput_ok {E : Env} {w : World} {F : List (Nat × Obj)} (h : Has E w F) {c p : Nat} (hc1 : 1 ≤ c) (hc2 : c ≤ 64) (hp1 : 1 ≤ p) (hp2 : p ≤ 2) : Ret Tryd.prog 39 [aggV [i64 c, i64 p]] w fun v w' => ∃ so Ls, v = .tuple #[so, i64 0] ∧ OwnB 5 so (superB c p) Ls ∧ Has E w' (Ls ++ F) := by
  refine ret_of_wp (l := [aggV [i64 c, i64 p], undef, undef, undef, undef, undef, undef, undef, undef, undef, undef, undef, undef, undef, undef, undef, undef, undef, undef, undef, undef, undef, undef]) Tryd.func39 rfl (by simp only [Tryd.ntmps39, List.size_toArray, List.length_cons, List.length_nil, Nat.reduceAdd, Nat.reduceSub, Array.replicate_succ, Array.replicate_zero, List.push_toArray, List.append_toArray, List.nil_append, List.cons_append]) fun Q hQ => ?_
  refine cw_seq fun K1 hK1 => ?_
  refine cw_region ?_
  refine wl_o fun Ko hKo => ?_
  refine op_box h rfl rfl fun b1 w h => ?_
  refine hKo _ _ _ ?_; clear hKo Ko
  refine wl_p (r_assign rfl) ?_
  refine wl_p (r_assign rfl) ?_
  refine wl_nil ?_
  refine hK1 _ _ ?_
  clear hK1 K1
  refine cw_seq fun K2 hK2 => ?_
  refine cw_seq fun K3 hK3 => ?_
  refine cw_region ?_
  refine wl_p (r_load_all h rfl (by first | rfl | (simp; done) | (exact side_of)) Tryd.isAgg33 Tryd.sizeOf33) ?_
  refine wl_o fun Ko hKo => ?_
  refine op_call [_] Tryd.call64 rfl (may_ok h hc1 hc2 hp1 hp2) ?_
  clear h; rintro _ w ⟨rfl, h⟩
  refine hKo _ _ _ ?_; clear hKo Ko
  refine wl_p (r_not rfl) ?_
  refine wl_nil ?_
  refine hK3 _ _ ?_
  clear hK3 K3
  refine wp_cond_false rfl ?_
  refine wp_skip ?_
  refine hK2 _ _ ?_
  clear hK2 K2
  refine cw_seq fun K4 hK4 => ?_
  refine cw_drawnH h (h) (fun i => false) (by kernel_rfl) 18 rfl #[false, false, false, false, false, false, false, false, false, false, false, false, false, false, false, false, false, false] rfl ?_
  clear h; rintro w h hS
  refine dn_p 3 #[false, false, false, true, false, false, false, false, false, false, false, false, false, false, false, false, false, false] ⟨some 10, _, _, _, _, _⟩ rfl (fun w => r_fieldAddr (off := 0) rfl Tryd.runUnderlying33 rfl Tryd.sizeOf3 rfl rfl) ?_
  refine dn_l 4 #[false, false, false, true, true, false, false, false, false, false, false, false, false, false, false, false, false, false] ⟨some 11, _, _, _, _, _⟩ rfl (by first | exact h | exact h.tail | exact h.tail.tail | exact hS) (fun w hS => r_load (v := i64 c) hS rfl rfl Tryd.isAgg3) ?_
  refine dn_p 5 #[false, false, false, true, true, true, false, false, false, false, false, false, false, false, false, false, false, false] ⟨some 12, _, _, _, _, _⟩ rfl (fun w => r_conv_iH (m := c)  rfl Tryd.runUnderlying3 Tryd.runUnderlying51) ?_
  refine dn_p 7 #[false, false, false, true, true, true, false, true, false, false, false, false, false, false, false, false, false, false] ⟨some 14, _, _, _, _, _⟩ rfl (fun w => r_fieldAddr (off := 1) rfl Tryd.runUnderlying33 rfl Tryd.sizeOf3 rfl rfl) ?_
  refine dn_l 8 #[false, false, false, true, true, true, false, true, true, false, false, false, false, false, false, false, false, false] ⟨some 15, _, _, _, _, _⟩ rfl (by first | exact h | exact h.tail | exact h.tail.tail | exact hS) (fun w hS => r_load (v := i64 p) hS rfl rfl Tryd.isAgg3) ?_
  refine dn_p 9 #[false, false, false, true, true, true, false, true, true, true, false, false, false, false, false, false, false, false] ⟨some 16, _, _, _, _, _⟩ rfl (fun w => r_conv_iB (m := p)  rfl Tryd.runUnderlying3 Tryd.runUnderlying5) ?_
  refine dn_dag [7, 8, 9, 13, 17] 23 (fun k => match k with | 0 => 7 | 1 => 8 | 2 => 8 | 3 => 8 | 4 => 8 | 5 => 9 | 6 => 9 | 7 => 9 | 8 => 9 | 9 => 9 | 10 => 9 | 11 => 9 | 12 => 10 | 13 => 10 | 14 => 10 | 15 => 10 | 16 => 10 | 17 => 10 | 18 => 10 | 19 => 11 | 20 => 11 | 21 => 11 | 22 => 11 | _ => 12) (fun k => match k with | 0 => #[true, true, true, true, true, true, true, true, true, true, true, false, false, false, false, false, false, false] | 1 => #[true, true, true, true, true, true, true, true, true, true, false, false, false, false, false, false, false, false] | 2 => #[true, true, true, true, true, true, false, true, true, true, true, false, false, false, false, false, false, false] | 3 => #[true, true, false, true, true, true, true, true, true, true, true, false, false, false, false, false, false, false] | 4 => #[true, false, true, true, true, true, true, true, true, true, true, false, false, false, false, false, false, false] | 5 => #[true, true, true, true, true, true, false, true, true, true, false, false, false, false, false, false, false, false] | 6 => #[true, true, false, true, true, true, true, true, true, true, false, false, false, false, false, false, false, false] | 7 => #[true, true, false, true, true, true, false, true, true, true, true, false, false, false, false, false, false, false] | 8 => #[true, false, true, true, true, true, true, true, true, true, false, false, false, false, false, false, false, false] | 9 => #[true, false, true, true, true, true, false, true, true, true, true, false, false, false, false, false, false, false] | 10 => #[true, false, false, true, true, true, true, true, true, true, true, false, false, false, false, false, false, false] | 11 => #[false, false, true, true, true, true, true, true, true, true, true, false, false, false, false, false, false, false] | 12 => #[true, true, false, true, true, true, false, true, true, true, false, false, false, false, false, false, false, false] | 13 => #[true, false, true, true, true, true, false, true, true, true, false, false, false, false, false, false, false, false] | 14 => #[true, false, false, true, true, true, true, true, true, true, false, false, false, false, false, false, false, false] | 15 => #[true, false, false, true, true, true, false, true, true, true, true, false, false, false, false, false, false, false] | 16 => #[false, false, true, true, true, true, true, true, true, true, false, false, false, false, false, false, false, false] | 17 => #[false, false, true, true, true, true, false, true, true, true, true, false, false, false, false, false, false, false] | 18 => #[false, false, false, true, true, true, true, true, true, true, true, false, false, false, false, false, false, false] | 19 => #[true, false, false, true, true, true, false, true, true, true, false, false, false, false, false, false, false, false] | 20 => #[false, false, true, true, true, true, false, true, true, true, false, false, false, false, false, false, false, false] | 21 => #[false, false, false, true, true, true, true, true, true, true, false, false, false, false, false, false, false, false] | 22 => #[false, false, false, true, true, true, false, true, true, true, true, false, false, false, false, false, false, false] | _ => #[false, false, false, true, true, true, false, true, true, true, false, false, false, false, false, false, false, false]) (fun k f w => match k with | 0 => ∃ (b7 : Nat) (b9 : Nat) (s13 : Value) (L13 : List (Nat × Obj)) (b17 : Nat), f 7 = .slice (some ⟨b7, 0, none⟩) 9 9 ∧ f 8 = .slice (some ⟨b7, 0, none⟩) 9 9 ∧ f 9 = .slice (some ⟨b9, 0, none⟩) 1 1 ∧ f 13 = s13 ∧ f 17 = .slice (some ⟨b17, 0, none⟩) 1 1 ∧ OwnB 5 s13 (be 2 ((BitVec.ofNat 16 c).setWidth 64)) L13 ∧ Has E w ((b17, bs 5 [BitVec.ofNat 8 p]) :: (b9, bs 5 [1#8]) :: (b7, .cells (magicB.map B).toArray 5 (9, 10)) :: (L13 ++ ((b1, vs 33 [i64 c, i64 p]) :: F))) | 1 => ∃ (b7 : Nat) (b9 : Nat) (s13 : Value) (L13 : List (Nat × Obj)), f 7 = .slice (some ⟨b7, 0, none⟩) 9 9 ∧ f 8 = .slice (some ⟨b7, 0, none⟩) 9 9 ∧ f 9 = .slice (some ⟨b9, 0, none⟩) 1 1 ∧ f 13 = s13 ∧ OwnB 5 s13 (be 2 ((BitVec.ofNat 16 c).setWidth 64)) L13 ∧ Has E w ((b9, bs 5 [1#8]) :: (b7, .cells (magicB.map B).toArray 5 (9, 10)) :: (L13 ++ ((b1, vs 33 [i64 c, i64 p]) :: F))) | 2 => ∃ (b7 : Nat) (b9 : Nat) (b17 : Nat), f 7 = .slice (some ⟨b7, 0, none⟩) 9 9 ∧ f 8 = .slice (some ⟨b7, 0, none⟩) 9 9 ∧ f 9 = .slice (some ⟨b9, 0, none⟩) 1 1 ∧ f 17 = .slice (some ⟨b17, 0, none⟩) 1 1 ∧ Has E w ((b17, bs 5 [BitVec.ofNat 8 p]) :: (b9, bs 5 [1#8]) :: (b7, .cells (magicB.map B).toArray 5 (9, 10)) :: ((b1, vs 33 [i64 c, i64 p]) :: F)) | 3 => ∃ (b7 : Nat) (s13 : Value) (L13 : List (Nat × Obj)) (b17 : Nat), f 7 = .slice (some ⟨b7, 0, none⟩) 9 9 ∧ f 8 = .slice (some ⟨b7, 0, none⟩) 9 9 ∧ f 13 = s13 ∧ f 17 = .slice (some ⟨b17, 0, none⟩) 1 1 ∧ OwnB 5 s13 (be 2 ((BitVec.ofNat 16 c).setWidth 64)) L13 ∧ Has E w ((b17, bs 5 [BitVec.ofNat 8 p]) :: (b7, .cells (magicB.map B).toArray 5 (9, 10)) :: (L13 ++ ((b1, vs 33 [i64 c, i64 p]) :: F))) | 4 => ∃ (b7 : Nat) (b9 : Nat) (s13 : Value) (L13 : List (Nat × Obj)) (b17 : Nat), f 7 = .slice (some ⟨b7, 0, none⟩) 9 9 ∧ f 9 = .slice (some ⟨b9, 0, none⟩) 1 1 ∧ f 13 = s13 ∧ f 17 = .slice (some ⟨b17, 0, none⟩) 1 1 ∧ OwnB 5 s13 (be 2 ((BitVec.ofNat 16 c).setWidth 64)) L13 ∧ Has E w ((b17, bs 5 [BitVec.ofNat 8 p]) :: (b9, bs 5 [1#8]) :: (b7, bs 5 magicB) :: (L13 ++ ((b1, vs 33 [i64 c, i64 p]) :: F))) | 5 => ∃ (b7 : Nat) (b9 : Nat), f 7 = .slice (some ⟨b7, 0, none⟩) 9 9 ∧ f 8 = .slice (some ⟨b7, 0, none⟩) 9 9 ∧ f 9 = .slice (some ⟨b9, 0, none⟩) 1 1 ∧ Has E w ((b9, bs 5 [1#8]) :: (b7, .cells (magicB.map B).toArray 5 (9, 10)) :: ((b1, vs 33 [i64 c, i64 p]) :: F)) | 6 => ∃ (b7 : Nat) (s13 : Value) (L13 : List (Nat × Obj)), f 7 = .slice (some ⟨b7, 0, none⟩) 9 9 ∧ f 8 = .slice (some ⟨b7, 0, none⟩) 9 9 ∧ f 13 = s13 ∧ OwnB 5 s13 (be 2 ((BitVec.ofNat 16 c).setWidth 64)) L13 ∧ Has E w ((b7, .cells (magicB.map B).toArray 5 (9, 10)) :: (L13 ++ ((b1, vs 33 [i64 c, i64 p]) :: F))) | 7 => ∃ (b7 : Nat) (b17 : Nat), f 7 = .slice (some ⟨b7, 0, none⟩) 9 9 ∧ f 8 = .slice (some ⟨b7, 0, none⟩) 9 9 ∧ f 17 = .slice (some ⟨b17, 0, none⟩) 1 1 ∧ Has E w ((b17, bs 5 [BitVec.ofNat 8 p]) :: (b7, .cells (magicB.map B).toArray 5 (9, 10)) :: ((b1, vs 33 [i64 c, i64 p]) :: F)) | 8 => ∃ (b7 : Nat) (b9 : Nat) (s13 : Value) (L13 : List (Nat × Obj)), f 7 = .slice (some ⟨b7, 0, none⟩) 9 9 ∧ f 9 = .slice (some ⟨b9, 0, none⟩) 1 1 ∧ f 13 = s13 ∧ OwnB 5 s13 (be 2 ((BitVec.ofNat 16 c).setWidth 64)) L13 ∧ Has E w ((b9, bs 5 [1#8]) :: (b7, bs 5 magicB) :: (L13 ++ ((b1, vs 33 [i64 c, i64 p]) :: F))) | 9 => ∃ (b7 : Nat) (b9 : Nat) (b17 : Nat), f 7 = .slice (some ⟨b7, 0, none⟩) 9 9 ∧ f 9 = .slice (some ⟨b9, 0, none⟩) 1 1 ∧ f 17 = .slice (some ⟨b17, 0, none⟩) 1 1 ∧ Has E w ((b17, bs 5 [BitVec.ofNat 8 p]) :: (b9, bs 5 [1#8]) :: (b7, bs 5 magicB) :: ((b1, vs 33 [i64 c, i64 p]) :: F)) | 10 => ∃ (b7 : Nat) (s13 : Value) (L13 : List (Nat × Obj)) (b17 : Nat), f 7 = .slice (some ⟨b7, 0, none⟩) 9 9 ∧ f 13 = s13 ∧ f 17 = .slice (some ⟨b17, 0, none⟩) 1 1 ∧ OwnB 5 s13 (be 2 ((BitVec.ofNat 16 c).setWidth 64)) L13 ∧ Has E w ((b17, bs 5 [BitVec.ofNat 8 p]) :: (b7, bs 5 magicB) :: (L13 ++ ((b1, vs 33 [i64 c, i64 p]) :: F))) | 11 => ∃ (b9 : Nat) (s13 : Value) (L13 : List (Nat × Obj)) (b17 : Nat), f 9 = .slice (some ⟨b9, 0, none⟩) 1 1 ∧ f 13 = s13 ∧ f 17 = .slice (some ⟨b17, 0, none⟩) 1 1 ∧ OwnB 5 s13 (be 2 ((BitVec.ofNat 16 c).setWidth 64)) L13 ∧ Has E w ((b17, bs 5 [BitVec.ofNat 8 p]) :: (b9, bs 5 [1#8]) :: (L13 ++ ((b1, vs 33 [i64 c, i64 p]) :: F))) | 12 => ∃ (b7 : Nat), f 7 = .slice (some ⟨b7, 0, none⟩) 9 9 ∧ f 8 = .slice (some ⟨b7, 0, none⟩) 9 9 ∧ Has E w ((b7, .cells (magicB.map B).toArray 5 (9, 10)) :: ((b1, vs 33 [i64 c, i64 p]) :: F)) | 13 => ∃ (b7 : Nat) (b9 : Nat), f 7 = .slice (some ⟨b7, 0, none⟩) 9 9 ∧ f 9 = .slice (some ⟨b9, 0, none⟩) 1 1 ∧ Has E w ((b9, bs 5 [1#8]) :: (b7, bs 5 magicB) :: ((b1, vs 33 [i64 c, i64 p]) :: F)) | 14 => ∃ (b7 : Nat) (s13 : Value) (L13 : List (Nat × Obj)), f 7 = .slice (some ⟨b7, 0, none⟩) 9 9 ∧ f 13 = s13 ∧ OwnB 5 s13 (be 2 ((BitVec.ofNat 16 c).setWidth 64)) L13 ∧ Has E w ((b7, bs 5 magicB) :: (L13 ++ ((b1, vs 33 [i64 c, i64 p]) :: F))) | 15 => ∃ (b7 : Nat) (b17 : Nat), f 7 = .slice (some ⟨b7, 0, none⟩) 9 9 ∧ f 17 = .slice (some ⟨b17, 0, none⟩) 1 1 ∧ Has E w ((b17, bs 5 [BitVec.ofNat 8 p]) :: (b7, bs 5 magicB) :: ((b1, vs 33 [i64 c, i64 p]) :: F)) | 16 => ∃ (b9 : Nat) (s13 : Value) (L13 : List (Nat × Obj)), f 9 = .slice (some ⟨b9, 0, none⟩) 1 1 ∧ f 13 = s13 ∧ OwnB 5 s13 (be 2 ((BitVec.ofNat 16 c).setWidth 64)) L13 ∧ Has E w ((b9, bs 5 [1#8]) :: (L13 ++ ((b1, vs 33 [i64 c, i64 p]) :: F))) | 17 => ∃ (b9 : Nat) (b17 : Nat), f 9 = .slice (some ⟨b9, 0, none⟩) 1 1 ∧ f 17 = .slice (some ⟨b17, 0, none⟩) 1 1 ∧ Has E w ((b17, bs 5 [BitVec.ofNat 8 p]) :: (b9, bs 5 [1#8]) :: ((b1, vs 33 [i64 c, i64 p]) :: F)) | 18 => ∃ (s13 : Value) (L13 : List (Nat × Obj)) (b17 : Nat), f 13 = s13 ∧ f 17 = .slice (some ⟨b17, 0, none⟩) 1 1 ∧ OwnB 5 s13 (be 2 ((BitVec.ofNat 16 c).setWidth 64)) L13 ∧ Has E w ((b17, bs 5 [BitVec.ofNat 8 p]) :: (L13 ++ ((b1, vs 33 [i64 c, i64 p]) :: F))) | 19 => ∃ (b7 : Nat), f 7 = .slice (some ⟨b7, 0, none⟩) 9 9 ∧ Has E w ((b7, bs 5 magicB) :: ((b1, vs 33 [i64 c, i64 p]) :: F)) | 20 => ∃ (b9 : Nat), f 9 = .slice (some ⟨b9, 0, none⟩) 1 1 ∧ Has E w ((b9, bs 5 [1#8]) :: ((b1, vs 33 [i64 c, i64 p]) :: F)) | 21 => ∃ (s13 : Value) (L13 : List (Nat × Obj)), f 13 = s13 ∧ OwnB 5 s13 (be 2 ((BitVec.ofNat 16 c).setWidth 64)) L13 ∧ Has E w ((L13 ++ ((b1, vs 33 [i64 c, i64 p]) :: F))) | 22 => ∃ (b17 : Nat), f 17 = .slice (some ⟨b17, 0, none⟩) 1 1 ∧ Has E w ((b17, bs 5 [BitVec.ofNat 8 p]) :: ((b1, vs 33 [i64 c, i64 p]) :: F)) | _ => Has E w (((b1, vs 33 [i64 c, i64 p]) :: F))) h ?_
  clear h; intro k hk
  match k, hk with
  | k + 24, hk => exact absurd hk (by omega)
  | 1, _ =>
    rintro f w ⟨b7, b9, s13, L13, e7, e8, e9, e13, ho13, h⟩ ih
    simp only [putFn, List.foldl_cons, List.foldl_nil, List.set_cons_zero, List.set_cons_succ, e7, e8, e9, e13]
    clear e7 e8 e9 e13
    show wpN _ _ _ _ _ _ 8 #[true, true, true, true, true, true, true, true, true, true, false, false, false, false, false, false, false, false] _ _
    refine dn_ops (rs := [10]) (by kernel_rfl) (by decide) ?_
    refine all_cons ?_ (all_nil)
    · refine dn_1 10 #[true, true, true, true, true, true, true, true, true, true, true, false, false, false, false, false, false, false] ⟨some 17, _, _, _, _, _⟩ fun Ko hKo => ?_
      refine op_buildSliceB [BitVec.ofNat 8 p] h rfl rfl Tryd.runUnderlying25 Tryd.sizeOf5 Tryd.zeroValue5 rfl (by decide) fun b17 w h => ?_
      refine hKo _ _ _ (fun _ => (by repeat (first | exact h | replace h := h.tail | replace h := h.appTail))) ?_; clear hKo Ko
      exact ih 0 (by omega) _ _ pfn_of ⟨b7, b9, s13, L13, b17, rfl, rfl, rfl, rfl, rfl, ho13, h⟩
  | 2, _ =>
    rintro f w ⟨b7, b9, b17, e7, e8, e9, e17, h⟩ ih
    simp only [putFn, List.foldl_cons, List.foldl_nil, List.set_cons_zero, List.set_cons_succ, e7, e8, e9, e17]
    clear e7 e8 e9 e17
    show wpN _ _ _ _ _ _ 8 #[true, true, true, true, true, true, false, true, true, true, true, false, false, false, false, false, false, false] _ _
    refine dn_ops (rs := [6]) (by kernel_rfl) (by decide) ?_
    refine all_cons ?_ (all_nil)
    · refine dn_1 6 #[true, true, true, true, true, true, true, true, true, true, true, false, false, false, false, false, false, false] ⟨some 13, _, _, _, _, _⟩ fun Ko hKo => ?_
      refine op_call [_] Tryd.call65 rfl (put16_ok h (BitVec.ofNat 16 c)) ?_
      clear h; rintro s13 w ⟨L13, ho13, h⟩
      refine hKo _ _ _ (fun _ => (by repeat (first | exact h | replace h := h.tail | replace h := h.appTail))) ?_; clear hKo Ko
      exact ih 0 (by omega) _ _ pfn_of ⟨b7, b9, s13, L13, b17, rfl, rfl, rfl, rfl, rfl, ho13, (Has.swapApp (B := [_, _, _]) h)⟩
  | 3, _ =>
    rintro f w ⟨b7, s13, L13, b17, e7, e8, e13, e17, ho13, h⟩ ih
    simp only [putFn, List.foldl_cons, List.foldl_nil, List.set_cons_zero, List.set_cons_succ, e7, e8, e13, e17]
    clear e7 e8 e13 e17
    show wpN _ _ _ _ _ _ 8 #[true, true, false, true, true, true, true, true, true, true, true, false, false, false, false, false, false, false] _ _
    refine dn_ops (rs := [2]) (by kernel_rfl) (by decide) ?_
    refine all_cons ?_ (all_nil)
    · refine dn_1 2 #[true, true, true, true, true, true, true, true, true, true, true, false, false, false, false, false, false, false] ⟨some 9, _, _, _, _, _⟩ fun Ko hKo => ?_
      refine op_buildSliceB [1#8] h rfl rfl Tryd.runUnderlying25 Tryd.sizeOf5 Tryd.zeroValue5 rfl (by decide) fun b9 w h => ?_
      refine hKo _ _ _ (fun _ => (by repeat (first | exact h | replace h := h.tail | replace h := h.appTail))) ?_; clear hKo Ko
      exact ih 0 (by omega) _ _ pfn_of ⟨b7, b9, s13, L13, b17, rfl, rfl, rfl, rfl, rfl, ho13, (h.ins 1 (by simp))⟩
  | 4, _ =>
    rintro f w ⟨b7, b9, s13, L13, b17, e7, e9, e13, e17, ho13, h⟩ ih
    simp only [putFn, List.foldl_cons, List.foldl_nil, List.set_cons_zero, List.set_cons_succ, e7, e9, e13, e17]
    clear e7 e9 e13 e17
    show wpN _ _ _ _ _ _ 8 #[true, false, true, true, true, true, true, true, true, true, true, false, false, false, false, false, false, false] _ _
    refine dn_ops (rs := [1]) (by kernel_rfl) (by decide) ?_
    refine all_cons ?_ (all_nil)
    · refine dn_1 1 #[true, true, true, true, true, true, true, true, true, true, true, false, false, false, false, false, false, false] ⟨some 8, _, _, _, _, _⟩ fun Ko hKo => ?_
      refine op_conv_bytes h rfl Tryd.runUnderlying25 Tryd.runUnderlying5 fun w h => ?_
      have h := h.nm
      refine hKo _ _ _ (fun _ => (by repeat (first | exact h | replace h := h.tail | replace h := h.appTail))) ?_; clear hKo Ko
      exact ih 0 (by omega) _ _ pfn_of ⟨b7, b9, s13, L13, b17, rfl, rfl, rfl, rfl, rfl, ho13, h⟩
  | 5, _ =>
    rintro f w ⟨b7, b9, e7, e8, e9, h⟩ ih
    simp only [putFn, List.foldl_cons, List.foldl_nil, List.set_cons_zero, List.set_cons_succ, e7, e8, e9]
    clear e7 e8 e9
    show wpN _ _ _ _ _ _ 9 #[true, true, true, true, true, true, false, true, true, true, false, false, false, false, false, false, false, false] _ _
    refine dn_ops (rs := [6, 10]) (by kernel_rfl) (by decide) ?_
    refine all_cons ?_ (all_cons ?_ (all_nil))
    · refine dn_1 6 #[true, true, true, true, true, true, true, true, true, true, false, false, false, false, false, false, false, false] ⟨some 13, _, _, _, _, _⟩ fun Ko hKo => ?_
      refine op_call [_] Tryd.call65 rfl (put16_ok h (BitVec.ofNat 16 c)) ?_
      clear h; rintro s13 w ⟨L13, ho13, h⟩
      refine hKo _ _ _ (fun _ => (by repeat (first | exact h | replace h := h.tail | replace h := h.appTail))) ?_; clear hKo Ko
      exact ih 1 (by omega) _ _ pfn_of ⟨b7, b9, s13, L13, rfl, rfl, rfl, rfl, ho13, (Has.swapApp (B := [_, _]) h)⟩
    · refine dn_1 10 #[true, true, true, true, true, true, false, true, true, true, true, false, false, false, false, false, false, false] ⟨some 17, _, _, _, _, _⟩ fun Ko hKo => ?_
      refine op_buildSliceB [BitVec.ofNat 8 p] h rfl rfl Tryd.runUnderlying25 Tryd.sizeOf5 Tryd.zeroValue5 rfl (by decide) fun b17 w h => ?_
      refine hKo _ _ _ (fun _ => (by repeat (first | exact h | replace h := h.tail | replace h := h.appTail))) ?_; clear hKo Ko
      exact ih 2 (by omega) _ _ pfn_of ⟨b7, b9, b17, rfl, rfl, rfl, rfl, h⟩
  | 6, _ =>
    rintro f w ⟨b7, s13, L13, e7, e8, e13, ho13, h⟩ ih
    simp only [putFn, List.foldl_cons, List.foldl_nil, List.set_cons_zero, List.set_cons_succ, e7, e8, e13]
    clear e7 e8 e13
    show wpN _ _ _ _ _ _ 9 #[true, true, false, true, true, true, true, true, true, true, false, false, false, false, false, false, false, false] _ _
    refine dn_ops (rs := [2, 10]) (by kernel_rfl) (by decide) ?_
    refine all_cons ?_ (all_cons ?_ (all_nil))
    · refine dn_1 2 #[true, true, true, true, true, true, true, true, true, true, false, false, false, false, false, false, false, false] ⟨some 9, _, _, _, _, _⟩ fun Ko hKo => ?_
      refine op_buildSliceB [1#8] h rfl rfl Tryd.runUnderlying25 Tryd.sizeOf5 Tryd.zeroValue5 rfl (by decide) fun b9 w h => ?_
      refine hKo _ _ _ (fun _ => (by repeat (first | exact h | replace h := h.tail | replace h := h.appTail))) ?_; clear hKo Ko
      exact ih 1 (by omega) _ _ pfn_of ⟨b7, b9, s13, L13, rfl, rfl, rfl, rfl, ho13, h⟩
    · refine dn_1 10 #[true, true, false, true, true, true, true, true, true, true, true, false, false, false, false, false, false, false] ⟨some 17, _, _, _, _, _⟩ fun Ko hKo => ?_
      refine op_buildSliceB [BitVec.ofNat 8 p] h rfl rfl Tryd.runUnderlying25 Tryd.sizeOf5 Tryd.zeroValue5 rfl (by decide) fun b17 w h => ?_
      refine hKo _ _ _ (fun _ => (by repeat (first | exact h | replace h := h.tail | replace h := h.appTail))) ?_; clear hKo Ko
      exact ih 3 (by omega) _ _ pfn_of ⟨b7, s13, L13, b17, rfl, rfl, rfl, rfl, ho13, h⟩
  | 7, _ =>
    rintro f w ⟨b7, b17, e7, e8, e17, h⟩ ih
    simp only [putFn, List.foldl_cons, List.foldl_nil, List.set_cons_zero, List.set_cons_succ, e7, e8, e17]
    clear e7 e8 e17
    show wpN _ _ _ _ _ _ 9 #[true, true, false, true, true, true, false, true, true, true, true, false, false, false, false, false, false, false] _ _
    refine dn_ops (rs := [2, 6]) (by kernel_rfl) (by decide) ?_
    refine all_cons ?_ (all_cons ?_ (all_nil))
    · refine dn_1 2 #[true, true, true, true, true, true, false, true, true, true, true, false, false, false, false, false, false, false] ⟨some 9, _, _, _, _, _⟩ fun Ko hKo => ?_
      refine op_buildSliceB [1#8] h rfl rfl Tryd.runUnderlying25 Tryd.sizeOf5 Tryd.zeroValue5 rfl (by decide) fun b9 w h => ?_
      refine hKo _ _ _ (fun _ => (by repeat (first | exact h | replace h := h.tail | replace h := h.appTail))) ?_; clear hKo Ko
      exact ih 2 (by omega) _ _ pfn_of ⟨b7, b9, b17, rfl, rfl, rfl, rfl, (h.ins 1 (by simp))⟩
    · refine dn_1 6 #[true, true, false, true, true, true, true, true, true, true, true, false, false, false, false, false, false, false] ⟨some 13, _, _, _, _, _⟩ fun Ko hKo => ?_
      refine op_call [_] Tryd.call65 rfl (put16_ok h (BitVec.ofNat 16 c)) ?_
      clear h; rintro s13 w ⟨L13, ho13, h⟩
      refine hKo _ _ _ (fun _ => (by repeat (first | exact h | replace h := h.tail | replace h := h.appTail))) ?_; clear hKo Ko
      exact ih 3 (by omega) _ _ pfn_of ⟨b7, s13, L13, b17, rfl, rfl, rfl, rfl, ho13, (Has.swapApp (B := [_, _]) h)⟩
  | 8, _ =>
    rintro f w ⟨b7, b9, s13, L13, e7, e9, e13, ho13, h⟩ ih
    simp only [putFn, List.foldl_cons, List.foldl_nil, List.set_cons_zero, List.set_cons_succ, e7, e9, e13]
    clear e7 e9 e13
    show wpN _ _ _ _ _ _ 9 #[true, false, true, true, true, true, true, true, true, true, false, false, false, false, false, false, false, false] _ _
    refine dn_ops (rs := [1, 10]) (by kernel_rfl) (by decide) ?_
    refine all_cons ?_ (all_cons ?_ (all_nil))
    · refine dn_1 1 #[true, true, true, true, true, true, true, true, true, true, false, false, false, false, false, false, false, false] ⟨some 8, _, _, _, _, _⟩ fun Ko hKo => ?_
      refine op_conv_bytes h rfl Tryd.runUnderlying25 Tryd.runUnderlying5 fun w h => ?_
      have h := h.nm
      refine hKo _ _ _ (fun _ => (by repeat (first | exact h | replace h := h.tail | replace h := h.appTail))) ?_; clear hKo Ko
      exact ih 1 (by omega) _ _ pfn_of ⟨b7, b9, s13, L13, rfl, rfl, rfl, rfl, ho13, h⟩
    · refine dn_1 10 #[true, false, true, true, true, true, true, true, true, true, true, false, false, false, false, false, false, false] ⟨some 17, _, _, _, _, _⟩ fun Ko hKo => ?_
      refine op_buildSliceB [BitVec.ofNat 8 p] h rfl rfl Tryd.runUnderlying25 Tryd.sizeOf5 Tryd.zeroValue5 rfl (by decide) fun b17 w h => ?_
      refine hKo _ _ _ (fun _ => (by repeat (first | exact h | replace h := h.tail | replace h := h.appTail))) ?_; clear hKo Ko
      exact ih 4 (by omega) _ _ pfn_of ⟨b7, b9, s13, L13, b17, rfl, rfl, rfl, rfl, ho13, h⟩
  | 9, _ =>
    rintro f w ⟨b7, b9, b17, e7, e9, e17, h⟩ ih
    simp only [putFn, List.foldl_cons, List.foldl_nil, List.set_cons_zero, List.set_cons_succ, e7, e9, e17]
    clear e7 e9 e17
    show wpN _ _ _ _ _ _ 9 #[true, false, true, true, true, true, false, true, true, true, true, false, false, false, false, false, false, false] _ _
    refine dn_ops (rs := [1, 6]) (by kernel_rfl) (by decide) ?_
    refine all_cons ?_ (all_cons ?_ (all_nil))
    · refine dn_1 1 #[true, true, true, true, true, true, false, true, true, true, true, false, false, false, false, false, false, false] ⟨some 8, _, _, _, _, _⟩ fun Ko hKo => ?_
      refine op_conv_bytes h rfl Tryd.runUnderlying25 Tryd.runUnderlying5 fun w h => ?_
      have h := h.nm
      refine hKo _ _ _ (fun _ => (by repeat (first | exact h | replace h := h.tail | replace h := h.appTail))) ?_; clear hKo Ko
      exact ih 2 (by omega) _ _ pfn_of ⟨b7, b9, b17, rfl, rfl, rfl, rfl, h⟩
    · refine dn_1 6 #[true, false, true, true, true, true, true, true, true, true, true, false, false, false, false, false, false, false] ⟨some 13, _, _, _, _, _⟩ fun Ko hKo => ?_
      refine op_call [_] Tryd.call65 rfl (put16_ok h (BitVec.ofNat 16 c)) ?_
      clear h; rintro s13 w ⟨L13, ho13, h⟩
      refine hKo _ _ _ (fun _ => (by repeat (first | exact h | replace h := h.tail | replace h := h.appTail))) ?_; clear hKo Ko
      exact ih 4 (by omega) _ _ pfn_of ⟨b7, b9, s13, L13, b17, rfl, rfl, rfl, rfl, ho13, (Has.swapApp (B := [_, _, _]) h)⟩
  | 10, _ =>
    rintro f w ⟨b7, s13, L13, b17, e7, e13, e17, ho13, h⟩ ih
    simp only [putFn, List.foldl_cons, List.foldl_nil, List.set_cons_zero, List.set_cons_succ, e7, e13, e17]
    clear e7 e13 e17
    show wpN _ _ _ _ _ _ 9 #[true, false, false, true, true, true, true, true, true, true, true, false, false, false, false, false, false, false] _ _
    refine dn_ops (rs := [1, 2]) (by kernel_rfl) (by decide) ?_
    refine all_cons ?_ (all_cons ?_ (all_nil))
    · refine dn_1 1 #[true, true, false, true, true, true, true, true, true, true, true, false, false, false, false, false, false, false] ⟨some 8, _, _, _, _, _⟩ fun Ko hKo => ?_
      refine op_conv_bytes h rfl Tryd.runUnderlying25 Tryd.runUnderlying5 fun w h => ?_
      have h := h.nm
      refine hKo _ _ _ (fun _ => (by repeat (first | exact h | replace h := h.tail | replace h := h.appTail))) ?_; clear hKo Ko
      exact ih 3 (by omega) _ _ pfn_of ⟨b7, s13, L13, b17, rfl, rfl, rfl, rfl, ho13, h⟩
    · refine dn_1 2 #[true, false, true, true, true, true, true, true, true, true, true, false, false, false, false, false, false, false] ⟨some 9, _, _, _, _, _⟩ fun Ko hKo => ?_
      refine op_buildSliceB [1#8] h rfl rfl Tryd.runUnderlying25 Tryd.sizeOf5 Tryd.zeroValue5 rfl (by decide) fun b9 w h => ?_
      refine hKo _ _ _ (fun _ => (by repeat (first | exact h | replace h := h.tail | replace h := h.appTail))) ?_; clear hKo Ko
      exact ih 4 (by omega) _ _ pfn_of ⟨b7, b9, s13, L13, b17, rfl, rfl, rfl, rfl, ho13, (h.ins 1 (by simp))⟩
  | 11, _ =>
    rintro f w ⟨b9, s13, L13, b17, e9, e13, e17, ho13, h⟩ ih
    simp only [putFn, List.foldl_cons, List.foldl_nil, List.set_cons_zero, List.set_cons_succ, e9, e13, e17]
    clear e9 e13 e17
    show wpN _ _ _ _ _ _ 9 #[false, false, true, true, true, true, true, true, true, true, true, false, false, false, false, false, false, false] _ _
    refine dn_ops (rs := [0]) (by kernel_rfl) (by decide) ?_
    refine all_cons ?_ (all_nil)
    · refine dn_1 0 #[true, false, true, true, true, true, true, true, true, true, true, false, false, false, false, false, false, false] ⟨some 7, _, _, _, _, _⟩ fun Ko hKo => ?_
      refine op_buildSliceB [82#8, 69#8, 76#8, 73#8, 81#8, 85#8, 65#8, 82#8, 89#8] h rfl rfl Tryd.runUnderlying25 Tryd.sizeOf5 Tryd.zeroValue5 rfl (by decide) fun b7 w h => ?_
      refine hKo _ _ _ (fun _ => (by repeat (first | exact h | replace h := h.tail | replace h := h.appTail))) ?_; clear hKo Ko
      exact ih 4 (by omega) _ _ pfn_of ⟨b7, b9, s13, L13, b17, rfl, rfl, rfl, rfl, ho13, (h.ins 2 (by simp))⟩
  | 12, _ =>
    rintro f w ⟨b7, e7, e8, h⟩ ih
    simp only [putFn, List.foldl_cons, List.foldl_nil, List.set_cons_zero, List.set_cons_succ, e7, e8]
    clear e7 e8
    show wpN _ _ _ _ _ _ 10 #[true, true, false, true, true, true, false, true, true, true, false, false, false, false, false, false, false, false] _ _
    refine dn_ops (rs := [2, 6, 10]) (by kernel_rfl) (by decide) ?_
    refine all_cons ?_ (all_cons ?_ (all_cons ?_ (all_nil)))
    · refine dn_1 2 #[true, true, true, true, true, true, false, true, true, true, false, false, false, false, false, false, false, false] ⟨some 9, _, _, _, _, _⟩ fun Ko hKo => ?_
      refine op_buildSliceB [1#8] h rfl rfl Tryd.runUnderlying25 Tryd.sizeOf5 Tryd.zeroValue5 rfl (by decide) fun b9 w h => ?_
      refine hKo _ _ _ (fun _ => (by repeat (first | exact h | replace h := h.tail | replace h := h.appTail))) ?_; clear hKo Ko
      exact ih 5 (by omega) _ _ pfn_of ⟨b7, b9, rfl, rfl, rfl, h⟩
    · refine dn_1 6 #[true, true, false, true, true, true, true, true, true, true, false, false, false, false, false, false, false, false] ⟨some 13, _, _, _, _, _⟩ fun Ko hKo => ?_
      refine op_call [_] Tryd.call65 rfl (put16_ok h (BitVec.ofNat 16 c)) ?_
      clear h; rintro s13 w ⟨L13, ho13, h⟩
      refine hKo _ _ _ (fun _ => (by repeat (first | exact h | replace h := h.tail | replace h := h.appTail))) ?_; clear hKo Ko
      exact ih 6 (by omega) _ _ pfn_of ⟨b7, s13, L13, rfl, rfl, rfl, ho13, (Has.swapApp (B := [_]) h)⟩
    · refine dn_1 10 #[true, true, false, true, true, true, false, true, true, true, true, false, false, false, false, false, false, false] ⟨some 17, _, _, _, _, _⟩ fun Ko hKo => ?_
      refine op_buildSliceB [BitVec.ofNat 8 p] h rfl rfl Tryd.runUnderlying25 Tryd.sizeOf5 Tryd.zeroValue5 rfl (by decide) fun b17 w h => ?_
      refine hKo _ _ _ (fun _ => (by repeat (first | exact h | replace h := h.tail | replace h := h.appTail))) ?_; clear hKo Ko
      exact ih 7 (by omega) _ _ pfn_of ⟨b7, b17, rfl, rfl, rfl, h⟩
  | 13, _ =>
    rintro f w ⟨b7, b9, e7, e9, h⟩ ih
    simp only [putFn, List.foldl_cons, List.foldl_nil, List.set_cons_zero, List.set_cons_succ, e7, e9]
    clear e7 e9
    show wpN _ _ _ _ _ _ 10 #[true, false, true, true, true, true, false, true, true, true, false, false, false, false, false, false, false, false] _ _
    refine dn_ops (rs := [1, 6, 10]) (by kernel_rfl) (by decide) ?_
    refine all_cons ?_ (all_cons ?_ (all_cons ?_ (all_nil)))
    · refine dn_1 1 #[true, true, true, true, true, true, false, true, true, true, false, false, false, false, false, false, false, false] ⟨some 8, _, _, _, _, _⟩ fun Ko hKo => ?_
      refine op_conv_bytes h rfl Tryd.runUnderlying25 Tryd.runUnderlying5 fun w h => ?_
      have h := h.nm
      refine hKo _ _ _ (fun _ => (by repeat (first | exact h | replace h := h.tail | replace h := h.appTail))) ?_; clear hKo Ko
      exact ih 5 (by omega) _ _ pfn_of ⟨b7, b9, rfl, rfl, rfl, h⟩
    · refine dn_1 6 #[true, false, true, true, true, true, true, true, true, true, false, false, false, false, false, false, false, false] ⟨some 13, _, _, _, _, _⟩ fun Ko hKo => ?_
      refine op_call [_] Tryd.call65 rfl (put16_ok h (BitVec.ofNat 16 c)) ?_
      clear h; rintro s13 w ⟨L13, ho13, h⟩
      refine hKo _ _ _ (fun _ => (by repeat (first | exact h | replace h := h.tail | replace h := h.appTail))) ?_; clear hKo Ko
      exact ih 8 (by omega) _ _ pfn_of ⟨b7, b9, s13, L13, rfl, rfl, rfl, ho13, (Has.swapApp (B := [_, _]) h)⟩
    · refine dn_1 10 #[true, false, true, true, true, true, false, true, true, true, true, false, false, false, false, false, false, false] ⟨some 17, _, _, _, _, _⟩ fun Ko hKo => ?_
      refine op_buildSliceB [BitVec.ofNat 8 p] h rfl rfl Tryd.runUnderlying25 Tryd.sizeOf5 Tryd.zeroValue5 rfl (by decide) fun b17 w h => ?_
      refine hKo _ _ _ (fun _ => (by repeat (first | exact h | replace h := h.tail | replace h := h.appTail))) ?_; clear hKo Ko
      exact ih 9 (by omega) _ _ pfn_of ⟨b7, b9, b17, rfl, rfl, rfl, h⟩
  | 14, _ =>
    rintro f w ⟨b7, s13, L13, e7, e13, ho13, h⟩ ih
    simp only [putFn, List.foldl_cons, List.foldl_nil, List.set_cons_zero, List.set_cons_succ, e7, e13]
    clear e7 e13
    show wpN _ _ _ _ _ _ 10 #[true, false, false, true, true, true, true, true, true, true, false, false, false, false, false, false, false, false] _ _
    refine dn_ops (rs := [1, 2, 10]) (by kernel_rfl) (by decide) ?_
    refine all_cons ?_ (all_cons ?_ (all_cons ?_ (all_nil)))
    · refine dn_1 1 #[true, true, false, true, true, true, true, true, true, true, false, false, false, false, false, false, false, false] ⟨some 8, _, _, _, _, _⟩ fun Ko hKo => ?_
      refine op_conv_bytes h rfl Tryd.runUnderlying25 Tryd.runUnderlying5 fun w h => ?_
      have h := h.nm
      refine hKo _ _ _ (fun _ => (by repeat (first | exact h | replace h := h.tail | replace h := h.appTail))) ?_; clear hKo Ko
      exact ih 6 (by omega) _ _ pfn_of ⟨b7, s13, L13, rfl, rfl, rfl, ho13, h⟩
    · refine dn_1 2 #[true, false, true, true, true, true, true, true, true, true, false, false, false, false, false, false, false, false] ⟨some 9, _, _, _, _, _⟩ fun Ko hKo => ?_
      refine op_buildSliceB [1#8] h rfl rfl Tryd.runUnderlying25 Tryd.sizeOf5 Tryd.zeroValue5 rfl (by decide) fun b9 w h => ?_
      refine hKo _ _ _ (fun _ => (by repeat (first | exact h | replace h := h.tail | replace h := h.appTail))) ?_; clear hKo Ko
      exact ih 8 (by omega) _ _ pfn_of ⟨b7, b9, s13, L13, rfl, rfl, rfl, ho13, h⟩
    · refine dn_1 10 #[true, false, false, true, true, true, true, true, true, true, true, false, false, false, false, false, false, false] ⟨some 17, _, _, _, _, _⟩ fun Ko hKo => ?_
      refine op_buildSliceB [BitVec.ofNat 8 p] h rfl rfl Tryd.runUnderlying25 Tryd.sizeOf5 Tryd.zeroValue5 rfl (by decide) fun b17 w h => ?_
      refine hKo _ _ _ (fun _ => (by repeat (first | exact h | replace h := h.tail | replace h := h.appTail))) ?_; clear hKo Ko
      exact ih 10 (by omega) _ _ pfn_of ⟨b7, s13, L13, b17, rfl, rfl, rfl, ho13, h⟩
  | 15, _ =>
    rintro f w ⟨b7, b17, e7, e17, h⟩ ih
    simp only [putFn, List.foldl_cons, List.foldl_nil, List.set_cons_zero, List.set_cons_succ, e7, e17]
    clear e7 e17
    show wpN _ _ _ _ _ _ 10 #[true, false, false, true, true, true, false, true, true, true, true, false, false, false, false, false, false, false] _ _
    refine dn_ops (rs := [1, 2, 6]) (by kernel_rfl) (by decide) ?_
    refine all_cons ?_ (all_cons ?_ (all_cons ?_ (all_nil)))
    · refine dn_1 1 #[true, true, false, true, true, true, false, true, true, true, true, false, false, false, false, false, false, false] ⟨some 8, _, _, _, _, _⟩ fun Ko hKo => ?_
      refine op_conv_bytes h rfl Tryd.runUnderlying25 Tryd.runUnderlying5 fun w h => ?_
      have h := h.nm
      refine hKo _ _ _ (fun _ => (by repeat (first | exact h | replace h := h.tail | replace h := h.appTail))) ?_; clear hKo Ko
      exact ih 7 (by omega) _ _ pfn_of ⟨b7, b17, rfl, rfl, rfl, h⟩
    · refine dn_1 2 #[true, false, true, true, true, true, false, true, true, true, true, false, false, false, false, false, false, false] ⟨some 9, _, _, _, _, _⟩ fun Ko hKo => ?_
      refine op_buildSliceB [1#8] h rfl rfl Tryd.runUnderlying25 Tryd.sizeOf5 Tryd.zeroValue5 rfl (by decide) fun b9 w h => ?_
      refine hKo _ _ _ (fun _ => (by repeat (first | exact h | replace h := h.tail | replace h := h.appTail))) ?_; clear hKo Ko
      exact ih 9 (by omega) _ _ pfn_of ⟨b7, b9, b17, rfl, rfl, rfl, (h.ins 1 (by simp))⟩
    · refine dn_1 6 #[true, false, false, true, true, true, true, true, true, true, true, false, false, false, false, false, false, false] ⟨some 13, _, _, _, _, _⟩ fun Ko hKo => ?_
      refine op_call [_] Tryd.call65 rfl (put16_ok h (BitVec.ofNat 16 c)) ?_
      clear h; rintro s13 w ⟨L13, ho13, h⟩
      refine hKo _ _ _ (fun _ => (by repeat (first | exact h | replace h := h.tail | replace h := h.appTail))) ?_; clear hKo Ko
      exact ih 10 (by omega) _ _ pfn_of ⟨b7, s13, L13, b17, rfl, rfl, rfl, ho13, (Has.swapApp (B := [_, _]) h)⟩
  | 16, _ =>
    rintro f w ⟨b9, s13, L13, e9, e13, ho13, h⟩ ih
    simp only [putFn, List.foldl_cons, List.foldl_nil, List.set_cons_zero, List.set_cons_succ, e9, e13]
    clear e9 e13
    show wpN _ _ _ _ _ _ 10 #[false, false, true, true, true, true, true, true, true, true, false, false, false, false, false, false, false, false] _ _
    refine dn_ops (rs := [0, 10]) (by kernel_rfl) (by decide) ?_
    refine all_cons ?_ (all_cons ?_ (all_nil))
    · refine dn_1 0 #[true, false, true, true, true, true, true, true, true, true, false, false, false, false, false, false, false, false] ⟨some 7, _, _, _, _, _⟩ fun Ko hKo => ?_
      refine op_buildSliceB [82#8, 69#8, 76#8, 73#8, 81#8, 85#8, 65#8, 82#8, 89#8] h rfl rfl Tryd.runUnderlying25 Tryd.sizeOf5 Tryd.zeroValue5 rfl (by decide) fun b7 w h => ?_
      refine hKo _ _ _ (fun _ => (by repeat (first | exact h | replace h := h.tail | replace h := h.appTail))) ?_; clear hKo Ko
      exact ih 8 (by omega) _ _ pfn_of ⟨b7, b9, s13, L13, rfl, rfl, rfl, ho13, (h.ins 1 (by simp))⟩
    · refine dn_1 10 #[false, false, true, true, true, true, true, true, true, true, true, false, false, false, false, false, false, false] ⟨some 17, _, _, _, _, _⟩ fun Ko hKo => ?_
      refine op_buildSliceB [BitVec.ofNat 8 p] h rfl rfl Tryd.runUnderlying25 Tryd.sizeOf5 Tryd.zeroValue5 rfl (by decide) fun b17 w h => ?_
      refine hKo _ _ _ (fun _ => (by repeat (first | exact h | replace h := h.tail | replace h := h.appTail))) ?_; clear hKo Ko
      exact ih 11 (by omega) _ _ pfn_of ⟨b9, s13, L13, b17, rfl, rfl, rfl, ho13, h⟩
  | 17, _ =>
    rintro f w ⟨b9, b17, e9, e17, h⟩ ih
    simp only [putFn, List.foldl_cons, List.foldl_nil, List.set_cons_zero, List.set_cons_succ, e9, e17]
    clear e9 e17
    show wpN _ _ _ _ _ _ 10 #[false, false, true, true, true, true, false, true, true, true, true, false, false, false, false, false, false, false] _ _
    refine dn_ops (rs := [0, 6]) (by kernel_rfl) (by decide) ?_
    refine all_cons ?_ (all_cons ?_ (all_nil))
    · refine dn_1 0 #[true, false, true, true, true, true, false, true, true, true, true, false, false, false, false, false, false, false] ⟨some 7, _, _, _, _, _⟩ fun Ko hKo => ?_
      refine op_buildSliceB [82#8, 69#8, 76#8, 73#8, 81#8, 85#8, 65#8, 82#8, 89#8] h rfl rfl Tryd.runUnderlying25 Tryd.sizeOf5 Tryd.zeroValue5 rfl (by decide) fun b7 w h => ?_
      refine hKo _ _ _ (fun _ => (by repeat (first | exact h | replace h := h.tail | replace h := h.appTail))) ?_; clear hKo Ko
      exact ih 9 (by omega) _ _ pfn_of ⟨b7, b9, b17, rfl, rfl, rfl, (h.ins 2 (by simp))⟩
    · refine dn_1 6 #[false, false, true, true, true, true, true, true, true, true, true, false, false, false, false, false, false, false] ⟨some 13, _, _, _, _, _⟩ fun Ko hKo => ?_
      refine op_call [_] Tryd.call65 rfl (put16_ok h (BitVec.ofNat 16 c)) ?_
      clear h; rintro s13 w ⟨L13, ho13, h⟩
      refine hKo _ _ _ (fun _ => (by repeat (first | exact h | replace h := h.tail | replace h := h.appTail))) ?_; clear hKo Ko
      exact ih 11 (by omega) _ _ pfn_of ⟨b9, s13, L13, b17, rfl, rfl, rfl, ho13, (Has.swapApp (B := [_, _]) h)⟩
  | 18, _ =>
    rintro f w ⟨s13, L13, b17, e13, e17, ho13, h⟩ ih
    simp only [putFn, List.foldl_cons, List.foldl_nil, List.set_cons_zero, List.set_cons_succ, e13, e17]
    clear e13 e17
    show wpN _ _ _ _ _ _ 10 #[false, false, false, true, true, true, true, true, true, true, true, false, false, false, false, false, false, false] _ _
    refine dn_ops (rs := [0, 2]) (by kernel_rfl) (by decide) ?_
    refine all_cons ?_ (all_cons ?_ (all_nil))
    · refine dn_1 0 #[true, false, false, true, true, true, true, true, true, true, true, false, false, false, false, false, false, false] ⟨some 7, _, _, _, _, _⟩ fun Ko hKo => ?_
      refine op_buildSliceB [82#8, 69#8, 76#8, 73#8, 81#8, 85#8, 65#8, 82#8, 89#8] h rfl rfl Tryd.runUnderlying25 Tryd.sizeOf5 Tryd.zeroValue5 rfl (by decide) fun b7 w h => ?_
      refine hKo _ _ _ (fun _ => (by repeat (first | exact h | replace h := h.tail | replace h := h.appTail))) ?_; clear hKo Ko
      exact ih 10 (by omega) _ _ pfn_of ⟨b7, s13, L13, b17, rfl, rfl, rfl, ho13, (h.ins 1 (by simp))⟩
    · refine dn_1 2 #[false, false, true, true, true, true, true, true, true, true, true, false, false, false, false, false, false, false] ⟨some 9, _, _, _, _, _⟩ fun Ko hKo => ?_
      refine op_buildSliceB [1#8] h rfl rfl Tryd.runUnderlying25 Tryd.sizeOf5 Tryd.zeroValue5 rfl (by decide) fun b9 w h => ?_
      refine hKo _ _ _ (fun _ => (by repeat (first | exact h | replace h := h.tail | replace h := h.appTail))) ?_; clear hKo Ko
      exact ih 11 (by omega) _ _ pfn_of ⟨b9, s13, L13, b17, rfl, rfl, rfl, ho13, (h.ins 1 (by simp))⟩
  | 19, _ =>
    rintro f w ⟨b7, e7, h⟩ ih
    simp only [putFn, List.foldl_cons, List.foldl_nil, List.set_cons_zero, List.set_cons_succ, e7]
    clear e7
    show wpN _ _ _ _ _ _ 11 #[true, false, false, true, true, true, false, true, true, true, false, false, false, false, false, false, false, false] _ _
    refine dn_ops (rs := [1, 2, 6, 10]) (by kernel_rfl) (by decide) ?_
    refine all_cons ?_ (all_cons ?_ (all_cons ?_ (all_cons ?_ (all_nil))))
    · refine dn_1 1 #[true, true, false, true, true, true, false, true, true, true, false, false, false, false, false, false, false, false] ⟨some 8, _, _, _, _, _⟩ fun Ko hKo => ?_
      refine op_conv_bytes h rfl Tryd.runUnderlying25 Tryd.runUnderlying5 fun w h => ?_
      have h := h.nm
      refine hKo _ _ _ (fun _ => (by repeat (first | exact h | replace h := h.tail | replace h := h.appTail))) ?_; clear hKo Ko
      exact ih 12 (by omega) _ _ pfn_of ⟨b7, rfl, rfl, h⟩
    · refine dn_1 2 #[true, false, true, true, true, true, false, true, true, true, false, false, false, false, false, false, false, false] ⟨some 9, _, _, _, _, _⟩ fun Ko hKo => ?_
      refine op_buildSliceB [1#8] h rfl rfl Tryd.runUnderlying25 Tryd.sizeOf5 Tryd.zeroValue5 rfl (by decide) fun b9 w h => ?_
      refine hKo _ _ _ (fun _ => (by repeat (first | exact h | replace h := h.tail | replace h := h.appTail))) ?_; clear hKo Ko
      exact ih 13 (by omega) _ _ pfn_of ⟨b7, b9, rfl, rfl, h⟩
    · refine dn_1 6 #[true, false, false, true, true, true, true, true, true, true, false, false, false, false, false, false, false, false] ⟨some 13, _, _, _, _, _⟩ fun Ko hKo => ?_
      refine op_call [_] Tryd.call65 rfl (put16_ok h (BitVec.ofNat 16 c)) ?_
      clear h; rintro s13 w ⟨L13, ho13, h⟩
      refine hKo _ _ _ (fun _ => (by repeat (first | exact h | replace h := h.tail | replace h := h.appTail))) ?_; clear hKo Ko
      exact ih 14 (by omega) _ _ pfn_of ⟨b7, s13, L13, rfl, rfl, ho13, (Has.swapApp (B := [_]) h)⟩
    · refine dn_1 10 #[true, false, false, true, true, true, false, true, true, true, true, false, false, false, false, false, false, false] ⟨some 17, _, _, _, _, _⟩ fun Ko hKo => ?_
      refine op_buildSliceB [BitVec.ofNat 8 p] h rfl rfl Tryd.runUnderlying25 Tryd.sizeOf5 Tryd.zeroValue5 rfl (by decide) fun b17 w h => ?_
      refine hKo _ _ _ (fun _ => (by repeat (first | exact h | replace h := h.tail | replace h := h.appTail))) ?_; clear hKo Ko
      exact ih 15 (by omega) _ _ pfn_of ⟨b7, b17, rfl, rfl, h⟩
  | 20, _ =>
    rintro f w ⟨b9, e9, h⟩ ih
    simp only [putFn, List.foldl_cons, List.foldl_nil, List.set_cons_zero, List.set_cons_succ, e9]
    clear e9
    show wpN _ _ _ _ _ _ 11 #[false, false, true, true, true, true, false, true, true, true, false, false, false, false, false, false, false, false] _ _
    refine dn_ops (rs := [0, 6, 10]) (by kernel_rfl) (by decide) ?_
    refine all_cons ?_ (all_cons ?_ (all_cons ?_ (all_nil)))
    · refine dn_1 0 #[true, false, true, true, true, true, false, true, true, true, false, false, false, false, false, false, false, false] ⟨some 7, _, _, _, _, _⟩ fun Ko hKo => ?_
      refine op_buildSliceB [82#8, 69#8, 76#8, 73#8, 81#8, 85#8, 65#8, 82#8, 89#8] h rfl rfl Tryd.runUnderlying25 Tryd.sizeOf5 Tryd.zeroValue5 rfl (by decide) fun b7 w h => ?_
      refine hKo _ _ _ (fun _ => (by repeat (first | exact h | replace h := h.tail | replace h := h.appTail))) ?_; clear hKo Ko
      exact ih 13 (by omega) _ _ pfn_of ⟨b7, b9, rfl, rfl, (h.ins 1 (by simp))⟩
    · refine dn_1 6 #[false, false, true, true, true, true, true, true, true, true, false, false, false, false, false, false, false, false] ⟨some 13, _, _, _, _, _⟩ fun Ko hKo => ?_
      refine op_call [_] Tryd.call65 rfl (put16_ok h (BitVec.ofNat 16 c)) ?_
      clear h; rintro s13 w ⟨L13, ho13, h⟩
      refine hKo _ _ _ (fun _ => (by repeat (first | exact h | replace h := h.tail | replace h := h.appTail))) ?_; clear hKo Ko
      exact ih 16 (by omega) _ _ pfn_of ⟨b9, s13, L13, rfl, rfl, ho13, (Has.swapApp (B := [_]) h)⟩
    · refine dn_1 10 #[false, false, true, true, true, true, false, true, true, true, true, false, false, false, false, false, false, false] ⟨some 17, _, _, _, _, _⟩ fun Ko hKo => ?_
      refine op_buildSliceB [BitVec.ofNat 8 p] h rfl rfl Tryd.runUnderlying25 Tryd.sizeOf5 Tryd.zeroValue5 rfl (by decide) fun b17 w h => ?_
      refine hKo _ _ _ (fun _ => (by repeat (first | exact h | replace h := h.tail | replace h := h.appTail))) ?_; clear hKo Ko
      exact ih 17 (by omega) _ _ pfn_of ⟨b9, b17, rfl, rfl, h⟩
  | 21, _ =>
    rintro f w ⟨s13, L13, e13, ho13, h⟩ ih
    simp only [putFn, List.foldl_cons, List.foldl_nil, List.set_cons_zero, List.set_cons_succ, e13]
    clear e13
    show wpN _ _ _ _ _ _ 11 #[false, false, false, true, true, true, true, true, true, true, false, false, false, false, false, false, false, false] _ _
    refine dn_ops (rs := [0, 2, 10]) (by kernel_rfl) (by decide) ?_
    refine all_cons ?_ (all_cons ?_ (all_cons ?_ (all_nil)))
    · refine dn_1 0 #[true, false, false, true, true, true, true, true, true, true, false, false, false, false, false, false, false, false] ⟨some 7, _, _, _, _, _⟩ fun Ko hKo => ?_
      refine op_buildSliceB [82#8, 69#8, 76#8, 73#8, 81#8, 85#8, 65#8, 82#8, 89#8] h rfl rfl Tryd.runUnderlying25 Tryd.sizeOf5 Tryd.zeroValue5 rfl (by decide) fun b7 w h => ?_
      refine hKo _ _ _ (fun _ => (by repeat (first | exact h | replace h := h.tail | replace h := h.appTail))) ?_; clear hKo Ko
      exact ih 14 (by omega) _ _ pfn_of ⟨b7, s13, L13, rfl, rfl, ho13, h⟩
    · refine dn_1 2 #[false, false, true, true, true, true, true, true, true, true, false, false, false, false, false, false, false, false] ⟨some 9, _, _, _, _, _⟩ fun Ko hKo => ?_
      refine op_buildSliceB [1#8] h rfl rfl Tryd.runUnderlying25 Tryd.sizeOf5 Tryd.zeroValue5 rfl (by decide) fun b9 w h => ?_
      refine hKo _ _ _ (fun _ => (by repeat (first | exact h | replace h := h.tail | replace h := h.appTail))) ?_; clear hKo Ko
      exact ih 16 (by omega) _ _ pfn_of ⟨b9, s13, L13, rfl, rfl, ho13, h⟩
    · refine dn_1 10 #[false, false, false, true, true, true, true, true, true, true, true, false, false, false, false, false, false, false] ⟨some 17, _, _, _, _, _⟩ fun Ko hKo => ?_
      refine op_buildSliceB [BitVec.ofNat 8 p] h rfl rfl Tryd.runUnderlying25 Tryd.sizeOf5 Tryd.zeroValue5 rfl (by decide) fun b17 w h => ?_
      refine hKo _ _ _ (fun _ => (by repeat (first | exact h | replace h := h.tail | replace h := h.appTail))) ?_; clear hKo Ko
      exact ih 18 (by omega) _ _ pfn_of ⟨s13, L13, b17, rfl, rfl, ho13, h⟩
  | 22, _ =>
    rintro f w ⟨b17, e17, h⟩ ih
    simp only [putFn, List.foldl_cons, List.foldl_nil, List.set_cons_zero, List.set_cons_succ, e17]
    clear e17
    show wpN _ _ _ _ _ _ 11 #[false, false, false, true, true, true, false, true, true, true, true, false, false, false, false, false, false, false] _ _
    refine dn_ops (rs := [0, 2, 6]) (by kernel_rfl) (by decide) ?_
    refine all_cons ?_ (all_cons ?_ (all_cons ?_ (all_nil)))
    · refine dn_1 0 #[true, false, false, true, true, true, false, true, true, true, true, false, false, false, false, false, false, false] ⟨some 7, _, _, _, _, _⟩ fun Ko hKo => ?_
      refine op_buildSliceB [82#8, 69#8, 76#8, 73#8, 81#8, 85#8, 65#8, 82#8, 89#8] h rfl rfl Tryd.runUnderlying25 Tryd.sizeOf5 Tryd.zeroValue5 rfl (by decide) fun b7 w h => ?_
      refine hKo _ _ _ (fun _ => (by repeat (first | exact h | replace h := h.tail | replace h := h.appTail))) ?_; clear hKo Ko
      exact ih 15 (by omega) _ _ pfn_of ⟨b7, b17, rfl, rfl, (h.ins 1 (by simp))⟩
    · refine dn_1 2 #[false, false, true, true, true, true, false, true, true, true, true, false, false, false, false, false, false, false] ⟨some 9, _, _, _, _, _⟩ fun Ko hKo => ?_
      refine op_buildSliceB [1#8] h rfl rfl Tryd.runUnderlying25 Tryd.sizeOf5 Tryd.zeroValue5 rfl (by decide) fun b9 w h => ?_
      refine hKo _ _ _ (fun _ => (by repeat (first | exact h | replace h := h.tail | replace h := h.appTail))) ?_; clear hKo Ko
      exact ih 17 (by omega) _ _ pfn_of ⟨b9, b17, rfl, rfl, (h.ins 1 (by simp))⟩
    · refine dn_1 6 #[false, false, false, true, true, true, true, true, true, true, true, false, false, false, false, false, false, false] ⟨some 13, _, _, _, _, _⟩ fun Ko hKo => ?_
      refine op_call [_] Tryd.call65 rfl (put16_ok h (BitVec.ofNat 16 c)) ?_
      clear h; rintro s13 w ⟨L13, ho13, h⟩
      refine hKo _ _ _ (fun _ => (by repeat (first | exact h | replace h := h.tail | replace h := h.appTail))) ?_; clear hKo Ko
      exact ih 18 (by omega) _ _ pfn_of ⟨s13, L13, b17, rfl, rfl, ho13, (Has.swapApp (B := [_]) h)⟩
  | 23, _ =>
    rintro f w h ih
    simp only [putFn, List.foldl_cons, List.foldl_nil, List.set_cons_zero, List.set_cons_succ]
    show wpN _ _ _ _ _ _ 12 #[false, false, false, true, true, true, false, true, true, true, false, false, false, false, false, false, false, false] _ _
    refine dn_ops (rs := [0, 2, 6, 10]) (by kernel_rfl) (by decide) ?_
    refine all_cons ?_ (all_cons ?_ (all_cons ?_ (all_cons ?_ (all_nil))))
    · refine dn_1 0 #[true, false, false, true, true, true, false, true, true, true, false, false, false, false, false, false, false, false] ⟨some 7, _, _, _, _, _⟩ fun Ko hKo => ?_
      refine op_buildSliceB [82#8, 69#8, 76#8, 73#8, 81#8, 85#8, 65#8, 82#8, 89#8] h rfl rfl Tryd.runUnderlying25 Tryd.sizeOf5 Tryd.zeroValue5 rfl (by decide) fun b7 w h => ?_
      refine hKo _ _ _ (fun _ => (by repeat (first | exact h | replace h := h.tail | replace h := h.appTail))) ?_; clear hKo Ko
      exact ih 19 (by omega) _ _ pfn_of ⟨b7, rfl, h⟩
    · refine dn_1 2 #[false, false, true, true, true, true, false, true, true, true, false, false, false, false, false, false, false, false] ⟨some 9, _, _, _, _, _⟩ fun Ko hKo => ?_
      refine op_buildSliceB [1#8] h rfl rfl Tryd.runUnderlying25 Tryd.sizeOf5 Tryd.zeroValue5 rfl (by decide) fun b9 w h => ?_
      refine hKo _ _ _ (fun _ => (by repeat (first | exact h | replace h := h.tail | replace h := h.appTail))) ?_; clear hKo Ko
      exact ih 20 (by omega) _ _ pfn_of ⟨b9, rfl, h⟩
    · refine dn_1 6 #[false, false, false, true, true, true, true, true, true, true, false, false, false, false, false, false, false, false] ⟨some 13, _, _, _, _, _⟩ fun Ko hKo => ?_
      refine op_call [_] Tryd.call65 rfl (put16_ok h (BitVec.ofNat 16 c)) ?_
      clear h; rintro s13 w ⟨L13, ho13, h⟩
      refine hKo _ _ _ (fun _ => (by repeat (first | exact h | replace h := h.tail | replace h := h.appTail))) ?_; clear hKo Ko
      exact ih 21 (by omega) _ _ pfn_of ⟨s13, L13, rfl, ho13, h⟩
    · refine dn_1 10 #[false, false, false, true, true, true, false, true, true, true, true, false, false, false, false, false, false, false] ⟨some 17, _, _, _, _, _⟩ fun Ko hKo => ?_
      refine op_buildSliceB [BitVec.ofNat 8 p] h rfl rfl Tryd.runUnderlying25 Tryd.sizeOf5 Tryd.zeroValue5 rfl (by decide) fun b17 w h => ?_
      refine hKo _ _ _ (fun _ => (by repeat (first | exact h | replace h := h.tail | replace h := h.appTail))) ?_; clear hKo Ko
      exact ih 22 (by omega) _ _ pfn_of ⟨b17, rfl, h⟩
  | 0, _ =>
    rintro f w ⟨b7, b9, s13, L13, b17, e7, e8, e9, e13, e17, ho13, h⟩ ih
    simp only [putFn, List.foldl_cons, List.foldl_nil, List.set_cons_zero, List.set_cons_succ, e7, e8, e9, e13, e17]
    clear e7 e8 e9 e13 e17
    show wpN _ _ _ _ _ _ 7 #[true, true, true, true, true, true, true, true, true, true, true, false, false, false, false, false, false, false] _ _
    clear ih
    have h13 := (OwnS.rd0 ho13).one
    refine dn_o 11 #[true, true, true, true, true, true, true, true, true, true, true, true, false, false, false, false, false, false] ⟨some 18, _, _, _, _, _⟩ fun Ko hKo => ?_
    refine op_buildSliceL [_, _, _, _] h rfl rfl Tryd.runUnderlying106 Tryd.sizeOf25 Tryd.zeroValue25 rfl (by decide) (by intro v hv; simp only [List.mem_cons, List.not_mem_nil, or_false] at hv; rcases hv with rfl | rfl | rfl | rfl <;> first | rfl | assumption) fun b18 w h => ?_
    refine hKo _ _ _ (fun _ => (by repeat (first | exact h | replace h := h.tail | replace h := h.appTail))) ?_; clear hKo Ko
    refine dn_o 12 #[true, true, true, true, true, true, true, true, true, true, true, true, true, false, false, false, false, false] ⟨some 19, _, _, _, _, _⟩ fun Ko hKo => ?_
    refine op_call [_] Tryd.call46 rfl (concat_ok h (Rd.mk (off := 0) (n := 4) (c := 4) (sz := 1) (by omega) (by simp)) (xss := [magicB, [1#8], be 2 ((BitVec.ofNat 16 c).setWidth 64), [BitVec.ofNat 8 p]]) (Sls.cons (Sl.all (t := magicB) (n := 9) (by omega) rfl) (Sls.cons (Sl.all (t := [1#8]) (n := 1) (by omega) rfl) (Sls.cons (ho13.slm (by intro p hp; simp only [List.mem_append, List.mem_cons, hp, true_or, or_true])) (Sls.cons (Sl.all (t := [BitVec.ofNat 8 p]) (n := 1) (by omega) rfl) Sls.nil)))) rfl rfl (by omega) (by simp only [List.flatten_cons, List.flatten_nil, List.append_nil]; rw [superB_pre]; omega)) ?_
    clear h; rintro s19 w ⟨L19, ho19, h⟩
    simp only [List.flatten_cons, List.flatten_nil, List.append_nil] at ho19
    refine hKo _ _ _ (fun _ => (by repeat (first | exact h | replace h := h.tail | replace h := h.appTail))) ?_; clear hKo Ko
    refine dn_o 13 #[true, true, true, true, true, true, true, true, true, true, true, true, true, true, false, false, false, false] ⟨some 20, _, _, _, _, _⟩ fun Ko hKo => ?_
    refine op_call [_, _] Tryd.call42 rfl (pad_ok h (ho19.sl _) 512 (by omega) (by rw [superB_pre]; omega)) ?_
    clear h; rintro _ w ⟨s20, L20, rfl, ho20, h⟩
    rw [superB_def] at ho20
    refine hKo _ _ _ (fun _ => (by repeat (first | exact h | replace h := h.tail | replace h := h.appTail))) ?_; clear hKo Ko
    refine dn_p 14 #[true, true, true, true, true, true, true, true, true, true, true, true, true, true, true, false, false, false] ⟨some 21, _, _, _, _, _⟩ rfl (fun w => r_extract rfl rfl) ?_
    refine dn_p 15 #[true, true, true, true, true, true, true, true, true, true, true, true, true, true, true, true, false, false] ⟨some 22, _, _, _, _, _⟩ rfl (fun w => r_extract rfl rfl) ?_
    refine dn_p 16 #[true, true, true, true, true, true, true, true, true, true, true, true, true, true, true, true, true, false] ⟨some 2, _, _, _, _, _⟩ rfl (fun w => r_assign rfl) ?_
    refine dn_p 17 #[true, true, true, true, true, true, true, true, true, true, true, true, true, true, true, true, true, true] ⟨some 3, _, _, _, _, _⟩ rfl (fun w => r_assign rfl) ?_
    refine dn_done (by kernel_rfl) ?_
    refine hK4 _ _ ?_
    clear hK4 K4
    refine wp_ret ?_
    refine (hQ _ _ _ (res_tmp2 rfl rfl rfl) ?_).1
    try simp only [List.getD_cons_zero, List.getD_cons_succ]
    exact ⟨_, _, rfl, ho20, h.midApp.midTail.midTail.midTail.midTail.midApp.midTail⟩

set_option maxHeartbeats 1000000 in
set_option maxRecDepth 100000 in
theorem supersum_ok {E : Env} {w : World} {F : List (Nat × Obj)} (h : Has E w F) {c p : Nat} (hc1 : 1 ≤ c) (hc2 : c ≤ 64) (hp1 : 1 ≤ p) (hp2 : p ≤ 2) [m0 : Mem F 0 (ws 157 rootsL)] : Ret Tryd.prog 23 [aggV [i64 c, i64 p]] w fun v w' => v = aggB (superSum c p) ∧ Has E w' F := by
  refine ret_of_wp (l := [aggV [i64 c, i64 p], undef, undef, undef, undef, undef, undef, undef, undef, undef, undef, undef, undef, undef, undef, undef]) Tryd.func23 rfl (by simp only [Tryd.ntmps23, List.size_toArray, List.length_cons, List.length_nil, Nat.reduceAdd, Nat.reduceSub, Array.replicate_succ, Array.replicate_zero, List.push_toArray, List.append_toArray, List.nil_append, List.cons_append]) fun Q hQ => ?_
  refine cw_seq fun K1 hK1 => ?_
  refine cw_region ?_
  refine wl_o fun Ko hKo => ?_
  refine op_box h rfl rfl fun b1 w h => ?_
  refine hKo _ _ _ ?_; clear hKo Ko
  refine wl_o fun Ko hKo => ?_
  refine op_allocB 32 h Tryd.zeroValue35 rfl fun b2 w h => ?_
  refine hKo _ _ _ ?_; clear hKo Ko
  refine wl_nil ?_
  refine hK1 _ _ ?_
  clear hK1 K1
  refine cw_seq fun K2 hK2 => ?_
  refine cw_region ?_
  refine wl_p (r_load_all h rfl (by first | rfl | (simp; done) | (exact side_of)) Tryd.isAgg33 Tryd.sizeOf33) ?_
  refine wl_o fun Ko hKo => ?_
  refine op_call [_] Tryd.call39 rfl (superput_ok h hc1 hc2 hp1 hp2) ?_
  clear h; rintro _ w ⟨s7, L7, rfl, ho7, h⟩
  refine hKo _ _ _ ?_; clear hKo Ko
  refine wl_p (r_move rfl) ?_
  refine wl_p (r_extract rfl rfl) ?_
  refine wl_p (r_extract rfl rfl) ?_
  refine wl_p (r_assign rfl) ?_
  refine wl_p (r_assign rfl) ?_
  refine wl_nil ?_
  refine hK2 _ _ ?_
  clear hK2 K2
  refine cw_seq fun K3 hK3 => ?_
  refine cw_seq fun K4 hK4 => ?_
  refine cw_region ?_
  refine wl_p (r_move rfl) ?_
  refine wl_p (r_neq_f  (n := 0) rfl rfl (by first | assumption | omega | (exact side_of) | (simp; done))) ?_
  refine wl_nil ?_
  refine hK4 _ _ ?_
  clear hK4 K4
  refine wp_cond_false rfl ?_
  refine wp_skip ?_
  refine hK3 _ _ ?_
  clear hK3 K3
  refine cw_seq fun K5 hK5 => ?_
  refine cw_region ?_
  refine wl_p (r_move rfl) ?_
  have h7 := (OwnS.rd0 ho7).one
  have hlen := superB_len c p
  refine wl_o fun Ko hKo => ?_
  refine op_buildSliceL [_] h rfl rfl Tryd.runUnderlying106 Tryd.sizeOf25 Tryd.zeroValue25 rfl (by decide) (by intro v hv; simp only [List.mem_cons, List.not_mem_nil, or_false] at hv; rcases hv with rfl <;> first | rfl | assumption) fun b14 w h => ?_
  refine hKo _ _ _ ?_; clear hKo Ko
  refine wl_o fun Ko hKo => ?_
  refine op_call [_] Tryd.call37 rfl (shaof_ok h (Rd.mk (off := 0) (n := 1) (c := 1) (sz := 1) (by omega) (by simp)) (xss := [superB c p]) (Sls.cons (ho7.slm (by intro p hp; simp only [List.mem_append, List.mem_cons, hp, true_or, or_true])) Sls.nil) rfl rfl (by omega) (by simp [hlen])) ?_
  clear h; rintro _ w ⟨rfl, h⟩
  simp only [List.flatten_cons, List.flatten_nil, List.append_nil]
  rw [show sha (superB c p) = superSum c p by rw [superSum]]
  refine hKo _ _ _ ?_; clear hKo Ko
  refine wl_o fun Ko hKo => ?_
  refine op_store_ball h rfl rfl (by exact superSum_len _ _) len_of Tryd.sizeOf35 fun w h => ?_
  have h := h.nm
  refine hKo _ _ _ ?_; clear hKo Ko
  refine wl_nil ?_
  refine hK5 _ _ ?_
  clear hK5 K5
  refine wp_ret ?_
  refine (hQ _ _ _ (res_cell h rfl rfl (by simp [superSum_len]) Tryd.isAgg35 Tryd.sizeOf35) ?_).1
  exact ⟨rfl, h.tail.appTail.tail.tail⟩

end Go.Proofs.YtjdfenlmifhhdaaDoor
