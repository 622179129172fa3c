/-
  Walks, printed by mk.py (a program of this work) out of specs9.py: what the Go functions compute, and that nobody else's memory turns. Condition: none.
-/
import Derived.Test.YtjdfenlmifhhdaaDoorProg
import Derived.Test.YtjdfenlmifhhdaaDoorAuto
import Derived.Test.YtjdfenlmifhhdaaDoorOct3
import Derived.Test.YtjdfenlmifhhdaaDoorPure2
import Derived.Test.YtjdfenlmifhhdaaDoorWalk2
namespace Go.Proofs.YtjdfenlmifhhdaaDoor
open Go.RowKit

attribute [local irreducible] rotr turnW mixW be32 wNew vOne vTwo addBlk sched
set_option maxHeartbeats 1000000 in
set_option maxRecDepth 100000 in
theorem rotl_ok {w : World} (x : BitVec 32) (k : Nat) (h0 : 0 < k) (h1 : k < 32) : Ret Tryd.prog 97 [W x, i64 (-(k : Int))] w fun v w' => v = W (rotr x k) ∧ w' = w := by
  obtain ⟨r1, r2, r3⟩ := rot_count ⟨k, h1⟩ h0
  dsimp only at r1 r2 r3
  have e2 : D (BitVec.ofNat 64 (32 - k)) = .int .u64 ((32 - k : Nat) : Int) := by unfold D; rw [r2]
  have e3 : D (32#64 - BitVec.ofNat 64 (32 - k)) = .int .u64 (k : Int) := by unfold D; rw [r3]
  refine ret_of_wp (l := [W x, i64 (-(k : Int)), undef, undef, undef, undef, undef, undef, undef, undef, undef, undef, undef, undef, undef, undef, undef]) Tryd.func97 rfl (by simp only [Tryd.ntmps97, List.size_toArray, List.length_cons, List.length_nil, Nat.reduceAdd, Nat.reduceSub, Array.replicate_succ, Array.replicate_zero, List.push_toArray, List.append_toArray, List.nil_append, List.cons_append]) fun Q hQ => ?_
  refine cw_seq fun K1 hK1 => ?_
  refine cw_region ?_
  refine wl_p (r_assign rfl) ?_
  refine wl_nil ?_
  refine hK1 _ _ ?_
  clear hK1 K1
  refine cw_seq fun K2 hK2 => ?_
  refine cw_region ?_
  refine wl_p (r_move rfl) ?_
  refine wl_p (r_conv_negD rfl Tryd.runUnderlying3 Tryd.runUnderlying153) ?_
  refine wl_p (r_and_D  (q := 31#64) rfl rfl) ?_
  rw [r1]
  refine wl_p (r_assign rfl) ?_
  refine wl_nil ?_
  refine hK2 _ _ ?_
  clear hK2 K2
  refine cw_seq fun K3 hK3 => ?_
  refine cw_region ?_
  refine wl_p (r_move rfl) ?_
  refine wl_p (r_move rfl) ?_
  refine wl_p (r_shl_W  (n := 32 - k) rfl e2) ?_
  refine wl_p (r_move rfl) ?_
  refine wl_p (r_move rfl) ?_
  refine wl_p (r_sub_D (p := 32#64)  rfl rfl) ?_
  refine wl_p (r_shr_W  (n := k) rfl e3) ?_
  refine wl_p (r_or_W   rfl rfl) ?_
  refine wl_p (r_assign rfl) ?_
  refine wl_nil ?_
  refine hK3 _ _ ?_
  clear hK3 K3
  refine wp_ret ?_
  refine (hQ _ _ _ (res_tmp rfl rfl) ?_).1
  try simp only [List.getD_cons_zero, List.getD_cons_succ]
  exact ⟨by rw [rotr], by trivial⟩

set_option maxHeartbeats 1000000 in
set_option maxRecDepth 100000 in
theorem turn_ok {E : Env} {F : List (Nat × Obj)} {w : World} (h : Has E w F) (x : BitVec 32) (a b c : Nat) (ha : 0 < a) (ha1 : a < 32) (hb : 0 < b) (hb1 : b < 32) (hc : 0 < c) (hc1 : c < 32) : Ret Tryd.prog 95 [W x, i64 a, i64 b, i64 c] w fun v w' => v = W (turnW x a b c) ∧ Has E w' F := by
  refine ret_of_wp (l := [W x, i64 a, i64 b, i64 c, undef, undef, undef, undef, undef, undef, undef, undef, undef, undef, undef, undef, undef, undef, undef, undef, undef, undef, undef]) Tryd.func95 rfl (by simp only [Tryd.ntmps95, List.size_toArray, List.length_cons, List.length_nil, Nat.reduceAdd, Nat.reduceSub, Array.replicate_succ, Array.replicate_zero, List.push_toArray, List.append_toArray, List.nil_append, List.cons_append]) fun Q hQ => ?_
  refine cw_seq fun K1 hK1 => ?_
  refine cw_region ?_
  refine wl_p (r_assign rfl) ?_
  refine wl_nil ?_
  refine hK1 _ _ ?_
  clear hK1 K1
  refine cw_seq fun K2 hK2 => ?_
  refine cw_region ?_
  refine wl_p (r_move rfl) ?_
  refine wl_p (r_move rfl) ?_
  refine wl_p (r_neg_i  rfl rfl (by omega) (by omega)) ?_
  refine wl_o fun Ko hKo => ?_
  refine op_call [_, _] Tryd.call97 rfl (rotl_ok x a ha ha1) ?_
  rintro _ w ⟨rfl, rfl⟩
  refine hKo _ _ _ ?_; clear hKo Ko
  refine wl_p (r_move rfl) ?_
  refine wl_p (r_move rfl) ?_
  refine wl_p (r_neg_i  rfl rfl (by omega) (by omega)) ?_
  refine wl_o fun Ko hKo => ?_
  refine op_call [_, _] Tryd.call97 rfl (rotl_ok x b hb hb1) ?_
  rintro _ w ⟨rfl, rfl⟩
  refine hKo _ _ _ ?_; clear hKo Ko
  refine wl_p (r_xor_W   rfl rfl) ?_
  refine wl_p (r_move rfl) ?_
  refine wl_p (r_move rfl) ?_
  refine wl_p (r_neg_i  rfl rfl (by omega) (by omega)) ?_
  refine wl_o fun Ko hKo => ?_
  refine op_call [_, _] Tryd.call97 rfl (rotl_ok x c hc hc1) ?_
  rintro _ w ⟨rfl, rfl⟩
  refine hKo _ _ _ ?_; clear hKo Ko
  refine wl_p (r_xor_W   rfl rfl) ?_
  refine wl_p (r_assign rfl) ?_
  refine wl_nil ?_
  refine hK2 _ _ ?_
  clear hK2 K2
  refine wp_ret ?_
  refine (hQ _ _ _ (res_tmp rfl rfl) ?_).1
  try simp only [List.getD_cons_zero, List.getD_cons_succ]
  exact ⟨by rw [turnW], h⟩

set_option maxHeartbeats 1000000 in
set_option maxRecDepth 100000 in
theorem mix_ok {E : Env} {F : List (Nat × Obj)} {w : World} (h : Has E w F) (x : BitVec 32) (a b c : Nat) (ha : 0 < a) (ha1 : a < 32) (hb : 0 < b) (hb1 : b < 32) (hc : 0 < c) (hc1 : c < 32) : Ret Tryd.prog 94 [W x, i64 a, i64 b, i64 c] w fun v w' => v = W (mixW x a b c) ∧ Has E w' F := by
  refine ret_of_wp (l := [W x, i64 a, i64 b, i64 c, undef, undef, undef, undef, undef, undef, undef, undef, undef, undef, undef, undef, undef, undef, undef, undef, undef, undef]) Tryd.func94 rfl (by simp only [Tryd.ntmps94, List.size_toArray, List.length_cons, List.length_nil, Nat.reduceAdd, Nat.reduceSub, Array.replicate_succ, Array.replicate_zero, List.push_toArray, List.append_toArray, List.nil_append, List.cons_append]) fun Q hQ => ?_
  refine cw_seq fun K1 hK1 => ?_
  refine cw_region ?_
  refine wl_p (r_assign rfl) ?_
  refine wl_nil ?_
  refine hK1 _ _ ?_
  clear hK1 K1
  refine cw_seq fun K2 hK2 => ?_
  refine cw_drawn0 h (by kernel_rfl) 14 rfl #[false, false, false, false, false, false, false, false, false, false, false, false, false, false] rfl ?_
  clear h; rintro w h
  refine dn_p 0 #[true, false, false, false, false, false, false, false, false, false, false, false, false, false] ⟨some 9, _, _, _, _, _⟩ rfl (fun w => r_move rfl) ?_
  refine dn_p 1 #[true, true, false, false, false, false, false, false, false, false, false, false, false, false] ⟨some 10, _, _, _, _, _⟩ rfl (fun w => r_move rfl) ?_
  refine dn_p 2 #[true, true, true, false, false, false, false, false, false, false, false, false, false, false] ⟨some 11, _, _, _, _, _⟩ rfl (fun w => r_neg_i  rfl rfl (by omega) (by omega)) ?_
  refine dn_p 4 #[true, true, true, false, true, false, false, false, false, false, false, false, false, false] ⟨some 13, _, _, _, _, _⟩ rfl (fun w => r_move rfl) ?_
  refine dn_p 5 #[true, true, true, false, true, true, false, false, false, false, false, false, false, false] ⟨some 14, _, _, _, _, _⟩ rfl (fun w => r_move rfl) ?_
  refine dn_p 6 #[true, true, true, false, true, true, true, false, false, false, false, false, false, false] ⟨some 15, _, _, _, _, _⟩ rfl (fun w => r_neg_i  rfl rfl (by omega) (by omega)) ?_
  refine dn_p 9 #[true, true, true, false, true, true, true, false, false, true, false, false, false, false] ⟨some 18, _, _, _, _, _⟩ rfl (fun w => r_move rfl) ?_
  refine dn_p 10 #[true, true, true, false, true, true, true, false, false, true, true, false, false, false] ⟨some 19, _, _, _, _, _⟩ rfl (fun w => r_move rfl) ?_
  refine dn_p 11 #[true, true, true, false, true, true, true, false, false, true, true, true, false, false] ⟨some 20, _, _, _, _, _⟩ rfl (fun w => r_shr_W  (n := c) rfl rfl) ?_
  refine dn_o 3 #[true, true, true, true, true, true, true, false, false, true, true, true, false, false] ⟨some 12, _, _, _, _, _⟩ fun Ko hKo => ?_
  refine op_call [_, _] Tryd.call97 rfl (rotl_ok x a ha ha1) ?_
  rintro _ w ⟨rfl, rfl⟩
  refine hKo _ _ _ (fun _ => trivial) ?_; clear hKo Ko
  refine dn_o 7 #[true, true, true, true, true, true, true, true, false, true, true, true, false, false] ⟨some 16, _, _, _, _, _⟩ fun Ko hKo => ?_
  refine op_call [_, _] Tryd.call97 rfl (rotl_ok x b hb hb1) ?_
  rintro _ w ⟨rfl, rfl⟩
  refine hKo _ _ _ (fun _ => trivial) ?_; clear hKo Ko
  refine dn_p 8 #[true, true, true, true, true, true, true, true, true, true, true, true, false, false] ⟨some 17, _, _, _, _, _⟩ rfl (fun w => r_xor_W   rfl rfl) ?_
  refine dn_p 12 #[true, true, true, true, true, true, true, true, true, true, true, true, true, false] ⟨some 21, _, _, _, _, _⟩ rfl (fun w => r_xor_W   rfl rfl) ?_
  refine dn_p 13 #[true, true, true, true, true, true, true, true, true, true, true, true, true, true] ⟨some 8, _, _, _, _, _⟩ rfl (fun w => r_assign rfl) ?_
  refine dn_done (by kernel_rfl) ?_
  refine hK2 _ _ ?_
  clear hK2 K2
  refine wp_ret ?_
  refine (hQ _ _ _ (res_tmp rfl rfl) ?_).1
  try simp only [List.getD_cons_zero, List.getD_cons_succ]
  exact ⟨by rw [mixW], h⟩

set_option maxHeartbeats 1000000 in
set_option maxRecDepth 100000 in
theorem first_ok {E : Env} {w : World} {F : List (Nat × Obj)} (h : Has E w F) : Ret Tryd.prog 87 [] w fun v w' => v = aggW st0 ∧ Has E w' F := by
  refine ret_of_wp (l := [undef, undef]) Tryd.func87 rfl (by simp only [Tryd.ntmps87, List.size_toArray, List.length_cons, List.length_nil, Nat.reduceAdd, Nat.reduceSub, Array.replicate_succ, Array.replicate_zero, List.push_toArray, List.append_toArray, List.nil_append, List.cons_append]) fun Q hQ => ?_
  refine cw_seq fun K1 hK1 => ?_
  refine cw_region ?_
  refine wl_o fun Ko hKo => ?_
  refine op_allocW 8 h Tryd.zeroValue139 rfl fun b0 w h => ?_
  refine hKo _ _ _ ?_; clear hKo Ko
  refine wl_nil ?_
  refine hK1 _ _ ?_
  clear hK1 K1
  refine cw_seq fun K2 hK2 => ?_
  refine cw_region ?_
  refine wl_p (r_buildP (ps := [(0, _), (1, _), (2, _), (3, _), (4, _), (5, _), (6, _), (7, _)]) (pl := (List.range 8).map fun i => (i * 1, 1)) (z := [(Value.int IntKind.u32 0), (Value.int IntKind.u32 0), (Value.int IntKind.u32 0), (Value.int IntKind.u32 0), (Value.int IntKind.u32 0), (Value.int IntKind.u32 0), (Value.int IntKind.u32 0), (Value.int IntKind.u32 0)]) rfl (by kernel_rfl) (rfl)) ?_
  refine wl_o fun Ko hKo => ?_
  refine op_store_all h rfl (show _ = aggW st0 from rfl) oneW (by rfl) (by exact fun w => Tryd.sizeOf139 w) fun w h => ?_
  have h := h.nm
  refine hKo _ _ _ ?_; clear hKo Ko
  refine wl_nil ?_
  refine hK2 _ _ ?_
  clear hK2 K2
  refine wp_ret ?_
  refine (hQ _ _ _ (res_cell h rfl rfl (by rfl) Tryd.isAgg139 Tryd.sizeOf139) ?_).1
  exact ⟨rfl, h.tail⟩

set_option maxHeartbeats 2000000 in
set_option maxRecDepth 100000 in
theorem add_ok0 {E : Env} {w : World} {F : List (Nat × Obj)} {b : Nat} {T : TypeId} {st : Words} {r : List Value} (h : Has E w ((b, wsR T st r) :: F)) (hst : st.length = 8) [m0 : Mem F 0 (ws 157 rootsL)] {A : Option Addr} {c : Nat} {blk : Bytes} (hd : Sl F (.slice A blk.length c) blk) (hb : blk.length = 64) : Ret Tryd.prog 88 [ptr b 0, .slice A blk.length c] w fun v w' => Has E w' ((b, wsR T (addBlk st blk) r) :: F) := by
  refine ret_of_wp (l := [ptr b 0, .slice A blk.length c, undef, undef, undef, undef, undef, undef, undef, undef, undef, undef, undef, undef, undef, undef, undef, undef, undef, undef, undef, undef, undef, undef, undef, undef, undef, undef, undef, undef, undef, undef, undef, undef, undef, undef, undef, undef, undef, undef, undef, undef, undef, undef, undef, undef, undef, undef, undef, undef, undef, undef, undef, undef, undef, undef, undef, undef, undef, undef, undef, undef, undef, undef, undef, undef, undef, undef, undef, undef, undef, undef, undef, undef, undef, undef, undef, undef, undef, undef, undef, undef, undef, undef, undef, undef, undef, undef, undef, undef, undef, undef, undef, undef, undef, undef, undef, undef, undef, undef, undef, undef, undef, undef, undef, undef, undef, undef, undef, undef, undef, undef, undef, undef, undef, undef, undef, undef, undef, undef, undef, undef, undef, undef, undef, undef, undef]) Tryd.func88 rfl (by simp only [Tryd.ntmps88, List.size_toArray, List.length_cons, List.length_nil, Nat.reduceAdd, Nat.reduceSub, Array.replicate_succ, Array.replicate_zero, List.push_toArray, List.append_toArray, List.nil_append, List.cons_append]) fun Q hQ => ?_
  refine cw_seq fun K1 hK1 => ?_
  refine cw_region ?_
  refine wl_o fun Ko hKo => ?_
  refine op_allocW 64 h Tryd.zeroValue157 rfl fun b4 w h => ?_
  refine hKo _ _ _ ?_; clear hKo Ko
  refine wl_nil ?_
  refine hK1 _ _ ?_
  clear hK1 K1
  refine cw_seq fun K2 hK2 => ?_
  refine cw_region ?_
  refine wl_p (r_move rfl) ?_
  refine wl_o fun Ko hKo => ?_
  refine op_call [_] Tryd.call54 rfl (read_ok h) ?_
  clear h; rintro v14 w ⟨rd, rfl, h⟩
  refine hKo _ _ _ ?_; clear hKo Ko
  refine wl_p (r_assign rfl) ?_
  refine wl_nil ?_
  refine hK2 _ _ ?_
  clear hK2 K2
  refine cw_seq fun K3 hK3 => ?_
  refine cw_seq fun K4 hK4 => ?_
  refine cw_region ?_
  refine wl_p (r_move rfl) ?_
  refine wl_nil ?_
  refine hK4 _ _ ?_
  clear hK4 K4
  refine wp_block ?_
  refine cw_loopf [6, 15, 16, 17, 18, 19, 20, 21, 22, 23, 24, 25, 26, 27, 28, 29, 30, 31, 32, 33, 34, 35, 36, 37, 38, 39, 40, 41, 42, 43, 44, 45, 46, 47] (fun f w n => ∃ (t : Nat) (sd : Value) (e : Nat), t ≤ 64 ∧ f 15 = i64 t ∧ Sl F sd (blk.drop (4 * t)) ∧ (t ≤ 16 → e = 0) ∧ Has E w ((rd, vs 135 [sd, i64 (e : Nat)]) :: (b4, ws 157 (iter (wStep blk) t (List.replicate 64 0))) :: (b, wsR T st r) :: F) ∧ n = 64 - t) (64) ⟨0, _, 0, by omega, rfl, hd, fun _ => rfl, h, rfl⟩ ?_
  clear h; rintro f w n ⟨t, sd, e, ht, e15, hsd, he, h, rfl⟩ K5 hK5
  simp only [putFn, List.foldl_cons, List.foldl_nil, List.set_cons_zero, List.set_cons_succ, e15]
  clear e15
  have hl : (iter (wStep blk) t (List.replicate 64 0)).length = 64 := by rw [wIter_len, List.length_replicate]
  have hsucc := iter_succ (wStep blk) t (List.replicate 64 0)
  obtain ⟨wl, hwl⟩ : ∃ wl, wl = iter (wStep blk) t (List.replicate 64 0) := ⟨_, rfl⟩
  rw [← hwl] at h hl hsucc
  refine cw_seq fun K6 hK6 => ?_
  refine cw_region ?_
  refine wl_p (r_lss  (n := 64) rfl rfl) ?_
  refine wl_nil ?_
  refine hK6 _ _ ?_
  clear hK6 K6
  refine cw_seq fun K7 hK7 => ?_
  refine wp_cond_split rfl (fun hc => ?_) (fun hc => ?_)
  · have hlt := of_decide_eq_true hc; clear hc
    have ht64 : t < 64 := by omega
    refine wp_skip ?_
    refine hK7 _ _ ?_
    clear hK7 K7
    refine cw_seq fun K8 hK8 => ?_
    refine wp_block ?_
    refine cw_seq fun K9 hK9 => ?_
    refine cw_region ?_
    refine wl_p (r_move rfl) ?_
    refine wl_p (r_assign rfl) ?_
    refine wl_nil ?_
    refine hK9 _ _ ?_
    clear hK9 K9
    refine cw_seq fun K10 hK10 => ?_
    refine cw_seq fun K11 hK11 => ?_
    refine cw_region ?_
    refine wl_p (r_move rfl) ?_
    refine wl_p (r_lss  (n := 16) rfl rfl) ?_
    refine wl_nil ?_
    refine hK11 _ _ ?_
    clear hK11 K11
    refine wp_cond_split rfl (fun hc => ?_) (fun hc => ?_)
    · have h16 := of_decide_eq_true hc; clear hc
      have h16 : t < 16 := by omega
      have hnew : wNew blk t wl = be32 blk t := by unfold wNew; rw [if_pos h16]
      have he0 := he (by omega)
      subst he0
      have hdl : ¬ (blk.drop (4 * t)).length < 4 := by rw [List.length_drop]; omega
      refine cw_seq fun K12 hK12 => ?_
      refine cw_region ?_
      refine wl_p (r_move rfl) ?_
      refine wl_p (r_move rfl) ?_
      refine wl_o fun Ko hKo => ?_
      refine op_call [_] Tryd.call55 rfl (u32_ok (G := F) (fun p hp => List.mem_cons_of_mem _ (List.mem_cons_of_mem _ hp)) hsd h (by rw [List.length_drop]; omega)) ?_
      clear h; rintro _ w ⟨rfl, sd2, hs2, h⟩
      rw [rdNext_n hdl] at hs2 h
      dsimp only at hs2 h
      simp only [rdNext_n hdl]
      rw [List.drop_drop, show 4 * t + 4 = 4 * (t + 1) by omega] at hs2
      rw [show (beNum ((blk.drop (4 * t)).take 4)).setWidth 32 = be32 blk t by rw [be32]]
      refine hKo _ _ _ ?_; clear hKo Ko
      refine wl_p (r_indexAddr_arr (j := t) rfl rfl Tryd.runUnderlying157 Tryd.sizeOf34 (by first | rfl | omega) (by omega)) ?_
      refine wl_o fun Ko hKo => ?_
      refine op_store_w h rfl rfl (by omega) Tryd.sizeOf34 fun w h => ?_
      have h := h.nm
      refine hKo _ _ _ ?_; clear hKo Ko
      refine wl_nil ?_
      refine hK12 _ _ ?_
      clear hK12 K12
      refine wp_exit ?_
      refine hK8 _ _ ?_
      clear hK10 hK8 K10 K8
      refine cw_region ?_
      refine wl_p (r_add_n  (n := 1) rfl rfl om_of) ?_
      refine wl_p (r_move rfl) ?_
      refine wl_nil ?_
      rw [← hnew, ← wStep_def, ← hsucc] at h
      refine hK5 _ _ (64 - (t + 1)) pfn_of ⟨t + 1, _, _, by omega, rfl, hs2, ?he_13, h, rfl⟩ (by omega)
      case he_13 => first | exact fun _ => rfl | exact fun hq => absurd hq (by omega)
    · have h16 := of_decide_eq_false hc; clear hc
      have h16 : ¬ t < 16 := by omega
      have hnew : wNew blk t wl = mixW (wl.getD (t - 2) 0) 17 19 10 + wl.getD (t - 7) 0 + mixW (wl.getD (t - 15) 0) 7 18 3 + wl.getD (t - 16) 0 := by unfold wNew; rw [if_neg h16]
      have hs2 : Sl F sd (blk.drop (4 * (t + 1))) := by rw [List.drop_of_length_le (by omega)] at hsd ⊢; exact hsd
      refine wp_skip ?_
      refine hK10 _ _ ?_
      clear hK10 K10
      refine cw_drawnH h (h) (fun i => i == 23) (by kernel_rfl) 24 rfl #[false, false, false, false, false, false, false, false, false, false, false, false, false, false, false, false, false, false, false, false, false, false, false, false] rfl ?_
      clear h; rintro w h hS
      refine dn_p 0 #[true, false, false, false, false, false, false, false, false, false, false, false, false, false, false, false, false, false, false, false, false, false, false, false] ⟨some 24, _, _, _, _, _⟩ rfl (fun w => r_move rfl) ?_
      refine dn_p 1 #[true, true, false, false, false, false, false, false, false, false, false, false, false, false, false, false, false, false, false, false, false, false, false, false] ⟨some 25, _, _, _, _, _⟩ rfl (fun w => r_move rfl) ?_
      refine dn_p 2 #[true, true, true, false, false, false, false, false, false, false, false, false, false, false, false, false, false, false, false, false, false, false, false, false] ⟨some 26, _, _, _, _, _⟩ rfl (fun w => r_sub_n (m := t)  (n := 2)  rfl rfl om_of om_of) ?_
      refine dn_p 3 #[true, true, true, true, false, false, false, false, false, false, false, false, false, false, false, false, false, false, false, false, false, false, false, false] ⟨some 27, _, _, _, _, _⟩ rfl (fun w => r_indexAddr_arr (j := t - 2) rfl rfl Tryd.runUnderlying157 Tryd.sizeOf34 (by first | rfl | omega) (by omega)) ?_
      refine dn_l 4 #[true, true, true, true, true, false, false, false, false, false, false, false, false, false, false, false, false, false, false, false, false, false, false, false] ⟨some 28, _, _, _, _, _⟩ rfl (by first | exact h | exact h.tail | exact h.tail.tail | exact hS) (fun w hS => r_load_w hS rfl (by omega) Tryd.isAgg34) ?_
      refine dn_p 6 #[true, true, true, true, true, false, true, false, false, false, false, false, false, false, false, false, false, false, false, false, false, false, false, false] ⟨some 30, _, _, _, _, _⟩ rfl (fun w => r_move rfl) ?_
      refine dn_p 7 #[true, true, true, true, true, false, true, true, false, false, false, false, false, false, false, false, false, false, false, false, false, false, false, false] ⟨some 31, _, _, _, _, _⟩ rfl (fun w => r_sub_n (m := t)  (n := 7)  rfl rfl om_of om_of) ?_
      refine dn_p 8 #[true, true, true, true, true, false, true, true, true, false, false, false, false, false, false, false, false, false, false, false, false, false, false, false] ⟨some 32, _, _, _, _, _⟩ rfl (fun w => r_indexAddr_arr (j := t - 7) rfl rfl Tryd.runUnderlying157 Tryd.sizeOf34 (by first | rfl | omega) (by omega)) ?_
      refine dn_l 9 #[true, true, true, true, true, false, true, true, true, true, false, false, false, false, false, false, false, false, false, false, false, false, false, false] ⟨some 33, _, _, _, _, _⟩ rfl (by first | exact h | exact h.tail | exact h.tail.tail | exact hS) (fun w hS => r_load_w hS rfl (by omega) Tryd.isAgg34) ?_
      refine dn_p 11 #[true, true, true, true, true, false, true, true, true, true, false, true, false, false, false, false, false, false, false, false, false, false, false, false] ⟨some 35, _, _, _, _, _⟩ rfl (fun w => r_move rfl) ?_
      refine dn_p 12 #[true, true, true, true, true, false, true, true, true, true, false, true, true, false, false, false, false, false, false, false, false, false, false, false] ⟨some 36, _, _, _, _, _⟩ rfl (fun w => r_sub_n (m := t)  (n := 15)  rfl rfl om_of om_of) ?_
      refine dn_p 13 #[true, true, true, true, true, false, true, true, true, true, false, true, true, true, false, false, false, false, false, false, false, false, false, false] ⟨some 37, _, _, _, _, _⟩ rfl (fun w => r_indexAddr_arr (j := t - 15) rfl rfl Tryd.runUnderlying157 Tryd.sizeOf34 (by first | rfl | omega) (by omega)) ?_
      refine dn_l 14 #[true, true, true, true, true, false, true, true, true, true, false, true, true, true, true, false, false, false, false, false, false, false, false, false] ⟨some 38, _, _, _, _, _⟩ rfl (by first | exact h | exact h.tail | exact h.tail.tail | exact hS) (fun w hS => r_load_w hS rfl (by omega) Tryd.isAgg34) ?_
      refine dn_p 17 #[true, true, true, true, true, false, true, true, true, true, false, true, true, true, true, false, false, true, false, false, false, false, false, false] ⟨some 41, _, _, _, _, _⟩ rfl (fun w => r_move rfl) ?_
      refine dn_p 18 #[true, true, true, true, true, false, true, true, true, true, false, true, true, true, true, false, false, true, true, false, false, false, false, false] ⟨some 42, _, _, _, _, _⟩ rfl (fun w => r_sub_n (m := t)  (n := 16)  rfl rfl om_of om_of) ?_
      refine dn_p 19 #[true, true, true, true, true, false, true, true, true, true, false, true, true, true, true, false, false, true, true, true, false, false, false, false] ⟨some 43, _, _, _, _, _⟩ rfl (fun w => r_indexAddr_arr (j := t - 16) rfl rfl Tryd.runUnderlying157 Tryd.sizeOf34 (by first | rfl | omega) (by omega)) ?_
      refine dn_l 20 #[true, true, true, true, true, false, true, true, true, true, false, true, true, true, true, false, false, true, true, true, true, false, false, false] ⟨some 44, _, _, _, _, _⟩ rfl (by first | exact h | exact h.tail | exact h.tail.tail | exact hS) (fun w hS => r_load_w hS rfl (by omega) Tryd.isAgg34) ?_
      refine dn_o 5 #[true, true, true, true, true, true, true, true, true, true, false, true, true, true, true, false, false, true, true, true, true, false, false, false] ⟨some 29, _, _, _, _, _⟩ fun Ko hKo => ?_
      refine op_call [_, _, _, _] Tryd.call94 rfl (mix_ok h _ 17 19 10 (by omega) (by omega) (by omega) (by omega) (by omega) (by omega)) ?_
      clear h; rintro _ w ⟨rfl, h⟩
      refine hKo _ _ _ (fun _ => (by first | exact h | exact h.tail | exact h.tail.tail | exact hS)) ?_; clear hKo Ko
      refine dn_p 10 #[true, true, true, true, true, true, true, true, true, true, true, true, true, true, true, false, false, true, true, true, true, false, false, false] ⟨some 34, _, _, _, _, _⟩ rfl (fun w => r_add_W   rfl rfl) ?_
      refine dn_o 15 #[true, true, true, true, true, true, true, true, true, true, true, true, true, true, true, true, false, true, true, true, true, false, false, false] ⟨some 39, _, _, _, _, _⟩ fun Ko hKo => ?_
      refine op_call [_, _, _, _] Tryd.call94 rfl (mix_ok h _ 7 18 3 (by omega) (by omega) (by omega) (by omega) (by omega) (by omega)) ?_
      clear h; rintro _ w ⟨rfl, h⟩
      refine hKo _ _ _ (fun _ => (by first | exact h | exact h.tail | exact h.tail.tail | exact hS)) ?_; clear hKo Ko
      refine dn_p 16 #[true, true, true, true, true, true, true, true, true, true, true, true, true, true, true, true, true, true, true, true, true, false, false, false] ⟨some 40, _, _, _, _, _⟩ rfl (fun w => r_add_W   rfl rfl) ?_
      refine dn_p 21 #[true, true, true, true, true, true, true, true, true, true, true, true, true, true, true, true, true, true, true, true, true, true, false, false] ⟨some 45, _, _, _, _, _⟩ rfl (fun w => r_add_W   rfl rfl) ?_
      refine dn_p 22 #[true, true, true, true, true, true, true, true, true, true, true, true, true, true, true, true, true, true, true, true, true, true, true, false] ⟨some 46, _, _, _, _, _⟩ rfl (fun w => r_indexAddr_arr (j := t) rfl rfl Tryd.runUnderlying157 Tryd.sizeOf34 (by first | rfl | omega) (by omega)) ?_
      refine dn_o 23 #[true, true, true, true, true, true, true, true, true, true, true, true, true, true, true, true, true, true, true, true, true, true, true, true] ⟨none, _, _, _, _, _⟩ fun Ko hKo => ?_
      refine op_store_w h rfl rfl (by omega) Tryd.sizeOf34 fun w h => ?_
      have h := h.nm
      refine hKo _ _ _ (fun hT => absurd hT (by decide)) ?_; clear hKo Ko
      refine dn_done (by kernel_rfl) ?_
      refine hK8 _ _ ?_
      clear hK8 K8
      refine cw_region ?_
      refine wl_p (r_add_n  (n := 1) rfl rfl om_of) ?_
      refine wl_p (r_move rfl) ?_
      refine wl_nil ?_
      rw [← hnew, ← wStep_def, ← hsucc] at h
      refine hK5 _ _ (64 - (t + 1)) pfn_of ⟨t + 1, _, _, by omega, rfl, hs2, ?he_14, h, rfl⟩ (by omega)
      case he_14 => first | exact fun _ => rfl | exact fun hq => absurd hq (by omega)
  · have hlt := of_decide_eq_false hc; clear hc
    have ht64 : t = 64 := by omega
    refine wp_exit ?_
    refine hK3 _ _ ?_
    clear hK7 hK5 hK3 K7 K5 K3
    refine cw_seq fun K15 hK15 => ?_
    rw [hwl, ht64, sched_def] at h
    have hwl2 := sched_len blk
    obtain ⟨wv, hwv⟩ : ∃ wv, wv = sched blk := ⟨_, rfl⟩
    rw [← hwv] at h hwl2
    refine cw_region ?_
    refine wl_p (r_move rfl) ?_
    refine wl_p (r_nilCheck rfl) ?_
    refine wl_p (r_load_wrall h rfl hst Tryd.isAgg139 Tryd.sizeOf139) ?_
    refine wl_o fun Ko hKo => ?_
    refine op_allocW 8 h Tryd.zeroValue139 rfl fun b7 w h => ?_
    refine hKo _ _ _ ?_; clear hKo Ko
    refine wl_o fun Ko hKo => ?_
    refine op_store_wall h rfl rfl len_of len_of Tryd.sizeOf139 fun w h => ?_
    have h := h.nm
    refine hKo _ _ _ ?_; clear hKo Ko
    refine wl_nil ?_
    refine hK15 _ _ ?_
    clear hK15 K15
    refine cw_seq fun K16 hK16 => ?_
    refine cw_seq fun K17 hK17 => ?_
    refine cw_region ?_
    refine wl_p (r_move rfl) ?_
    refine wl_nil ?_
    refine hK17 _ _ ?_
    clear hK17 K17
    refine wp_block ?_
    refine cw_loopf [8, 9, 10, 51, 52, 53, 54, 55, 56, 57, 58, 59, 60, 61, 62, 63, 64, 65, 66, 67, 68, 69, 70, 71, 72, 73, 74, 75, 76, 77, 78, 79, 80, 81, 82, 83, 84, 85, 86, 87, 88, 89, 90, 91, 92, 93, 94, 95, 96, 97, 98, 99, 100, 101, 102, 103, 104, 105, 106, 107, 108, 109, 110, 111] (fun f w n => ∃ (t : Nat), t ≤ 64 ∧ f 51 = i64 t ∧ Has E w ((b7, ws 139 (iter (vStep wv) t st)) :: (rd, vs 135 [sd, i64 (e : Nat)]) :: (b4, ws 157 wv) :: (b, wsR T st r) :: F) ∧ n = 64 - t) (64) ⟨0, by omega, rfl, h, rfl⟩ ?_
    clear h; rintro f w n ⟨t, ht, e51, h, rfl⟩ K18 hK18
    simp only [putFn, List.foldl_cons, List.foldl_nil, List.set_cons_zero, List.set_cons_succ, e51]
    clear e51
    have hl8 : (iter (vStep wv) t st).length = 8 := vIter_len wv st hst t
    have hsucc := iter_succ (vStep wv) t st
    obtain ⟨vl, hvl⟩ : ∃ vl, vl = iter (vStep wv) t st := ⟨_, rfl⟩
    rw [← hvl] at h hl8 hsucc
    refine cw_seq fun K19 hK19 => ?_
    refine cw_region ?_
    refine wl_p (r_lss  (n := 64) rfl rfl) ?_
    refine wl_nil ?_
    refine hK19 _ _ ?_
    clear hK19 K19
    refine cw_seq fun K20 hK20 => ?_
    refine wp_cond_split rfl (fun hc => ?_) (fun hc => ?_)
    · have hlt := of_decide_eq_true hc; clear hc
      have ht64 : t < 64 := by omega
      refine wp_skip ?_
      refine hK20 _ _ ?_
      clear hK20 K20
      refine cw_seq fun K21 hK21 => ?_
      refine wp_block ?_
      refine cw_seq fun K22 hK22 => ?_
      refine cw_region ?_
      refine wl_p (r_move rfl) ?_
      refine wl_p (r_assign rfl) ?_
      refine wl_nil ?_
      refine hK22 _ _ ?_
      clear hK22 K22
      refine cw_seq fun K23 hK23 => ?_
      refine cw_drawnH h (h) (fun i => false) (by kernel_rfl) 28 rfl #[false, false, false, false, false, false, false, false, false, false, false, false, false, false, false, false, false, false, false, false, false, false, false, false, false, false, false, false] rfl ?_
      clear h; rintro w h hS
      refine dn_p 0 #[true, false, false, false, false, false, false, false, false, false, false, false, false, false, false, false, false, false, false, false, false, false, false, false, false, false, false, false] ⟨some 54, _, _, _, _, _⟩ rfl (fun w => r_indexAddr_arr (j := 7) rfl rfl Tryd.runUnderlying139 Tryd.sizeOf34 (by first | rfl | omega) om_of) ?_
      first
        | refine dn_l 1 #[true, true, false, false, false, false, false, false, false, false, false, false, false, false, false, false, false, false, false, false, false, false, false, false, false, false, false, false] ⟨some 55, _, _, _, _, _⟩ rfl (by first | exact h | exact h.tail | exact h.tail.tail | exact hS) (fun w hS => r_load_w hS rfl om_of Tryd.isAgg34) ?_
        | refine dn_l 1 #[true, true, false, false, false, false, false, false, false, false, false, false, false, false, false, false, false, false, false, false, false, false, false, false, false, false, false, false] ⟨some 55, _, _, _, _, _⟩ rfl (by first | exact h | exact h.tail | exact h.tail.tail | exact hS) (fun w hS => r_load_wr hS rfl om_of Tryd.isAgg34) ?_
        | refine dn_l 1 #[true, true, false, false, false, false, false, false, false, false, false, false, false, false, false, false, false, false, false, false, false, false, false, false, false, false, false, false] ⟨some 55, _, _, _, _, _⟩ rfl (by first | exact h | exact h.tail | exact h.tail.tail | exact hS) (fun w hS => r_load hS rfl rfl Tryd.isAgg34) ?_
      refine dn_p 2 #[true, true, true, false, false, false, false, false, false, false, false, false, false, false, false, false, false, false, false, false, false, false, false, false, false, false, false, false] ⟨some 56, _, _, _, _, _⟩ rfl (fun w => r_indexAddr_arr (j := 4) rfl rfl Tryd.runUnderlying139 Tryd.sizeOf34 (by first | rfl | omega) om_of) ?_
      first
        | refine dn_l 3 #[true, true, true, true, false, false, false, false, false, false, false, false, false, false, false, false, false, false, false, false, false, false, false, false, false, false, false, false] ⟨some 57, _, _, _, _, _⟩ rfl (by first | exact h | exact h.tail | exact h.tail.tail | exact hS) (fun w hS => r_load_w hS rfl om_of Tryd.isAgg34) ?_
        | refine dn_l 3 #[true, true, true, true, false, false, false, false, false, false, false, false, false, false, false, false, false, false, false, false, false, false, false, false, false, false, false, false] ⟨some 57, _, _, _, _, _⟩ rfl (by first | exact h | exact h.tail | exact h.tail.tail | exact hS) (fun w hS => r_load_wr hS rfl om_of Tryd.isAgg34) ?_
        | refine dn_l 3 #[true, true, true, true, false, false, false, false, false, false, false, false, false, false, false, false, false, false, false, false, false, false, false, false, false, false, false, false] ⟨some 57, _, _, _, _, _⟩ rfl (by first | exact h | exact h.tail | exact h.tail.tail | exact hS) (fun w hS => r_load hS rfl rfl Tryd.isAgg34) ?_
      refine dn_p 6 #[true, true, true, true, false, false, true, false, false, false, false, false, false, false, false, false, false, false, false, false, false, false, false, false, false, false, false, false] ⟨some 60, _, _, _, _, _⟩ rfl (fun w => r_indexAddr_arr (j := 4) rfl rfl Tryd.runUnderlying139 Tryd.sizeOf34 (by first | rfl | omega) om_of) ?_
      first
        | refine dn_l 7 #[true, true, true, true, false, false, true, true, false, false, false, false, false, false, false, false, false, false, false, false, false, false, false, false, false, false, false, false] ⟨some 61, _, _, _, _, _⟩ rfl (by first | exact h | exact h.tail | exact h.tail.tail | exact hS) (fun w hS => r_load_w hS rfl om_of Tryd.isAgg34) ?_
        | refine dn_l 7 #[true, true, true, true, false, false, true, true, false, false, false, false, false, false, false, false, false, false, false, false, false, false, false, false, false, false, false, false] ⟨some 61, _, _, _, _, _⟩ rfl (by first | exact h | exact h.tail | exact h.tail.tail | exact hS) (fun w hS => r_load_wr hS rfl om_of Tryd.isAgg34) ?_
        | refine dn_l 7 #[true, true, true, true, false, false, true, true, false, false, false, false, false, false, false, false, false, false, false, false, false, false, false, false, false, false, false, false] ⟨some 61, _, _, _, _, _⟩ rfl (by first | exact h | exact h.tail | exact h.tail.tail | exact hS) (fun w hS => r_load hS rfl rfl Tryd.isAgg34) ?_
      refine dn_p 8 #[true, true, true, true, false, false, true, true, true, false, false, false, false, false, false, false, false, false, false, false, false, false, false, false, false, false, false, false] ⟨some 62, _, _, _, _, _⟩ rfl (fun w => r_indexAddr_arr (j := 5) rfl rfl Tryd.runUnderlying139 Tryd.sizeOf34 (by first | rfl | omega) om_of) ?_
      first
        | refine dn_l 9 #[true, true, true, true, false, false, true, true, true, true, false, false, false, false, false, false, false, false, false, false, false, false, false, false, false, false, false, false] ⟨some 63, _, _, _, _, _⟩ rfl (by first | exact h | exact h.tail | exact h.tail.tail | exact hS) (fun w hS => r_load_w hS rfl om_of Tryd.isAgg34) ?_
        | refine dn_l 9 #[true, true, true, true, false, false, true, true, true, true, false, false, false, false, false, false, false, false, false, false, false, false, false, false, false, false, false, false] ⟨some 63, _, _, _, _, _⟩ rfl (by first | exact h | exact h.tail | exact h.tail.tail | exact hS) (fun w hS => r_load_wr hS rfl om_of Tryd.isAgg34) ?_
        | refine dn_l 9 #[true, true, true, true, false, false, true, true, true, true, false, false, false, false, false, false, false, false, false, false, false, false, false, false, false, false, false, false] ⟨some 63, _, _, _, _, _⟩ rfl (by first | exact h | exact h.tail | exact h.tail.tail | exact hS) (fun w hS => r_load hS rfl rfl Tryd.isAgg34) ?_
      refine dn_p 10 #[true, true, true, true, false, false, true, true, true, true, true, false, false, false, false, false, false, false, false, false, false, false, false, false, false, false, false, false] ⟨some 64, _, _, _, _, _⟩ rfl (fun w => r_and_W   rfl rfl) ?_
      refine dn_p 11 #[true, true, true, true, false, false, true, true, true, true, true, true, false, false, false, false, false, false, false, false, false, false, false, false, false, false, false, false] ⟨some 65, _, _, _, _, _⟩ rfl (fun w => r_indexAddr_arr (j := 4) rfl rfl Tryd.runUnderlying139 Tryd.sizeOf34 (by first | rfl | omega) om_of) ?_
      first
        | refine dn_l 12 #[true, true, true, true, false, false, true, true, true, true, true, true, true, false, false, false, false, false, false, false, false, false, false, false, false, false, false, false] ⟨some 66, _, _, _, _, _⟩ rfl (by first | exact h | exact h.tail | exact h.tail.tail | exact hS) (fun w hS => r_load_w hS rfl om_of Tryd.isAgg34) ?_
        | refine dn_l 12 #[true, true, true, true, false, false, true, true, true, true, true, true, true, false, false, false, false, false, false, false, false, false, false, false, false, false, false, false] ⟨some 66, _, _, _, _, _⟩ rfl (by first | exact h | exact h.tail | exact h.tail.tail | exact hS) (fun w hS => r_load_wr hS rfl om_of Tryd.isAgg34) ?_
        | refine dn_l 12 #[true, true, true, true, false, false, true, true, true, true, true, true, true, false, false, false, false, false, false, false, false, false, false, false, false, false, false, false] ⟨some 66, _, _, _, _, _⟩ rfl (by first | exact h | exact h.tail | exact h.tail.tail | exact hS) (fun w hS => r_load hS rfl rfl Tryd.isAgg34) ?_
      refine dn_p 13 #[true, true, true, true, false, false, true, true, true, true, true, true, true, true, false, false, false, false, false, false, false, false, false, false, false, false, false, false] ⟨some 67, _, _, _, _, _⟩ rfl (fun w => r_xorNot_W rfl) ?_
      refine dn_p 14 #[true, true, true, true, false, false, true, true, true, true, true, true, true, true, true, false, false, false, false, false, false, false, false, false, false, false, false, false] ⟨some 68, _, _, _, _, _⟩ rfl (fun w => r_indexAddr_arr (j := 6) rfl rfl Tryd.runUnderlying139 Tryd.sizeOf34 (by first | rfl | omega) om_of) ?_
      first
        | refine dn_l 15 #[true, true, true, true, false, false, true, true, true, true, true, true, true, true, true, true, false, false, false, false, false, false, false, false, false, false, false, false] ⟨some 69, _, _, _, _, _⟩ rfl (by first | exact h | exact h.tail | exact h.tail.tail | exact hS) (fun w hS => r_load_w hS rfl om_of Tryd.isAgg34) ?_
        | refine dn_l 15 #[true, true, true, true, false, false, true, true, true, true, true, true, true, true, true, true, false, false, false, false, false, false, false, false, false, false, false, false] ⟨some 69, _, _, _, _, _⟩ rfl (by first | exact h | exact h.tail | exact h.tail.tail | exact hS) (fun w hS => r_load_wr hS rfl om_of Tryd.isAgg34) ?_
        | refine dn_l 15 #[true, true, true, true, false, false, true, true, true, true, true, true, true, true, true, true, false, false, false, false, false, false, false, false, false, false, false, false] ⟨some 69, _, _, _, _, _⟩ rfl (by first | exact h | exact h.tail | exact h.tail.tail | exact hS) (fun w hS => r_load hS rfl rfl Tryd.isAgg34) ?_
      refine dn_p 16 #[true, true, true, true, false, false, true, true, true, true, true, true, true, true, true, true, true, false, false, false, false, false, false, false, false, false, false, false] ⟨some 70, _, _, _, _, _⟩ rfl (fun w => r_and_W   rfl rfl) ?_
      refine dn_p 17 #[true, true, true, true, false, false, true, true, true, true, true, true, true, true, true, true, true, true, false, false, false, false, false, false, false, false, false, false] ⟨some 71, _, _, _, _, _⟩ rfl (fun w => r_or_W   rfl rfl) ?_
      refine dn_p 19 #[true, true, true, true, false, false, true, true, true, true, true, true, true, true, true, true, true, true, false, true, false, false, false, false, false, false, false, false] ⟨some 73, _, _, _, _, _⟩ rfl (fun w => r_move rfl) ?_
      refine dn_p 20 #[true, true, true, true, false, false, true, true, true, true, true, true, true, true, true, true, true, true, false, true, true, false, false, false, false, false, false, false] ⟨some 74, _, _, _, _, _⟩ rfl (fun w => r_indexAddr_arr (j := t) rfl rfl Tryd.runUnderlying157 Tryd.sizeOf34 (by first | rfl | omega) (by omega)) ?_
      refine dn_l 21 #[true, true, true, true, false, false, true, true, true, true, true, true, true, true, true, true, true, true, false, true, true, true, false, false, false, false, false, false] ⟨some 75, _, _, _, _, _⟩ rfl (by first | exact h | exact h.tail | exact h.tail.tail | exact hS) (fun w hS => r_load_w hS rfl (by rw [rootsL_len]; omega) Tryd.isAgg34) ?_
      refine dn_p 23 #[true, true, true, true, false, false, true, true, true, true, true, true, true, true, true, true, true, true, false, true, true, true, false, true, false, false, false, false] ⟨some 77, _, _, _, _, _⟩ rfl (fun w => r_move rfl) ?_
      refine dn_p 24 #[true, true, true, true, false, false, true, true, true, true, true, true, true, true, true, true, true, true, false, true, true, true, false, true, true, false, false, false] ⟨some 78, _, _, _, _, _⟩ rfl (fun w => r_indexAddr_arr (j := t) rfl rfl Tryd.runUnderlying157 Tryd.sizeOf34 (by first | rfl | omega) (by omega)) ?_
      refine dn_l 25 #[true, true, true, true, false, false, true, true, true, true, true, true, true, true, true, true, true, true, false, true, true, true, false, true, true, true, false, false] ⟨some 79, _, _, _, _, _⟩ rfl (by first | exact h | exact h.tail | exact h.tail.tail | exact hS) (fun w hS => r_load_w hS rfl (by omega) Tryd.isAgg34) ?_
      refine dn_o 4 #[true, true, true, true, true, false, true, true, true, true, true, true, true, true, true, true, true, true, false, true, true, true, false, true, true, true, false, false] ⟨some 58, _, _, _, _, _⟩ fun Ko hKo => ?_
      refine op_call [_, _, _, _] Tryd.call95 rfl (turn_ok h _ 6 11 25 (by omega) (by omega) (by omega) (by omega) (by omega) (by omega)) ?_
      clear h; rintro _ w ⟨rfl, h⟩
      refine hKo _ _ _ (fun _ => (by first | exact h | exact h.tail | exact h.tail.tail | exact hS)) ?_; clear hKo Ko
      refine dn_p 5 #[true, true, true, true, true, true, true, true, true, true, true, true, true, true, true, true, true, true, false, true, true, true, false, true, true, true, false, false] ⟨some 59, _, _, _, _, _⟩ rfl (fun w => r_add_W   rfl rfl) ?_
      refine dn_p 18 #[true, true, true, true, true, true, true, true, true, true, true, true, true, true, true, true, true, true, true, true, true, true, false, true, true, true, false, false] ⟨some 72, _, _, _, _, _⟩ rfl (fun w => r_add_W   rfl rfl) ?_
      refine dn_p 22 #[true, true, true, true, true, true, true, true, true, true, true, true, true, true, true, true, true, true, true, true, true, true, true, true, true, true, false, false] ⟨some 76, _, _, _, _, _⟩ rfl (fun w => r_add_W   rfl rfl) ?_
      refine dn_p 26 #[true, true, true, true, true, true, true, true, true, true, true, true, true, true, true, true, true, true, true, true, true, true, true, true, true, true, true, false] ⟨some 80, _, _, _, _, _⟩ rfl (fun w => r_add_W   rfl rfl) ?_
      rw [show vl.getD 7 0 + turnW (vl.getD 4 0) 6 11 25 + ((vl.getD 4 0 &&& vl.getD 5 0) ||| (~~~(vl.getD 4 0) &&& vl.getD 6 0)) + rootsL.getD t 0 + wv.getD t 0 = vOne wv t vl by rw [vOne]]
      refine dn_p 27 #[true, true, true, true, true, true, true, true, true, true, true, true, true, true, true, true, true, true, true, true, true, true, true, true, true, true, true, true] ⟨some 9, _, _, _, _, _⟩ rfl (fun w => r_assign rfl) ?_
      refine dn_done (by kernel_rfl) ?_
      refine hK23 _ _ ?_
      clear hK23 K23
      refine cw_seq fun K24 hK24 => ?_
      refine cw_drawnH h (h) (fun i => false) (by kernel_rfl) 19 rfl #[false, false, false, false, false, false, false, false, false, false, false, false, false, false, false, false, false, false, false] rfl ?_
      clear h; rintro w h hS
      refine dn_p 0 #[true, false, false, false, false, false, false, false, false, false, false, false, false, false, false, false, false, false, false] ⟨some 81, _, _, _, _, _⟩ rfl (fun w => r_indexAddr_arr (j := 0) rfl rfl Tryd.runUnderlying139 Tryd.sizeOf34 (by first | rfl | omega) om_of) ?_
      first
        | refine dn_l 1 #[true, true, false, false, false, false, false, false, false, false, false, false, false, false, false, false, false, false, false] ⟨some 82, _, _, _, _, _⟩ rfl (by first | exact h | exact h.tail | exact h.tail.tail | exact hS) (fun w hS => r_load_w hS rfl om_of Tryd.isAgg34) ?_
        | refine dn_l 1 #[true, true, false, false, false, false, false, false, false, false, false, false, false, false, false, false, false, false, false] ⟨some 82, _, _, _, _, _⟩ rfl (by first | exact h | exact h.tail | exact h.tail.tail | exact hS) (fun w hS => r_load_wr hS rfl om_of Tryd.isAgg34) ?_
        | refine dn_l 1 #[true, true, false, false, false, false, false, false, false, false, false, false, false, false, false, false, false, false, false] ⟨some 82, _, _, _, _, _⟩ rfl (by first | exact h | exact h.tail | exact h.tail.tail | exact hS) (fun w hS => r_load hS rfl rfl Tryd.isAgg34) ?_
      refine dn_p 3 #[true, true, false, true, false, false, false, false, false, false, false, false, false, false, false, false, false, false, false] ⟨some 84, _, _, _, _, _⟩ rfl (fun w => r_indexAddr_arr (j := 0) rfl rfl Tryd.runUnderlying139 Tryd.sizeOf34 (by first | rfl | omega) om_of) ?_
      first
        | refine dn_l 4 #[true, true, false, true, true, false, false, false, false, false, false, false, false, false, false, false, false, false, false] ⟨some 85, _, _, _, _, _⟩ rfl (by first | exact h | exact h.tail | exact h.tail.tail | exact hS) (fun w hS => r_load_w hS rfl om_of Tryd.isAgg34) ?_
        | refine dn_l 4 #[true, true, false, true, true, false, false, false, false, false, false, false, false, false, false, false, false, false, false] ⟨some 85, _, _, _, _, _⟩ rfl (by first | exact h | exact h.tail | exact h.tail.tail | exact hS) (fun w hS => r_load_wr hS rfl om_of Tryd.isAgg34) ?_
        | refine dn_l 4 #[true, true, false, true, true, false, false, false, false, false, false, false, false, false, false, false, false, false, false] ⟨some 85, _, _, _, _, _⟩ rfl (by first | exact h | exact h.tail | exact h.tail.tail | exact hS) (fun w hS => r_load hS rfl rfl Tryd.isAgg34) ?_
      refine dn_p 5 #[true, true, false, true, true, true, false, false, false, false, false, false, false, false, false, false, false, false, false] ⟨some 86, _, _, _, _, _⟩ rfl (fun w => r_indexAddr_arr (j := 1) rfl rfl Tryd.runUnderlying139 Tryd.sizeOf34 (by first | rfl | omega) om_of) ?_
      first
        | refine dn_l 6 #[true, true, false, true, true, true, true, false, false, false, false, false, false, false, false, false, false, false, false] ⟨some 87, _, _, _, _, _⟩ rfl (by first | exact h | exact h.tail | exact h.tail.tail | exact hS) (fun w hS => r_load_w hS rfl om_of Tryd.isAgg34) ?_
        | refine dn_l 6 #[true, true, false, true, true, true, true, false, false, false, false, false, false, false, false, false, false, false, false] ⟨some 87, _, _, _, _, _⟩ rfl (by first | exact h | exact h.tail | exact h.tail.tail | exact hS) (fun w hS => r_load_wr hS rfl om_of Tryd.isAgg34) ?_
        | refine dn_l 6 #[true, true, false, true, true, true, true, false, false, false, false, false, false, false, false, false, false, false, false] ⟨some 87, _, _, _, _, _⟩ rfl (by first | exact h | exact h.tail | exact h.tail.tail | exact hS) (fun w hS => r_load hS rfl rfl Tryd.isAgg34) ?_
      refine dn_p 7 #[true, true, false, true, true, true, true, true, false, false, false, false, false, false, false, false, false, false, false] ⟨some 88, _, _, _, _, _⟩ rfl (fun w => r_and_W   rfl rfl) ?_
      refine dn_p 8 #[true, true, false, true, true, true, true, true, true, false, false, false, false, false, false, false, false, false, false] ⟨some 89, _, _, _, _, _⟩ rfl (fun w => r_indexAddr_arr (j := 2) rfl rfl Tryd.runUnderlying139 Tryd.sizeOf34 (by first | rfl | omega) om_of) ?_
      first
        | refine dn_l 9 #[true, true, false, true, true, true, true, true, true, true, false, false, false, false, false, false, false, false, false] ⟨some 90, _, _, _, _, _⟩ rfl (by first | exact h | exact h.tail | exact h.tail.tail | exact hS) (fun w hS => r_load_w hS rfl om_of Tryd.isAgg34) ?_
        | refine dn_l 9 #[true, true, false, true, true, true, true, true, true, true, false, false, false, false, false, false, false, false, false] ⟨some 90, _, _, _, _, _⟩ rfl (by first | exact h | exact h.tail | exact h.tail.tail | exact hS) (fun w hS => r_load_wr hS rfl om_of Tryd.isAgg34) ?_
        | refine dn_l 9 #[true, true, false, true, true, true, true, true, true, true, false, false, false, false, false, false, false, false, false] ⟨some 90, _, _, _, _, _⟩ rfl (by first | exact h | exact h.tail | exact h.tail.tail | exact hS) (fun w hS => r_load hS rfl rfl Tryd.isAgg34) ?_
      refine dn_p 10 #[true, true, false, true, true, true, true, true, true, true, true, false, false, false, false, false, false, false, false] ⟨some 91, _, _, _, _, _⟩ rfl (fun w => r_indexAddr_arr (j := 0) rfl rfl Tryd.runUnderlying139 Tryd.sizeOf34 (by first | rfl | omega) om_of) ?_
      first
        | refine dn_l 11 #[true, true, false, true, true, true, true, true, true, true, true, true, false, false, false, false, false, false, false] ⟨some 92, _, _, _, _, _⟩ rfl (by first | exact h | exact h.tail | exact h.tail.tail | exact hS) (fun w hS => r_load_w hS rfl om_of Tryd.isAgg34) ?_
        | refine dn_l 11 #[true, true, false, true, true, true, true, true, true, true, true, true, false, false, false, false, false, false, false] ⟨some 92, _, _, _, _, _⟩ rfl (by first | exact h | exact h.tail | exact h.tail.tail | exact hS) (fun w hS => r_load_wr hS rfl om_of Tryd.isAgg34) ?_
        | refine dn_l 11 #[true, true, false, true, true, true, true, true, true, true, true, true, false, false, false, false, false, false, false] ⟨some 92, _, _, _, _, _⟩ rfl (by first | exact h | exact h.tail | exact h.tail.tail | exact hS) (fun w hS => r_load hS rfl rfl Tryd.isAgg34) ?_
      refine dn_p 12 #[true, true, false, true, true, true, true, true, true, true, true, true, true, false, false, false, false, false, false] ⟨some 93, _, _, _, _, _⟩ rfl (fun w => r_indexAddr_arr (j := 1) rfl rfl Tryd.runUnderlying139 Tryd.sizeOf34 (by first | rfl | omega) om_of) ?_
      first
        | refine dn_l 13 #[true, true, false, true, true, true, true, true, true, true, true, true, true, true, false, false, false, false, false] ⟨some 94, _, _, _, _, _⟩ rfl (by first | exact h | exact h.tail | exact h.tail.tail | exact hS) (fun w hS => r_load_w hS rfl om_of Tryd.isAgg34) ?_
        | refine dn_l 13 #[true, true, false, true, true, true, true, true, true, true, true, true, true, true, false, false, false, false, false] ⟨some 94, _, _, _, _, _⟩ rfl (by first | exact h | exact h.tail | exact h.tail.tail | exact hS) (fun w hS => r_load_wr hS rfl om_of Tryd.isAgg34) ?_
        | refine dn_l 13 #[true, true, false, true, true, true, true, true, true, true, true, true, true, true, false, false, false, false, false] ⟨some 94, _, _, _, _, _⟩ rfl (by first | exact h | exact h.tail | exact h.tail.tail | exact hS) (fun w hS => r_load hS rfl rfl Tryd.isAgg34) ?_
      refine dn_p 14 #[true, true, false, true, true, true, true, true, true, true, true, true, true, true, true, false, false, false, false] ⟨some 95, _, _, _, _, _⟩ rfl (fun w => r_or_W   rfl rfl) ?_
      refine dn_p 15 #[true, true, false, true, true, true, true, true, true, true, true, true, true, true, true, true, false, false, false] ⟨some 96, _, _, _, _, _⟩ rfl (fun w => r_and_W   rfl rfl) ?_
      refine dn_p 16 #[true, true, false, true, true, true, true, true, true, true, true, true, true, true, true, true, true, false, false] ⟨some 97, _, _, _, _, _⟩ rfl (fun w => r_or_W   rfl rfl) ?_
      refine dn_o 2 #[true, true, true, true, true, true, true, true, true, true, true, true, true, true, true, true, true, false, false] ⟨some 83, _, _, _, _, _⟩ fun Ko hKo => ?_
      refine op_call [_, _, _, _] Tryd.call95 rfl (turn_ok h _ 2 13 22 (by omega) (by omega) (by omega) (by omega) (by omega) (by omega)) ?_
      clear h; rintro _ w ⟨rfl, h⟩
      refine hKo _ _ _ (fun _ => (by first | exact h | exact h.tail | exact h.tail.tail | exact hS)) ?_; clear hKo Ko
      refine dn_p 17 #[true, true, true, true, true, true, true, true, true, true, true, true, true, true, true, true, true, true, false] ⟨some 98, _, _, _, _, _⟩ rfl (fun w => r_add_W   rfl rfl) ?_
      rw [show turnW (vl.getD 0 0) 2 13 22 + ((vl.getD 0 0 &&& vl.getD 1 0) ||| (vl.getD 2 0 &&& (vl.getD 0 0 ||| vl.getD 1 0))) = vTwo vl by rw [vTwo]]
      refine dn_p 18 #[true, true, true, true, true, true, true, true, true, true, true, true, true, true, true, true, true, true, true] ⟨some 10, _, _, _, _, _⟩ rfl (fun w => r_assign rfl) ?_
      refine dn_done (by kernel_rfl) ?_
      refine hK24 _ _ ?_
      clear hK24 K24
      refine cw_seq fun K25 hK25 => ?_
      refine cw_drawn0 h (by kernel_rfl) 3 rfl #[false, false, false] rfl ?_
      clear h; rintro w h
      refine dn_p 0 #[true, false, false] ⟨some 99, _, _, _, _, _⟩ rfl (fun w => r_slice_arr_l (lo := 1) rfl rfl Tryd.runUnderlying139 Tryd.sizeOf34 (by omega)) ?_
      refine dn_p 1 #[true, true, false] ⟨some 100, _, _, _, _, _⟩ rfl (fun w => r_slice_arr_h (hi := 7) rfl rfl Tryd.runUnderlying139 Tryd.sizeOf34 (by omega) (by omega)) ?_
      refine dn_o 2 #[true, true, true] ⟨some 101, _, _, _, _, _⟩ fun Ko hKo => ?_
      refine op_copyW (q := 7) h rfl rfl (Rd.mkW (t := vl) (off := 0) (n := 7) (c := 8) (by omega) (by omega)) Tryd.runUnderlying159 Tryd.sizeOf34 (by rw [List.length_take, List.length_drop, hl8]; rfl) (by omega) fun w h => ?_
      have h := h.nm
      rw [v_shift hl8] at h
      refine hKo _ _ _ (fun _ => trivial) ?_; clear hKo Ko
      refine dn_done (by kernel_rfl) ?_
      refine hK25 _ _ ?_
      clear hK25 K25
      refine cw_seq fun K26 hK26 => ?_
      refine cw_region ?_
      refine wl_p (r_indexAddr_arr (j := 4) rfl rfl Tryd.runUnderlying139 Tryd.sizeOf34 (by first | rfl | omega) (by omega)) ?_
      refine wl_p (r_load_w h rfl om_of Tryd.isAgg34) ?_
      refine wl_p (r_move rfl) ?_
      refine wl_p (r_add_W   rfl rfl) ?_
      refine wl_p (r_indexAddr_arr (j := 4) rfl rfl Tryd.runUnderlying139 Tryd.sizeOf34 (by first | rfl | omega) (by omega)) ?_
      refine wl_o fun Ko hKo => ?_
      refine op_store_w h rfl rfl om_of Tryd.sizeOf34 fun w h => ?_
      have h := h.nm
      refine hKo _ _ _ ?_; clear hKo Ko
      refine wl_nil ?_
      refine hK26 _ _ ?_
      clear hK26 K26
      refine cw_region ?_
      refine wl_p (r_move rfl) ?_
      refine wl_p (r_move rfl) ?_
      refine wl_p (r_add_W   rfl rfl) ?_
      refine wl_p (r_indexAddr_arr (j := 0) rfl rfl Tryd.runUnderlying139 Tryd.sizeOf34 (by first | rfl | omega) (by omega)) ?_
      refine wl_o fun Ko hKo => ?_
      refine op_store_w h rfl rfl om_of Tryd.sizeOf34 fun w h => ?_
      have h := h.nm
      refine hKo _ _ _ ?_; clear hKo Ko
      refine wl_nil ?_
      refine hK21 _ _ ?_
      clear hK21 K21
      refine cw_region ?_
      refine wl_p (r_add_n  (n := 1) rfl rfl om_of) ?_
      refine wl_p (r_move rfl) ?_
      refine wl_nil ?_
      refine hK18 _ _ (64 - (t + 1)) pfn_of ⟨t + 1, by omega, rfl, ?hh_27, rfl⟩ (by omega)
      case hh_27 => rw [hsucc, vStep]; exact h
    · have hlt := of_decide_eq_false hc; clear hc
      have ht64 : t = 64 := by omega
      refine wp_exit ?_
      refine hK16 _ _ ?_
      clear hK20 hK18 hK16 K20 K18 K16
      refine cw_seq fun K28 hK28 => ?_
      have hv8 : (iter (vStep wv) t st).length = 8 := vIter_len wv st hst t
      rw [ht64] at hvl hv8
      obtain ⟨vv, hvv⟩ : ∃ vv, vv = iter (vStep wv) 64 st := ⟨_, rfl⟩
      rw [← hvv] at hvl hv8
      rw [hvl] at h
      clear hvl
      refine cw_region ?_
      first
        | refine wl_p (r_load_wall h rfl len_of Tryd.isAgg139 Tryd.sizeOf139) ?_
        | refine wl_p (r_load_wrall h rfl len_of Tryd.isAgg139 Tryd.sizeOf139) ?_
      refine wl_p (r_move rfl) ?_
      refine wl_nil ?_
      refine hK28 _ _ ?_
      clear hK28 K28
      refine wp_block ?_
      refine cw_loopf [11, 12, 113, 114, 115, 116, 117, 118, 119, 120, 121, 122, 123, 124, 125, 126] (fun f w n => ∃ (i : Nat), i ≤ 8 ∧ f 113 = i64 i ∧ Has E w ((b7, ws 139 vv) :: (rd, vs 135 [sd, i64 (e : Nat)]) :: (b4, ws 157 wv) :: (b, wsR T (iter (sumStep vv) i st) r) :: F) ∧ n = 8 - i) (8) ⟨0, by omega, rfl, h, rfl⟩ ?_
      clear h; rintro f w n ⟨i, hi, e113, h, rfl⟩ K29 hK29
      simp only [putFn, List.foldl_cons, List.foldl_nil, List.set_cons_zero, List.set_cons_succ, e113]
      clear e113
      have hls : (iter (sumStep vv) i st).length = 8 := by rw [sumIter_len, hst]
      have hsucc := iter_succ (sumStep vv) i st
      obtain ⟨sl, hsl⟩ : ∃ sl, sl = iter (sumStep vv) i st := ⟨_, rfl⟩
      rw [← hsl] at h hls hsucc
      refine cw_seq fun K30 hK30 => ?_
      refine cw_region ?_
      refine wl_p (r_lss  (n := 8) rfl rfl) ?_
      refine wl_nil ?_
      refine hK30 _ _ ?_
      clear hK30 K30
      refine cw_seq fun K31 hK31 => ?_
      refine wp_cond_split rfl (fun hc => ?_) (fun hc => ?_)
      · have hlt := of_decide_eq_true hc; clear hc
        have hi8 : i < 8 := by omega
        refine wp_skip ?_
        refine hK31 _ _ ?_
        clear hK31 K31
        refine cw_seq fun K32 hK32 => ?_
        refine wp_block ?_
        refine cw_seq fun K33 hK33 => ?_
        refine cw_region ?_
        refine wl_p (r_move rfl) ?_
        refine wl_p (r_index (j := i) rfl rfl Tryd.runUnderlying139 Tryd.sizeOf34 Tryd.isAgg34 (by first | rfl | omega) (by omega) (getWl (by omega))) ?_
        refine wl_p (r_assign rfl) ?_
        refine wl_p (r_assign rfl) ?_
        refine wl_nil ?_
        refine hK33 _ _ ?_
        clear hK33 K33
        refine cw_drawnH h (h) (fun i => i == 9) (by kernel_rfl) 10 rfl #[false, false, false, false, false, false, false, false, false, false] rfl ?_
        clear h; rintro w h hS
        refine dn_p 0 #[true, false, false, false, false, false, false, false, false, false] ⟨some 117, _, _, _, _, _⟩ rfl (fun w => r_move rfl) ?_
        refine dn_p 1 #[true, true, false, false, false, false, false, false, false, false] ⟨some 118, _, _, _, _, _⟩ rfl (fun w => r_move rfl) ?_
        refine dn_p 2 #[true, true, true, false, false, false, false, false, false, false] ⟨some 119, _, _, _, _, _⟩ rfl (fun w => r_nilCheck rfl) ?_
        refine dn_p 3 #[true, true, true, true, false, false, false, false, false, false] ⟨some 120, _, _, _, _, _⟩ rfl (fun w => r_indexAddr_arr (j := i) rfl rfl Tryd.runUnderlying139 Tryd.sizeOf34 (by first | rfl | omega) (by omega)) ?_
        refine dn_l 4 #[true, true, true, true, true, false, false, false, false, false] ⟨some 121, _, _, _, _, _⟩ rfl (by first | exact h | exact h.tail | exact h.tail.tail | exact hS) (fun w hS => r_load_wr hS rfl (by omega) Tryd.isAgg34) ?_
        refine dn_p 5 #[true, true, true, true, true, true, false, false, false, false] ⟨some 122, _, _, _, _, _⟩ rfl (fun w => r_move rfl) ?_
        refine dn_p 6 #[true, true, true, true, true, true, true, false, false, false] ⟨some 123, _, _, _, _, _⟩ rfl (fun w => r_add_W   rfl rfl) ?_
        refine dn_p 7 #[true, true, true, true, true, true, true, true, false, false] ⟨some 124, _, _, _, _, _⟩ rfl (fun w => r_nilCheck rfl) ?_
        refine dn_p 8 #[true, true, true, true, true, true, true, true, true, false] ⟨some 125, _, _, _, _, _⟩ rfl (fun w => r_indexAddr_arr (j := i) rfl rfl Tryd.runUnderlying139 Tryd.sizeOf34 (by first | rfl | omega) (by omega)) ?_
        refine dn_o 9 #[true, true, true, true, true, true, true, true, true, true] ⟨none, _, _, _, _, _⟩ fun Ko hKo => ?_
        refine op_store_wr h rfl rfl (by omega) Tryd.sizeOf34 fun w h => ?_
        simp only [List.set_cons_zero, List.set_cons_succ] at h
        refine hKo _ _ _ (fun hT => absurd hT (by decide)) ?_; clear hKo Ko
        refine dn_done (by kernel_rfl) ?_
        refine hK32 _ _ ?_
        clear hK32 K32
        refine cw_region ?_
        refine wl_p (r_add_n  (n := 1) rfl rfl om_of) ?_
        refine wl_p (r_move rfl) ?_
        refine wl_nil ?_
        refine hK29 _ _ (8 - (i + 1)) pfn_of ⟨i + 1, by omega, rfl, ?hh_34, rfl⟩ (by omega)
        case hh_34 => rw [hsucc, sumStep]; exact h
      · have hlt := of_decide_eq_false hc; clear hc
        have hi8 : i = 8 := by omega
        refine wp_exit ?_
        refine (hQ _ _ _ (res_none rfl) ?_).2
        rw [hsl, hi8, hvv, hwv, addBlk_def] at h
        exact h.tail.tail.tail

theorem add_ok {E : Env} {w : World} {F : List (Nat × Obj)} {b : Nat} {T : TypeId} {st : Words} {r : List Value} (h : Has E w ((b, wsR T st r) :: F)) (hst : st.length = 8) [m0 : Mem F 0 (ws 157 rootsL)] {sd : Value} {blk : Bytes} (hd : Sl F sd blk) (hb : blk.length = 64) : Ret Tryd.prog 88 [ptr b 0, sd] w fun v w' => Has E w' ((b, wsR T (addBlk st blk) r) :: F) := by
  obtain ⟨A, c, rfl, _⟩ := hd.get
  exact add_ok0 h hst hd hb

theorem add_okW {E : Env} {w : World} {F : List (Nat × Obj)} {b : Nat} {T : TypeId} {st : Words} (h : Has E w ((b, ws T st) :: F)) (hst : st.length = 8) [m0 : Mem F 0 (ws 157 rootsL)] {sd : Value} {blk : Bytes} (hd : Sl F sd blk) (hb : blk.length = 64) : Ret Tryd.prog 88 [ptr b 0, sd] w fun v w' => Has E w' ((b, ws T (addBlk st blk)) :: F) := by
  have e : ∀ l : Words, (wsR T l [] : Obj) = ws T l := fun l => by simp
  have := add_ok (r := []) (by rw [e]; exact h) hst hd hb
  exact this.mono fun _ _ h => by rw [← e]; exact h

end Go.Proofs.YtjdfenlmifhhdaaDoor
