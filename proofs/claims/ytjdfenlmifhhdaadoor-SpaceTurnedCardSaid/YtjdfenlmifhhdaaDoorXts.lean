/-
  Walks, printed by mk.py (a program of this work) out of specs4.py: what the Go functions compute, and that nobody else's memory turns. Condition: none.
-/
import Derived.Test.YtjdfenlmifhhdaaDoorProg
import Derived.Test.YtjdfenlmifhhdaaDoorAuto
import Derived.Test.YtjdfenlmifhhdaaDoorAes3
namespace Go.Proofs.YtjdfenlmifhhdaaDoor
open Go.RowKit

attribute [local irreducible] twice xor16 encrypt decrypt schedule
set_option maxHeartbeats 1000000 in
set_option maxRecDepth 100000 in
theorem xtsnew_ok {E : Env} {w : World} {F : List (Nat × Obj)} (h : Has E w F) (k1 k2 : Bytes) (h1 : k1.length = 32) (h2 : k2.length = 32) : Ret Tryd.prog 24 [aggB k1, aggB k2] w fun v w' => ∃ x c1 c2, v = ptr x 0 ∧ Has E w' ((x, vs 86 [ptr c1 0, ptr c2 0]) :: (c2, bs 117 (schedule k2)) :: (c1, bs 117 (schedule k1)) :: F) := by
  refine ret_of_wp (l := [aggB k1, aggB k2, undef, undef, undef, undef, undef, undef, undef, undef, undef]) Tryd.func24 rfl (by simp only [Tryd.ntmps24, List.size_toArray, List.length_cons, List.length_nil, Nat.reduceAdd, Nat.reduceSub, Array.replicate_succ, Array.replicate_zero, List.push_toArray, List.append_toArray, List.nil_append, List.cons_append]) fun Q hQ => ?_
  refine cw_seq fun K1 hK1 => ?_
  refine cw_region ?_
  refine wl_o fun Ko hKo => ?_
  refine op_box h rfl rfl fun b2 w h => ?_
  refine hKo _ _ _ ?_; clear hKo Ko
  refine wl_o fun Ko hKo => ?_
  refine op_box h rfl rfl fun b3 w h => ?_
  refine hKo _ _ _ ?_; clear hKo Ko
  refine wl_p (r_assign rfl) ?_
  refine wl_nil ?_
  refine hK1 _ _ ?_
  clear hK1 K1
  refine cw_seq fun K2 hK2 => ?_
  refine cw_drawnH h (h) (fun i => false) (by kernel_rfl) 7 rfl #[false, false, false, false, false, false, false] rfl ?_
  clear h; rintro w h hS
  refine dn_l 0 #[true, false, false, false, false, false, false] ⟨some 5, _, _, _, _, _⟩ rfl (by first | exact h | exact h.tail | exact h.tail.tail | exact hS) (fun w hS => r_load_allb hS rfl len_of Tryd.isAgg23 Tryd.sizeOf23) ?_
  refine dn_l 2 #[true, false, true, false, false, false, false] ⟨some 7, _, _, _, _, _⟩ rfl (by first | exact h | exact h.tail | exact h.tail.tail | exact hS) (fun w hS => r_load_allb hS rfl len_of Tryd.isAgg23 Tryd.sizeOf23) ?_
  refine dn_o 1 #[true, true, true, false, false, false, false] ⟨some 6, _, _, _, _, _⟩ fun Ko hKo => ?_
  refine op_call [_] Tryd.call40 rfl (aesnew_ok h k1 h1) ?_
  clear h; rintro _ w ⟨c1, rfl, h⟩
  refine hKo _ _ _ (fun _ => (by first | exact h | exact h.tail | exact h.tail.tail | exact h.tail.tail.tail)) ?_; clear hKo Ko
  refine dn_o 3 #[true, true, true, true, false, false, false] ⟨some 8, _, _, _, _, _⟩ fun Ko hKo => ?_
  refine op_call [_] Tryd.call40 rfl (aesnew_ok h k2 h2) ?_
  clear h; rintro _ w ⟨c2, rfl, h⟩
  refine hKo _ _ _ (fun _ => (by first | exact h | exact h.tail | exact h.tail.tail | exact h.tail.tail.tail)) ?_; clear hKo Ko
  refine dn_p 4 #[true, true, true, true, true, false, false] ⟨some 9, _, _, _, _, _⟩ rfl (fun w => r_buildP (ps := [(0, _), (1, _)]) (pl := [(0, 1), (1, 1)]) (z := [(Value.pointer none), (Value.pointer none)]) rfl (by kernel_rfl) (rfl)) ?_
  refine dn_o 5 #[true, true, true, true, true, true, false] ⟨some 10, _, _, _, _, _⟩ fun Ko hKo => ?_
  refine op_box h rfl rfl fun b10 w h => ?_
  refine hKo _ _ _ (fun _ => (by first | exact h | exact h.tail | exact h.tail.tail | exact h.tail.tail.tail)) ?_; clear hKo Ko
  refine dn_p 6 #[true, true, true, true, true, true, true] ⟨some 4, _, _, _, _, _⟩ rfl (fun w => r_assign rfl) ?_
  refine dn_done (by kernel_rfl) ?_
  refine hK2 _ _ ?_
  clear hK2 K2
  refine wp_ret ?_
  refine (hQ _ _ _ (res_tmp rfl rfl) ?_).1
  try simp only [List.getD_cons_zero, List.getD_cons_succ]
  exact ⟨_, c1, c2, rfl, h.drop2⟩

set_option maxHeartbeats 1000000 in
set_option maxRecDepth 100000 in
theorem xtsfirst_ok {E : Env} {w : World} {F : List (Nat × Obj)} (h : Has E w F) {p c1 c2 : Nat} {keys : Bytes} [mx : Mem F p (vs 86 [ptr c1 0, ptr c2 0])] [mk : Mem F c2 (bs 117 keys)] (hk : keys.length = 240) (x : BitVec 64) : Ret Tryd.prog 76 [ptr p 0, D x] w fun v w' => v = aggB (xtsFirst keys x) ∧ Has E w' F := by
  refine ret_of_wp (l := [ptr p 0, D x, undef, undef, undef, undef, undef, undef, undef, undef, undef, undef, undef, undef, undef, undef, undef, undef, undef, undef, undef, undef, undef]) Tryd.func76 rfl (by simp only [Tryd.ntmps76, List.size_toArray, List.length_cons, List.length_nil, Nat.reduceAdd, Nat.reduceSub, Array.replicate_succ, Array.replicate_zero, List.push_toArray, List.append_toArray, List.nil_append, List.cons_append]) fun Q hQ => ?_
  refine cw_seq fun K1 hK1 => ?_
  refine cw_region ?_
  refine wl_o fun Ko hKo => ?_
  refine op_allocB 16 h Tryd.zeroValue113 rfl fun b4 w h => ?_
  refine hKo _ _ _ ?_; clear hKo Ko
  refine wl_nil ?_
  refine hK1 _ _ ?_
  clear hK1 K1
  refine cw_seq fun K2 hK2 => ?_
  refine cw_region ?_
  refine wl_o fun Ko hKo => ?_
  refine op_allocB 16 h Tryd.zeroValue113 rfl fun b5 w h => ?_
  refine hKo _ _ _ ?_; clear hKo Ko
  refine wl_nil ?_
  refine hK2 _ _ ?_
  clear hK2 K2
  refine cw_seq fun K3 hK3 => ?_
  refine cw_seq fun K4 hK4 => ?_
  refine cw_region ?_
  refine wl_p (r_move rfl) ?_
  refine wl_nil ?_
  refine hK4 _ _ ?_
  clear hK4 K4
  refine wp_block ?_
  refine cw_loopf [1, 6, 7, 8, 9, 10, 11, 12, 13, 14, 15, 16] (fun f w n => ∃ i : Nat, i ≤ 8 ∧ f 7 = i64 i ∧ f 1 = D (iter twkStep i (zeros 16, x)).2 ∧ Has E w ((b5, bs 113 (iter twkStep i (zeros 16, x)).1) :: (b4, bs 113 (List.replicate 16 0)) :: F) ∧ n = 8 - i) (8) ⟨0, by omega, rfl, rfl, h, rfl⟩ ?_
  clear h; rintro f w n ⟨i, hi, e7, e1, h, rfl⟩ K5 hK5
  simp only [putFn, List.foldl_cons, List.foldl_nil, List.set_cons_zero, List.set_cons_succ, e7, e1]
  clear e7 e1
  have hl : (iter twkStep i (zeros 16, x)).1.length = 16 := twk_len x i
  have hsucc := iter_succ twkStep i (zeros 16, x)
  obtain ⟨y, hy⟩ : ∃ y, y = iter twkStep i (zeros 16, x) := ⟨_, rfl⟩
  rw [← hy] at h hl hsucc
  simp only [← hy]
  refine cw_seq fun K6 hK6 => ?_
  refine cw_region ?_
  refine wl_p (r_lss  (n := 8) rfl rfl) ?_
  refine wl_nil ?_
  refine hK6 _ _ ?_
  clear hK6 K6
  refine cw_seq fun K7 hK7 => ?_
  refine wp_cond_split rfl (fun hc => ?_) (fun hc => ?_)
  · have hlt := of_decide_eq_true hc; clear hc
    refine wp_skip ?_
    refine hK7 _ _ ?_
    clear hK7 K7
    refine cw_seq fun K8 hK8 => ?_
    refine wp_block ?_
    refine cw_seq fun K9 hK9 => ?_
    refine cw_region ?_
    refine wl_p (r_move rfl) ?_
    refine wl_p (r_assign rfl) ?_
    refine wl_nil ?_
    refine hK9 _ _ ?_
    clear hK9 K9
    refine cw_seq fun K10 hK10 => ?_
    refine cw_region ?_
    refine wl_p (r_move rfl) ?_
    refine wl_p (r_move rfl) ?_
    refine wl_p (r_conv_DB  rfl Tryd.runUnderlying73 Tryd.runUnderlying5) ?_
    refine wl_p (r_indexAddr_arr (j := i) rfl rfl Tryd.runUnderlying113 Tryd.sizeOf5 (by first | rfl | omega) (by omega)) ?_
    refine wl_o fun Ko hKo => ?_
    refine op_store_b h rfl rfl (by omega) Tryd.sizeOf5 fun w h => ?_
    have h := h.nm
    refine hKo _ _ _ ?_; clear hKo Ko
    refine wl_nil ?_
    refine hK10 _ _ ?_
    clear hK10 K10
    refine cw_region ?_
    refine wl_p (r_move rfl) ?_
    refine wl_p (r_shr_D  (n := 8) rfl rfl) ?_
    refine wl_p (r_assign rfl) ?_
    refine wl_nil ?_
    refine hK8 _ _ ?_
    clear hK8 K8
    refine cw_region ?_
    refine wl_p (r_add_n  (n := 1) rfl rfl om_of) ?_
    refine wl_p (r_move rfl) ?_
    refine wl_nil ?_
    refine hK5 _ _ (8 - (i + 1)) pfn_of ⟨i + 1, by omega, rfl, ?e1_11, ?hh_11, rfl⟩ (by omega)
    case e1_11 => rw [hsucc]; rfl
    case hh_11 => rw [hsucc]; exact h
  · have hlt := of_decide_eq_false hc; clear hc
    have hi8 : i = 8 := by omega
    have hel : (encrypt keys y.1).length = 16 := encrypt_len _ _ hl
    refine wp_exit ?_
    refine hK3 _ _ ?_
    clear hK7 hK5 hK3 K7 K5 K3
    refine cw_seq fun K12 hK12 => ?_
    refine cw_drawnH h (h) (fun i => i == 6) (by kernel_rfl) 7 rfl #[false, false, false, false, false, false, false] rfl ?_
    clear h; rintro w h hS
    refine dn_p 0 #[true, false, false, false, false, false, false] ⟨some 17, _, _, _, _, _⟩ rfl (fun w => r_move rfl) ?_
    refine dn_p 1 #[true, true, false, false, false, false, false] ⟨some 18, _, _, _, _, _⟩ rfl (fun w => r_nilCheck rfl) ?_
    refine dn_p 2 #[true, true, true, false, false, false, false] ⟨some 19, _, _, _, _, _⟩ rfl (fun w => r_fieldAddr (off := 1) rfl Tryd.runUnderlying86 rfl Tryd.sizeOf83 rfl rfl) ?_
    refine dn_l 3 #[true, true, true, true, false, false, false] ⟨some 20, _, _, _, _, _⟩ rfl (by first | exact h | exact h.tail | exact h.tail.tail | exact hS) (fun w hS => r_load hS rfl rfl Tryd.isAgg83) ?_
    refine dn_l 4 #[true, true, true, true, true, false, false] ⟨some 21, _, _, _, _, _⟩ rfl (by first | exact h | exact h.tail | exact h.tail.tail | exact hS) (fun w hS => r_load_allb hS rfl len_of Tryd.isAgg113 Tryd.sizeOf113) ?_
    refine dn_o 5 #[true, true, true, true, true, true, false] ⟨some 22, _, _, _, _, _⟩ fun Ko hKo => ?_
    refine op_call [_, _] Tryd.call49 rfl (encrypt_ok h (keys := keys) hk y.1 hl) ?_
    clear h; rintro _ w ⟨rfl, h⟩
    refine hKo _ _ _ (fun _ => (by first | exact h | exact h.tail | exact h.tail.tail | exact hS)) ?_; clear hKo Ko
    refine dn_o 6 #[true, true, true, true, true, true, true] ⟨none, _, _, _, _, _⟩ fun Ko hKo => ?_
    refine op_store_ball h rfl rfl len_of len_of Tryd.sizeOf113 fun w h => ?_
    have h := h.nm
    refine hKo _ _ _ (fun hT => absurd hT (by decide)) ?_; clear hKo Ko
    refine dn_done (by kernel_rfl) ?_
    refine hK12 _ _ ?_
    clear hK12 K12
    refine wp_ret ?_
    refine (hQ _ _ _ (res_cell h rfl rfl len_of Tryd.isAgg113 Tryd.sizeOf113) ?_).1
    have hF := h.tail.tail; subst hi8; exact ⟨by rw [hy]; rfl, hF⟩

end Go.Proofs.YtjdfenlmifhhdaaDoor
