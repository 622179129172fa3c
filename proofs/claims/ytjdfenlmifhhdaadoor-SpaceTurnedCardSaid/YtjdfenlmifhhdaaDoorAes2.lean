/-
  Walks, printed by mk.py (a program of this work) out of specs2.py: what the Go functions compute, and that nobody else's memory turns. Condition: none.
-/
import Derived.Test.YtjdfenlmifhhdaaDoorProg
import Derived.Test.YtjdfenlmifhhdaaDoorAuto
import Derived.Test.YtjdfenlmifhhdaaDoorAes
namespace Go.Proofs.YtjdfenlmifhhdaaDoor
open Go.RowKit

set_option maxHeartbeats 1000000 in
set_option maxRecDepth 100000 in
theorem mul_ok {E : Env} {w : World} {F : List (Nat × Obj)} (h : Has E w F) (a b : BitVec 8) : Ret Tryd.prog 90 [B a, B b] w fun v w' => v = B (mul a b) ∧ w' = w := by
  obtain ⟨w0, hw0⟩ : ∃ w0, w0 = w := ⟨_, rfl⟩
  subst hw0
  refine ret_of_wp (l := [B a, B b, undef, undef, undef, undef, undef, undef, undef, undef, undef, undef, undef, undef, undef, undef, undef, undef, undef, undef]) Tryd.func90 rfl (by simp only [Tryd.ntmps90, List.size_toArray, List.length_cons, List.length_nil, Nat.reduceAdd, Nat.reduceSub, Array.replicate_succ, Array.replicate_zero, List.push_toArray, List.append_toArray, List.nil_append, List.cons_append]) fun Q hQ => ?_
  refine cw_seq fun K1 hK1 => ?_
  refine cw_region ?_
  refine wl_p (r_assign rfl) ?_
  refine wl_nil ?_
  refine hK1 _ _ ?_
  clear hK1 K1
  refine cw_seq fun K2 hK2 => ?_
  refine cw_region ?_
  refine wl_p (r_assign rfl) ?_
  refine wl_nil ?_
  refine hK2 _ _ ?_
  clear hK2 K2
  refine cw_seq fun K3 hK3 => ?_
  refine cw_seq fun K4 hK4 => ?_
  refine cw_region ?_
  refine wl_p (r_move rfl) ?_
  refine wl_nil ?_
  refine hK4 _ _ ?_
  clear hK4 K4
  refine wp_block ?_
  refine cw_loopf [0, 1, 5, 6, 7, 8, 9, 10, 11, 12, 13, 14, 15, 16, 17, 18] (fun f w n => ∃ i : Nat, i ≤ 8 ∧ f 6 = i64 i ∧ f 0 = B (iter mulStep i (a, b, 0#8)).1 ∧ f 1 = B (iter mulStep i (a, b, 0#8)).2.1 ∧ f 5 = B (iter mulStep i (a, b, 0#8)).2.2 ∧ w = w0 ∧ n = 8 - i) (8) ⟨0, by omega, rfl, rfl, rfl, rfl, rfl, rfl⟩ ?_
  rintro f w n ⟨i, hi, e6, e0, e1, e5, rfl, rfl⟩ K5 hK5
  simp only [putFn, List.foldl_cons, List.foldl_nil, List.set_cons_zero, List.set_cons_succ, e6, e0, e1, e5]
  clear e6 e0 e1 e5
  refine cw_seq fun K6 hK6 => ?_
  refine cw_region ?_
  refine wl_p (r_lss  (n := 8) rfl rfl) ?_
  refine wl_nil ?_
  refine hK6 _ _ ?_
  clear hK6 K6
  refine cw_seq fun K7 hK7 => ?_
  refine wp_cond_split rfl (fun hc => ?_) (fun hc => ?_)
  · have hlt := of_decide_eq_true hc; clear hc
    refine wp_skip ?_
    refine hK7 _ _ ?_
    clear hK7 K7
    refine cw_seq fun K8 hK8 => ?_
    refine wp_block ?_
    refine cw_seq fun K9 hK9 => ?_
    refine cw_seq fun K10 hK10 => ?_
    refine cw_region ?_
    refine wl_p (r_move rfl) ?_
    refine wl_p (r_and_B  (q := 1#8) rfl rfl) ?_
    refine wl_p (r_neq_B  (q := 0#8) rfl rfl) ?_
    refine wl_nil ?_
    refine hK10 _ _ ?_
    clear hK10 K10
    refine wp_cond_split rfl (fun hc => ?_) (fun hc => ?_)
    · have hs := of_decide_eq_true hc; clear hc
      refine cw_region ?_
      refine wl_p (r_move rfl) ?_
      refine wl_p (r_move rfl) ?_
      refine wl_p (r_xor_B   rfl rfl) ?_
      refine wl_p (r_assign rfl) ?_
      refine wl_nil ?_
      refine hK9 _ _ ?_
      clear hK9 K9
      refine cw_region ?_
      refine wl_p (r_move rfl) ?_
      refine wl_o fun Ko hKo => ?_
      refine op_call [_] Tryd.call96 rfl (shift_ok _) ?_
      rintro _ w ⟨rfl, rfl⟩
      refine hKo _ _ _ ?_; clear hKo Ko
      refine wl_p (r_move rfl) ?_
      refine wl_p (r_shr_B  (n := 1) rfl rfl) ?_
      refine wl_p (r_assign rfl) ?_
      refine wl_p (r_assign rfl) ?_
      refine wl_nil ?_
      refine hK8 _ _ ?_
      clear hK8 K8
      refine cw_region ?_
      refine wl_p (r_add_n  (n := 1) rfl rfl om_of) ?_
      refine wl_p (r_move rfl) ?_
      refine wl_nil ?_
      refine hK5 _ _ (8 - (i + 1)) pfn_of ⟨i + 1, by omega, rfl, rfl, rfl, ?e5_11, rfl, rfl⟩ (by omega)
      case e5_11 => rw [iter_succ]; show _ = B (if _ then _ else _); first | (rw [if_pos hs]; rfl) | (rw [if_neg hs]; rfl)
    · have hs := of_decide_eq_false hc; clear hc
      refine wp_skip ?_
      refine hK9 _ _ ?_
      clear hK9 K9
      refine cw_region ?_
      refine wl_p (r_move rfl) ?_
      refine wl_o fun Ko hKo => ?_
      refine op_call [_] Tryd.call96 rfl (shift_ok _) ?_
      rintro _ w ⟨rfl, rfl⟩
      refine hKo _ _ _ ?_; clear hKo Ko
      refine wl_p (r_move rfl) ?_
      refine wl_p (r_shr_B  (n := 1) rfl rfl) ?_
      refine wl_p (r_assign rfl) ?_
      refine wl_p (r_assign rfl) ?_
      refine wl_nil ?_
      refine hK8 _ _ ?_
      clear hK8 K8
      refine cw_region ?_
      refine wl_p (r_add_n  (n := 1) rfl rfl om_of) ?_
      refine wl_p (r_move rfl) ?_
      refine wl_nil ?_
      refine hK5 _ _ (8 - (i + 1)) pfn_of ⟨i + 1, by omega, rfl, rfl, rfl, ?e5_12, rfl, rfl⟩ (by omega)
      case e5_12 => rw [iter_succ]; show _ = B (if _ then _ else _); first | (rw [if_pos hs]; rfl) | (rw [if_neg hs]; rfl)
  · have hlt := of_decide_eq_false hc; clear hc
    have hi8 : i = 8 := by omega
    refine wp_exit ?_
    refine hK3 _ _ ?_
    clear hK7 hK5 hK3 K7 K5 K3
    refine cw_seq fun K13 hK13 => ?_
    refine cw_region ?_
    refine wl_p (r_move rfl) ?_
    refine wl_p (r_assign rfl) ?_
    refine wl_nil ?_
    refine hK13 _ _ ?_
    clear hK13 K13
    refine wp_ret ?_
    refine (hQ _ _ _ (res_tmp rfl rfl) ?_).1
    try simp only [List.getD_cons_zero, List.getD_cons_succ]
    subst hi8; exact ⟨rfl, by trivial⟩

set_option maxHeartbeats 1000000 in
set_option maxRecDepth 100000 in
theorem twice_ok {E : Env} {w : World} {F : List (Nat × Obj)} (h : Has E w F) (t : Bytes) (ht : t.length = 16) : Ret Tryd.prog 78 [aggB t] w fun v w' => v = aggB (twice t) ∧ Has E w' F := by
  refine ret_of_wp (l := [aggB t, undef, undef, undef, undef, undef, undef, undef, undef, undef, undef, undef, undef, undef, undef, undef, undef, undef, undef, undef, undef, undef, undef, undef, undef, undef, undef, undef]) Tryd.func78 rfl (by simp only [Tryd.ntmps78, List.size_toArray, List.length_cons, List.length_nil, Nat.reduceAdd, Nat.reduceSub, Array.replicate_succ, Array.replicate_zero, List.push_toArray, List.append_toArray, List.nil_append, List.cons_append]) fun Q hQ => ?_
  refine cw_seq fun K1 hK1 => ?_
  refine cw_region ?_
  refine wl_o fun Ko hKo => ?_
  refine op_box h rfl rfl fun b1 w h => ?_
  refine hKo _ _ _ ?_; clear hKo Ko
  refine wl_o fun Ko hKo => ?_
  refine op_allocB 16 h Tryd.zeroValue113 rfl fun b2 w h => ?_
  refine hKo _ _ _ ?_; clear hKo Ko
  refine wl_nil ?_
  refine hK1 _ _ ?_
  clear hK1 K1
  refine cw_seq fun K2 hK2 => ?_
  refine cw_region ?_
  refine wl_p (r_assign rfl) ?_
  refine wl_nil ?_
  refine hK2 _ _ ?_
  clear hK2 K2
  refine cw_seq fun K3 hK3 => ?_
  refine cw_seq fun K4 hK4 => ?_
  refine cw_region ?_
  refine wl_p (r_move rfl) ?_
  refine wl_nil ?_
  refine hK4 _ _ ?_
  clear hK4 K4
  refine wp_block ?_
  refine cw_loopf [3, 4, 5, 6, 7, 8, 9, 10, 11, 12, 13, 14, 15, 16, 17, 18, 19, 20] (fun f w n => ∃ i : Nat, i ≤ 16 ∧ f 5 = i64 i ∧ f 3 = B (twLoop t i).2 ∧ Has E w ((b2, bs 113 (List.replicate 16 0)) :: (b1, bs 113 (twLoop t i).1) :: F) ∧ n = 16 - i) (16) ⟨0, by omega, rfl, rfl, h, rfl⟩ ?_
  clear h; rintro f w n ⟨i, hi, e5, e3, h, rfl⟩ K5 hK5
  simp only [putFn, List.foldl_cons, List.foldl_nil, List.set_cons_zero, List.set_cons_succ, e5, e3]
  clear e5 e3
  have hl : (twLoop t i).1.length = 16 := by rw [twLoop_len, ht]
  refine cw_seq fun K6 hK6 => ?_
  refine cw_region ?_
  refine wl_p (r_lss  (n := 16) rfl rfl) ?_
  refine wl_nil ?_
  refine hK6 _ _ ?_
  clear hK6 K6
  refine cw_seq fun K7 hK7 => ?_
  refine wp_cond_split rfl (fun hc => ?_) (fun hc => ?_)
  · have hlt := of_decide_eq_true hc; clear hc
    refine wp_skip ?_
    refine hK7 _ _ ?_
    clear hK7 K7
    refine cw_seq fun K8 hK8 => ?_
    refine wp_block ?_
    refine cw_seq fun K9 hK9 => ?_
    refine cw_region ?_
    refine wl_p (r_move rfl) ?_
    refine wl_p (r_assign rfl) ?_
    refine wl_nil ?_
    refine hK9 _ _ ?_
    clear hK9 K9
    refine cw_drawnH h (h) (fun i => i == 12) (by kernel_rfl) 14 rfl #[false, false, false, false, false, false, false, false, false, false, false, false, false, false] rfl ?_
    clear h; rintro w h hS
    refine dn_p 0 #[true, false, false, false, false, false, false, false, false, false, false, false, false, false] ⟨some 8, _, _, _, _, _⟩ rfl (fun w => r_move rfl) ?_
    refine dn_p 1 #[true, true, false, false, false, false, false, false, false, false, false, false, false, false] ⟨some 9, _, _, _, _, _⟩ rfl (fun w => r_move rfl) ?_
    refine dn_p 2 #[true, true, true, false, false, false, false, false, false, false, false, false, false, false] ⟨some 10, _, _, _, _, _⟩ rfl (fun w => r_indexAddr_arr (j := i) rfl rfl Tryd.runUnderlying113 Tryd.sizeOf5 (by first | rfl | omega) (by omega)) ?_
    refine dn_l 3 #[true, true, true, true, false, false, false, false, false, false, false, false, false, false] ⟨some 11, _, _, _, _, _⟩ rfl (by first | exact h | exact h.tail | exact h.tail.tail | exact hS) (fun w hS => r_load_b hS rfl (by omega) Tryd.isAgg5) ?_
    refine dn_p 4 #[true, true, true, true, true, false, false, false, false, false, false, false, false, false] ⟨some 12, _, _, _, _, _⟩ rfl (fun w => r_shl_B  (n := 1) rfl rfl) ?_
    refine dn_p 5 #[true, true, true, true, true, true, false, false, false, false, false, false, false, false] ⟨some 13, _, _, _, _, _⟩ rfl (fun w => r_move rfl) ?_
    refine dn_p 6 #[true, true, true, true, true, true, true, false, false, false, false, false, false, false] ⟨some 14, _, _, _, _, _⟩ rfl (fun w => r_or_B   rfl rfl) ?_
    refine dn_p 7 #[true, true, true, true, true, true, true, true, false, false, false, false, false, false] ⟨some 15, _, _, _, _, _⟩ rfl (fun w => r_move rfl) ?_
    refine dn_p 8 #[true, true, true, true, true, true, true, true, true, false, false, false, false, false] ⟨some 16, _, _, _, _, _⟩ rfl (fun w => r_indexAddr_arr (j := i) rfl rfl Tryd.runUnderlying113 Tryd.sizeOf5 (by first | rfl | omega) (by omega)) ?_
    refine dn_l 9 #[true, true, true, true, true, true, true, true, true, true, false, false, false, false] ⟨some 17, _, _, _, _, _⟩ rfl (by first | exact h | exact h.tail | exact h.tail.tail | exact hS) (fun w hS => r_load_b hS rfl (by omega) Tryd.isAgg5) ?_
    refine dn_p 10 #[true, true, true, true, true, true, true, true, true, true, true, false, false, false] ⟨some 18, _, _, _, _, _⟩ rfl (fun w => r_shr_B  (n := 7) rfl rfl) ?_
    refine dn_p 11 #[true, true, true, true, true, true, true, true, true, true, true, true, false, false] ⟨some 19, _, _, _, _, _⟩ rfl (fun w => r_indexAddr_arr (j := i) rfl rfl Tryd.runUnderlying113 Tryd.sizeOf5 (by first | rfl | omega) (by omega)) ?_
    refine dn_o 12 #[true, true, true, true, true, true, true, true, true, true, true, true, true, false] ⟨none, _, _, _, _, _⟩ fun Ko hKo => ?_
    refine op_store_b h rfl rfl (by omega) Tryd.sizeOf5 fun w h => ?_
    have h := h.nm
    refine hKo _ _ _ (fun hT => absurd hT (by decide)) ?_; clear hKo Ko
    refine dn_p 13 #[true, true, true, true, true, true, true, true, true, true, true, true, true, true] ⟨some 3, _, _, _, _, _⟩ rfl (fun w => r_assign rfl) ?_
    refine dn_done (by kernel_rfl) ?_
    refine hK8 _ _ ?_
    clear hK8 K8
    refine cw_region ?_
    refine wl_p (r_add_n  (n := 1) rfl rfl om_of) ?_
    refine wl_p (r_move rfl) ?_
    refine wl_nil ?_
    refine hK5 _ _ (16 - (i + 1)) pfn_of ⟨i + 1, by omega, rfl, by simp only [twLoop_succ]; rfl, by simp only [twLoop_succ]; exact h, rfl⟩ (by omega)
  · have hlt := of_decide_eq_false hc; clear hc
    have hi16 : i = 16 := by omega
    refine wp_exit ?_
    refine hK3 _ _ ?_
    clear hK7 hK5 hK3 K7 K5 K3
    refine cw_seq fun K11 hK11 => ?_
    refine cw_seq fun K12 hK12 => ?_
    refine cw_region ?_
    refine wl_p (r_move rfl) ?_
    refine wl_p (r_neq_B  (q := 0#8) rfl rfl) ?_
    refine wl_nil ?_
    refine hK12 _ _ ?_
    clear hK12 K12
    refine wp_cond_split rfl (fun hc => ?_) (fun hc => ?_)
    · have hs := of_decide_eq_true hc; clear hc
      obtain ⟨tt, htt⟩ : ∃ tt, tt = (twLoop t i).1.set 0 ((twLoop t i).1.getD 0 0 ^^^ 135#8) := ⟨_, rfl⟩
      have hl2 : tt.length = 16 := by rw [htt, List.length_set, hl]
      refine cw_region ?_
      refine wl_p (r_indexAddr_arr (j := 0) rfl rfl Tryd.runUnderlying113 Tryd.sizeOf5 (by first | rfl | omega) om_of) ?_
      refine wl_p (r_load_b h rfl (by omega) Tryd.isAgg5) ?_
      refine wl_p (r_xor_B  (q := 135#8) rfl rfl) ?_
      refine wl_p (r_indexAddr_arr (j := 0) rfl rfl Tryd.runUnderlying113 Tryd.sizeOf5 (by first | rfl | omega) om_of) ?_
      refine wl_o fun Ko hKo => ?_
      refine op_store_b h rfl rfl (by omega) Tryd.sizeOf5 fun w h => ?_
      have h := h.nm
      refine hKo _ _ _ ?_; clear hKo Ko
      rw [← htt] at h
      refine wl_nil ?_
      refine hK11 _ _ ?_
      clear hK11 K11
      refine cw_seq fun K13 hK13 => ?_
      refine cw_region ?_
      refine wl_p (r_load_all h rfl (by simp [hl2]) Tryd.isAgg113 Tryd.sizeOf113) ?_
      refine wl_o fun Ko hKo => ?_
      refine op_store_all h rfl rfl oneB (by simp [hl2]) (by intro w; rw [List.length_map, hl2]; exact Tryd.sizeOf113 w) fun w h => ?_
      have h := h.nm
      refine hKo _ _ _ ?_; clear hKo Ko
      refine wl_nil ?_
      refine hK13 _ _ ?_
      clear hK13 K13
      refine wp_ret ?_
      refine (hQ _ _ _ (res_cell h rfl rfl (by simp [hl2]) Tryd.isAgg113 Tryd.sizeOf113) ?_).1
      have hF := h.tail.tail; subst hi16; exact ⟨by rw [htt]; unfold twice; first | rw [if_pos hs] | rw [if_neg hs], hF⟩
    · have hs := of_decide_eq_false hc; clear hc
      obtain ⟨tt, htt⟩ : ∃ tt, tt = (twLoop t i).1 := ⟨_, rfl⟩
      have hl2 : tt.length = 16 := by rw [htt, hl]
      rw [← htt] at h
      refine wp_skip ?_
      refine hK11 _ _ ?_
      clear hK11 K11
      refine cw_seq fun K14 hK14 => ?_
      refine cw_region ?_
      refine wl_p (r_load_all h rfl (by simp [hl2]) Tryd.isAgg113 Tryd.sizeOf113) ?_
      refine wl_o fun Ko hKo => ?_
      refine op_store_all h rfl rfl oneB (by simp [hl2]) (by intro w; rw [List.length_map, hl2]; exact Tryd.sizeOf113 w) fun w h => ?_
      have h := h.nm
      refine hKo _ _ _ ?_; clear hKo Ko
      refine wl_nil ?_
      refine hK14 _ _ ?_
      clear hK14 K14
      refine wp_ret ?_
      refine (hQ _ _ _ (res_cell h rfl rfl (by simp [hl2]) Tryd.isAgg113 Tryd.sizeOf113) ?_).1
      have hF := h.tail.tail; subst hi16; exact ⟨by rw [htt]; unfold twice; first | rw [if_pos hs] | rw [if_neg hs], hF⟩

set_option maxHeartbeats 1000000 in
set_option maxRecDepth 100000 in
theorem mixed_ok {E : Env} {w : World} {F : List (Nat × Obj)} (h : Has E w F) (s₀ : Bytes) (hs₀ : s₀.length = 16) : Ret Tryd.prog 81 [aggB s₀] w fun v w' => v = aggB (mixed s₀) ∧ Has E w' F := by
  refine ret_of_wp (l := [aggB s₀, undef, undef, undef, undef, undef, undef, undef, undef, undef, undef, undef, undef, undef, undef, undef, undef, undef, undef, undef, undef, undef, undef, undef, undef, undef, undef, undef, undef, undef, undef, undef, undef, undef, undef, undef, undef, undef, undef, undef, undef, undef, undef, undef, undef, undef, undef, undef, undef, undef, undef, undef, undef, undef, undef, undef, undef, undef, undef, undef, undef, undef, undef, undef, undef, undef, undef, undef, undef, undef, undef, undef, undef, undef]) Tryd.func81 rfl (by simp only [Tryd.ntmps81, List.size_toArray, List.length_cons, List.length_nil, Nat.reduceAdd, Nat.reduceSub, Array.replicate_succ, Array.replicate_zero, List.push_toArray, List.append_toArray, List.nil_append, List.cons_append]) fun Q hQ => ?_
  refine cw_seq fun K1 hK1 => ?_
  refine cw_region ?_
  refine wl_o fun Ko hKo => ?_
  refine op_box h rfl rfl fun b1 w h => ?_
  refine hKo _ _ _ ?_; clear hKo Ko
  refine wl_o fun Ko hKo => ?_
  refine op_allocB 16 h Tryd.zeroValue129 rfl fun b2 w h => ?_
  refine hKo _ _ _ ?_; clear hKo Ko
  refine wl_nil ?_
  refine hK1 _ _ ?_
  clear hK1 K1
  refine cw_seq fun K2 hK2 => ?_
  refine cw_seq fun K3 hK3 => ?_
  refine cw_region ?_
  refine wl_p (r_assign rfl) ?_
  refine wl_nil ?_
  refine hK3 _ _ ?_
  clear hK3 K3
  refine wp_block ?_
  refine cw_loopf [3, 4, 5, 6, 7, 8, 9, 10, 11, 12, 13, 14, 15, 16, 17, 18, 19, 20, 21, 22, 23, 24, 25, 26, 27, 28, 29, 30, 31, 32, 33, 34, 35, 36, 37, 38, 39, 40, 41, 42, 43, 44, 45, 46, 47, 48, 49, 50, 51, 52, 53, 54, 55, 56, 57, 58, 59, 60, 61, 62, 63, 64, 65, 66, 67, 68, 69, 70, 71, 72] (fun f w n => ∃ k : Nat, k ≤ 4 ∧ f 3 = i64 ((4 * k : Nat) : Int) ∧ Has E w ((b2, bs 129 (List.replicate 16 0)) :: (b1, bs 129 (iter mixCol k s₀)) :: F) ∧ n = 4 - k) (4) ⟨0, by omega, rfl, h, rfl⟩ ?_
  clear h; rintro f w n ⟨k, hk, e3, h, rfl⟩ K4 hK4
  simp only [putFn, List.foldl_cons, List.foldl_nil, List.set_cons_zero, List.set_cons_succ, e3]
  clear e3
  have hl : (iter mixCol k s₀).length = 16 := by rw [mixN_len, hs₀]
  refine cw_seq fun K5 hK5 => ?_
  refine cw_seq fun K6 hK6 => ?_
  refine cw_region ?_
  refine wl_p (r_move rfl) ?_
  refine wl_p (r_lss  (n := 16) rfl rfl) ?_
  refine wl_nil ?_
  refine hK6 _ _ ?_
  clear hK6 K6
  refine wp_cond_split rfl (fun hc => ?_) (fun hc => ?_)
  · have hlt := of_decide_eq_true hc; clear hc
    refine wp_skip ?_
    refine hK5 _ _ ?_
    clear hK5 K5
    refine cw_seq fun K7 hK7 => ?_
    refine wp_block ?_
    refine cw_seq fun K8 hK8 => ?_
    refine cw_drawnH h (h) (fun i => false) (by kernel_rfl) 19 rfl #[false, false, false, false, false, false, false, false, false, false, false, false, false, false, false, false, false, false, false] rfl ?_
    clear h; rintro w h hS
    refine dn_p 0 #[true, false, false, false, false, false, false, false, false, false, false, false, false, false, false, false, false, false, false] ⟨some 11, _, _, _, _, _⟩ rfl (fun w => r_move rfl) ?_
    refine dn_p 1 #[true, true, false, false, false, false, false, false, false, false, false, false, false, false, false, false, false, false, false] ⟨some 12, _, _, _, _, _⟩ rfl (fun w => r_indexAddr_arr (j := 4 * k) rfl rfl Tryd.runUnderlying129 Tryd.sizeOf5 (by first | rfl | omega) (by omega)) ?_
    refine dn_l 2 #[true, true, true, false, false, false, false, false, false, false, false, false, false, false, false, false, false, false, false] ⟨some 13, _, _, _, _, _⟩ rfl (by first | exact h | exact h.tail | exact h.tail.tail | exact hS) (fun w hS => r_load_b hS rfl (by omega) Tryd.isAgg5) ?_
    refine dn_p 3 #[true, true, true, true, false, false, false, false, false, false, false, false, false, false, false, false, false, false, false] ⟨some 14, _, _, _, _, _⟩ rfl (fun w => r_move rfl) ?_
    refine dn_p 4 #[true, true, true, true, true, false, false, false, false, false, false, false, false, false, false, false, false, false, false] ⟨some 15, _, _, _, _, _⟩ rfl (fun w => r_add_n (m := 4 * k)  (n := 1)  rfl rfl om_of) ?_
    refine dn_p 5 #[true, true, true, true, true, true, false, false, false, false, false, false, false, false, false, false, false, false, false] ⟨some 16, _, _, _, _, _⟩ rfl (fun w => r_indexAddr_arr (j := 4 * k + 1) rfl rfl Tryd.runUnderlying129 Tryd.sizeOf5 (by first | rfl | omega) (by omega)) ?_
    refine dn_l 6 #[true, true, true, true, true, true, true, false, false, false, false, false, false, false, false, false, false, false, false] ⟨some 17, _, _, _, _, _⟩ rfl (by first | exact h | exact h.tail | exact h.tail.tail | exact hS) (fun w hS => r_load_b hS rfl (by omega) Tryd.isAgg5) ?_
    refine dn_p 7 #[true, true, true, true, true, true, true, true, false, false, false, false, false, false, false, false, false, false, false] ⟨some 18, _, _, _, _, _⟩ rfl (fun w => r_xor_B   rfl rfl) ?_
    refine dn_p 8 #[true, true, true, true, true, true, true, true, true, false, false, false, false, false, false, false, false, false, false] ⟨some 19, _, _, _, _, _⟩ rfl (fun w => r_move rfl) ?_
    refine dn_p 9 #[true, true, true, true, true, true, true, true, true, true, false, false, false, false, false, false, false, false, false] ⟨some 20, _, _, _, _, _⟩ rfl (fun w => r_add_n (m := 4 * k)  (n := 2)  rfl rfl om_of) ?_
    refine dn_p 10 #[true, true, true, true, true, true, true, true, true, true, true, false, false, false, false, false, false, false, false] ⟨some 21, _, _, _, _, _⟩ rfl (fun w => r_indexAddr_arr (j := 4 * k + 2) rfl rfl Tryd.runUnderlying129 Tryd.sizeOf5 (by first | rfl | omega) (by omega)) ?_
    refine dn_l 11 #[true, true, true, true, true, true, true, true, true, true, true, true, false, false, false, false, false, false, false] ⟨some 22, _, _, _, _, _⟩ rfl (by first | exact h | exact h.tail | exact h.tail.tail | exact hS) (fun w hS => r_load_b hS rfl (by omega) Tryd.isAgg5) ?_
    refine dn_p 12 #[true, true, true, true, true, true, true, true, true, true, true, true, true, false, false, false, false, false, false] ⟨some 23, _, _, _, _, _⟩ rfl (fun w => r_xor_B   rfl rfl) ?_
    refine dn_p 13 #[true, true, true, true, true, true, true, true, true, true, true, true, true, true, false, false, false, false, false] ⟨some 24, _, _, _, _, _⟩ rfl (fun w => r_move rfl) ?_
    refine dn_p 14 #[true, true, true, true, true, true, true, true, true, true, true, true, true, true, true, false, false, false, false] ⟨some 25, _, _, _, _, _⟩ rfl (fun w => r_add_n (m := 4 * k)  (n := 3)  rfl rfl om_of) ?_
    refine dn_p 15 #[true, true, true, true, true, true, true, true, true, true, true, true, true, true, true, true, false, false, false] ⟨some 26, _, _, _, _, _⟩ rfl (fun w => r_indexAddr_arr (j := 4 * k + 3) rfl rfl Tryd.runUnderlying129 Tryd.sizeOf5 (by first | rfl | omega) (by omega)) ?_
    refine dn_l 16 #[true, true, true, true, true, true, true, true, true, true, true, true, true, true, true, true, true, false, false] ⟨some 27, _, _, _, _, _⟩ rfl (by first | exact h | exact h.tail | exact h.tail.tail | exact hS) (fun w hS => r_load_b hS rfl (by omega) Tryd.isAgg5) ?_
    refine dn_p 17 #[true, true, true, true, true, true, true, true, true, true, true, true, true, true, true, true, true, true, false] ⟨some 28, _, _, _, _, _⟩ rfl (fun w => r_xor_B   rfl rfl) ?_
    refine dn_p 18 #[true, true, true, true, true, true, true, true, true, true, true, true, true, true, true, true, true, true, true] ⟨some 4, _, _, _, _, _⟩ rfl (fun w => r_assign rfl) ?_
    refine dn_done (by kernel_rfl) ?_
    refine hK8 _ _ ?_
    clear hK8 K8
    refine cw_seq fun K9 hK9 => ?_
    refine cw_region ?_
    refine wl_p (r_move rfl) ?_
    refine wl_p (r_indexAddr_arr (j := 4 * k) rfl rfl Tryd.runUnderlying129 Tryd.sizeOf5 (by first | rfl | omega) (by omega)) ?_
    refine wl_p (r_load_b h rfl (by omega) Tryd.isAgg5) ?_
    refine wl_p (r_assign rfl) ?_
    refine wl_nil ?_
    refine hK9 _ _ ?_
    clear hK9 K9
    refine cw_seq fun K10 hK10 => ?_
    refine cw_seq fun K11 hK11 => ?_
    obtain ⟨s, hs⟩ : ∃ s, s = iter mixCol k s₀ := ⟨_, rfl⟩
    rw [← hs] at hl
    simp only [← hs] at h ⊢
    obtain ⟨all, hall⟩ : ∃ all, all = mixAll s (4 * k) := ⟨_, rfl⟩
    simp only [mixAll] at hall
    simp only [← hall]
    obtain ⟨fst, hfst⟩ : ∃ fst, fst = s.getD (4 * k) 0 := ⟨_, rfl⟩
    simp only [← hfst]
    refine cw_region ?_
    refine wl_p (r_move rfl) ?_
    refine wl_nil ?_
    refine hK11 _ _ ?_
    clear hK11 K11
    refine wp_block ?_
    refine cw_loopf [6, 32, 33, 34, 35, 36, 37, 38, 39, 40, 41, 42, 43, 44, 45, 46, 47, 48, 49, 50, 51, 52, 53, 54, 55, 56, 57] (fun f w n => ∃ r : Nat, r ≤ 3 ∧ f 32 = i64 r ∧ Has E w ((b2, bs 129 (List.replicate 16 0)) :: (b1, bs 129 (iter (mixIn (4 * k) all) r s)) :: F) ∧ n = 3 - r) (3) ⟨0, by omega, rfl, h, rfl⟩ ?_
    clear h; rintro f w n ⟨r, hr, e32, h, rfl⟩ K12 hK12
    simp only [putFn, List.foldl_cons, List.foldl_nil, List.set_cons_zero, List.set_cons_succ, e32]
    clear e32
    have hl3 : (iter (mixIn (4 * k) all) r s).length = 16 := by rw [mixIn_len, hl]
    refine cw_seq fun K13 hK13 => ?_
    refine cw_region ?_
    refine wl_p (r_lss  (n := 3) rfl rfl) ?_
    refine wl_nil ?_
    refine hK13 _ _ ?_
    clear hK13 K13
    refine cw_seq fun K14 hK14 => ?_
    refine wp_cond_split rfl (fun hc => ?_) (fun hc => ?_)
    · have hlt3 := of_decide_eq_true hc; clear hc
      refine wp_skip ?_
      refine hK14 _ _ ?_
      clear hK14 K14
      refine cw_seq fun K15 hK15 => ?_
      refine wp_block ?_
      refine cw_seq fun K16 hK16 => ?_
      refine cw_region ?_
      refine wl_p (r_move rfl) ?_
      refine wl_p (r_assign rfl) ?_
      refine wl_nil ?_
      refine hK16 _ _ ?_
      clear hK16 K16
      refine cw_drawnH h (h) (fun i => i == 22) (by kernel_rfl) 23 rfl #[false, false, false, false, false, false, false, false, false, false, false, false, false, false, false, false, false, false, false, false, false, false, false] rfl ?_
      clear h; rintro w h hS
      refine dn_p 0 #[true, false, false, false, false, false, false, false, false, false, false, false, false, false, false, false, false, false, false, false, false, false, false] ⟨some 35, _, _, _, _, _⟩ rfl (fun w => r_move rfl) ?_
      refine dn_p 1 #[true, true, false, false, false, false, false, false, false, false, false, false, false, false, false, false, false, false, false, false, false, false, false] ⟨some 36, _, _, _, _, _⟩ rfl (fun w => r_move rfl) ?_
      refine dn_p 2 #[true, true, true, false, false, false, false, false, false, false, false, false, false, false, false, false, false, false, false, false, false, false, false] ⟨some 37, _, _, _, _, _⟩ rfl (fun w => r_add_n (m := 4 * k)  (n := r)  rfl rfl om_of) ?_
      refine dn_p 3 #[true, true, true, true, false, false, false, false, false, false, false, false, false, false, false, false, false, false, false, false, false, false, false] ⟨some 38, _, _, _, _, _⟩ rfl (fun w => r_indexAddr_arr (j := 4 * k + r) rfl rfl Tryd.runUnderlying129 Tryd.sizeOf5 (by first | rfl | omega) (by omega)) ?_
      refine dn_l 4 #[true, true, true, true, true, false, false, false, false, false, false, false, false, false, false, false, false, false, false, false, false, false, false] ⟨some 39, _, _, _, _, _⟩ rfl (by first | exact h | exact h.tail | exact h.tail.tail | exact hS) (fun w hS => r_load_b hS rfl (by omega) Tryd.isAgg5) ?_
      refine dn_p 5 #[true, true, true, true, true, true, false, false, false, false, false, false, false, false, false, false, false, false, false, false, false, false, false] ⟨some 40, _, _, _, _, _⟩ rfl (fun w => r_move rfl) ?_
      refine dn_p 6 #[true, true, true, true, true, true, true, false, false, false, false, false, false, false, false, false, false, false, false, false, false, false, false] ⟨some 41, _, _, _, _, _⟩ rfl (fun w => r_move rfl) ?_
      refine dn_p 7 #[true, true, true, true, true, true, true, true, false, false, false, false, false, false, false, false, false, false, false, false, false, false, false] ⟨some 42, _, _, _, _, _⟩ rfl (fun w => r_move rfl) ?_
      refine dn_p 8 #[true, true, true, true, true, true, true, true, true, false, false, false, false, false, false, false, false, false, false, false, false, false, false] ⟨some 43, _, _, _, _, _⟩ rfl (fun w => r_add_n (m := 4 * k)  (n := r)  rfl rfl om_of) ?_
      refine dn_p 9 #[true, true, true, true, true, true, true, true, true, true, false, false, false, false, false, false, false, false, false, false, false, false, false] ⟨some 44, _, _, _, _, _⟩ rfl (fun w => r_indexAddr_arr (j := 4 * k + r) rfl rfl Tryd.runUnderlying129 Tryd.sizeOf5 (by first | rfl | omega) (by omega)) ?_
      refine dn_l 10 #[true, true, true, true, true, true, true, true, true, true, true, false, false, false, false, false, false, false, false, false, false, false, false] ⟨some 45, _, _, _, _, _⟩ rfl (by first | exact h | exact h.tail | exact h.tail.tail | exact hS) (fun w hS => r_load_b hS rfl (by omega) Tryd.isAgg5) ?_
      refine dn_p 11 #[true, true, true, true, true, true, true, true, true, true, true, true, false, false, false, false, false, false, false, false, false, false, false] ⟨some 46, _, _, _, _, _⟩ rfl (fun w => r_move rfl) ?_
      refine dn_p 12 #[true, true, true, true, true, true, true, true, true, true, true, true, true, false, false, false, false, false, false, false, false, false, false] ⟨some 47, _, _, _, _, _⟩ rfl (fun w => r_move rfl) ?_
      refine dn_p 13 #[true, true, true, true, true, true, true, true, true, true, true, true, true, true, false, false, false, false, false, false, false, false, false] ⟨some 48, _, _, _, _, _⟩ rfl (fun w => r_add_n (m := 4 * k)  (n := r)  rfl rfl om_of) ?_
      refine dn_p 14 #[true, true, true, true, true, true, true, true, true, true, true, true, true, true, true, false, false, false, false, false, false, false, false] ⟨some 49, _, _, _, _, _⟩ rfl (fun w => r_add_n (m := 4 * k + r)  (n := 1)  rfl rfl om_of) ?_
      refine dn_p 15 #[true, true, true, true, true, true, true, true, true, true, true, true, true, true, true, true, false, false, false, false, false, false, false] ⟨some 50, _, _, _, _, _⟩ rfl (fun w => r_indexAddr_arr (j := 4 * k + r + 1) rfl rfl Tryd.runUnderlying129 Tryd.sizeOf5 (by first | rfl | omega) (by omega)) ?_
      refine dn_l 16 #[true, true, true, true, true, true, true, true, true, true, true, true, true, true, true, true, true, false, false, false, false, false, false] ⟨some 51, _, _, _, _, _⟩ rfl (by first | exact h | exact h.tail | exact h.tail.tail | exact hS) (fun w hS => r_load_b hS rfl (by omega) Tryd.isAgg5) ?_
      refine dn_p 17 #[true, true, true, true, true, true, true, true, true, true, true, true, true, true, true, true, true, true, false, false, false, false, false] ⟨some 52, _, _, _, _, _⟩ rfl (fun w => r_xor_B   rfl rfl) ?_
      refine dn_o 18 #[true, true, true, true, true, true, true, true, true, true, true, true, true, true, true, true, true, true, true, false, false, false, false] ⟨some 53, _, _, _, _, _⟩ fun Ko hKo => ?_
      refine op_call [_] Tryd.call92 rfl (double_ok _) ?_
      rintro _ w ⟨rfl, rfl⟩
      refine hKo _ _ _ (fun _ => (by first | exact h | exact h.tail | exact h.tail.tail | exact hS)) ?_; clear hKo Ko
      refine dn_p 19 #[true, true, true, true, true, true, true, true, true, true, true, true, true, true, true, true, true, true, true, true, false, false, false] ⟨some 54, _, _, _, _, _⟩ rfl (fun w => r_xor_B   rfl rfl) ?_
      refine dn_p 20 #[true, true, true, true, true, true, true, true, true, true, true, true, true, true, true, true, true, true, true, true, true, false, false] ⟨some 55, _, _, _, _, _⟩ rfl (fun w => r_xor_B   rfl rfl) ?_
      refine dn_p 21 #[true, true, true, true, true, true, true, true, true, true, true, true, true, true, true, true, true, true, true, true, true, true, false] ⟨some 56, _, _, _, _, _⟩ rfl (fun w => r_indexAddr_arr (j := 4 * k + r) rfl rfl Tryd.runUnderlying129 Tryd.sizeOf5 (by first | rfl | omega) (by omega)) ?_
      refine dn_o 22 #[true, true, true, true, true, true, true, true, true, true, true, true, true, true, true, true, true, true, true, true, true, true, true] ⟨none, _, _, _, _, _⟩ fun Ko hKo => ?_
      refine op_store_b h rfl rfl (by omega) Tryd.sizeOf5 fun w h => ?_
      have h := h.nm
      refine hKo _ _ _ (fun hT => absurd hT (by decide)) ?_; clear hKo Ko
      refine dn_done (by kernel_rfl) ?_
      refine hK15 _ _ ?_
      clear hK15 K15
      refine cw_region ?_
      refine wl_p (r_add_n  (n := 1) rfl rfl om_of) ?_
      refine wl_p (r_move rfl) ?_
      refine wl_nil ?_
      refine hK12 _ _ (3 - (r + 1)) pfn_of ⟨r + 1, by omega, rfl, h, rfl⟩ (by omega)
    · have hlt3 := of_decide_eq_false hc; clear hc
      have hr3 : r = 3 := by omega
      refine wp_exit ?_
      refine hK10 _ _ ?_
      clear hK14 hK12 hK10 K14 K12 K10
      refine cw_drawnH h (h) (fun i => i == 15) (by kernel_rfl) 16 rfl #[false, false, false, false, false, false, false, false, false, false, false, false, false, false, false, false] rfl ?_
      clear h; rintro w h hS
      refine dn_p 0 #[true, false, false, false, false, false, false, false, false, false, false, false, false, false, false, false] ⟨some 58, _, _, _, _, _⟩ rfl (fun w => r_move rfl) ?_
      refine dn_p 1 #[true, true, false, false, false, false, false, false, false, false, false, false, false, false, false, false] ⟨some 59, _, _, _, _, _⟩ rfl (fun w => r_add_n (m := 4 * k)  (n := 3)  rfl rfl om_of) ?_
      refine dn_p 2 #[true, true, true, false, false, false, false, false, false, false, false, false, false, false, false, false] ⟨some 60, _, _, _, _, _⟩ rfl (fun w => r_indexAddr_arr (j := 4 * k + 3) rfl rfl Tryd.runUnderlying129 Tryd.sizeOf5 (by first | rfl | omega) (by omega)) ?_
      refine dn_l 3 #[true, true, true, true, false, false, false, false, false, false, false, false, false, false, false, false] ⟨some 61, _, _, _, _, _⟩ rfl (by first | exact h | exact h.tail | exact h.tail.tail | exact hS) (fun w hS => r_load_b hS rfl (by omega) Tryd.isAgg5) ?_
      refine dn_p 4 #[true, true, true, true, true, false, false, false, false, false, false, false, false, false, false, false] ⟨some 62, _, _, _, _, _⟩ rfl (fun w => r_move rfl) ?_
      refine dn_p 5 #[true, true, true, true, true, true, false, false, false, false, false, false, false, false, false, false] ⟨some 63, _, _, _, _, _⟩ rfl (fun w => r_move rfl) ?_
      refine dn_p 6 #[true, true, true, true, true, true, true, false, false, false, false, false, false, false, false, false] ⟨some 64, _, _, _, _, _⟩ rfl (fun w => r_add_n (m := 4 * k)  (n := 3)  rfl rfl om_of) ?_
      refine dn_p 7 #[true, true, true, true, true, true, true, true, false, false, false, false, false, false, false, false] ⟨some 65, _, _, _, _, _⟩ rfl (fun w => r_indexAddr_arr (j := 4 * k + 3) rfl rfl Tryd.runUnderlying129 Tryd.sizeOf5 (by first | rfl | omega) (by omega)) ?_
      refine dn_l 8 #[true, true, true, true, true, true, true, true, true, false, false, false, false, false, false, false] ⟨some 66, _, _, _, _, _⟩ rfl (by first | exact h | exact h.tail | exact h.tail.tail | exact hS) (fun w hS => r_load_b hS rfl (by omega) Tryd.isAgg5) ?_
      refine dn_p 9 #[true, true, true, true, true, true, true, true, true, true, false, false, false, false, false, false] ⟨some 67, _, _, _, _, _⟩ rfl (fun w => r_move rfl) ?_
      refine dn_p 10 #[true, true, true, true, true, true, true, true, true, true, true, false, false, false, false, false] ⟨some 68, _, _, _, _, _⟩ rfl (fun w => r_xor_B   rfl rfl) ?_
      refine dn_o 11 #[true, true, true, true, true, true, true, true, true, true, true, true, false, false, false, false] ⟨some 69, _, _, _, _, _⟩ fun Ko hKo => ?_
      refine op_call [_] Tryd.call92 rfl (double_ok _) ?_
      rintro _ w ⟨rfl, rfl⟩
      refine hKo _ _ _ (fun _ => (by first | exact h | exact h.tail | exact h.tail.tail | exact hS)) ?_; clear hKo Ko
      refine dn_p 12 #[true, true, true, true, true, true, true, true, true, true, true, true, true, false, false, false] ⟨some 70, _, _, _, _, _⟩ rfl (fun w => r_xor_B   rfl rfl) ?_
      refine dn_p 13 #[true, true, true, true, true, true, true, true, true, true, true, true, true, true, false, false] ⟨some 71, _, _, _, _, _⟩ rfl (fun w => r_xor_B   rfl rfl) ?_
      refine dn_p 14 #[true, true, true, true, true, true, true, true, true, true, true, true, true, true, true, false] ⟨some 72, _, _, _, _, _⟩ rfl (fun w => r_indexAddr_arr (j := 4 * k + 3) rfl rfl Tryd.runUnderlying129 Tryd.sizeOf5 (by first | rfl | omega) (by omega)) ?_
      refine dn_o 15 #[true, true, true, true, true, true, true, true, true, true, true, true, true, true, true, true] ⟨none, _, _, _, _, _⟩ fun Ko hKo => ?_
      refine op_store_b h rfl rfl (by omega) Tryd.sizeOf5 fun w h => ?_
      have h := h.nm
      refine hKo _ _ _ (fun hT => absurd hT (by decide)) ?_; clear hKo Ko
      subst hr3
      have hcol : List.set (iter (mixIn (4 * k) all) 3 s) (4 * k + 3) ((iter (mixIn (4 * k) all) 3 s).getD (4 * k + 3) 0 ^^^ (all ^^^ double ((iter (mixIn (4 * k) all) 3 s).getD (4 * k + 3) 0 ^^^ fst))) = iter mixCol (k + 1) s₀ := by
        show _ = mixCol k (iter mixCol k s₀)
        rw [← hs]; subst hfst; subst hall; rfl
      rw [hcol] at h
      refine dn_done (by kernel_rfl) ?_
      refine hK7 _ _ ?_
      clear hK7 K7
      refine cw_region ?_
      refine wl_p (r_move rfl) ?_
      refine wl_p (r_add_n (m := 4 * k)  (n := 4)  rfl rfl om_of) ?_
      refine wl_p (r_assign rfl) ?_
      refine wl_nil ?_
      refine hK4 _ _ (4 - (k + 1)) pfn_of ⟨k + 1, by omega, rfl, h, rfl⟩ (by omega)
  · have hlt := of_decide_eq_false hc; clear hc
    have hk4 : k = 4 := by omega
    refine wp_exit ?_
    refine hK2 _ _ ?_
    clear hK5 hK4 hK2 K5 K4 K2
    refine cw_seq fun K19 hK19 => ?_
    refine cw_region ?_
    refine wl_p (r_load_all h rfl (by simp [hl]) Tryd.isAgg129 Tryd.sizeOf129) ?_
    refine wl_o fun Ko hKo => ?_
    refine op_store_all h rfl rfl oneB (by simp [hl]) (by intro w; rw [List.length_map, hl]; exact Tryd.sizeOf129 w) fun w h => ?_
    have h := h.nm
    refine hKo _ _ _ ?_; clear hKo Ko
    refine wl_nil ?_
    refine hK19 _ _ ?_
    clear hK19 K19
    refine wp_ret ?_
    refine (hQ _ _ _ (res_cell h rfl rfl (by simp [hl]) Tryd.isAgg129 Tryd.sizeOf129) ?_).1
    have hF := h.tail.tail; subst hk4; exact ⟨rfl, hF⟩

set_option maxHeartbeats 1000000 in
set_option maxRecDepth 100000 in
theorem unmixed_ok {E : Env} {w : World} {F : List (Nat × Obj)} (h : Has E w F) (s₀ : Bytes) (hs₀ : s₀.length = 16) : Ret Tryd.prog 82 [aggB s₀] w fun v w' => v = aggB (unmixed s₀) ∧ Has E w' F := by
  refine ret_of_wp (l := [aggB s₀, undef, undef, undef, undef, undef, undef, undef, undef, undef, undef, undef, undef, undef, undef, undef, undef, undef, undef, undef, undef, undef, undef, undef, undef, undef, undef, undef, undef, undef, undef, undef, undef, undef, undef, undef, undef, undef, undef, undef, undef, undef, undef, undef, undef, undef, undef, undef, undef, undef, undef, undef, undef, undef, undef, undef, undef, undef, undef, undef]) Tryd.func82 rfl (by simp only [Tryd.ntmps82, List.size_toArray, List.length_cons, List.length_nil, Nat.reduceAdd, Nat.reduceSub, Array.replicate_succ, Array.replicate_zero, List.push_toArray, List.append_toArray, List.nil_append, List.cons_append]) fun Q hQ => ?_
  refine cw_seq fun K1 hK1 => ?_
  refine cw_region ?_
  refine wl_o fun Ko hKo => ?_
  refine op_box h rfl rfl fun b1 w h => ?_
  refine hKo _ _ _ ?_; clear hKo Ko
  refine wl_o fun Ko hKo => ?_
  refine op_allocB 16 h Tryd.zeroValue129 rfl fun b2 w h => ?_
  refine hKo _ _ _ ?_; clear hKo Ko
  refine wl_nil ?_
  refine hK1 _ _ ?_
  clear hK1 K1
  refine cw_seq fun K2 hK2 => ?_
  refine cw_seq fun K3 hK3 => ?_
  refine cw_region ?_
  refine wl_p (r_assign rfl) ?_
  refine wl_nil ?_
  refine hK3 _ _ ?_
  clear hK3 K3
  refine wp_block ?_
  refine cw_loopf [3, 4, 5, 6, 7, 8, 9, 10, 11, 12, 13, 14, 15, 16, 17, 18, 19, 20, 21, 22, 23, 24, 25, 26, 27, 28, 29, 30, 31, 32, 33, 34, 35, 36, 37, 38, 39, 40, 41, 42, 43, 44, 45, 46, 47, 48, 49, 50, 51, 52, 53, 54, 55, 56, 57] (fun f w n => ∃ k : Nat, k ≤ 4 ∧ f 3 = i64 ((4 * k : Nat) : Int) ∧ Has E w ((b2, bs 129 (List.replicate 16 0)) :: (b1, bs 129 (iter preCol k s₀)) :: F) ∧ n = 4 - k) (4) ⟨0, by omega, rfl, h, rfl⟩ ?_
  clear h; rintro f w n ⟨k, hk, e3, h, rfl⟩ K4 hK4
  simp only [putFn, List.foldl_cons, List.foldl_nil, List.set_cons_zero, List.set_cons_succ, e3]
  clear e3
  have hl : (iter preCol k s₀).length = 16 := by rw [preN_len, hs₀]
  refine cw_seq fun K5 hK5 => ?_
  refine cw_seq fun K6 hK6 => ?_
  refine cw_region ?_
  refine wl_p (r_move rfl) ?_
  refine wl_p (r_lss  (n := 16) rfl rfl) ?_
  refine wl_nil ?_
  refine hK6 _ _ ?_
  clear hK6 K6
  refine wp_cond_split rfl (fun hc => ?_) (fun hc => ?_)
  · have hlt := of_decide_eq_true hc; clear hc
    refine wp_skip ?_
    refine hK5 _ _ ?_
    clear hK5 K5
    refine cw_seq fun K7 hK7 => ?_
    refine wp_block ?_
    refine cw_seq fun K8 hK8 => ?_
    refine cw_drawnH h (h) (fun i => false) (by kernel_rfl) 11 rfl #[false, false, false, false, false, false, false, false, false, false, false] rfl ?_
    clear h; rintro w h hS
    refine dn_p 0 #[true, false, false, false, false, false, false, false, false, false, false] ⟨some 10, _, _, _, _, _⟩ rfl (fun w => r_move rfl) ?_
    refine dn_p 1 #[true, true, false, false, false, false, false, false, false, false, false] ⟨some 11, _, _, _, _, _⟩ rfl (fun w => r_indexAddr_arr (j := 4 * k) rfl rfl Tryd.runUnderlying129 Tryd.sizeOf5 (by first | rfl | omega) (by omega)) ?_
    refine dn_l 2 #[true, true, true, false, false, false, false, false, false, false, false] ⟨some 12, _, _, _, _, _⟩ rfl (by first | exact h | exact h.tail | exact h.tail.tail | exact hS) (fun w hS => r_load_b hS rfl (by omega) Tryd.isAgg5) ?_
    refine dn_p 3 #[true, true, true, true, false, false, false, false, false, false, false] ⟨some 13, _, _, _, _, _⟩ rfl (fun w => r_move rfl) ?_
    refine dn_p 4 #[true, true, true, true, true, false, false, false, false, false, false] ⟨some 14, _, _, _, _, _⟩ rfl (fun w => r_add_n (m := 4 * k)  (n := 2)  rfl rfl om_of) ?_
    refine dn_p 5 #[true, true, true, true, true, true, false, false, false, false, false] ⟨some 15, _, _, _, _, _⟩ rfl (fun w => r_indexAddr_arr (j := 4 * k + 2) rfl rfl Tryd.runUnderlying129 Tryd.sizeOf5 (by first | rfl | omega) (by omega)) ?_
    refine dn_l 6 #[true, true, true, true, true, true, true, false, false, false, false] ⟨some 16, _, _, _, _, _⟩ rfl (by first | exact h | exact h.tail | exact h.tail.tail | exact hS) (fun w hS => r_load_b hS rfl (by omega) Tryd.isAgg5) ?_
    refine dn_p 7 #[true, true, true, true, true, true, true, true, false, false, false] ⟨some 17, _, _, _, _, _⟩ rfl (fun w => r_xor_B   rfl rfl) ?_
    refine dn_o 8 #[true, true, true, true, true, true, true, true, true, false, false] ⟨some 18, _, _, _, _, _⟩ fun Ko hKo => ?_
    refine op_call [_] Tryd.call92 rfl (double_ok _) ?_
    rintro _ w ⟨rfl, rfl⟩
    refine hKo _ _ _ (fun _ => (by first | exact h | exact h.tail | exact h.tail.tail | exact hS)) ?_; clear hKo Ko
    refine dn_o 9 #[true, true, true, true, true, true, true, true, true, true, false] ⟨some 19, _, _, _, _, _⟩ fun Ko hKo => ?_
    refine op_call [_] Tryd.call92 rfl (double_ok _) ?_
    rintro _ w ⟨rfl, rfl⟩
    refine hKo _ _ _ (fun _ => (by first | exact h | exact h.tail | exact h.tail.tail | exact hS)) ?_; clear hKo Ko
    refine dn_p 10 #[true, true, true, true, true, true, true, true, true, true, true] ⟨some 4, _, _, _, _, _⟩ rfl (fun w => r_assign rfl) ?_
    refine dn_done (by kernel_rfl) ?_
    refine hK8 _ _ ?_
    clear hK8 K8
    refine cw_seq fun K9 hK9 => ?_
    refine cw_drawnH h (h) (fun i => false) (by kernel_rfl) 12 rfl #[false, false, false, false, false, false, false, false, false, false, false, false] rfl ?_
    clear h; rintro w h hS
    refine dn_p 0 #[true, false, false, false, false, false, false, false, false, false, false, false] ⟨some 20, _, _, _, _, _⟩ rfl (fun w => r_move rfl) ?_
    refine dn_p 1 #[true, true, false, false, false, false, false, false, false, false, false, false] ⟨some 21, _, _, _, _, _⟩ rfl (fun w => r_add_n (m := 4 * k)  (n := 1)  rfl rfl om_of) ?_
    refine dn_p 2 #[true, true, true, false, false, false, false, false, false, false, false, false] ⟨some 22, _, _, _, _, _⟩ rfl (fun w => r_indexAddr_arr (j := 4 * k + 1) rfl rfl Tryd.runUnderlying129 Tryd.sizeOf5 (by first | rfl | omega) (by omega)) ?_
    refine dn_l 3 #[true, true, true, true, false, false, false, false, false, false, false, false] ⟨some 23, _, _, _, _, _⟩ rfl (by first | exact h | exact h.tail | exact h.tail.tail | exact hS) (fun w hS => r_load_b hS rfl (by omega) Tryd.isAgg5) ?_
    refine dn_p 4 #[true, true, true, true, true, false, false, false, false, false, false, false] ⟨some 24, _, _, _, _, _⟩ rfl (fun w => r_move rfl) ?_
    refine dn_p 5 #[true, true, true, true, true, true, false, false, false, false, false, false] ⟨some 25, _, _, _, _, _⟩ rfl (fun w => r_add_n (m := 4 * k)  (n := 3)  rfl rfl om_of) ?_
    refine dn_p 6 #[true, true, true, true, true, true, true, false, false, false, false, false] ⟨some 26, _, _, _, _, _⟩ rfl (fun w => r_indexAddr_arr (j := 4 * k + 3) rfl rfl Tryd.runUnderlying129 Tryd.sizeOf5 (by first | rfl | omega) (by omega)) ?_
    refine dn_l 7 #[true, true, true, true, true, true, true, true, false, false, false, false] ⟨some 27, _, _, _, _, _⟩ rfl (by first | exact h | exact h.tail | exact h.tail.tail | exact hS) (fun w hS => r_load_b hS rfl (by omega) Tryd.isAgg5) ?_
    refine dn_p 8 #[true, true, true, true, true, true, true, true, true, false, false, false] ⟨some 28, _, _, _, _, _⟩ rfl (fun w => r_xor_B   rfl rfl) ?_
    refine dn_o 9 #[true, true, true, true, true, true, true, true, true, true, false, false] ⟨some 29, _, _, _, _, _⟩ fun Ko hKo => ?_
    refine op_call [_] Tryd.call92 rfl (double_ok _) ?_
    rintro _ w ⟨rfl, rfl⟩
    refine hKo _ _ _ (fun _ => (by first | exact h | exact h.tail | exact h.tail.tail | exact hS)) ?_; clear hKo Ko
    refine dn_o 10 #[true, true, true, true, true, true, true, true, true, true, true, false] ⟨some 30, _, _, _, _, _⟩ fun Ko hKo => ?_
    refine op_call [_] Tryd.call92 rfl (double_ok _) ?_
    rintro _ w ⟨rfl, rfl⟩
    refine hKo _ _ _ (fun _ => (by first | exact h | exact h.tail | exact h.tail.tail | exact hS)) ?_; clear hKo Ko
    refine dn_p 11 #[true, true, true, true, true, true, true, true, true, true, true, true] ⟨some 5, _, _, _, _, _⟩ rfl (fun w => r_assign rfl) ?_
    refine dn_done (by kernel_rfl) ?_
    refine hK9 _ _ ?_
    clear hK9 K9
    refine cw_seq fun K10 hK10 => ?_
    obtain ⟨s, hs⟩ : ∃ s, s = iter preCol k s₀ := ⟨_, rfl⟩
    rw [← hs] at hl
    simp only [← hs] at h ⊢
    obtain ⟨u, hu⟩ : ∃ u, u = preU s (4 * k) := ⟨_, rfl⟩
    simp only [preU] at hu
    simp only [← hu]
    obtain ⟨q, hq⟩ : ∃ q, q = preV s (4 * k) := ⟨_, rfl⟩
    simp only [preV] at hq
    simp only [← hq]
    refine cw_region ?_
    refine wl_p (r_move rfl) ?_
    refine wl_p (r_indexAddr_arr (j := 4 * k) rfl rfl Tryd.runUnderlying129 Tryd.sizeOf5 (by first | rfl | omega) (by omega)) ?_
    refine wl_p (r_load_b h rfl (by omega) Tryd.isAgg5) ?_
    refine wl_p (r_move rfl) ?_
    refine wl_p (r_xor_B   rfl rfl) ?_
    refine wl_p (r_indexAddr_arr (j := 4 * k) rfl rfl Tryd.runUnderlying129 Tryd.sizeOf5 (by first | rfl | omega) (by omega)) ?_
    refine wl_o fun Ko hKo => ?_
    refine op_store_b h rfl rfl (by omega) Tryd.sizeOf5 fun w h => ?_
    have h := h.nm
    refine hKo _ _ _ ?_; clear hKo Ko
    obtain ⟨s1, hs1⟩ : ∃ s1, s1 = xorAt s (4 * k) u := ⟨_, rfl⟩
    simp only [xorAt] at hs1
    rw [← hs1] at h
    have hl1 : s1.length = 16 := by rw [hs1, List.length_set, hl]
    refine wl_nil ?_
    refine hK10 _ _ ?_
    clear hK10 K10
    refine cw_seq fun K11 hK11 => ?_
    refine cw_region ?_
    refine wl_p (r_move rfl) ?_
    refine wl_p (r_add_n (m := 4 * k)  (n := 1)  rfl rfl om_of) ?_
    refine wl_p (r_indexAddr_arr (j := 4 * k + 1) rfl rfl Tryd.runUnderlying129 Tryd.sizeOf5 (by first | rfl | omega) (by omega)) ?_
    refine wl_p (r_load_b h rfl (by omega) Tryd.isAgg5) ?_
    refine wl_p (r_move rfl) ?_
    refine wl_p (r_xor_B   rfl rfl) ?_
    refine wl_p (r_indexAddr_arr (j := 4 * k + 1) rfl rfl Tryd.runUnderlying129 Tryd.sizeOf5 (by first | rfl | omega) (by omega)) ?_
    refine wl_o fun Ko hKo => ?_
    refine op_store_b h rfl rfl (by omega) Tryd.sizeOf5 fun w h => ?_
    have h := h.nm
    refine hKo _ _ _ ?_; clear hKo Ko
    obtain ⟨s2, hs2⟩ : ∃ s2, s2 = xorAt s1 (4 * k + 1) q := ⟨_, rfl⟩
    simp only [xorAt] at hs2
    rw [← hs2] at h
    have hl2 : s2.length = 16 := by rw [hs2, List.length_set, hl1]
    refine wl_nil ?_
    refine hK11 _ _ ?_
    clear hK11 K11
    refine cw_seq fun K12 hK12 => ?_
    refine cw_region ?_
    refine wl_p (r_move rfl) ?_
    refine wl_p (r_add_n (m := 4 * k)  (n := 2)  rfl rfl om_of) ?_
    refine wl_p (r_indexAddr_arr (j := 4 * k + 2) rfl rfl Tryd.runUnderlying129 Tryd.sizeOf5 (by first | rfl | omega) (by omega)) ?_
    refine wl_p (r_load_b h rfl (by omega) Tryd.isAgg5) ?_
    refine wl_p (r_move rfl) ?_
    refine wl_p (r_xor_B   rfl rfl) ?_
    refine wl_p (r_indexAddr_arr (j := 4 * k + 2) rfl rfl Tryd.runUnderlying129 Tryd.sizeOf5 (by first | rfl | omega) (by omega)) ?_
    refine wl_o fun Ko hKo => ?_
    refine op_store_b h rfl rfl (by omega) Tryd.sizeOf5 fun w h => ?_
    have h := h.nm
    refine hKo _ _ _ ?_; clear hKo Ko
    obtain ⟨s3, hs3⟩ : ∃ s3, s3 = xorAt s2 (4 * k + 2) u := ⟨_, rfl⟩
    simp only [xorAt] at hs3
    rw [← hs3] at h
    have hl3 : s3.length = 16 := by rw [hs3, List.length_set, hl2]
    refine wl_nil ?_
    refine hK12 _ _ ?_
    clear hK12 K12
    refine cw_region ?_
    refine wl_p (r_move rfl) ?_
    refine wl_p (r_add_n (m := 4 * k)  (n := 3)  rfl rfl om_of) ?_
    refine wl_p (r_indexAddr_arr (j := 4 * k + 3) rfl rfl Tryd.runUnderlying129 Tryd.sizeOf5 (by first | rfl | omega) (by omega)) ?_
    refine wl_p (r_load_b h rfl (by omega) Tryd.isAgg5) ?_
    refine wl_p (r_move rfl) ?_
    refine wl_p (r_xor_B   rfl rfl) ?_
    refine wl_p (r_indexAddr_arr (j := 4 * k + 3) rfl rfl Tryd.runUnderlying129 Tryd.sizeOf5 (by first | rfl | omega) (by omega)) ?_
    refine wl_o fun Ko hKo => ?_
    refine op_store_b h rfl rfl (by omega) Tryd.sizeOf5 fun w h => ?_
    have h := h.nm
    refine hKo _ _ _ ?_; clear hKo Ko
    have hcol : List.set s3 (4 * k + 3) (s3.getD (4 * k + 3) 0 ^^^ q) = iter preCol (k + 1) s₀ := by
      show _ = preCol k (iter preCol k s₀)
      rw [← hs]; subst hs3; subst hs2; subst hs1; subst hq; subst hu; rfl
    rw [hcol] at h
    refine wl_nil ?_
    refine hK7 _ _ ?_
    clear hK7 K7
    refine cw_region ?_
    refine wl_p (r_move rfl) ?_
    refine wl_p (r_add_n (m := 4 * k)  (n := 4)  rfl rfl om_of) ?_
    refine wl_p (r_assign rfl) ?_
    refine wl_nil ?_
    refine hK4 _ _ (4 - (k + 1)) pfn_of ⟨k + 1, by omega, rfl, h, rfl⟩ (by omega)
  · have hlt := of_decide_eq_false hc; clear hc
    have hk4 : k = 4 := by omega
    refine wp_exit ?_
    refine hK2 _ _ ?_
    clear hK5 hK4 hK2 K5 K4 K2
    refine cw_seq fun K14 hK14 => ?_
    refine cw_region ?_
    refine wl_p (r_load_all h rfl (by simp [hl]) Tryd.isAgg129 Tryd.sizeOf129) ?_
    refine wl_o fun Ko hKo => ?_
    refine op_call [_] Tryd.call81 rfl (mixed_ok h _ hl) ?_
    clear h; rintro _ w ⟨rfl, h⟩
    refine hKo _ _ _ ?_; clear hKo Ko
    obtain ⟨mm, hmm⟩ : ∃ mm, mm = mixed (iter preCol k s₀) := ⟨_, rfl⟩
    simp only [← hmm]
    have hm : mm.length = 16 := by rw [hmm, mixed_len, hl]
    refine wl_o fun Ko hKo => ?_
    refine op_store_all h rfl rfl oneB (by simp [hm]) (by intro w; rw [List.length_map, hm]; exact Tryd.sizeOf129 w) fun w h => ?_
    have h := h.nm
    refine hKo _ _ _ ?_; clear hKo Ko
    refine wl_nil ?_
    refine hK14 _ _ ?_
    clear hK14 K14
    refine wp_ret ?_
    refine (hQ _ _ _ (res_cell h rfl rfl (by simp [hm]) Tryd.isAgg129 Tryd.sizeOf129) ?_).1
    have hF := h.tail.tail; subst hk4; exact ⟨by rw [hmm]; rfl, hF⟩

end Go.Proofs.YtjdfenlmifhhdaaDoor
