/-
  Walks, printed by mk.py (a program of this work) out of specs1.py: what the Go functions compute, and that nobody else's memory turns. Condition: none.
-/
import Derived.Test.YtjdfenlmifhhdaaDoorProg
import Derived.Test.YtjdfenlmifhhdaaDoorAuto
import Derived.Test.YtjdfenlmifhhdaaDoorWalk
import Derived.Test.YtjdfenlmifhhdaaDoorPure
namespace Go.Proofs.YtjdfenlmifhhdaaDoor
open Go.RowKit

set_option maxHeartbeats 1000000 in
set_option maxRecDepth 100000 in
theorem double_ok {w : World} (x : BitVec 8) : Ret Tryd.prog 92 [B x] w fun v w' => v = B (double x) ∧ w' = w := by
  refine ret_of_wp (l := [B x, undef, undef, undef, undef, undef, undef, undef, undef, undef, undef]) Tryd.func92 rfl (by simp only [Tryd.ntmps92, List.size_toArray, List.length_cons, List.length_nil, Nat.reduceAdd, Nat.reduceSub, Array.replicate_succ, Array.replicate_zero, List.push_toArray, List.append_toArray, List.nil_append, List.cons_append]) fun Q hQ => ?_
  refine cw_seq fun K1 hK1 => ?_
  refine cw_region ?_
  refine wl_p (r_assign rfl) ?_
  refine wl_nil ?_
  refine hK1 _ _ ?_
  clear hK1 K1
  refine cw_seq fun K2 hK2 => ?_
  refine cw_seq fun K3 hK3 => ?_
  refine cw_region ?_
  refine wl_p (r_move rfl) ?_
  refine wl_p (r_and_B  (q := 128#8) rfl rfl) ?_
  refine wl_p (r_neq_B  (q := 0#8) rfl rfl) ?_
  refine wl_nil ?_
  refine hK3 _ _ ?_
  clear hK3 K3
  refine wp_cond_split rfl (fun hc => ?_) (fun hc => ?_)
  · have hs := of_decide_eq_true hc; clear hc
    refine cw_seq fun K4 hK4 => ?_
    refine cw_region ?_
    refine wl_p (r_move rfl) ?_
    refine wl_p (r_shl_B  (n := 1) rfl rfl) ?_
    refine wl_p (r_xor_B  (q := 27#8) rfl rfl) ?_
    refine wl_p (r_assign rfl) ?_
    refine wl_nil ?_
    refine hK4 _ _ ?_
    clear hK4 K4
    refine wp_ret ?_
    refine (hQ _ _ _ (res_tmp rfl rfl) ?_).1
    try simp only [List.getD_cons_zero, List.getD_cons_succ]
    exact ⟨by rw [double, if_pos hs], by trivial⟩
  · have hs := of_decide_eq_false hc; clear hc
    refine wp_skip ?_
    refine hK2 _ _ ?_
    clear hK2 K2
    refine cw_seq fun K5 hK5 => ?_
    refine cw_region ?_
    refine wl_p (r_move rfl) ?_
    refine wl_p (r_shl_B  (n := 1) rfl rfl) ?_
    refine wl_p (r_assign rfl) ?_
    refine wl_nil ?_
    refine hK5 _ _ ?_
    clear hK5 K5
    refine wp_ret ?_
    refine (hQ _ _ _ (res_tmp rfl rfl) ?_).1
    try simp only [List.getD_cons_zero, List.getD_cons_succ]
    exact ⟨by rw [double, if_neg hs], by trivial⟩

set_option maxHeartbeats 1000000 in
set_option maxRecDepth 100000 in
theorem shift_ok {w : World} (x : BitVec 8) : Ret Tryd.prog 96 [B x] w fun v w' => v = B (double x) ∧ w' = w := by
  refine ret_of_wp (l := [B x, undef, undef, undef, undef, undef, undef, undef, undef, undef, undef]) Tryd.func96 rfl (by simp only [Tryd.ntmps96, List.size_toArray, List.length_cons, List.length_nil, Nat.reduceAdd, Nat.reduceSub, Array.replicate_succ, Array.replicate_zero, List.push_toArray, List.append_toArray, List.nil_append, List.cons_append]) fun Q hQ => ?_
  refine cw_seq fun K1 hK1 => ?_
  refine cw_region ?_
  refine wl_p (r_assign rfl) ?_
  refine wl_nil ?_
  refine hK1 _ _ ?_
  clear hK1 K1
  refine cw_seq fun K2 hK2 => ?_
  refine cw_seq fun K3 hK3 => ?_
  refine cw_region ?_
  refine wl_p (r_move rfl) ?_
  refine wl_p (r_and_B  (q := 128#8) rfl rfl) ?_
  refine wl_p (r_neq_B  (q := 0#8) rfl rfl) ?_
  refine wl_nil ?_
  refine hK3 _ _ ?_
  clear hK3 K3
  refine wp_cond_split rfl (fun hc => ?_) (fun hc => ?_)
  · have hs := of_decide_eq_true hc; clear hc
    refine cw_seq fun K4 hK4 => ?_
    refine cw_region ?_
    refine wl_p (r_move rfl) ?_
    refine wl_p (r_shl_B  (n := 1) rfl rfl) ?_
    refine wl_p (r_xor_B  (q := 27#8) rfl rfl) ?_
    refine wl_p (r_assign rfl) ?_
    refine wl_nil ?_
    refine hK4 _ _ ?_
    clear hK4 K4
    refine wp_ret ?_
    refine (hQ _ _ _ (res_tmp rfl rfl) ?_).1
    try simp only [List.getD_cons_zero, List.getD_cons_succ]
    exact ⟨by rw [double, if_pos hs], by trivial⟩
  · have hs := of_decide_eq_false hc; clear hc
    refine wp_skip ?_
    refine hK2 _ _ ?_
    clear hK2 K2
    refine cw_seq fun K5 hK5 => ?_
    refine cw_region ?_
    refine wl_p (r_move rfl) ?_
    refine wl_p (r_shl_B  (n := 1) rfl rfl) ?_
    refine wl_p (r_assign rfl) ?_
    refine wl_nil ?_
    refine hK5 _ _ ?_
    clear hK5 K5
    refine wp_ret ?_
    refine (hQ _ _ _ (res_tmp rfl rfl) ?_).1
    try simp only [List.getD_cons_zero, List.getD_cons_succ]
    exact ⟨by rw [double, if_neg hs], by trivial⟩

set_option maxHeartbeats 1000000 in
set_option maxRecDepth 100000 in
theorem xor_ok {E : Env} {w : World} {F : List (Nat × Obj)} (h : Has E w F) (a b : Bytes) (ha : a.length = 16) (hb : b.length = 16) : Ret Tryd.prog 77 [aggB a, aggB b] w fun v w' => v = aggB (xor16 a b) ∧ Has E w' F := by
  refine ret_of_wp (l := [aggB a, aggB b, undef, undef, undef, undef, undef, undef, undef, undef, undef, undef, undef, undef, undef, undef, undef, undef, undef, undef]) Tryd.func77 rfl (by simp only [Tryd.ntmps77, List.size_toArray, List.length_cons, List.length_nil, Nat.reduceAdd, Nat.reduceSub, Array.replicate_succ, Array.replicate_zero, List.push_toArray, List.append_toArray, List.nil_append, List.cons_append]) fun Q hQ => ?_
  refine cw_seq fun K1 hK1 => ?_
  refine cw_region ?_
  refine wl_o fun Ko hKo => ?_
  refine op_box h rfl rfl fun b2 w h => ?_
  refine hKo _ _ _ ?_; clear hKo Ko
  refine wl_o fun Ko hKo => ?_
  refine op_box h rfl rfl fun b3 w h => ?_
  refine hKo _ _ _ ?_; clear hKo Ko
  refine wl_o fun Ko hKo => ?_
  refine op_allocB 16 h Tryd.zeroValue113 rfl fun b4 w h => ?_
  refine hKo _ _ _ ?_; clear hKo Ko
  refine wl_nil ?_
  refine hK1 _ _ ?_
  clear hK1 K1
  refine cw_seq fun K2 hK2 => ?_
  refine cw_seq fun K3 hK3 => ?_
  refine cw_region ?_
  refine wl_p (r_load_all h rfl (by simp [hb]) Tryd.isAgg113 Tryd.sizeOf113) ?_
  refine wl_p (r_move rfl) ?_
  refine wl_nil ?_
  refine hK3 _ _ ?_
  clear hK3 K3
  refine wp_block ?_
  refine cw_loopf [5, 6, 8, 9, 10, 11, 12, 13, 14, 15, 16, 17, 18] (fun f w n => ∃ i : Nat, i ≤ 16 ∧ f 8 = i64 i ∧ Has E w ((b4, bs 113 (List.replicate 16 0)) :: (b3, bs 113 b) :: (b2, bs 113 (xorL a b i)) :: F) ∧ n = 16 - i) (16) ⟨0, by omega, rfl, h, rfl⟩ ?_
  clear h; rintro f w n ⟨i, hi, e8, h, rfl⟩ K4 hK4
  simp only [putFn, List.foldl_cons, List.foldl_nil, List.set_cons_zero, List.set_cons_succ, e8]
  clear e8
  have hl : (xorL a b i).length = 16 := by rw [xorL_len, ha]
  refine cw_seq fun K5 hK5 => ?_
  refine cw_region ?_
  refine wl_p (r_lss  (n := 16) rfl rfl) ?_
  refine wl_nil ?_
  refine hK5 _ _ ?_
  clear hK5 K5
  refine cw_seq fun K6 hK6 => ?_
  refine wp_cond_split rfl (fun hc => ?_) (fun hc => ?_)
  · have hlt := of_decide_eq_true hc; clear hc
    refine wp_skip ?_
    refine hK6 _ _ ?_
    clear hK6 K6
    refine cw_seq fun K7 hK7 => ?_
    refine wp_block ?_
    refine cw_seq fun K8 hK8 => ?_
    refine cw_region ?_
    refine wl_p (r_move rfl) ?_
    refine wl_p (r_index (j := i) rfl rfl Tryd.runUnderlying113 Tryd.sizeOf5 Tryd.isAgg5 (by first | rfl | omega) (by omega) (getBl (by omega))) ?_
    refine wl_p (r_assign rfl) ?_
    refine wl_p (r_assign rfl) ?_
    refine wl_nil ?_
    refine hK8 _ _ ?_
    clear hK8 K8
    refine cw_region ?_
    refine wl_p (r_move rfl) ?_
    refine wl_p (r_indexAddr_arr (j := i) rfl rfl Tryd.runUnderlying113 Tryd.sizeOf5 (by first | rfl | omega) (by omega)) ?_
    refine wl_p (r_load_b h rfl (by omega) Tryd.isAgg5) ?_
    refine wl_p (r_move rfl) ?_
    refine wl_p (r_xor_B   rfl rfl) ?_
    refine wl_p (r_indexAddr_arr (j := i) rfl rfl Tryd.runUnderlying113 Tryd.sizeOf5 (by first | rfl | omega) (by omega)) ?_
    refine wl_o fun Ko hKo => ?_
    refine op_store_b h rfl rfl (by omega) Tryd.sizeOf5 fun w h => ?_
    have h := h.nm
    refine hKo _ _ _ ?_; clear hKo Ko
    refine wl_nil ?_
    refine hK7 _ _ ?_
    clear hK7 K7
    refine cw_region ?_
    refine wl_p (r_add_n  (n := 1) rfl rfl om_of) ?_
    refine wl_p (r_move rfl) ?_
    refine wl_nil ?_
    refine hK4 _ _ (16 - (i + 1)) pfn_of ⟨i + 1, by omega, rfl, h, rfl⟩ (by omega)
  · have hlt := of_decide_eq_false hc; clear hc
    have hi16 : i = 16 := by omega
    refine wp_exit ?_
    refine hK2 _ _ ?_
    clear hK6 hK4 hK2 K6 K4 K2
    refine cw_seq fun K10 hK10 => ?_
    refine cw_region ?_
    refine wl_p (r_load_all h rfl (by simp [hl]) Tryd.isAgg113 Tryd.sizeOf113) ?_
    refine wl_o fun Ko hKo => ?_
    refine op_store_all h rfl rfl oneB (by simp [hl]) (by intro w; rw [List.length_map, hl]; exact Tryd.sizeOf113 w) fun w h => ?_
    have h := h.nm
    refine hKo _ _ _ ?_; clear hKo Ko
    refine wl_nil ?_
    refine hK10 _ _ ?_
    clear hK10 K10
    refine wp_ret ?_
    refine (hQ _ _ _ (res_cell h rfl rfl (by simp [hl]) Tryd.isAgg113 Tryd.sizeOf113) ?_).1
    subst hi16; exact ⟨rfl, h.tail.tail.tail⟩

set_option maxHeartbeats 1000000 in
set_option maxRecDepth 100000 in
theorem bxor_ok {E : Env} {w : World} {F : List (Nat × Obj)} (h : Has E w F) (a b : Bytes) (ha : a.length = 16) (hb : b.length = 16) : Ret Tryd.prog 79 [aggB a, aggB b] w fun v w' => v = aggB (xor16 a b) ∧ Has E w' F := by
  refine ret_of_wp (l := [aggB a, aggB b, undef, undef, undef, undef, undef, undef, undef, undef, undef, undef, undef, undef, undef, undef, undef, undef, undef, undef]) Tryd.func79 rfl (by simp only [Tryd.ntmps79, List.size_toArray, List.length_cons, List.length_nil, Nat.reduceAdd, Nat.reduceSub, Array.replicate_succ, Array.replicate_zero, List.push_toArray, List.append_toArray, List.nil_append, List.cons_append]) fun Q hQ => ?_
  refine cw_seq fun K1 hK1 => ?_
  refine cw_region ?_
  refine wl_o fun Ko hKo => ?_
  refine op_box h rfl rfl fun b2 w h => ?_
  refine hKo _ _ _ ?_; clear hKo Ko
  refine wl_o fun Ko hKo => ?_
  refine op_box h rfl rfl fun b3 w h => ?_
  refine hKo _ _ _ ?_; clear hKo Ko
  refine wl_o fun Ko hKo => ?_
  refine op_allocB 16 h Tryd.zeroValue129 rfl fun b4 w h => ?_
  refine hKo _ _ _ ?_; clear hKo Ko
  refine wl_nil ?_
  refine hK1 _ _ ?_
  clear hK1 K1
  refine cw_seq fun K2 hK2 => ?_
  refine cw_seq fun K3 hK3 => ?_
  refine cw_region ?_
  refine wl_p (r_load_all h rfl (by simp [hb]) Tryd.isAgg113 Tryd.sizeOf113) ?_
  refine wl_p (r_move rfl) ?_
  refine wl_nil ?_
  refine hK3 _ _ ?_
  clear hK3 K3
  refine wp_block ?_
  refine cw_loopf [5, 6, 8, 9, 10, 11, 12, 13, 14, 15, 16, 17, 18] (fun f w n => ∃ i : Nat, i ≤ 16 ∧ f 8 = i64 i ∧ Has E w ((b4, bs 129 (List.replicate 16 0)) :: (b3, bs 113 b) :: (b2, bs 129 (xorL a b i)) :: F) ∧ n = 16 - i) (16) ⟨0, by omega, rfl, h, rfl⟩ ?_
  clear h; rintro f w n ⟨i, hi, e8, h, rfl⟩ K4 hK4
  simp only [putFn, List.foldl_cons, List.foldl_nil, List.set_cons_zero, List.set_cons_succ, e8]
  clear e8
  have hl : (xorL a b i).length = 16 := by rw [xorL_len, ha]
  refine cw_seq fun K5 hK5 => ?_
  refine cw_region ?_
  refine wl_p (r_lss  (n := 16) rfl rfl) ?_
  refine wl_nil ?_
  refine hK5 _ _ ?_
  clear hK5 K5
  refine cw_seq fun K6 hK6 => ?_
  refine wp_cond_split rfl (fun hc => ?_) (fun hc => ?_)
  · have hlt := of_decide_eq_true hc; clear hc
    refine wp_skip ?_
    refine hK6 _ _ ?_
    clear hK6 K6
    refine cw_seq fun K7 hK7 => ?_
    refine wp_block ?_
    refine cw_seq fun K8 hK8 => ?_
    refine cw_region ?_
    refine wl_p (r_move rfl) ?_
    refine wl_p (r_index (j := i) rfl rfl Tryd.runUnderlying113 Tryd.sizeOf5 Tryd.isAgg5 (by first | rfl | omega) (by omega) (getBl (by omega))) ?_
    refine wl_p (r_assign rfl) ?_
    refine wl_p (r_assign rfl) ?_
    refine wl_nil ?_
    refine hK8 _ _ ?_
    clear hK8 K8
    refine cw_region ?_
    refine wl_p (r_move rfl) ?_
    refine wl_p (r_indexAddr_arr (j := i) rfl rfl Tryd.runUnderlying129 Tryd.sizeOf5 (by first | rfl | omega) (by omega)) ?_
    refine wl_p (r_load_b h rfl (by omega) Tryd.isAgg5) ?_
    refine wl_p (r_move rfl) ?_
    refine wl_p (r_xor_B   rfl rfl) ?_
    refine wl_p (r_indexAddr_arr (j := i) rfl rfl Tryd.runUnderlying129 Tryd.sizeOf5 (by first | rfl | omega) (by omega)) ?_
    refine wl_o fun Ko hKo => ?_
    refine op_store_b h rfl rfl (by omega) Tryd.sizeOf5 fun w h => ?_
    have h := h.nm
    refine hKo _ _ _ ?_; clear hKo Ko
    refine wl_nil ?_
    refine hK7 _ _ ?_
    clear hK7 K7
    refine cw_region ?_
    refine wl_p (r_add_n  (n := 1) rfl rfl om_of) ?_
    refine wl_p (r_move rfl) ?_
    refine wl_nil ?_
    refine hK4 _ _ (16 - (i + 1)) pfn_of ⟨i + 1, by omega, rfl, h, rfl⟩ (by omega)
  · have hlt := of_decide_eq_false hc; clear hc
    have hi16 : i = 16 := by omega
    refine wp_exit ?_
    refine hK2 _ _ ?_
    clear hK6 hK4 hK2 K6 K4 K2
    refine cw_seq fun K10 hK10 => ?_
    refine cw_region ?_
    refine wl_p (r_load_all h rfl (by simp [hl]) Tryd.isAgg129 Tryd.sizeOf129) ?_
    refine wl_o fun Ko hKo => ?_
    refine op_store_all h rfl rfl oneB (by simp [hl]) (by intro w; rw [List.length_map, hl]; exact Tryd.sizeOf129 w) fun w h => ?_
    have h := h.nm
    refine hKo _ _ _ ?_; clear hKo Ko
    refine wl_nil ?_
    refine hK10 _ _ ?_
    clear hK10 K10
    refine wp_ret ?_
    refine (hQ _ _ _ (res_cell h rfl rfl (by simp [hl]) Tryd.isAgg129 Tryd.sizeOf129) ?_).1
    subst hi16; exact ⟨rfl, h.tail.tail.tail⟩

set_option maxHeartbeats 1000000 in
set_option maxRecDepth 100000 in
theorem box_ok {E : Env} {w : World} {F : List (Nat × Obj)} (h : Has E w F) : Ret Tryd.prog 80 [] w fun v w' => v = aggB boxL ∧ Has E w' F := by
  refine ret_of_wp (l := [undef, undef]) Tryd.func80 rfl (by simp only [Tryd.ntmps80, List.size_toArray, List.length_cons, List.length_nil, Nat.reduceAdd, Nat.reduceSub, Array.replicate_succ, Array.replicate_zero, List.push_toArray, List.append_toArray, List.nil_append, List.cons_append]) fun Q hQ => ?_
  refine cw_seq fun K1 hK1 => ?_
  refine cw_region ?_
  refine wl_o fun Ko hKo => ?_
  refine op_allocB 256 h Tryd.zeroValue131 rfl fun b0 w h => ?_
  refine hKo _ _ _ ?_; clear hKo Ko
  refine wl_nil ?_
  refine hK1 _ _ ?_
  clear hK1 K1
  refine cw_seq fun K2 hK2 => ?_
  refine cw_region ?_
  refine wl_p (show Sem.run _ _ w = Result.ok (Next.value (aggB boxL)) w by kernel_rfl) ?_
  refine wl_o fun Ko hKo => ?_
  refine op_store_all h rfl rfl oneB (by rw [List.length_map, boxL_len]; rfl) (by intro w; rw [List.length_map, boxL_len]; exact Tryd.sizeOf131 w) fun w h => ?_
  have h := h.nm
  refine hKo _ _ _ ?_; clear hKo Ko
  refine wl_nil ?_
  refine hK2 _ _ ?_
  clear hK2 K2
  refine wp_ret ?_
  refine (hQ _ _ _ (res_cell h rfl rfl (by simp [boxL_len]) Tryd.isAgg131 Tryd.sizeOf131) ?_).1
  exact ⟨rfl, h.tail⟩

set_option maxHeartbeats 1000000 in
set_option maxRecDepth 100000 in
theorem unbox_ok {E : Env} {w : World} {F : List (Nat × Obj)} (h : Has E w F) : Ret Tryd.prog 83 [] w fun v w' => v = aggB unboxL ∧ Has E w' F := by
  refine ret_of_wp (l := [undef, undef]) Tryd.func83 rfl (by simp only [Tryd.ntmps83, List.size_toArray, List.length_cons, List.length_nil, Nat.reduceAdd, Nat.reduceSub, Array.replicate_succ, Array.replicate_zero, List.push_toArray, List.append_toArray, List.nil_append, List.cons_append]) fun Q hQ => ?_
  refine cw_seq fun K1 hK1 => ?_
  refine cw_region ?_
  refine wl_o fun Ko hKo => ?_
  refine op_allocB 256 h Tryd.zeroValue131 rfl fun b0 w h => ?_
  refine hKo _ _ _ ?_; clear hKo Ko
  refine wl_nil ?_
  refine hK1 _ _ ?_
  clear hK1 K1
  refine cw_seq fun K2 hK2 => ?_
  refine cw_region ?_
  refine wl_p (show Sem.run _ _ w = Result.ok (Next.value (aggB unboxL)) w by kernel_rfl) ?_
  refine wl_o fun Ko hKo => ?_
  refine op_store_all h rfl rfl oneB (by rw [List.length_map, unboxL_len]; rfl) (by intro w; rw [List.length_map, unboxL_len]; exact Tryd.sizeOf131 w) fun w h => ?_
  have h := h.nm
  refine hKo _ _ _ ?_; clear hKo Ko
  refine wl_nil ?_
  refine hK2 _ _ ?_
  clear hK2 K2
  refine wp_ret ?_
  refine (hQ _ _ _ (res_cell h rfl rfl (by simp [unboxL_len]) Tryd.isAgg131 Tryd.sizeOf131) ?_).1
  exact ⟨rfl, h.tail⟩

end Go.Proofs.YtjdfenlmifhhdaaDoor
