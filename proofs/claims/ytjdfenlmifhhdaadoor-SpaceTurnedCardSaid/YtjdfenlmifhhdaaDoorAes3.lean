/-
  Walks, printed by mk.py (a program of this work) out of specs3.py: what the Go functions compute, and that nobody else's memory turns. Condition: none.
-/
import Derived.Test.YtjdfenlmifhhdaaDoorProg
import Derived.Test.YtjdfenlmifhhdaaDoorAuto
import Derived.Test.YtjdfenlmifhhdaaDoorAes2
namespace Go.Proofs.YtjdfenlmifhhdaaDoor
open Go.RowKit

attribute [local irreducible] double mul twice xor16 mixed unmixed subShift unsubShift encRound decRound encrypt decrypt schedW schedule boxL unboxL
set_option maxHeartbeats 1000000 in
set_option maxRecDepth 100000 in
theorem encrypt_ok {E : Env} {w : World} {F : List (Nat × Obj)} (h : Has E w F) {c : Nat} {keys : Bytes} [mk : Mem F c (bs 117 keys)] (hk : keys.length = 240) (x : Bytes) (hx : x.length = 16) : Ret Tryd.prog 49 [ptr c 0, aggB x] w fun v w' => v = aggB (encrypt keys x) ∧ Has E w' F := by
  refine ret_of_wp (l := [ptr c 0, aggB x, undef, undef, undef, undef, undef, undef, undef, undef, undef, undef, undef, undef, undef, undef, undef, undef, undef, undef, undef, undef, undef, undef, undef, undef, undef, undef, undef, undef, undef, undef, undef, undef, undef, undef, undef, undef, undef, undef, undef, undef, undef, undef, undef, undef, undef, undef, undef, undef, undef, undef]) Tryd.func49 rfl (by simp only [Tryd.ntmps49, List.size_toArray, List.length_cons, List.length_nil, Nat.reduceAdd, Nat.reduceSub, Array.replicate_succ, Array.replicate_zero, List.push_toArray, List.append_toArray, List.nil_append, List.cons_append]) fun Q hQ => ?_
  refine cw_seq fun K1 hK1 => ?_
  refine cw_region ?_
  refine wl_o fun Ko hKo => ?_
  refine op_box h rfl rfl fun b3 w h => ?_
  refine hKo _ _ _ ?_; clear hKo Ko
  refine wl_o fun Ko hKo => ?_
  refine op_allocB 16 h Tryd.zeroValue113 rfl fun b4 w h => ?_
  refine hKo _ _ _ ?_; clear hKo Ko
  refine wl_nil ?_
  refine hK1 _ _ ?_
  clear hK1 K1
  refine cw_seq fun K2 hK2 => ?_
  refine cw_seq fun K3 hK3 => ?_
  refine cw_region ?_
  refine wl_p (r_move rfl) ?_
  refine wl_p (r_eql_nilptr rfl rfl Tryd.runUnderlying83) ?_
  refine wl_nil ?_
  refine hK3 _ _ ?_
  clear hK3 K3
  refine wp_cond_false rfl ?_
  refine wp_skip ?_
  refine hK2 _ _ ?_
  clear hK2 K2
  refine cw_seq fun K4 hK4 => ?_
  refine cw_cut [5, 12, 13, 14, 15, 16, 17, 18] (fun f w => ∃ b5, f 5 = ptr b5 0 ∧ Has E w ((b5, bs 129 (xor16 x (rkey keys 0))) :: (b4, bs 113 (List.replicate 16 0)) :: (b3, bs 113 x) :: F)) ?_ ?_
  · intro K5 hK5
    refine cw_drawnH h (h) (fun i => i == 8) (by kernel_rfl) 9 rfl #[false, false, false, false, false, false, false, false, false] rfl ?_
    clear h; rintro w h hS
    refine dn_l 0 #[true, false, false, false, false, false, false, false, false] ⟨some 12, _, _, _, _, _⟩ rfl (by first | exact h | exact h.tail | exact h.tail.tail | exact hS) (fun w hS => r_load_allb hS rfl len_of Tryd.isAgg113 Tryd.sizeOf113) ?_
    refine dn_p 1 #[true, true, false, false, false, false, false, false, false] ⟨some 13, _, _, _, _, _⟩ rfl (fun w => r_move rfl) ?_
    refine dn_p 2 #[true, true, true, false, false, false, false, false, false] ⟨some 14, _, _, _, _, _⟩ rfl (fun w => r_nilCheck rfl) ?_
    refine dn_p 3 #[true, true, true, true, false, false, false, false, false] ⟨some 15, _, _, _, _, _⟩ rfl (fun w => r_fieldAddr (off := 0) rfl Tryd.runUnderlying117 rfl Tryd.sizeOf114 rfl rfl) ?_
    refine dn_p 4 #[true, true, true, true, true, false, false, false, false] ⟨some 16, _, _, _, _, _⟩ rfl (fun w => r_indexAddr_arr (j := 0) rfl rfl Tryd.runUnderlying114 Tryd.sizeOf113 (by first | rfl | omega) om_of) ?_
    refine dn_l 5 #[true, true, true, true, true, true, false, false, false] ⟨some 17, _, _, _, _, _⟩ rfl (by first | exact h | exact h.tail | exact h.tail.tail | exact hS) (fun w hS => r_load_segb hS rfl (by omega) Tryd.isAgg113 Tryd.sizeOf113) ?_
    refine dn_ops (rs := [6, 7]) (by kernel_rfl) (by decide) ?_
    refine all_cons ?_ (all_cons ?_ (all_nil))
    · refine dn_1 6 #[true, true, true, true, true, true, true, false, false] ⟨some 18, _, _, _, _, _⟩ fun Ko hKo => ?_
      refine op_call [_, _] Tryd.call79 rfl (bxor_ok h x (rkey keys 0) hx (rkey_len _ 0 hk (by omega))) ?_
      clear h; rintro _ w ⟨rfl, h⟩
      refine hKo _ _ _ (fun _ => (by first | exact h | exact h.tail | exact h.tail.tail | exact hS)) ?_; clear hKo Ko
      refine dn_o 7 #[true, true, true, true, true, true, true, true, false] ⟨some 5, _, _, _, _, _⟩ fun Ko hKo => ?_
      refine op_allocB 16 h Tryd.zeroValue129 rfl fun b5 w h => ?_
      refine hKo _ _ _ (fun _ => (by first | exact h | exact h.tail | exact h.tail.tail | exact hS)) ?_; clear hKo Ko
      refine dn_o 8 #[true, true, true, true, true, true, true, true, true] ⟨none, _, _, _, _, _⟩ fun Ko hKo => ?_
      refine op_store_ball h rfl rfl len_of len_of Tryd.sizeOf129 fun w h => ?_
      have h := h.nm
      refine hKo _ _ _ (fun hT => absurd hT (by decide)) ?_; clear hKo Ko
      refine dn_done (by kernel_rfl) ?_
      exact hK5 _ _ pfn_of ⟨b5, rfl, h⟩
    · refine dn_1 7 #[true, true, true, true, true, true, false, true, false] ⟨some 5, _, _, _, _, _⟩ fun Ko hKo => ?_
      refine op_allocB 16 h Tryd.zeroValue129 rfl fun b5 w h => ?_
      refine hKo _ _ _ (fun _ => (by first | exact h | exact h.tail | exact h.tail.tail | exact hS)) ?_; clear hKo Ko
      refine dn_o 6 #[true, true, true, true, true, true, true, true, false] ⟨some 18, _, _, _, _, _⟩ fun Ko hKo => ?_
      refine op_call [_, _] Tryd.call79 rfl (bxor_ok h x (rkey keys 0) hx (rkey_len _ 0 hk (by omega))) ?_
      clear h; rintro _ w ⟨rfl, h⟩
      refine hKo _ _ _ (fun _ => (by first | exact h | exact h.tail | exact h.tail.tail | exact hS)) ?_; clear hKo Ko
      refine dn_o 8 #[true, true, true, true, true, true, true, true, true] ⟨none, _, _, _, _, _⟩ fun Ko hKo => ?_
      refine op_store_ball h rfl rfl len_of len_of Tryd.sizeOf129 fun w h => ?_
      have h := h.nm
      refine hKo _ _ _ (fun hT => absurd hT (by decide)) ?_; clear hKo Ko
      refine dn_done (by kernel_rfl) ?_
      exact hK5 _ _ pfn_of ⟨b5, rfl, h⟩
  clear h; rintro f w ⟨b5, e5, h⟩
  simp only [putFn, List.foldl_cons, List.foldl_nil, List.set_cons_zero, List.set_cons_succ, e5]
  clear e5
  refine hK4 _ _ ?_
  clear hK4 K4
  refine cw_seq fun K6 hK6 => ?_
  refine cw_seq fun K7 hK7 => ?_
  refine cw_region ?_
  refine wl_p (r_assign rfl) ?_
  refine wl_nil ?_
  refine hK7 _ _ ?_
  clear hK7 K7
  refine wp_block ?_
  refine cw_loopf [6, 7, 8, 19, 20, 21, 22, 23, 24, 25, 26, 27, 28, 29, 30, 31, 32, 33, 34, 35, 36, 37, 38, 39, 40, 41, 42, 43, 44, 45, 46, 47, 48, 49, 50] (fun f w n => ∃ i : Nat, i ≤ 14 ∧ f 6 = i64 ((i + 1 : Nat) : Int) ∧ Has E w ((b5, bs 129 (iter (encRound keys) i (xor16 x (rkey keys 0)))) :: (b4, bs 113 (List.replicate 16 0)) :: (b3, bs 113 x) :: F) ∧ n = 14 - i) (14) ⟨0, by omega, rfl, h, rfl⟩ ?_
  clear h; rintro f w n ⟨i, hi, e6, h, rfl⟩ K8 hK8
  simp only [putFn, List.foldl_cons, List.foldl_nil, List.set_cons_zero, List.set_cons_succ, e6]
  clear e6
  obtain ⟨s, hs⟩ : ∃ s, s = iter (encRound keys) i (xor16 x (rkey keys 0)) := ⟨_, rfl⟩
  rw [← hs] at h
  have hl : s.length = 16 := by rw [hs]; exact encN_len keys x hx i
  refine cw_seq fun K9 hK9 => ?_
  refine cw_seq fun K10 hK10 => ?_
  refine cw_region ?_
  refine wl_p (r_move rfl) ?_
  refine wl_p (r_leq  (n := 14) rfl rfl) ?_
  refine wl_nil ?_
  refine hK10 _ _ ?_
  clear hK10 K10
  refine wp_cond_split rfl (fun hc => ?_) (fun hc => ?_)
  · have hlt := of_decide_eq_true hc; clear hc
    refine wp_skip ?_
    refine hK9 _ _ ?_
    clear hK9 K9
    refine cw_seq fun K11 hK11 => ?_
    refine wp_block ?_
    refine cw_seq fun K12 hK12 => ?_
    refine cw_region ?_
    refine wl_o fun Ko hKo => ?_
    refine op_allocB 16 h Tryd.zeroValue129 rfl fun b7 w h => ?_
    refine hKo _ _ _ ?_; clear hKo Ko
    refine wl_nil ?_
    refine hK12 _ _ ?_
    clear hK12 K12
    refine cw_seq fun K13 hK13 => ?_
    refine cw_seq fun K14 hK14 => ?_
    refine cw_region ?_
    refine wl_p (r_move rfl) ?_
    refine wl_nil ?_
    refine hK14 _ _ ?_
    clear hK14 K14
    refine wp_block ?_
    refine cw_loopf [8, 23, 24, 25, 26, 27, 28, 29, 30, 31, 32, 33, 34, 35, 36, 37, 38] (fun f w n => ∃ j : Nat, j ≤ 16 ∧ f 23 = i64 j ∧ Has E w ((b7, bs 129 (iter (subStep s) j (zeros 16))) :: (b5, bs 129 s) :: (b4, bs 113 (List.replicate 16 0)) :: (b3, bs 113 x) :: F) ∧ n = 16 - j) (16) ⟨0, by omega, rfl, h, rfl⟩ ?_
    clear h; rintro f w n ⟨j, hj, e23, h, rfl⟩ K15 hK15
    simp only [putFn, List.foldl_cons, List.foldl_nil, List.set_cons_zero, List.set_cons_succ, e23]
    clear e23
    have hlj : (iter (subStep s) j (zeros 16)).length = 16 := by rw [subN_len, zeros_len]
    refine cw_seq fun K16 hK16 => ?_
    refine cw_region ?_
    refine wl_p (r_lss  (n := 16) rfl rfl) ?_
    refine wl_nil ?_
    refine hK16 _ _ ?_
    clear hK16 K16
    refine cw_seq fun K17 hK17 => ?_
    refine wp_cond_split rfl (fun hc => ?_) (fun hc => ?_)
    · have hlt2 := of_decide_eq_true hc; clear hc
      refine wp_skip ?_
      refine hK17 _ _ ?_
      clear hK17 K17
      refine cw_seq fun K18 hK18 => ?_
      refine wp_block ?_
      refine cw_seq fun K19 hK19 => ?_
      refine cw_region ?_
      refine wl_p (r_move rfl) ?_
      refine wl_p (r_assign rfl) ?_
      refine wl_nil ?_
      refine hK19 _ _ ?_
      clear hK19 K19
      refine cw_drawnH h (h) (fun i => i == 12) (by kernel_rfl) 13 rfl #[false, false, false, false, false, false, false, false, false, false, false, false, false] rfl ?_
      clear h; rintro w h hS
      refine dn_p 0 #[true, false, false, false, false, false, false, false, false, false, false, false, false] ⟨some 26, _, _, _, _, _⟩ rfl (fun w => r_move rfl) ?_
      refine dn_p 2 #[true, false, true, false, false, false, false, false, false, false, false, false, false] ⟨some 28, _, _, _, _, _⟩ rfl (fun w => r_move rfl) ?_
      refine dn_p 3 #[true, false, true, true, false, false, false, false, false, false, false, false, false] ⟨some 29, _, _, _, _, _⟩ rfl (fun w => r_move rfl) ?_
      refine dn_p 4 #[true, false, true, true, true, false, false, false, false, false, false, false, false] ⟨some 30, _, _, _, _, _⟩ rfl (fun w => r_rem_n (m := j)  (n := 4)  rfl rfl om_of) ?_
      refine dn_p 5 #[true, false, true, true, true, true, false, false, false, false, false, false, false] ⟨some 31, _, _, _, _, _⟩ rfl (fun w => r_mul_n (m := 4)  (n := j % 4)  rfl rfl om_of) ?_
      refine dn_p 6 #[true, false, true, true, true, true, true, false, false, false, false, false, false] ⟨some 32, _, _, _, _, _⟩ rfl (fun w => r_add_n (m := j)  (n := 4 * (j % 4))  rfl rfl om_of) ?_
      refine dn_p 7 #[true, false, true, true, true, true, true, true, false, false, false, false, false] ⟨some 33, _, _, _, _, _⟩ rfl (fun w => r_rem_n (m := j + 4 * (j % 4))  (n := 16)  rfl rfl om_of) ?_
      refine dn_p 8 #[true, false, true, true, true, true, true, true, true, false, false, false, false] ⟨some 34, _, _, _, _, _⟩ rfl (fun w => r_indexAddr_arr (j := (j + 4 * (j % 4)) % 16) rfl rfl Tryd.runUnderlying129 Tryd.sizeOf5 (by first | rfl | omega) om_of) ?_
      refine dn_l 9 #[true, false, true, true, true, true, true, true, true, true, false, false, false] ⟨some 35, _, _, _, _, _⟩ rfl (by first | exact h | exact h.tail | exact h.tail.tail | exact hS) (fun w hS => r_load_b hS rfl (by omega) Tryd.isAgg5) ?_
      refine dn_o 1 #[true, true, true, true, true, true, true, true, true, true, false, false, false] ⟨some 27, _, _, _, _, _⟩ fun Ko hKo => ?_
      refine op_call [] Tryd.call80 rfl (box_ok h) ?_
      clear h; rintro _ w ⟨rfl, h⟩
      refine hKo _ _ _ (fun _ => (by first | exact h | exact h.tail | exact h.tail.tail | exact hS)) ?_; clear hKo Ko
      refine dn_p 10 #[true, true, true, true, true, true, true, true, true, true, true, false, false] ⟨some 36, _, _, _, _, _⟩ rfl (fun w => r_index (j := (s.getD ((j + 4 * (j % 4)) % 16) 0).toNat) rfl rfl Tryd.runUnderlying131 Tryd.sizeOf5 Tryd.isAgg5 (by rfl) (by exact BitVec.isLt _) (getBl (by rw [boxL_len]; exact BitVec.isLt _))) ?_
      refine dn_p 11 #[true, true, true, true, true, true, true, true, true, true, true, true, false] ⟨some 37, _, _, _, _, _⟩ rfl (fun w => r_indexAddr_arr (j := j) rfl rfl Tryd.runUnderlying129 Tryd.sizeOf5 (by first | rfl | omega) (by omega)) ?_
      refine dn_o 12 #[true, true, true, true, true, true, true, true, true, true, true, true, true] ⟨none, _, _, _, _, _⟩ fun Ko hKo => ?_
      refine op_store_b h rfl rfl (by omega) Tryd.sizeOf5 fun w h => ?_
      have h := h.nm
      refine hKo _ _ _ (fun hT => absurd hT (by decide)) ?_; clear hKo Ko
      refine dn_done (by kernel_rfl) ?_
      refine hK18 _ _ ?_
      clear hK18 K18
      refine cw_region ?_
      refine wl_p (r_add_n  (n := 1) rfl rfl om_of) ?_
      refine wl_p (r_move rfl) ?_
      refine wl_nil ?_
      refine hK15 _ _ (16 - (j + 1)) pfn_of ⟨j + 1, by omega, rfl, h, rfl⟩ (by omega)
    · have hlt2 := of_decide_eq_false hc; clear hc
      have hj16 : j = 16 := by omega
      have hsub : iter (subStep s) j (zeros 16) = subShift s := by rw [hj16, subShift_def]
      rw [hsub] at h
      clear hsub hj16 hlt2 hlj hj
      obtain ⟨u, hu⟩ : ∃ u, u = subShift s := ⟨_, rfl⟩
      rw [← hu] at h
      have hul : u.length = 16 := by rw [hu, subShift_len]
      refine wp_exit ?_
      refine hK13 _ _ ?_
      clear hK17 hK15 hK13 K17 K15 K13
      refine cw_seq fun K21 hK21 => ?_
      refine cw_seq fun K22 hK22 => ?_
      refine cw_region ?_
      refine wl_p (r_move rfl) ?_
      refine wl_p (r_lss  (n := 14) rfl rfl) ?_
      refine wl_nil ?_
      refine hK22 _ _ ?_
      clear hK22 K22
      refine wp_cond_split rfl (fun hc => ?_) (fun hc => ?_)
      · have hm := of_decide_eq_true hc; clear hc
        have hm : i + 1 < 14 := by omega
        refine cw_region ?_
        refine wl_p (r_load_allb h rfl len_of Tryd.isAgg129 Tryd.sizeOf129) ?_
        refine wl_o fun Ko hKo => ?_
        refine op_call [_] Tryd.call81 rfl (mixed_ok h _ hul) ?_
        clear h; rintro _ w ⟨rfl, h⟩
        refine hKo _ _ _ ?_; clear hKo Ko
        refine wl_o fun Ko hKo => ?_
        refine op_store_ball h rfl rfl len_of len_of Tryd.sizeOf129 fun w h => ?_
        have h := h.nm
        refine hKo _ _ _ ?_; clear hKo Ko
        refine wl_nil ?_
        refine hK21 _ _ ?_
        clear hK21 K21
        refine cw_drawnH h (h) (fun i => i == 8) (by kernel_rfl) 9 rfl #[false, false, false, false, false, false, false, false, false] rfl ?_
        clear h; rintro w h hS
        refine dn_l 0 #[true, false, false, false, false, false, false, false, false] ⟨some 43, _, _, _, _, _⟩ rfl (by first | exact h | exact h.tail | exact h.tail.tail | exact hS) (fun w hS => r_load_allb hS rfl len_of Tryd.isAgg129 Tryd.sizeOf129) ?_
        refine dn_p 1 #[true, true, false, false, false, false, false, false, false] ⟨some 44, _, _, _, _, _⟩ rfl (fun w => r_move rfl) ?_
        refine dn_p 2 #[true, true, true, false, false, false, false, false, false] ⟨some 45, _, _, _, _, _⟩ rfl (fun w => r_move rfl) ?_
        refine dn_p 3 #[true, true, true, true, false, false, false, false, false] ⟨some 46, _, _, _, _, _⟩ rfl (fun w => r_nilCheck rfl) ?_
        refine dn_p 4 #[true, true, true, true, true, false, false, false, false] ⟨some 47, _, _, _, _, _⟩ rfl (fun w => r_fieldAddr (off := 0) rfl Tryd.runUnderlying117 rfl Tryd.sizeOf114 rfl rfl) ?_
        refine dn_p 5 #[true, true, true, true, true, true, false, false, false] ⟨some 48, _, _, _, _, _⟩ rfl (fun w => r_indexAddr_arr (j := i + 1) rfl rfl Tryd.runUnderlying114 Tryd.sizeOf113 (by first | rfl | omega) om_of) ?_
        refine dn_l 6 #[true, true, true, true, true, true, true, false, false] ⟨some 49, _, _, _, _, _⟩ rfl (by first | exact h | exact h.tail | exact h.tail.tail | exact hS) (fun w hS => r_load_segb hS rfl (by omega) Tryd.isAgg113 Tryd.sizeOf113) ?_
        refine dn_o 7 #[true, true, true, true, true, true, true, true, false] ⟨some 50, _, _, _, _, _⟩ fun Ko hKo => ?_
        refine op_call [_, _] Tryd.call79 rfl (bxor_ok h _ (rkey keys (i + 1)) (by first | assumption | (rw [mixed_len]; assumption)) (rkey_len _ (i + 1) hk (by omega))) ?_
        clear h; rintro _ w ⟨rfl, h⟩
        refine hKo _ _ _ (fun _ => (by first | exact h | exact h.tail | exact h.tail.tail | exact hS)) ?_; clear hKo Ko
        refine dn_o 8 #[true, true, true, true, true, true, true, true, true] ⟨none, _, _, _, _, _⟩ fun Ko hKo => ?_
        refine op_store_ball h rfl rfl len_of len_of Tryd.sizeOf129 fun w h => ?_
        have h := h.nm
        refine hKo _ _ _ (fun hT => absurd hT (by decide)) ?_; clear hKo Ko
        refine dn_done (by kernel_rfl) ?_
        refine hK11 _ _ ?_
        clear hK11 K11
        refine cw_region ?_
        refine wl_p (r_move rfl) ?_
        refine wl_p (r_add_n  (n := 1) rfl rfl om_of) ?_
        refine wl_p (r_assign rfl) ?_
        refine wl_nil ?_
        refine hK8 _ _ (14 - (i + 1)) pfn_of ⟨i + 1, by omega, rfl, ?hh_23, rfl⟩ (by omega)
        case hh_23 => rw [iter_succ, ← hs, encRound, ← hu]; first | (rw [if_pos hm]; exact h.tail) | (rw [if_neg hm]; exact h.tail)
      · have hm := of_decide_eq_false hc; clear hc
        have hm : ¬ i + 1 < 14 := by omega
        refine wp_skip ?_
        refine hK21 _ _ ?_
        clear hK21 K21
        refine cw_drawnH h (h) (fun i => i == 8) (by kernel_rfl) 9 rfl #[false, false, false, false, false, false, false, false, false] rfl ?_
        clear h; rintro w h hS
        refine dn_l 0 #[true, false, false, false, false, false, false, false, false] ⟨some 43, _, _, _, _, _⟩ rfl (by first | exact h | exact h.tail | exact h.tail.tail | exact hS) (fun w hS => r_load_allb hS rfl len_of Tryd.isAgg129 Tryd.sizeOf129) ?_
        refine dn_p 1 #[true, true, false, false, false, false, false, false, false] ⟨some 44, _, _, _, _, _⟩ rfl (fun w => r_move rfl) ?_
        refine dn_p 2 #[true, true, true, false, false, false, false, false, false] ⟨some 45, _, _, _, _, _⟩ rfl (fun w => r_move rfl) ?_
        refine dn_p 3 #[true, true, true, true, false, false, false, false, false] ⟨some 46, _, _, _, _, _⟩ rfl (fun w => r_nilCheck rfl) ?_
        refine dn_p 4 #[true, true, true, true, true, false, false, false, false] ⟨some 47, _, _, _, _, _⟩ rfl (fun w => r_fieldAddr (off := 0) rfl Tryd.runUnderlying117 rfl Tryd.sizeOf114 rfl rfl) ?_
        refine dn_p 5 #[true, true, true, true, true, true, false, false, false] ⟨some 48, _, _, _, _, _⟩ rfl (fun w => r_indexAddr_arr (j := i + 1) rfl rfl Tryd.runUnderlying114 Tryd.sizeOf113 (by first | rfl | omega) om_of) ?_
        refine dn_l 6 #[true, true, true, true, true, true, true, false, false] ⟨some 49, _, _, _, _, _⟩ rfl (by first | exact h | exact h.tail | exact h.tail.tail | exact hS) (fun w hS => r_load_segb hS rfl (by omega) Tryd.isAgg113 Tryd.sizeOf113) ?_
        refine dn_o 7 #[true, true, true, true, true, true, true, true, false] ⟨some 50, _, _, _, _, _⟩ fun Ko hKo => ?_
        refine op_call [_, _] Tryd.call79 rfl (bxor_ok h _ (rkey keys (i + 1)) (by first | assumption | (rw [mixed_len]; assumption)) (rkey_len _ (i + 1) hk (by omega))) ?_
        clear h; rintro _ w ⟨rfl, h⟩
        refine hKo _ _ _ (fun _ => (by first | exact h | exact h.tail | exact h.tail.tail | exact hS)) ?_; clear hKo Ko
        refine dn_o 8 #[true, true, true, true, true, true, true, true, true] ⟨none, _, _, _, _, _⟩ fun Ko hKo => ?_
        refine op_store_ball h rfl rfl len_of len_of Tryd.sizeOf129 fun w h => ?_
        have h := h.nm
        refine hKo _ _ _ (fun hT => absurd hT (by decide)) ?_; clear hKo Ko
        refine dn_done (by kernel_rfl) ?_
        refine hK11 _ _ ?_
        clear hK11 K11
        refine cw_region ?_
        refine wl_p (r_move rfl) ?_
        refine wl_p (r_add_n  (n := 1) rfl rfl om_of) ?_
        refine wl_p (r_assign rfl) ?_
        refine wl_nil ?_
        refine hK8 _ _ (14 - (i + 1)) pfn_of ⟨i + 1, by omega, rfl, ?hh_24, rfl⟩ (by omega)
        case hh_24 => rw [iter_succ, ← hs, encRound, ← hu]; first | (rw [if_pos hm]; exact h.tail) | (rw [if_neg hm]; exact h.tail)
  · have hlt := of_decide_eq_false hc; clear hc
    have hi14 : i = 14 := by omega
    refine wp_exit ?_
    refine hK6 _ _ ?_
    clear hK9 hK8 hK6 K9 K8 K6
    refine cw_seq fun K25 hK25 => ?_
    refine cw_region ?_
    refine wl_p (r_load_allb h rfl len_of Tryd.isAgg129 Tryd.sizeOf129) ?_
    refine wl_o fun Ko hKo => ?_
    refine op_store_ball h rfl rfl len_of len_of Tryd.sizeOf113 fun w h => ?_
    have h := h.nm
    refine hKo _ _ _ ?_; clear hKo Ko
    refine wl_nil ?_
    refine hK25 _ _ ?_
    clear hK25 K25
    refine wp_ret ?_
    refine (hQ _ _ _ (res_cell h rfl rfl len_of Tryd.isAgg113 Tryd.sizeOf113) ?_).1
    have hF := h.tail.tail.tail; subst hi14; exact ⟨by rw [hs, encrypt_def], hF⟩

set_option maxHeartbeats 1000000 in
set_option maxRecDepth 100000 in
theorem decrypt_ok {E : Env} {w : World} {F : List (Nat × Obj)} (h : Has E w F) {c : Nat} {keys : Bytes} [mk : Mem F c (bs 117 keys)] (hk : keys.length = 240) (x : Bytes) (hx : x.length = 16) : Ret Tryd.prog 53 [ptr c 0, aggB x] w fun v w' => v = aggB (decrypt keys x) ∧ Has E w' F := by
  refine ret_of_wp (l := [ptr c 0, aggB x, undef, undef, undef, undef, undef, undef, undef, undef, undef, undef, undef, undef, undef, undef, undef, undef, undef, undef, undef, undef, undef, undef, undef, undef, undef, undef, undef, undef, undef, undef, undef, undef, undef, undef, undef, undef, undef, undef, undef, undef, undef, undef, undef, undef, undef, undef, undef, undef, undef, undef, undef]) Tryd.func53 rfl (by simp only [Tryd.ntmps53, List.size_toArray, List.length_cons, List.length_nil, Nat.reduceAdd, Nat.reduceSub, Array.replicate_succ, Array.replicate_zero, List.push_toArray, List.append_toArray, List.nil_append, List.cons_append]) fun Q hQ => ?_
  refine cw_seq fun K1 hK1 => ?_
  refine cw_region ?_
  refine wl_o fun Ko hKo => ?_
  refine op_box h rfl rfl fun b3 w h => ?_
  refine hKo _ _ _ ?_; clear hKo Ko
  refine wl_o fun Ko hKo => ?_
  refine op_allocB 16 h Tryd.zeroValue113 rfl fun b4 w h => ?_
  refine hKo _ _ _ ?_; clear hKo Ko
  refine wl_nil ?_
  refine hK1 _ _ ?_
  clear hK1 K1
  refine cw_seq fun K2 hK2 => ?_
  refine cw_seq fun K3 hK3 => ?_
  refine cw_region ?_
  refine wl_p (r_move rfl) ?_
  refine wl_p (r_eql_nilptr rfl rfl Tryd.runUnderlying83) ?_
  refine wl_nil ?_
  refine hK3 _ _ ?_
  clear hK3 K3
  refine wp_cond_false rfl ?_
  refine wp_skip ?_
  refine hK2 _ _ ?_
  clear hK2 K2
  refine cw_seq fun K4 hK4 => ?_
  refine cw_region ?_
  refine wl_p (r_load_allb h rfl len_of Tryd.isAgg113 Tryd.sizeOf113) ?_
  refine wl_o fun Ko hKo => ?_
  refine op_allocB 16 h Tryd.zeroValue129 rfl fun b5 w h => ?_
  refine hKo _ _ _ ?_; clear hKo Ko
  refine wl_o fun Ko hKo => ?_
  refine op_store_ball h rfl rfl len_of len_of Tryd.sizeOf129 fun w h => ?_
  have h := h.nm
  refine hKo _ _ _ ?_; clear hKo Ko
  refine wl_nil ?_
  refine hK4 _ _ ?_
  clear hK4 K4
  refine cw_seq fun K5 hK5 => ?_
  refine cw_seq fun K6 hK6 => ?_
  refine cw_region ?_
  refine wl_p (r_assign rfl) ?_
  refine wl_nil ?_
  refine hK6 _ _ ?_
  clear hK6 K6
  refine wp_block ?_
  refine cw_loopf [6, 7, 8, 13, 14, 15, 16, 17, 18, 19, 20, 21, 22, 23, 24, 25, 26, 27, 28, 29, 30, 31, 32, 33, 34, 35, 36, 37, 38, 39, 40, 41, 42, 43, 44, 45] (fun f w n => ∃ i : Nat, i ≤ 14 ∧ f 6 = i64 ((14 - i : Nat) : Int) ∧ Has E w ((b5, bs 129 (iter (decRound keys) i x)) :: (b4, bs 113 (List.replicate 16 0)) :: (b3, bs 113 x) :: F) ∧ n = 14 - i) (14) ⟨0, by omega, rfl, h, rfl⟩ ?_
  clear h; rintro f w n ⟨i, hi, e6, h, rfl⟩ K7 hK7
  simp only [putFn, List.foldl_cons, List.foldl_nil, List.set_cons_zero, List.set_cons_succ, e6]
  clear e6
  obtain ⟨s, hs⟩ : ∃ s, s = iter (decRound keys) i x := ⟨_, rfl⟩
  rw [← hs] at h
  have hl : s.length = 16 := by rw [hs]; exact decN_len keys x hx i
  refine cw_seq fun K8 hK8 => ?_
  refine cw_seq fun K9 hK9 => ?_
  refine cw_region ?_
  refine wl_p (r_move rfl) ?_
  refine wl_p (r_geq  (n := 1) rfl rfl) ?_
  refine wl_nil ?_
  refine hK9 _ _ ?_
  clear hK9 K9
  refine wp_cond_split rfl (fun hc => ?_) (fun hc => ?_)
  · have hlt := of_decide_eq_true hc; clear hc
    refine wp_skip ?_
    refine hK8 _ _ ?_
    clear hK8 K8
    refine cw_seq fun K10 hK10 => ?_
    refine wp_block ?_
    refine cw_seq fun K11 hK11 => ?_
    refine cw_drawnH h (h) (fun i => i == 8) (by kernel_rfl) 9 rfl #[false, false, false, false, false, false, false, false, false] rfl ?_
    clear h; rintro w h hS
    refine dn_l 0 #[true, false, false, false, false, false, false, false, false] ⟨some 17, _, _, _, _, _⟩ rfl (by first | exact h | exact h.tail | exact h.tail.tail | exact hS) (fun w hS => r_load_allb hS rfl len_of Tryd.isAgg129 Tryd.sizeOf129) ?_
    refine dn_p 1 #[true, true, false, false, false, false, false, false, false] ⟨some 18, _, _, _, _, _⟩ rfl (fun w => r_move rfl) ?_
    refine dn_p 2 #[true, true, true, false, false, false, false, false, false] ⟨some 19, _, _, _, _, _⟩ rfl (fun w => r_move rfl) ?_
    refine dn_p 3 #[true, true, true, true, false, false, false, false, false] ⟨some 20, _, _, _, _, _⟩ rfl (fun w => r_nilCheck rfl) ?_
    refine dn_p 4 #[true, true, true, true, true, false, false, false, false] ⟨some 21, _, _, _, _, _⟩ rfl (fun w => r_fieldAddr (off := 0) rfl Tryd.runUnderlying117 rfl Tryd.sizeOf114 rfl rfl) ?_
    refine dn_p 5 #[true, true, true, true, true, true, false, false, false] ⟨some 22, _, _, _, _, _⟩ rfl (fun w => r_indexAddr_arr (j := 14 - i) rfl rfl Tryd.runUnderlying114 Tryd.sizeOf113 (by first | rfl | omega) (by omega)) ?_
    refine dn_l 6 #[true, true, true, true, true, true, true, false, false] ⟨some 23, _, _, _, _, _⟩ rfl (by first | exact h | exact h.tail | exact h.tail.tail | exact hS) (fun w hS => r_load_segb hS rfl (by omega) Tryd.isAgg113 Tryd.sizeOf113) ?_
    refine dn_o 7 #[true, true, true, true, true, true, true, true, false] ⟨some 24, _, _, _, _, _⟩ fun Ko hKo => ?_
    refine op_call [_, _] Tryd.call79 rfl (bxor_ok h s (rkey keys (14 - i)) hl (rkey_len _ (14 - i) hk (by omega))) ?_
    clear h; rintro _ w ⟨rfl, h⟩
    refine hKo _ _ _ (fun _ => (by first | exact h | exact h.tail | exact h.tail.tail | exact hS)) ?_; clear hKo Ko
    refine dn_o 8 #[true, true, true, true, true, true, true, true, true] ⟨none, _, _, _, _, _⟩ fun Ko hKo => ?_
    refine op_store_ball h rfl rfl len_of len_of Tryd.sizeOf129 fun w h => ?_
    have h := h.nm
    refine hKo _ _ _ (fun hT => absurd hT (by decide)) ?_; clear hKo Ko
    refine dn_done (by kernel_rfl) ?_
    refine hK11 _ _ ?_
    clear hK11 K11
    refine cw_seq fun K12 hK12 => ?_
    refine cw_seq fun K13 hK13 => ?_
    refine cw_region ?_
    refine wl_p (r_move rfl) ?_
    refine wl_p (r_lss  (n := 14) rfl rfl) ?_
    refine wl_nil ?_
    refine hK13 _ _ ?_
    clear hK13 K13
    refine wp_cond_split rfl (fun hc => ?_) (fun hc => ?_)
    · have hm := of_decide_eq_true hc; clear hc
      have hm : 14 - i < 14 := by omega
      refine cw_region ?_
      refine wl_p (r_load_allb h rfl len_of Tryd.isAgg129 Tryd.sizeOf129) ?_
      refine wl_o fun Ko hKo => ?_
      refine op_call [_] Tryd.call82 rfl (unmixed_ok h _ (by rw [xor16_len]; exact hl)) ?_
      clear h; rintro _ w ⟨rfl, h⟩
      refine hKo _ _ _ ?_; clear hKo Ko
      refine wl_o fun Ko hKo => ?_
      refine op_store_ball h rfl rfl len_of len_of Tryd.sizeOf129 fun w h => ?_
      have h := h.nm
      refine hKo _ _ _ ?_; clear hKo Ko
      refine wl_nil ?_
      refine hK12 _ _ ?_
      clear hK12 K12
      refine cw_seq fun K14 hK14 => ?_
      obtain ⟨u, hu⟩ : ∃ u, u = decMid keys (14 - i) s := ⟨_, rfl⟩
      have hul : u.length = 16 := by rw [hu, decMid_len, hl]
      first | rw [decMid_t keys s hm, ← hu] at h | rw [decMid_f keys s hm, ← hu] at h
      refine cw_region ?_
      refine wl_o fun Ko hKo => ?_
      refine op_allocB 16 h Tryd.zeroValue129 rfl fun b7 w h => ?_
      refine hKo _ _ _ ?_; clear hKo Ko
      refine wl_nil ?_
      refine hK14 _ _ ?_
      clear hK14 K14
      refine cw_seq fun K15 hK15 => ?_
      refine cw_seq fun K16 hK16 => ?_
      refine cw_region ?_
      refine wl_p (r_move rfl) ?_
      refine wl_nil ?_
      refine hK16 _ _ ?_
      clear hK16 K16
      refine wp_block ?_
      refine cw_loopf [8, 29, 30, 31, 32, 33, 34, 35, 36, 37, 38, 39, 40, 41, 42, 43, 44] (fun f w n => ∃ j : Nat, j ≤ 16 ∧ f 29 = i64 j ∧ Has E w ((b7, bs 129 (iter (unsubStep u) j (zeros 16))) :: (b5, bs 129 u) :: (b4, bs 113 (List.replicate 16 0)) :: (b3, bs 113 x) :: F) ∧ n = 16 - j) (16) ⟨0, by omega, rfl, h, rfl⟩ ?_
      clear h; rintro f w n ⟨j, hj, e29, h, rfl⟩ K17 hK17
      simp only [putFn, List.foldl_cons, List.foldl_nil, List.set_cons_zero, List.set_cons_succ, e29]
      clear e29
      have hlj : (iter (unsubStep u) j (zeros 16)).length = 16 := by rw [unsubN_len, zeros_len]
      refine cw_seq fun K18 hK18 => ?_
      refine cw_region ?_
      refine wl_p (r_lss  (n := 16) rfl rfl) ?_
      refine wl_nil ?_
      refine hK18 _ _ ?_
      clear hK18 K18
      refine cw_seq fun K19 hK19 => ?_
      refine wp_cond_split rfl (fun hc => ?_) (fun hc => ?_)
      · have hlt2 := of_decide_eq_true hc; clear hc
        refine wp_skip ?_
        refine hK19 _ _ ?_
        clear hK19 K19
        refine cw_seq fun K20 hK20 => ?_
        refine wp_block ?_
        refine cw_seq fun K21 hK21 => ?_
        refine cw_region ?_
        refine wl_p (r_move rfl) ?_
        refine wl_p (r_assign rfl) ?_
        refine wl_nil ?_
        refine hK21 _ _ ?_
        clear hK21 K21
        refine cw_drawnH h (h) (fun i => i == 12) (by kernel_rfl) 13 rfl #[false, false, false, false, false, false, false, false, false, false, false, false, false] rfl ?_
        clear h; rintro w h hS
        refine dn_p 0 #[true, false, false, false, false, false, false, false, false, false, false, false, false] ⟨some 32, _, _, _, _, _⟩ rfl (fun w => r_move rfl) ?_
        refine dn_p 1 #[true, true, false, false, false, false, false, false, false, false, false, false, false] ⟨some 33, _, _, _, _, _⟩ rfl (fun w => r_move rfl) ?_
        refine dn_p 2 #[true, true, true, false, false, false, false, false, false, false, false, false, false] ⟨some 34, _, _, _, _, _⟩ rfl (fun w => r_rem_n (m := j)  (n := 4)  rfl rfl om_of) ?_
        refine dn_p 3 #[true, true, true, true, false, false, false, false, false, false, false, false, false] ⟨some 35, _, _, _, _, _⟩ rfl (fun w => r_mul_n (m := 4)  (n := j % 4)  rfl rfl om_of) ?_
        refine dn_p 4 #[true, true, true, true, true, false, false, false, false, false, false, false, false] ⟨some 36, _, _, _, _, _⟩ rfl (fun w => r_add_n (m := j)  (n := 4 * (j % 4))  rfl rfl om_of) ?_
        refine dn_p 5 #[true, true, true, true, true, true, false, false, false, false, false, false, false] ⟨some 37, _, _, _, _, _⟩ rfl (fun w => r_rem_n (m := j + 4 * (j % 4))  (n := 16)  rfl rfl om_of) ?_
        refine dn_p 7 #[true, true, true, true, true, true, false, true, false, false, false, false, false] ⟨some 39, _, _, _, _, _⟩ rfl (fun w => r_move rfl) ?_
        refine dn_p 8 #[true, true, true, true, true, true, false, true, true, false, false, false, false] ⟨some 40, _, _, _, _, _⟩ rfl (fun w => r_indexAddr_arr (j := j) rfl rfl Tryd.runUnderlying129 Tryd.sizeOf5 (by first | rfl | omega) (by omega)) ?_
        refine dn_l 9 #[true, true, true, true, true, true, false, true, true, true, false, false, false] ⟨some 41, _, _, _, _, _⟩ rfl (by first | exact h | exact h.tail | exact h.tail.tail | exact hS) (fun w hS => r_load_b hS rfl (by omega) Tryd.isAgg5) ?_
        refine dn_o 6 #[true, true, true, true, true, true, true, true, true, true, false, false, false] ⟨some 38, _, _, _, _, _⟩ fun Ko hKo => ?_
        refine op_call [] Tryd.call83 rfl (unbox_ok h) ?_
        clear h; rintro _ w ⟨rfl, h⟩
        refine hKo _ _ _ (fun _ => (by first | exact h | exact h.tail | exact h.tail.tail | exact hS)) ?_; clear hKo Ko
        refine dn_p 10 #[true, true, true, true, true, true, true, true, true, true, true, false, false] ⟨some 42, _, _, _, _, _⟩ rfl (fun w => r_index (j := (u.getD j 0).toNat) rfl rfl Tryd.runUnderlying131 Tryd.sizeOf5 Tryd.isAgg5 (by rfl) (by exact BitVec.isLt _) (getBl (by rw [unboxL_len]; exact BitVec.isLt _))) ?_
        refine dn_p 11 #[true, true, true, true, true, true, true, true, true, true, true, true, false] ⟨some 43, _, _, _, _, _⟩ rfl (fun w => r_indexAddr_arr (j := (j + 4 * (j % 4)) % 16) rfl rfl Tryd.runUnderlying129 Tryd.sizeOf5 (by first | rfl | omega) (by omega)) ?_
        refine dn_o 12 #[true, true, true, true, true, true, true, true, true, true, true, true, true] ⟨none, _, _, _, _, _⟩ fun Ko hKo => ?_
        refine op_store_b h rfl rfl (by omega) Tryd.sizeOf5 fun w h => ?_
        have h := h.nm
        refine hKo _ _ _ (fun hT => absurd hT (by decide)) ?_; clear hKo Ko
        refine dn_done (by kernel_rfl) ?_
        refine hK20 _ _ ?_
        clear hK20 K20
        refine cw_region ?_
        refine wl_p (r_add_n  (n := 1) rfl rfl om_of) ?_
        refine wl_p (r_move rfl) ?_
        refine wl_nil ?_
        refine hK17 _ _ (16 - (j + 1)) pfn_of ⟨j + 1, by omega, rfl, h, rfl⟩ (by omega)
      · have hlt2 := of_decide_eq_false hc; clear hc
        have hj16 : j = 16 := by omega
        have hsub : iter (unsubStep u) j (zeros 16) = unsubShift u := by rw [hj16, unsubShift_def]
        rw [hsub] at h
        refine wp_exit ?_
        refine hK15 _ _ ?_
        clear hK19 hK17 hK15 K19 K17 K15
        refine cw_region ?_
        refine wl_p (r_load_allb h rfl len_of Tryd.isAgg129 Tryd.sizeOf129) ?_
        refine wl_o fun Ko hKo => ?_
        refine op_store_ball h rfl rfl len_of len_of Tryd.sizeOf129 fun w h => ?_
        have h := h.nm
        refine hKo _ _ _ ?_; clear hKo Ko
        refine wl_nil ?_
        refine hK10 _ _ ?_
        clear hK10 K10
        refine cw_region ?_
        refine wl_p (r_move rfl) ?_
        refine wl_p (r_sub_n (m := 14 - i)  (n := 1)  rfl rfl om_of om_of) ?_
        refine wl_p (r_assign rfl) ?_
        refine wl_nil ?_
        refine hK7 _ _ (14 - (i + 1)) pfn_of ⟨i + 1, by omega, ?e6_23, ?hh_23, rfl⟩ (by omega)
        case e6_23 => simp only [List.getD_cons_zero, List.getD_cons_succ, Nat.sub_sub]
        case hh_23 => rw [iter_succ, ← hs, ← decRound_def, ← hu]; exact h.tail
    · have hm := of_decide_eq_false hc; clear hc
      have hm : ¬ 14 - i < 14 := by omega
      refine wp_skip ?_
      refine hK12 _ _ ?_
      clear hK12 K12
      refine cw_seq fun K24 hK24 => ?_
      obtain ⟨u, hu⟩ : ∃ u, u = decMid keys (14 - i) s := ⟨_, rfl⟩
      have hul : u.length = 16 := by rw [hu, decMid_len, hl]
      first | rw [decMid_t keys s hm, ← hu] at h | rw [decMid_f keys s hm, ← hu] at h
      refine cw_region ?_
      refine wl_o fun Ko hKo => ?_
      refine op_allocB 16 h Tryd.zeroValue129 rfl fun b7 w h => ?_
      refine hKo _ _ _ ?_; clear hKo Ko
      refine wl_nil ?_
      refine hK24 _ _ ?_
      clear hK24 K24
      refine cw_seq fun K25 hK25 => ?_
      refine cw_seq fun K26 hK26 => ?_
      refine cw_region ?_
      refine wl_p (r_move rfl) ?_
      refine wl_nil ?_
      refine hK26 _ _ ?_
      clear hK26 K26
      refine wp_block ?_
      refine cw_loopf [8, 29, 30, 31, 32, 33, 34, 35, 36, 37, 38, 39, 40, 41, 42, 43, 44] (fun f w n => ∃ j : Nat, j ≤ 16 ∧ f 29 = i64 j ∧ Has E w ((b7, bs 129 (iter (unsubStep u) j (zeros 16))) :: (b5, bs 129 u) :: (b4, bs 113 (List.replicate 16 0)) :: (b3, bs 113 x) :: F) ∧ n = 16 - j) (16) ⟨0, by omega, rfl, h, rfl⟩ ?_
      clear h; rintro f w n ⟨j, hj, e29, h, rfl⟩ K27 hK27
      simp only [putFn, List.foldl_cons, List.foldl_nil, List.set_cons_zero, List.set_cons_succ, e29]
      clear e29
      have hlj : (iter (unsubStep u) j (zeros 16)).length = 16 := by rw [unsubN_len, zeros_len]
      refine cw_seq fun K28 hK28 => ?_
      refine cw_region ?_
      refine wl_p (r_lss  (n := 16) rfl rfl) ?_
      refine wl_nil ?_
      refine hK28 _ _ ?_
      clear hK28 K28
      refine cw_seq fun K29 hK29 => ?_
      refine wp_cond_split rfl (fun hc => ?_) (fun hc => ?_)
      · have hlt2 := of_decide_eq_true hc; clear hc
        refine wp_skip ?_
        refine hK29 _ _ ?_
        clear hK29 K29
        refine cw_seq fun K30 hK30 => ?_
        refine wp_block ?_
        refine cw_seq fun K31 hK31 => ?_
        refine cw_region ?_
        refine wl_p (r_move rfl) ?_
        refine wl_p (r_assign rfl) ?_
        refine wl_nil ?_
        refine hK31 _ _ ?_
        clear hK31 K31
        refine cw_drawnH h (h) (fun i => i == 12) (by kernel_rfl) 13 rfl #[false, false, false, false, false, false, false, false, false, false, false, false, false] rfl ?_
        clear h; rintro w h hS
        refine dn_p 0 #[true, false, false, false, false, false, false, false, false, false, false, false, false] ⟨some 32, _, _, _, _, _⟩ rfl (fun w => r_move rfl) ?_
        refine dn_p 1 #[true, true, false, false, false, false, false, false, false, false, false, false, false] ⟨some 33, _, _, _, _, _⟩ rfl (fun w => r_move rfl) ?_
        refine dn_p 2 #[true, true, true, false, false, false, false, false, false, false, false, false, false] ⟨some 34, _, _, _, _, _⟩ rfl (fun w => r_rem_n (m := j)  (n := 4)  rfl rfl om_of) ?_
        refine dn_p 3 #[true, true, true, true, false, false, false, false, false, false, false, false, false] ⟨some 35, _, _, _, _, _⟩ rfl (fun w => r_mul_n (m := 4)  (n := j % 4)  rfl rfl om_of) ?_
        refine dn_p 4 #[true, true, true, true, true, false, false, false, false, false, false, false, false] ⟨some 36, _, _, _, _, _⟩ rfl (fun w => r_add_n (m := j)  (n := 4 * (j % 4))  rfl rfl om_of) ?_
        refine dn_p 5 #[true, true, true, true, true, true, false, false, false, false, false, false, false] ⟨some 37, _, _, _, _, _⟩ rfl (fun w => r_rem_n (m := j + 4 * (j % 4))  (n := 16)  rfl rfl om_of) ?_
        refine dn_p 7 #[true, true, true, true, true, true, false, true, false, false, false, false, false] ⟨some 39, _, _, _, _, _⟩ rfl (fun w => r_move rfl) ?_
        refine dn_p 8 #[true, true, true, true, true, true, false, true, true, false, false, false, false] ⟨some 40, _, _, _, _, _⟩ rfl (fun w => r_indexAddr_arr (j := j) rfl rfl Tryd.runUnderlying129 Tryd.sizeOf5 (by first | rfl | omega) (by omega)) ?_
        refine dn_l 9 #[true, true, true, true, true, true, false, true, true, true, false, false, false] ⟨some 41, _, _, _, _, _⟩ rfl (by first | exact h | exact h.tail | exact h.tail.tail | exact hS) (fun w hS => r_load_b hS rfl (by omega) Tryd.isAgg5) ?_
        refine dn_o 6 #[true, true, true, true, true, true, true, true, true, true, false, false, false] ⟨some 38, _, _, _, _, _⟩ fun Ko hKo => ?_
        refine op_call [] Tryd.call83 rfl (unbox_ok h) ?_
        clear h; rintro _ w ⟨rfl, h⟩
        refine hKo _ _ _ (fun _ => (by first | exact h | exact h.tail | exact h.tail.tail | exact hS)) ?_; clear hKo Ko
        refine dn_p 10 #[true, true, true, true, true, true, true, true, true, true, true, false, false] ⟨some 42, _, _, _, _, _⟩ rfl (fun w => r_index (j := (u.getD j 0).toNat) rfl rfl Tryd.runUnderlying131 Tryd.sizeOf5 Tryd.isAgg5 (by rfl) (by exact BitVec.isLt _) (getBl (by rw [unboxL_len]; exact BitVec.isLt _))) ?_
        refine dn_p 11 #[true, true, true, true, true, true, true, true, true, true, true, true, false] ⟨some 43, _, _, _, _, _⟩ rfl (fun w => r_indexAddr_arr (j := (j + 4 * (j % 4)) % 16) rfl rfl Tryd.runUnderlying129 Tryd.sizeOf5 (by first | rfl | omega) (by omega)) ?_
        refine dn_o 12 #[true, true, true, true, true, true, true, true, true, true, true, true, true] ⟨none, _, _, _, _, _⟩ fun Ko hKo => ?_
        refine op_store_b h rfl rfl (by omega) Tryd.sizeOf5 fun w h => ?_
        have h := h.nm
        refine hKo _ _ _ (fun hT => absurd hT (by decide)) ?_; clear hKo Ko
        refine dn_done (by kernel_rfl) ?_
        refine hK30 _ _ ?_
        clear hK30 K30
        refine cw_region ?_
        refine wl_p (r_add_n  (n := 1) rfl rfl om_of) ?_
        refine wl_p (r_move rfl) ?_
        refine wl_nil ?_
        refine hK27 _ _ (16 - (j + 1)) pfn_of ⟨j + 1, by omega, rfl, h, rfl⟩ (by omega)
      · have hlt2 := of_decide_eq_false hc; clear hc
        have hj16 : j = 16 := by omega
        have hsub : iter (unsubStep u) j (zeros 16) = unsubShift u := by rw [hj16, unsubShift_def]
        rw [hsub] at h
        refine wp_exit ?_
        refine hK25 _ _ ?_
        clear hK29 hK27 hK25 K29 K27 K25
        refine cw_region ?_
        refine wl_p (r_load_allb h rfl len_of Tryd.isAgg129 Tryd.sizeOf129) ?_
        refine wl_o fun Ko hKo => ?_
        refine op_store_ball h rfl rfl len_of len_of Tryd.sizeOf129 fun w h => ?_
        have h := h.nm
        refine hKo _ _ _ ?_; clear hKo Ko
        refine wl_nil ?_
        refine hK10 _ _ ?_
        clear hK10 K10
        refine cw_region ?_
        refine wl_p (r_move rfl) ?_
        refine wl_p (r_sub_n (m := 14 - i)  (n := 1)  rfl rfl om_of om_of) ?_
        refine wl_p (r_assign rfl) ?_
        refine wl_nil ?_
        refine hK7 _ _ (14 - (i + 1)) pfn_of ⟨i + 1, by omega, ?e6_33, ?hh_33, rfl⟩ (by omega)
        case e6_33 => simp only [List.getD_cons_zero, List.getD_cons_succ, Nat.sub_sub]
        case hh_33 => rw [iter_succ, ← hs, ← decRound_def, ← hu]; exact h.tail
  · have hlt := of_decide_eq_false hc; clear hc
    have hi14 : i = 14 := by omega
    refine wp_exit ?_
    refine hK5 _ _ ?_
    clear hK8 hK7 hK5 K8 K7 K5
    refine cw_seq fun K34 hK34 => ?_
    refine cw_drawnH h (h) (fun i => i == 7) (by kernel_rfl) 8 rfl #[false, false, false, false, false, false, false, false] rfl ?_
    clear h; rintro w h hS
    refine dn_l 0 #[true, false, false, false, false, false, false, false] ⟨some 46, _, _, _, _, _⟩ rfl (by first | exact h | exact h.tail | exact h.tail.tail | exact hS) (fun w hS => r_load_allb hS rfl len_of Tryd.isAgg129 Tryd.sizeOf129) ?_
    refine dn_p 1 #[true, true, false, false, false, false, false, false] ⟨some 47, _, _, _, _, _⟩ rfl (fun w => r_move rfl) ?_
    refine dn_p 2 #[true, true, true, false, false, false, false, false] ⟨some 48, _, _, _, _, _⟩ rfl (fun w => r_nilCheck rfl) ?_
    refine dn_p 3 #[true, true, true, true, false, false, false, false] ⟨some 49, _, _, _, _, _⟩ rfl (fun w => r_fieldAddr (off := 0) rfl Tryd.runUnderlying117 rfl Tryd.sizeOf114 rfl rfl) ?_
    refine dn_p 4 #[true, true, true, true, true, false, false, false] ⟨some 50, _, _, _, _, _⟩ rfl (fun w => r_indexAddr_arr (j := 0) rfl rfl Tryd.runUnderlying114 Tryd.sizeOf113 (by first | rfl | omega) om_of) ?_
    refine dn_l 5 #[true, true, true, true, true, true, false, false] ⟨some 51, _, _, _, _, _⟩ rfl (by first | exact h | exact h.tail | exact h.tail.tail | exact hS) (fun w hS => r_load_segb hS rfl (by omega) Tryd.isAgg113 Tryd.sizeOf113) ?_
    refine dn_o 6 #[true, true, true, true, true, true, true, false] ⟨some 52, _, _, _, _, _⟩ fun Ko hKo => ?_
    refine op_call [_, _] Tryd.call79 rfl (bxor_ok h s (rkey keys 0) hl (rkey_len _ 0 hk (by omega))) ?_
    clear h; rintro _ w ⟨rfl, h⟩
    refine hKo _ _ _ (fun _ => (by first | exact h | exact h.tail | exact h.tail.tail | exact hS)) ?_; clear hKo Ko
    refine dn_o 7 #[true, true, true, true, true, true, true, true] ⟨none, _, _, _, _, _⟩ fun Ko hKo => ?_
    refine op_store_ball h rfl rfl len_of len_of Tryd.sizeOf113 fun w h => ?_
    have h := h.nm
    refine hKo _ _ _ (fun hT => absurd hT (by decide)) ?_; clear hKo Ko
    refine dn_done (by kernel_rfl) ?_
    refine hK34 _ _ ?_
    clear hK34 K34
    refine wp_ret ?_
    refine (hQ _ _ _ (res_cell h rfl rfl len_of Tryd.isAgg113 Tryd.sizeOf113) ?_).1
    have hF := h.tail.tail.tail; subst hi14; exact ⟨by rw [hs, decrypt_def], hF⟩

set_option maxHeartbeats 4000000 in
set_option maxRecDepth 100000 in
theorem schedule_ok {E : Env} {w : World} {F : List (Nat × Obj)} (h : Has E w F) (key : Bytes) (hk : key.length = 32) : Ret Tryd.prog 66 [aggB key] w fun v w' => v = aggB (schedule key) ∧ Has E w' F := by
  refine ret_of_wp (l := [aggB key, undef, undef, undef, undef, undef, undef, undef, undef, undef, undef, undef, undef, undef, undef, undef, undef, undef, undef, undef, undef, undef, undef, undef, undef, undef, undef, undef, undef, undef, undef, undef, undef, undef, undef, undef, undef, undef, undef, undef, undef, undef, undef, undef, undef, undef, undef, undef, undef, undef, undef, undef, undef, undef, undef, undef, undef, undef, undef, undef, undef, undef, undef, undef, undef, undef, undef, undef, undef, undef, undef, undef, undef, undef, undef, undef, undef, undef, undef, undef, undef, undef, undef, undef, undef, undef, undef, undef, undef, undef, undef, undef, undef, undef, undef, undef, undef, undef, undef, undef, undef]) Tryd.func66 rfl (by simp only [Tryd.ntmps66, List.size_toArray, List.length_cons, List.length_nil, Nat.reduceAdd, Nat.reduceSub, Array.replicate_succ, Array.replicate_zero, List.push_toArray, List.append_toArray, List.nil_append, List.cons_append]) fun Q hQ => ?_
  refine cw_seq fun K1 hK1 => ?_
  refine cw_region ?_
  refine wl_o fun Ko hKo => ?_
  refine op_box h rfl rfl fun b1 w h => ?_
  refine hKo _ _ _ ?_; clear hKo Ko
  refine wl_o fun Ko hKo => ?_
  refine op_allocB 240 h Tryd.zeroValue114 rfl fun b2 w h => ?_
  refine hKo _ _ _ ?_; clear hKo Ko
  refine wl_nil ?_
  refine hK1 _ _ ?_
  clear hK1 K1
  refine cw_seq fun K2 hK2 => ?_
  refine cw_region ?_
  refine wl_o fun Ko hKo => ?_
  refine op_allocB 240 h Tryd.zeroValue144 rfl fun b3 w h => ?_
  refine hKo _ _ _ ?_; clear hKo Ko
  refine wl_nil ?_
  refine hK2 _ _ ?_
  clear hK2 K2
  refine cw_seq fun K3 hK3 => ?_
  refine cw_drawn0 h (by kernel_rfl) 3 rfl #[false, false, false] rfl ?_
  clear h; rintro w h
  refine dn_p 0 #[true, false, false] ⟨some 11, _, _, _, _, _⟩ rfl (fun w => r_slice_arr rfl Tryd.runUnderlying144 Tryd.sizeOf5 (by omega)) ?_
  refine dn_p 1 #[true, true, false] ⟨some 12, _, _, _, _, _⟩ rfl (fun w => r_slice_arr rfl Tryd.runUnderlying23 Tryd.sizeOf5 (by omega)) ?_
  refine dn_o 2 #[true, true, true] ⟨some 13, _, _, _, _, _⟩ fun Ko hKo => ?_
  refine op_copyB (q := 32) h rfl rfl (Sl.all (t := key) (by omega) hk) Tryd.runUnderlying25 Tryd.sizeOf5 (by rw [hk]; rfl) len_of fun w h => ?_
  have h := h.nm
  rw [List.take_of_length_le (l := key) (by omega), show List.drop 32 (List.replicate 240 (0 : BitVec 8)) = zeros 208 from by simp [zeros]] at h
  refine hKo _ _ _ (fun _ => trivial) ?_; clear hKo Ko
  refine dn_done (by kernel_rfl) ?_
  refine hK3 _ _ ?_
  clear hK3 K3
  refine cw_seq fun K4 hK4 => ?_
  refine cw_region ?_
  refine wl_p (r_assign rfl) ?_
  refine wl_nil ?_
  refine hK4 _ _ ?_
  clear hK4 K4
  refine cw_seq fun K5 hK5 => ?_
  refine cw_seq fun K6 hK6 => ?_
  refine cw_region ?_
  refine wl_p (r_assign rfl) ?_
  refine wl_nil ?_
  refine hK6 _ _ ?_
  clear hK6 K6
  refine wp_block ?_
  refine cw_loopf [4, 5, 6, 7, 8, 14, 15, 16, 17, 18, 19, 20, 21, 22, 23, 24, 25, 26, 27, 28, 29, 30, 31, 32, 33, 34, 35, 36, 37, 38, 39, 40, 41, 42, 43, 44, 45, 46, 47, 48, 49, 50, 51, 52, 53, 54, 55, 56, 57, 58, 59, 60, 61, 62, 63, 64, 65, 66, 67, 68, 69, 70, 71, 72, 73, 74, 75, 76, 77, 78, 79, 80, 81, 82, 83, 84, 85] (fun f w n => ∃ k : Nat, k ≤ 52 ∧ f 5 = i64 ((32 + 4 * k : Nat) : Int) ∧ f 4 = B (schedLoop key k).2 ∧ Has E w ((b3, bs 144 (schedLoop key k).1) :: (b2, bs 114 (List.replicate 240 0)) :: (b1, bs 23 key) :: F) ∧ n = 52 - k) (52) ⟨0, by omega, rfl, rfl, by simpa only [schedLoop_zero] using h, rfl⟩ ?_
  clear h; rintro f w n ⟨k, hk52, e5, e4, h, rfl⟩ K7 hK7
  simp only [putFn, List.foldl_cons, List.foldl_nil, List.set_cons_zero, List.set_cons_succ, e5, e4]
  clear e5 e4
  have hl : (schedLoop key k).1.length = 240 := schedLoop_len key hk k
  have hsucc := schedLoop_succ key k
  obtain ⟨fl, hfl⟩ : ∃ fl, fl = (schedLoop key k).1 := ⟨_, rfl⟩
  obtain ⟨rd, hrd⟩ : ∃ rd, rd = (schedLoop key k).2 := ⟨_, rfl⟩
  rw [← hfl, ← hrd] at hsucc
  rw [← hfl] at h hl
  simp only [← hrd]
  refine cw_seq fun K8 hK8 => ?_
  refine cw_seq fun K9 hK9 => ?_
  refine cw_region ?_
  refine wl_p (r_move rfl) ?_
  refine wl_p (r_lss  (n := 240) rfl rfl) ?_
  refine wl_nil ?_
  refine hK9 _ _ ?_
  clear hK9 K9
  refine wp_cond_split rfl (fun hc => ?_) (fun hc => ?_)
  · have hlt := of_decide_eq_true hc; clear hc
    have hk52 : k < 52 := by omega
    refine wp_skip ?_
    refine hK8 _ _ ?_
    clear hK8 K8
    refine cw_seq fun K10 hK10 => ?_
    refine wp_block ?_
    refine cw_seq fun K11 hK11 => ?_
    refine cw_region ?_
    refine wl_p (r_move rfl) ?_
    refine wl_p (r_sub_n (m := 32 + 4 * k)  (n := 4)  rfl rfl om_of om_of) ?_
    refine wl_p (r_move rfl) ?_
    refine wl_p (r_slice_arr_lh (lo := 32 + 4 * k - 4) (hi := 32 + 4 * k) rfl rfl rfl Tryd.runUnderlying144 Tryd.sizeOf5 (by omega) (by omega) (by omega)) ?_
    refine wl_p (r_arrayPtr rfl Tryd.runUnderlying145 (by omega)) ?_
    refine wl_p (r_load_segb h rfl (by omega) Tryd.isAgg145 Tryd.sizeOf145) ?_
    obtain ⟨u, hu⟩ : ∃ u, u = (fl.drop (32 + 4 * k - 4)).take 4 := ⟨_, rfl⟩
    simp only [← hu]
    have hul : u.length = 4 := by rw [hu, List.length_take, List.length_drop]; omega
    refine wl_o fun Ko hKo => ?_
    refine op_allocB 4 h Tryd.zeroValue145 rfl fun b6 w h => ?_
    refine hKo _ _ _ ?_; clear hKo Ko
    refine wl_o fun Ko hKo => ?_
    refine op_store_ball h rfl rfl len_of len_of Tryd.sizeOf145 fun w h => ?_
    have h := h.nm
    refine hKo _ _ _ ?_; clear hKo Ko
    refine wl_nil ?_
    refine hK11 _ _ ?_
    clear hK11 K11
    refine cw_seq fun K12 hK12 => ?_
    refine cw_seq fun K13 hK13 => ?_
    refine cw_region ?_
    refine wl_p (r_move rfl) ?_
    refine wl_p (r_rem_n (m := 32 + 4 * k)  (n := 32)  rfl rfl om_of) ?_
    refine wl_nil ?_
    refine hK13 _ _ ?_
    clear hK13 K13
    refine wp_block ?_
    refine cw_seq fun K14 hK14 => ?_
    refine cw_region ?_
    refine wl_p (r_eql  (n := 0) rfl rfl) ?_
    refine wl_p (r_assign rfl) ?_
    refine wl_nil ?_
    refine hK14 _ _ ?_
    clear hK14 K14
    refine wp_cond_split rfl (fun hc => ?_) (fun hc => ?_)
    · have hz := of_decide_eq_true hc; clear hc
      have hz : (32 + 4 * k) % 32 = 0 := by omega
      refine cw_seq fun K15 hK15 => ?_
      refine cw_drawnH h (h) (fun i => i == 19) (by kernel_rfl) 20 rfl #[false, false, false, false, false, false, false, false, false, false, false, false, false, false, false, false, false, false, false, false] rfl ?_
      clear h; rintro w h hS
      refine dn_p 1 #[false, true, false, false, false, false, false, false, false, false, false, false, false, false, false, false, false, false, false, false] ⟨some 29, _, _, _, _, _⟩ rfl (fun w => r_indexAddr_arr (j := 1) rfl rfl Tryd.runUnderlying145 Tryd.sizeOf5 (by first | rfl | omega) om_of) ?_
      refine dn_l 2 #[false, true, true, false, false, false, false, false, false, false, false, false, false, false, false, false, false, false, false, false] ⟨some 30, _, _, _, _, _⟩ rfl (by first | exact h | exact h.tail | exact h.tail.tail | exact hS) (fun w hS => r_load_b hS rfl (by omega) Tryd.isAgg5) ?_
      refine dn_p 4 #[false, true, true, false, true, false, false, false, false, false, false, false, false, false, false, false, false, false, false, false] ⟨some 32, _, _, _, _, _⟩ rfl (fun w => r_move rfl) ?_
      refine dn_p 7 #[false, true, true, false, true, false, false, true, false, false, false, false, false, false, false, false, false, false, false, false] ⟨some 35, _, _, _, _, _⟩ rfl (fun w => r_indexAddr_arr (j := 2) rfl rfl Tryd.runUnderlying145 Tryd.sizeOf5 (by first | rfl | omega) om_of) ?_
      refine dn_l 8 #[false, true, true, false, true, false, false, true, true, false, false, false, false, false, false, false, false, false, false, false] ⟨some 36, _, _, _, _, _⟩ rfl (by first | exact h | exact h.tail | exact h.tail.tail | exact hS) (fun w hS => r_load_b hS rfl (by omega) Tryd.isAgg5) ?_
      refine dn_p 11 #[false, true, true, false, true, false, false, true, true, false, false, true, false, false, false, false, false, false, false, false] ⟨some 39, _, _, _, _, _⟩ rfl (fun w => r_indexAddr_arr (j := 3) rfl rfl Tryd.runUnderlying145 Tryd.sizeOf5 (by first | rfl | omega) om_of) ?_
      refine dn_l 12 #[false, true, true, false, true, false, false, true, true, false, false, true, true, false, false, false, false, false, false, false] ⟨some 40, _, _, _, _, _⟩ rfl (by first | exact h | exact h.tail | exact h.tail.tail | exact hS) (fun w hS => r_load_b hS rfl (by omega) Tryd.isAgg5) ?_
      refine dn_p 15 #[false, true, true, false, true, false, false, true, true, false, false, true, true, false, false, true, false, false, false, false] ⟨some 43, _, _, _, _, _⟩ rfl (fun w => r_indexAddr_arr (j := 0) rfl rfl Tryd.runUnderlying145 Tryd.sizeOf5 (by first | rfl | omega) om_of) ?_
      refine dn_l 16 #[false, true, true, false, true, false, false, true, true, false, false, true, true, false, false, true, true, false, false, false] ⟨some 44, _, _, _, _, _⟩ rfl (by first | exact h | exact h.tail | exact h.tail.tail | exact hS) (fun w hS => r_load_b hS rfl (by omega) Tryd.isAgg5) ?_
      refine dn_o 0 #[true, true, true, false, true, false, false, true, true, false, false, true, true, false, false, true, true, false, false, false] ⟨some 28, _, _, _, _, _⟩ fun Ko hKo => ?_
      refine op_call [] Tryd.call80 rfl (box_ok h) ?_
      clear h; rintro _ w ⟨rfl, h⟩
      refine hKo _ _ _ (fun _ => (by first | exact h | exact h.tail | exact h.tail.tail | exact hS)) ?_; clear hKo Ko
      refine dn_p 3 #[true, true, true, true, true, false, false, true, true, false, false, true, true, false, false, true, true, false, false, false] ⟨some 31, _, _, _, _, _⟩ rfl (fun w => r_index (j := (u.getD 1 0).toNat) rfl rfl Tryd.runUnderlying131 Tryd.sizeOf5 Tryd.isAgg5 (by rfl) (by exact BitVec.isLt _) (getBl (by rw [boxL_len]; exact BitVec.isLt _))) ?_
      refine dn_p 5 #[true, true, true, true, true, true, false, true, true, false, false, true, true, false, false, true, true, false, false, false] ⟨some 33, _, _, _, _, _⟩ rfl (fun w => r_xor_B   rfl rfl) ?_
      refine dn_o 6 #[true, true, true, true, true, true, true, true, true, false, false, true, true, false, false, true, true, false, false, false] ⟨some 34, _, _, _, _, _⟩ fun Ko hKo => ?_
      refine op_call [] Tryd.call80 rfl (box_ok h) ?_
      clear h; rintro _ w ⟨rfl, h⟩
      refine hKo _ _ _ (fun _ => (by first | exact h | exact h.tail | exact h.tail.tail | exact hS)) ?_; clear hKo Ko
      refine dn_p 9 #[true, true, true, true, true, true, true, true, true, true, false, true, true, false, false, true, true, false, false, false] ⟨some 37, _, _, _, _, _⟩ rfl (fun w => r_index (j := (u.getD 2 0).toNat) rfl rfl Tryd.runUnderlying131 Tryd.sizeOf5 Tryd.isAgg5 (by rfl) (by exact BitVec.isLt _) (getBl (by rw [boxL_len]; exact BitVec.isLt _))) ?_
      refine dn_o 10 #[true, true, true, true, true, true, true, true, true, true, true, true, true, false, false, true, true, false, false, false] ⟨some 38, _, _, _, _, _⟩ fun Ko hKo => ?_
      refine op_call [] Tryd.call80 rfl (box_ok h) ?_
      clear h; rintro _ w ⟨rfl, h⟩
      refine hKo _ _ _ (fun _ => (by first | exact h | exact h.tail | exact h.tail.tail | exact hS)) ?_; clear hKo Ko
      refine dn_p 13 #[true, true, true, true, true, true, true, true, true, true, true, true, true, true, false, true, true, false, false, false] ⟨some 41, _, _, _, _, _⟩ rfl (fun w => r_index (j := (u.getD 3 0).toNat) rfl rfl Tryd.runUnderlying131 Tryd.sizeOf5 Tryd.isAgg5 (by rfl) (by exact BitVec.isLt _) (getBl (by rw [boxL_len]; exact BitVec.isLt _))) ?_
      refine dn_o 14 #[true, true, true, true, true, true, true, true, true, true, true, true, true, true, true, true, true, false, false, false] ⟨some 42, _, _, _, _, _⟩ fun Ko hKo => ?_
      refine op_call [] Tryd.call80 rfl (box_ok h) ?_
      clear h; rintro _ w ⟨rfl, h⟩
      refine hKo _ _ _ (fun _ => (by first | exact h | exact h.tail | exact h.tail.tail | exact hS)) ?_; clear hKo Ko
      refine dn_p 17 #[true, true, true, true, true, true, true, true, true, true, true, true, true, true, true, true, true, true, false, false] ⟨some 45, _, _, _, _, _⟩ rfl (fun w => r_index (j := (u.getD 0 0).toNat) rfl rfl Tryd.runUnderlying131 Tryd.sizeOf5 Tryd.isAgg5 (by rfl) (by exact BitVec.isLt _) (getBl (by rw [boxL_len]; exact BitVec.isLt _))) ?_
      refine dn_p 18 #[true, true, true, true, true, true, true, true, true, true, true, true, true, true, true, true, true, true, true, false] ⟨some 46, _, _, _, _, _⟩ rfl (fun w => r_buildP (ps := [(0, _), (1, _), (2, _), (3, _)]) (pl := (List.range 4).map fun i => (i * 1, 1)) (z := (List.replicate 4 0#8).map B) rfl (by kernel_rfl) (rfl)) ?_
      refine dn_o 19 #[true, true, true, true, true, true, true, true, true, true, true, true, true, true, true, true, true, true, true, true] ⟨none, _, _, _, _, _⟩ fun Ko hKo => ?_
      refine op_store_ball h rfl (show _ = aggB [sb (u.getD 1 0) ^^^ rd, sb (u.getD 2 0), sb (u.getD 3 0), sb (u.getD 0 0)] from rfl) (by rfl) len_of Tryd.sizeOf145 fun w h => ?_
      have h := h.nm
      refine hKo _ _ _ (fun hT => absurd hT (by decide)) ?_; clear hKo Ko
      obtain ⟨ww, hww⟩ : ∃ ww, ww = schedW fl (32 + 4 * k) rd := ⟨_, rfl⟩
      rw [schedW_0 fl (32 + 4 * k) rd hz u hu, ← hww] at h
      refine dn_done (by kernel_rfl) ?_
      refine hK15 _ _ ?_
      clear hK15 K15
      refine cw_region ?_
      refine wl_p (r_move rfl) ?_
      refine wl_o fun Ko hKo => ?_
      refine op_call [_, _] Tryd.call90 rfl (mul_ok h rd 2#8) ?_
      rintro _ w ⟨rfl, rfl⟩
      refine hKo _ _ _ ?_; clear hKo Ko
      refine wl_p (r_assign rfl) ?_
      refine wl_nil ?_
      refine hK12 _ _ ?_
      clear hK12 K12
      refine cw_seq fun K16 hK16 => ?_
      have hwl : ww.length = 4 := by rw [hww]; exact schedW_len _ _ _ (by omega) (by omega)
      refine cw_region ?_
      refine wl_p (r_load_allb h rfl len_of Tryd.isAgg145 Tryd.sizeOf145) ?_
      refine wl_p (r_move rfl) ?_
      refine wl_nil ?_
      refine hK16 _ _ ?_
      clear hK16 K16
      refine wp_block ?_
      refine cw_loopf [7, 8, 69, 70, 71, 72, 73, 74, 75, 76, 77, 78, 79, 80, 81, 82, 83, 84, 85] (fun f w n => ∃ r : Nat, r ≤ 4 ∧ f 69 = i64 r ∧ Has E w ((b6, bs 145 ww) :: (b3, bs 144 (iter (schedIn (32 + 4 * k) ww) r fl)) :: (b2, bs 114 (List.replicate 240 0)) :: (b1, bs 23 key) :: F) ∧ n = 4 - r) (4) ⟨0, by omega, rfl, h, rfl⟩ ?_
      clear h; rintro f w n ⟨r, hr, e69, h, rfl⟩ K17 hK17
      simp only [putFn, List.foldl_cons, List.foldl_nil, List.set_cons_zero, List.set_cons_succ, e69]
      clear e69
      have hlr : (iter (schedIn (32 + 4 * k) ww) r fl).length = 240 := by rw [schedIn_len, hl]
      refine cw_seq fun K18 hK18 => ?_
      refine cw_region ?_
      refine wl_p (r_lss  (n := 4) rfl rfl) ?_
      refine wl_nil ?_
      refine hK18 _ _ ?_
      clear hK18 K18
      refine cw_seq fun K19 hK19 => ?_
      refine wp_cond_split rfl (fun hc => ?_) (fun hc => ?_)
      · have hlt2 := of_decide_eq_true hc; clear hc
        refine wp_skip ?_
        refine hK19 _ _ ?_
        clear hK19 K19
        refine cw_seq fun K20 hK20 => ?_
        refine wp_block ?_
        refine cw_seq fun K21 hK21 => ?_
        refine cw_region ?_
        refine wl_p (r_move rfl) ?_
        refine wl_p (r_index (j := r) rfl rfl Tryd.runUnderlying145 Tryd.sizeOf5 Tryd.isAgg5 (by first | rfl | omega) (by omega) (getBl (by omega))) ?_
        refine wl_p (r_assign rfl) ?_
        refine wl_p (r_assign rfl) ?_
        refine wl_nil ?_
        refine hK21 _ _ ?_
        clear hK21 K21
        refine cw_region ?_
        refine wl_p (r_move rfl) ?_
        refine wl_p (r_move rfl) ?_
        refine wl_p (r_add_n (m := 32 + 4 * k)  (n := r)  rfl rfl om_of) ?_
        refine wl_p (r_move rfl) ?_
        refine wl_p (r_move rfl) ?_
        refine wl_p (r_add_n (m := 32 + 4 * k)  (n := r)  rfl rfl om_of) ?_
        refine wl_p (r_sub_n (m := 32 + 4 * k + r)  (n := 32)  rfl rfl om_of om_of) ?_
        refine wl_p (r_indexAddr_arr (j := 32 + 4 * k + r - 32) rfl rfl Tryd.runUnderlying144 Tryd.sizeOf5 (by first | rfl | omega) (by omega)) ?_
        refine wl_p (r_load_b h rfl (by omega) Tryd.isAgg5) ?_
        refine wl_p (r_move rfl) ?_
        refine wl_p (r_xor_B   rfl rfl) ?_
        refine wl_p (r_indexAddr_arr (j := 32 + 4 * k + r) rfl rfl Tryd.runUnderlying144 Tryd.sizeOf5 (by first | rfl | omega) (by omega)) ?_
        refine wl_o fun Ko hKo => ?_
        refine op_store_b h rfl rfl (by omega) Tryd.sizeOf5 fun w h => ?_
        have h := h.nm
        refine hKo _ _ _ ?_; clear hKo Ko
        refine wl_nil ?_
        refine hK20 _ _ ?_
        clear hK20 K20
        refine cw_region ?_
        refine wl_p (r_add_n  (n := 1) rfl rfl om_of) ?_
        refine wl_p (r_move rfl) ?_
        refine wl_nil ?_
        refine hK17 _ _ (4 - (r + 1)) pfn_of ⟨r + 1, by omega, rfl, h, rfl⟩ (by omega)
      · have hlt2 := of_decide_eq_false hc; clear hc
        have hr4 : r = 4 := by omega
        subst hr4
        refine wp_exit ?_
        refine hK10 _ _ ?_
        clear hK19 hK17 hK10 K19 K17 K10
        refine cw_region ?_
        refine wl_p (r_move rfl) ?_
        refine wl_p (r_add_n (m := 32 + 4 * k)  (n := 4)  rfl rfl om_of) ?_
        refine wl_p (r_assign rfl) ?_
        refine wl_nil ?_
        refine hK7 _ _ (52 - (k + 1)) pfn_of ⟨k + 1, by omega, rfl, ?e4_23, ?hh_23, rfl⟩ (by omega)
        case e4_23 => rw [hsucc]; simp only [List.getD_cons_zero, List.getD_cons_succ]; first | rw [if_pos hz] | rw [if_neg hz]
        case hh_23 => rw [hsucc, ← hww]; exact h.tail
    · have hz := of_decide_eq_false hc; clear hc
      have hz : ¬ (32 + 4 * k) % 32 = 0 := by omega
      refine cw_seq fun K24 hK24 => ?_
      refine cw_region ?_
      refine wl_p (r_eql  (n := 16) rfl rfl) ?_
      refine wl_p (r_assign rfl) ?_
      refine wl_nil ?_
      refine hK24 _ _ ?_
      clear hK24 K24
      refine wp_cond_split rfl (fun hc => ?_) (fun hc => ?_)
      · have h16 := of_decide_eq_true hc; clear hc
        have h16 : (32 + 4 * k) % 32 = 16 := by omega
        refine cw_drawnH h (h) (fun i => i == 17) (by kernel_rfl) 18 rfl #[false, false, false, false, false, false, false, false, false, false, false, false, false, false, false, false, false, false] rfl ?_
        clear h; rintro w h hS
        refine dn_p 1 #[false, true, false, false, false, false, false, false, false, false, false, false, false, false, false, false, false, false] ⟨some 52, _, _, _, _, _⟩ rfl (fun w => r_indexAddr_arr (j := 0) rfl rfl Tryd.runUnderlying145 Tryd.sizeOf5 (by first | rfl | omega) om_of) ?_
        refine dn_l 2 #[false, true, true, false, false, false, false, false, false, false, false, false, false, false, false, false, false, false] ⟨some 53, _, _, _, _, _⟩ rfl (by first | exact h | exact h.tail | exact h.tail.tail | exact hS) (fun w hS => r_load_b hS rfl (by omega) Tryd.isAgg5) ?_
        refine dn_p 5 #[false, true, true, false, false, true, false, false, false, false, false, false, false, false, false, false, false, false] ⟨some 56, _, _, _, _, _⟩ rfl (fun w => r_indexAddr_arr (j := 1) rfl rfl Tryd.runUnderlying145 Tryd.sizeOf5 (by first | rfl | omega) om_of) ?_
        refine dn_l 6 #[false, true, true, false, false, true, true, false, false, false, false, false, false, false, false, false, false, false] ⟨some 57, _, _, _, _, _⟩ rfl (by first | exact h | exact h.tail | exact h.tail.tail | exact hS) (fun w hS => r_load_b hS rfl (by omega) Tryd.isAgg5) ?_
        refine dn_p 9 #[false, true, true, false, false, true, true, false, false, true, false, false, false, false, false, false, false, false] ⟨some 60, _, _, _, _, _⟩ rfl (fun w => r_indexAddr_arr (j := 2) rfl rfl Tryd.runUnderlying145 Tryd.sizeOf5 (by first | rfl | omega) om_of) ?_
        refine dn_l 10 #[false, true, true, false, false, true, true, false, false, true, true, false, false, false, false, false, false, false] ⟨some 61, _, _, _, _, _⟩ rfl (by first | exact h | exact h.tail | exact h.tail.tail | exact hS) (fun w hS => r_load_b hS rfl (by omega) Tryd.isAgg5) ?_
        refine dn_p 13 #[false, true, true, false, false, true, true, false, false, true, true, false, false, true, false, false, false, false] ⟨some 64, _, _, _, _, _⟩ rfl (fun w => r_indexAddr_arr (j := 3) rfl rfl Tryd.runUnderlying145 Tryd.sizeOf5 (by first | rfl | omega) om_of) ?_
        refine dn_l 14 #[false, true, true, false, false, true, true, false, false, true, true, false, false, true, true, false, false, false] ⟨some 65, _, _, _, _, _⟩ rfl (by first | exact h | exact h.tail | exact h.tail.tail | exact hS) (fun w hS => r_load_b hS rfl (by omega) Tryd.isAgg5) ?_
        refine dn_o 0 #[true, true, true, false, false, true, true, false, false, true, true, false, false, true, true, false, false, false] ⟨some 51, _, _, _, _, _⟩ fun Ko hKo => ?_
        refine op_call [] Tryd.call80 rfl (box_ok h) ?_
        clear h; rintro _ w ⟨rfl, h⟩
        refine hKo _ _ _ (fun _ => (by first | exact h | exact h.tail | exact h.tail.tail | exact hS)) ?_; clear hKo Ko
        refine dn_p 3 #[true, true, true, true, false, true, true, false, false, true, true, false, false, true, true, false, false, false] ⟨some 54, _, _, _, _, _⟩ rfl (fun w => r_index (j := (u.getD 0 0).toNat) rfl rfl Tryd.runUnderlying131 Tryd.sizeOf5 Tryd.isAgg5 (by rfl) (by exact BitVec.isLt _) (getBl (by rw [boxL_len]; exact BitVec.isLt _))) ?_
        refine dn_o 4 #[true, true, true, true, true, true, true, false, false, true, true, false, false, true, true, false, false, false] ⟨some 55, _, _, _, _, _⟩ fun Ko hKo => ?_
        refine op_call [] Tryd.call80 rfl (box_ok h) ?_
        clear h; rintro _ w ⟨rfl, h⟩
        refine hKo _ _ _ (fun _ => (by first | exact h | exact h.tail | exact h.tail.tail | exact hS)) ?_; clear hKo Ko
        refine dn_p 7 #[true, true, true, true, true, true, true, true, false, true, true, false, false, true, true, false, false, false] ⟨some 58, _, _, _, _, _⟩ rfl (fun w => r_index (j := (u.getD 1 0).toNat) rfl rfl Tryd.runUnderlying131 Tryd.sizeOf5 Tryd.isAgg5 (by rfl) (by exact BitVec.isLt _) (getBl (by rw [boxL_len]; exact BitVec.isLt _))) ?_
        refine dn_o 8 #[true, true, true, true, true, true, true, true, true, true, true, false, false, true, true, false, false, false] ⟨some 59, _, _, _, _, _⟩ fun Ko hKo => ?_
        refine op_call [] Tryd.call80 rfl (box_ok h) ?_
        clear h; rintro _ w ⟨rfl, h⟩
        refine hKo _ _ _ (fun _ => (by first | exact h | exact h.tail | exact h.tail.tail | exact hS)) ?_; clear hKo Ko
        refine dn_p 11 #[true, true, true, true, true, true, true, true, true, true, true, true, false, true, true, false, false, false] ⟨some 62, _, _, _, _, _⟩ rfl (fun w => r_index (j := (u.getD 2 0).toNat) rfl rfl Tryd.runUnderlying131 Tryd.sizeOf5 Tryd.isAgg5 (by rfl) (by exact BitVec.isLt _) (getBl (by rw [boxL_len]; exact BitVec.isLt _))) ?_
        refine dn_o 12 #[true, true, true, true, true, true, true, true, true, true, true, true, true, true, true, false, false, false] ⟨some 63, _, _, _, _, _⟩ fun Ko hKo => ?_
        refine op_call [] Tryd.call80 rfl (box_ok h) ?_
        clear h; rintro _ w ⟨rfl, h⟩
        refine hKo _ _ _ (fun _ => (by first | exact h | exact h.tail | exact h.tail.tail | exact hS)) ?_; clear hKo Ko
        refine dn_p 15 #[true, true, true, true, true, true, true, true, true, true, true, true, true, true, true, true, false, false] ⟨some 66, _, _, _, _, _⟩ rfl (fun w => r_index (j := (u.getD 3 0).toNat) rfl rfl Tryd.runUnderlying131 Tryd.sizeOf5 Tryd.isAgg5 (by rfl) (by exact BitVec.isLt _) (getBl (by rw [boxL_len]; exact BitVec.isLt _))) ?_
        refine dn_p 16 #[true, true, true, true, true, true, true, true, true, true, true, true, true, true, true, true, true, false] ⟨some 67, _, _, _, _, _⟩ rfl (fun w => r_buildP (ps := [(0, _), (1, _), (2, _), (3, _)]) (pl := (List.range 4).map fun i => (i * 1, 1)) (z := (List.replicate 4 0#8).map B) rfl (by kernel_rfl) (rfl)) ?_
        refine dn_o 17 #[true, true, true, true, true, true, true, true, true, true, true, true, true, true, true, true, true, true] ⟨none, _, _, _, _, _⟩ fun Ko hKo => ?_
        refine op_store_ball h rfl (show _ = aggB [sb (u.getD 0 0), sb (u.getD 1 0), sb (u.getD 2 0), sb (u.getD 3 0)] from rfl) (by rfl) len_of Tryd.sizeOf145 fun w h => ?_
        have h := h.nm
        refine hKo _ _ _ (fun hT => absurd hT (by decide)) ?_; clear hKo Ko
        obtain ⟨ww, hww⟩ : ∃ ww, ww = schedW fl (32 + 4 * k) rd := ⟨_, rfl⟩
        rw [schedW_16 fl (32 + 4 * k) rd hz h16 u hu, ← hww] at h
        refine dn_done (by kernel_rfl) ?_
        refine hK12 _ _ ?_
        clear hK12 K12
        refine cw_seq fun K25 hK25 => ?_
        have hwl : ww.length = 4 := by rw [hww]; exact schedW_len _ _ _ (by omega) (by omega)
        refine cw_region ?_
        refine wl_p (r_load_allb h rfl len_of Tryd.isAgg145 Tryd.sizeOf145) ?_
        refine wl_p (r_move rfl) ?_
        refine wl_nil ?_
        refine hK25 _ _ ?_
        clear hK25 K25
        refine wp_block ?_
        refine cw_loopf [7, 8, 69, 70, 71, 72, 73, 74, 75, 76, 77, 78, 79, 80, 81, 82, 83, 84, 85] (fun f w n => ∃ r : Nat, r ≤ 4 ∧ f 69 = i64 r ∧ Has E w ((b6, bs 145 ww) :: (b3, bs 144 (iter (schedIn (32 + 4 * k) ww) r fl)) :: (b2, bs 114 (List.replicate 240 0)) :: (b1, bs 23 key) :: F) ∧ n = 4 - r) (4) ⟨0, by omega, rfl, h, rfl⟩ ?_
        clear h; rintro f w n ⟨r, hr, e69, h, rfl⟩ K26 hK26
        simp only [putFn, List.foldl_cons, List.foldl_nil, List.set_cons_zero, List.set_cons_succ, e69]
        clear e69
        have hlr : (iter (schedIn (32 + 4 * k) ww) r fl).length = 240 := by rw [schedIn_len, hl]
        refine cw_seq fun K27 hK27 => ?_
        refine cw_region ?_
        refine wl_p (r_lss  (n := 4) rfl rfl) ?_
        refine wl_nil ?_
        refine hK27 _ _ ?_
        clear hK27 K27
        refine cw_seq fun K28 hK28 => ?_
        refine wp_cond_split rfl (fun hc => ?_) (fun hc => ?_)
        · have hlt2 := of_decide_eq_true hc; clear hc
          refine wp_skip ?_
          refine hK28 _ _ ?_
          clear hK28 K28
          refine cw_seq fun K29 hK29 => ?_
          refine wp_block ?_
          refine cw_seq fun K30 hK30 => ?_
          refine cw_region ?_
          refine wl_p (r_move rfl) ?_
          refine wl_p (r_index (j := r) rfl rfl Tryd.runUnderlying145 Tryd.sizeOf5 Tryd.isAgg5 (by first | rfl | omega) (by omega) (getBl (by omega))) ?_
          refine wl_p (r_assign rfl) ?_
          refine wl_p (r_assign rfl) ?_
          refine wl_nil ?_
          refine hK30 _ _ ?_
          clear hK30 K30
          refine cw_region ?_
          refine wl_p (r_move rfl) ?_
          refine wl_p (r_move rfl) ?_
          refine wl_p (r_add_n (m := 32 + 4 * k)  (n := r)  rfl rfl om_of) ?_
          refine wl_p (r_move rfl) ?_
          refine wl_p (r_move rfl) ?_
          refine wl_p (r_add_n (m := 32 + 4 * k)  (n := r)  rfl rfl om_of) ?_
          refine wl_p (r_sub_n (m := 32 + 4 * k + r)  (n := 32)  rfl rfl om_of om_of) ?_
          refine wl_p (r_indexAddr_arr (j := 32 + 4 * k + r - 32) rfl rfl Tryd.runUnderlying144 Tryd.sizeOf5 (by first | rfl | omega) (by omega)) ?_
          refine wl_p (r_load_b h rfl (by omega) Tryd.isAgg5) ?_
          refine wl_p (r_move rfl) ?_
          refine wl_p (r_xor_B   rfl rfl) ?_
          refine wl_p (r_indexAddr_arr (j := 32 + 4 * k + r) rfl rfl Tryd.runUnderlying144 Tryd.sizeOf5 (by first | rfl | omega) (by omega)) ?_
          refine wl_o fun Ko hKo => ?_
          refine op_store_b h rfl rfl (by omega) Tryd.sizeOf5 fun w h => ?_
          have h := h.nm
          refine hKo _ _ _ ?_; clear hKo Ko
          refine wl_nil ?_
          refine hK29 _ _ ?_
          clear hK29 K29
          refine cw_region ?_
          refine wl_p (r_add_n  (n := 1) rfl rfl om_of) ?_
          refine wl_p (r_move rfl) ?_
          refine wl_nil ?_
          refine hK26 _ _ (4 - (r + 1)) pfn_of ⟨r + 1, by omega, rfl, h, rfl⟩ (by omega)
        · have hlt2 := of_decide_eq_false hc; clear hc
          have hr4 : r = 4 := by omega
          subst hr4
          refine wp_exit ?_
          refine hK10 _ _ ?_
          clear hK28 hK26 hK10 K28 K26 K10
          refine cw_region ?_
          refine wl_p (r_move rfl) ?_
          refine wl_p (r_add_n (m := 32 + 4 * k)  (n := 4)  rfl rfl om_of) ?_
          refine wl_p (r_assign rfl) ?_
          refine wl_nil ?_
          refine hK7 _ _ (52 - (k + 1)) pfn_of ⟨k + 1, by omega, rfl, ?e4_32, ?hh_32, rfl⟩ (by omega)
          case e4_32 => rw [hsucc]; simp only [List.getD_cons_zero, List.getD_cons_succ]; first | rw [if_pos hz] | rw [if_neg hz]
          case hh_32 => rw [hsucc, ← hww]; exact h.tail
      · have h16 := of_decide_eq_false hc; clear hc
        have h16 : ¬ (32 + 4 * k) % 32 = 16 := by omega
        obtain ⟨ww, hww⟩ : ∃ ww, ww = schedW fl (32 + 4 * k) rd := ⟨_, rfl⟩
        rw [schedW_n fl (32 + 4 * k) rd hz h16 u hu, ← hww] at h
        refine wp_skip ?_
        refine hK12 _ _ ?_
        clear hK12 K12
        refine cw_seq fun K33 hK33 => ?_
        have hwl : ww.length = 4 := by rw [hww]; exact schedW_len _ _ _ (by omega) (by omega)
        refine cw_region ?_
        refine wl_p (r_load_allb h rfl len_of Tryd.isAgg145 Tryd.sizeOf145) ?_
        refine wl_p (r_move rfl) ?_
        refine wl_nil ?_
        refine hK33 _ _ ?_
        clear hK33 K33
        refine wp_block ?_
        refine cw_loopf [7, 8, 69, 70, 71, 72, 73, 74, 75, 76, 77, 78, 79, 80, 81, 82, 83, 84, 85] (fun f w n => ∃ r : Nat, r ≤ 4 ∧ f 69 = i64 r ∧ Has E w ((b6, bs 145 ww) :: (b3, bs 144 (iter (schedIn (32 + 4 * k) ww) r fl)) :: (b2, bs 114 (List.replicate 240 0)) :: (b1, bs 23 key) :: F) ∧ n = 4 - r) (4) ⟨0, by omega, rfl, h, rfl⟩ ?_
        clear h; rintro f w n ⟨r, hr, e69, h, rfl⟩ K34 hK34
        simp only [putFn, List.foldl_cons, List.foldl_nil, List.set_cons_zero, List.set_cons_succ, e69]
        clear e69
        have hlr : (iter (schedIn (32 + 4 * k) ww) r fl).length = 240 := by rw [schedIn_len, hl]
        refine cw_seq fun K35 hK35 => ?_
        refine cw_region ?_
        refine wl_p (r_lss  (n := 4) rfl rfl) ?_
        refine wl_nil ?_
        refine hK35 _ _ ?_
        clear hK35 K35
        refine cw_seq fun K36 hK36 => ?_
        refine wp_cond_split rfl (fun hc => ?_) (fun hc => ?_)
        · have hlt2 := of_decide_eq_true hc; clear hc
          refine wp_skip ?_
          refine hK36 _ _ ?_
          clear hK36 K36
          refine cw_seq fun K37 hK37 => ?_
          refine wp_block ?_
          refine cw_seq fun K38 hK38 => ?_
          refine cw_region ?_
          refine wl_p (r_move rfl) ?_
          refine wl_p (r_index (j := r) rfl rfl Tryd.runUnderlying145 Tryd.sizeOf5 Tryd.isAgg5 (by first | rfl | omega) (by omega) (getBl (by omega))) ?_
          refine wl_p (r_assign rfl) ?_
          refine wl_p (r_assign rfl) ?_
          refine wl_nil ?_
          refine hK38 _ _ ?_
          clear hK38 K38
          refine cw_region ?_
          refine wl_p (r_move rfl) ?_
          refine wl_p (r_move rfl) ?_
          refine wl_p (r_add_n (m := 32 + 4 * k)  (n := r)  rfl rfl om_of) ?_
          refine wl_p (r_move rfl) ?_
          refine wl_p (r_move rfl) ?_
          refine wl_p (r_add_n (m := 32 + 4 * k)  (n := r)  rfl rfl om_of) ?_
          refine wl_p (r_sub_n (m := 32 + 4 * k + r)  (n := 32)  rfl rfl om_of om_of) ?_
          refine wl_p (r_indexAddr_arr (j := 32 + 4 * k + r - 32) rfl rfl Tryd.runUnderlying144 Tryd.sizeOf5 (by first | rfl | omega) (by omega)) ?_
          refine wl_p (r_load_b h rfl (by omega) Tryd.isAgg5) ?_
          refine wl_p (r_move rfl) ?_
          refine wl_p (r_xor_B   rfl rfl) ?_
          refine wl_p (r_indexAddr_arr (j := 32 + 4 * k + r) rfl rfl Tryd.runUnderlying144 Tryd.sizeOf5 (by first | rfl | omega) (by omega)) ?_
          refine wl_o fun Ko hKo => ?_
          refine op_store_b h rfl rfl (by omega) Tryd.sizeOf5 fun w h => ?_
          have h := h.nm
          refine hKo _ _ _ ?_; clear hKo Ko
          refine wl_nil ?_
          refine hK37 _ _ ?_
          clear hK37 K37
          refine cw_region ?_
          refine wl_p (r_add_n  (n := 1) rfl rfl om_of) ?_
          refine wl_p (r_move rfl) ?_
          refine wl_nil ?_
          refine hK34 _ _ (4 - (r + 1)) pfn_of ⟨r + 1, by omega, rfl, h, rfl⟩ (by omega)
        · have hlt2 := of_decide_eq_false hc; clear hc
          have hr4 : r = 4 := by omega
          subst hr4
          refine wp_exit ?_
          refine hK10 _ _ ?_
          clear hK36 hK34 hK10 K36 K34 K10
          refine cw_region ?_
          refine wl_p (r_move rfl) ?_
          refine wl_p (r_add_n (m := 32 + 4 * k)  (n := 4)  rfl rfl om_of) ?_
          refine wl_p (r_assign rfl) ?_
          refine wl_nil ?_
          refine hK7 _ _ (52 - (k + 1)) pfn_of ⟨k + 1, by omega, rfl, ?e4_40, ?hh_40, rfl⟩ (by omega)
          case e4_40 => rw [hsucc]; simp only [List.getD_cons_zero, List.getD_cons_succ]; first | rw [if_pos hz] | rw [if_neg hz]
          case hh_40 => rw [hsucc, ← hww]; exact h.tail
  · have hlt := of_decide_eq_false hc; clear hc
    have hk52 : k = 52 := by omega
    refine wp_exit ?_
    refine hK5 _ _ ?_
    clear hK8 hK7 hK5 K8 K7 K5
    refine cw_seq fun K41 hK41 => ?_
    have hsch : (schedLoop key k).1 = schedule key := by rw [hk52]; exact schedule_def key
    obtain ⟨sc, hsc⟩ : ∃ sc, sc = schedule key := ⟨_, rfl⟩
    rw [hfl, hsch, ← hsc] at h hl
    refine cw_region ?_
    refine wl_o fun Ko hKo => ?_
    refine op_allocB 240 h Tryd.zeroValue114 rfl fun b9 w h => ?_
    refine hKo _ _ _ ?_; clear hKo Ko
    refine wl_nil ?_
    refine hK41 _ _ ?_
    clear hK41 K41
    refine cw_seq fun K42 hK42 => ?_
    refine cw_seq fun K43 hK43 => ?_
    refine cw_region ?_
    refine wl_p (r_move rfl) ?_
    refine wl_nil ?_
    refine hK43 _ _ ?_
    clear hK43 K43
    refine wp_block ?_
    refine cw_loopf [10, 86, 87, 88, 89, 90, 91, 92, 93, 94, 95, 96, 97, 98, 99] (fun f w n => ∃ m : Nat, m ≤ 15 ∧ f 86 = i64 m ∧ Has E w ((b9, bs 114 (sc.take (16 * m) ++ zeros (240 - 16 * m))) :: (b3, bs 144 sc) :: (b2, bs 114 (List.replicate 240 0)) :: (b1, bs 23 key) :: F) ∧ n = 15 - m) (15) ⟨0, by omega, rfl, h, rfl⟩ ?_
    clear h; rintro f w n ⟨m, hm, e86, h, rfl⟩ K44 hK44
    simp only [putFn, List.foldl_cons, List.foldl_nil, List.set_cons_zero, List.set_cons_succ, e86]
    clear e86
    have hlm : (sc.take (16 * m) ++ zeros (240 - 16 * m)).length = 240 := by rw [List.length_append, List.length_take, zeros_len]; omega
    refine cw_seq fun K45 hK45 => ?_
    refine cw_region ?_
    refine wl_p (r_lss  (n := 15) rfl rfl) ?_
    refine wl_nil ?_
    refine hK45 _ _ ?_
    clear hK45 K45
    refine cw_seq fun K46 hK46 => ?_
    refine wp_cond_split rfl (fun hc => ?_) (fun hc => ?_)
    · have hlt3 := of_decide_eq_true hc; clear hc
      refine wp_skip ?_
      refine hK46 _ _ ?_
      clear hK46 K46
      refine cw_seq fun K47 hK47 => ?_
      refine wp_block ?_
      refine cw_seq fun K48 hK48 => ?_
      refine cw_region ?_
      refine wl_p (r_move rfl) ?_
      refine wl_p (r_assign rfl) ?_
      refine wl_nil ?_
      refine hK48 _ _ ?_
      clear hK48 K48
      refine cw_region ?_
      refine wl_p (r_move rfl) ?_
      refine wl_p (r_move rfl) ?_
      refine wl_p (r_mul_n (m := 16)  (n := m)  rfl rfl om_of) ?_
      refine wl_p (r_move rfl) ?_
      refine wl_p (r_mul_n (m := 16)  (n := m)  rfl rfl om_of) ?_
      refine wl_p (r_add_n (m := 16 * m)  (n := 16)  rfl rfl om_of) ?_
      refine wl_p (r_slice_arr_lh (lo := 16 * m) (hi := 16 * m + 16) rfl rfl rfl Tryd.runUnderlying144 Tryd.sizeOf5 (by omega) (by omega) (by omega)) ?_
      refine wl_p (r_arrayPtr rfl Tryd.runUnderlying113 (by omega)) ?_
      refine wl_p (r_load_segb h rfl (by omega) Tryd.isAgg113 Tryd.sizeOf113) ?_
      refine wl_p (r_indexAddr_arr (j := m) rfl rfl Tryd.runUnderlying114 Tryd.sizeOf113 (by first | rfl | omega) (by omega)) ?_
      refine wl_o fun Ko hKo => ?_
      refine op_store_bseg h rfl rfl (by rw [List.length_take, List.length_drop]; omega) (by omega) Tryd.sizeOf113 fun w h => ?_
      have h := h.nm
      refine hKo _ _ _ ?_; clear hKo Ko
      rw [show m * 16 = 16 * m from Nat.mul_comm _ _, rows_step sc 240 m 16 (by omega) (by omega)] at h
      refine wl_nil ?_
      refine hK47 _ _ ?_
      clear hK47 K47
      refine cw_region ?_
      refine wl_p (r_add_n  (n := 1) rfl rfl om_of) ?_
      refine wl_p (r_move rfl) ?_
      refine wl_nil ?_
      refine hK44 _ _ (15 - (m + 1)) pfn_of ⟨m + 1, by omega, rfl, h, rfl⟩ (by omega)
    · have hlt3 := of_decide_eq_false hc; clear hc
      have hm15 : m = 15 := by omega
      subst hm15
      rw [show sc.take (16 * 15) ++ zeros (240 - 16 * 15) = sc from by simp [zeros, List.take_of_length_le (l := sc) (i := 240) (by omega)]] at h
      refine wp_exit ?_
      refine hK42 _ _ ?_
      clear hK46 hK44 hK42 K46 K44 K42
      refine cw_seq fun K50 hK50 => ?_
      refine cw_region ?_
      refine wl_p (r_load_allb h rfl len_of Tryd.isAgg114 Tryd.sizeOf114) ?_
      refine wl_o fun Ko hKo => ?_
      refine op_store_ball h rfl rfl len_of len_of Tryd.sizeOf114 fun w h => ?_
      have h := h.nm
      refine hKo _ _ _ ?_; clear hKo Ko
      refine wl_nil ?_
      refine hK50 _ _ ?_
      clear hK50 K50
      refine wp_ret ?_
      refine (hQ _ _ _ (res_cell h rfl rfl len_of Tryd.isAgg114 Tryd.sizeOf114) ?_).1
      exact ⟨by rw [hsc], h.tail.tail.tail.tail⟩

set_option maxHeartbeats 1000000 in
set_option maxRecDepth 100000 in
theorem aesnew_ok {E : Env} {w : World} {F : List (Nat × Obj)} (h : Has E w F) (key : Bytes) (hk : key.length = 32) : Ret Tryd.prog 40 [aggB key] w fun v w' => ∃ c, v = ptr c 0 ∧ Has E w' ((c, bs 117 (schedule key)) :: F) := by
  refine ret_of_wp (l := [aggB key, undef, undef, undef, undef, undef, undef]) Tryd.func40 rfl (by simp only [Tryd.ntmps40, List.size_toArray, List.length_cons, List.length_nil, Nat.reduceAdd, Nat.reduceSub, Array.replicate_succ, Array.replicate_zero, List.push_toArray, List.append_toArray, List.nil_append, List.cons_append]) fun Q hQ => ?_
  refine cw_seq fun K1 hK1 => ?_
  refine cw_region ?_
  refine wl_o fun Ko hKo => ?_
  refine op_box h rfl rfl fun b1 w h => ?_
  refine hKo _ _ _ ?_; clear hKo Ko
  refine wl_p (r_assign rfl) ?_
  refine wl_nil ?_
  refine hK1 _ _ ?_
  clear hK1 K1
  refine cw_seq fun K2 hK2 => ?_
  refine cw_region ?_
  refine wl_p (r_load_allb h rfl len_of Tryd.isAgg23 Tryd.sizeOf23) ?_
  refine wl_o fun Ko hKo => ?_
  refine op_call [_] Tryd.call66 rfl (schedule_ok h key hk) ?_
  clear h; rintro _ w ⟨rfl, h⟩
  refine hKo _ _ _ ?_; clear hKo Ko
  refine wl_p (r_buildP (ps := [(0, _)]) (pl := [(0, 240)]) (z := (List.replicate 240 0#8).map B) rfl (by kernel_rfl) ((fill_step (cs := (schedule key).map B) rfl rfl (by rw [List.length_map, schedule_len key hk]) (Nat.le_refl _)).trans (show _ = some ((schedule key).map B) from by simp [fillL]))) ?_
  refine wl_o fun Ko hKo => ?_
  refine op_box h rfl rfl fun b6 w h => ?_
  refine hKo _ _ _ ?_; clear hKo Ko
  refine wl_p (r_assign rfl) ?_
  refine wl_nil ?_
  refine hK2 _ _ ?_
  clear hK2 K2
  refine wp_ret ?_
  refine (hQ _ _ _ (res_tmp rfl rfl) ?_).1
  try simp only [List.getD_cons_zero, List.getD_cons_succ]
  exact ⟨_, rfl, h.swap.tail⟩

end Go.Proofs.YtjdfenlmifhhdaaDoor
