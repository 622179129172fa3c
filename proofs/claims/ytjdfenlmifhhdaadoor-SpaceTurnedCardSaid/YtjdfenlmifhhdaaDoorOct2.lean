/-
  Walks, printed by mk.py (a program of this work) out of specs7.py: what the Go functions compute, and that nobody else's memory turns. Condition: none.
-/
import Derived.Test.YtjdfenlmifhhdaaDoorProg
import Derived.Test.YtjdfenlmifhhdaaDoorAuto
import Derived.Test.YtjdfenlmifhhdaaDoorOct
namespace Go.Proofs.YtjdfenlmifhhdaaDoor
open Go.RowKit

set_option maxHeartbeats 1000000 in
set_option maxRecDepth 100000 in
theorem read_ok {E : Env} {w : World} {F : List (Nat × Obj)} (h : Has E w F) {A : Option Addr} {n c : Nat} : Ret Tryd.prog 54 [.slice A n c] w fun v w' => ∃ r, v = ptr r 0 ∧ Has E w' ((r, vs 135 [.slice A n c, i64 0]) :: F) := by
  refine ret_of_wp (l := [.slice A n c, undef, undef, undef, undef, undef]) Tryd.func54 rfl (by simp only [Tryd.ntmps54, List.size_toArray, List.length_cons, List.length_nil, Nat.reduceAdd, Nat.reduceSub, Array.replicate_succ, Array.replicate_zero, List.push_toArray, List.append_toArray, List.nil_append, List.cons_append]) fun Q hQ => ?_
  refine cw_seq fun K1 hK1 => ?_
  refine cw_region ?_
  refine wl_p (r_assign rfl) ?_
  refine wl_nil ?_
  refine hK1 _ _ ?_
  clear hK1 K1
  refine cw_seq fun K2 hK2 => ?_
  refine cw_region ?_
  refine wl_p (r_move rfl) ?_
  refine wl_p (r_buildP (ps := [(0, _)]) (pl := [(0, 1), (1, 1)]) (z := [(Value.slice none 0 0), (Value.int IntKind.i64 0)]) rfl (by kernel_rfl) (rfl)) ?_
  refine wl_o fun Ko hKo => ?_
  refine op_box h rfl rfl fun b5 w h => ?_
  refine hKo _ _ _ ?_; clear hKo Ko
  refine wl_p (r_assign rfl) ?_
  refine wl_nil ?_
  refine hK2 _ _ ?_
  clear hK2 K2
  refine wp_ret ?_
  refine (hQ _ _ _ (res_tmp rfl rfl) ?_).1
  try simp only [List.getD_cons_zero, List.getD_cons_succ]
  exact ⟨_, rfl, h⟩

set_option maxHeartbeats 1000000 in
set_option maxRecDepth 100000 in
theorem stop_ok {E : Env} {w : World} {F : List (Nat × Obj)} {r : Nat} {sd : Value} {e : Int} (h : Has E w ((r, vs 135 [sd, i64 e]) :: F)) (e1 : Int) : Ret Tryd.prog 93 [ptr r 0, i64 e1] w fun v w' => Has E w' ((r, vs 135 [.slice none 0 0, i64 e1]) :: F) := by
  refine ret_of_wp (l := [ptr r 0, i64 e1, undef, undef, undef, undef, undef, undef, undef, undef, undef]) Tryd.func93 rfl (by simp only [Tryd.ntmps93, List.size_toArray, List.length_cons, List.length_nil, Nat.reduceAdd, Nat.reduceSub, Array.replicate_succ, Array.replicate_zero, List.push_toArray, List.append_toArray, List.nil_append, List.cons_append]) fun Q hQ => ?_
  refine cw_region ?_
  refine wl_p (r_move rfl) ?_
  refine wl_p (r_move rfl) ?_
  refine wl_p (r_move rfl) ?_
  refine wl_p (r_nilCheck rfl) ?_
  refine wl_p (r_fieldAddr (off := 0) rfl Tryd.runUnderlying135 rfl Tryd.sizeOf25 rfl rfl) ?_
  refine wl_o fun Ko hKo => ?_
  refine op_store h rfl rfl rfl (by first | (simp; done) | (exact side_of)) Tryd.sizeOf25 fun w h => ?_
  have h := h.nm
  have h := h.nv
  refine hKo _ _ _ ?_; clear hKo Ko
  refine wl_p (r_nilCheck rfl) ?_
  refine wl_p (r_fieldAddr (off := 1) rfl Tryd.runUnderlying135 rfl Tryd.sizeOf38 rfl rfl) ?_
  refine wl_o fun Ko hKo => ?_
  refine op_store h rfl rfl rfl (by first | (simp; done) | (exact side_of)) Tryd.sizeOf38 fun w h => ?_
  have h := h.nm
  have h := h.nv
  refine hKo _ _ _ ?_; clear hKo Ko
  refine wl_nil ?_
  refine (hQ _ _ _ (res_none rfl) ?_).2
  exact h

set_option maxHeartbeats 1000000 in
set_option maxRecDepth 100000 in
theorem next_ok {E : Env} {w : World} {F G : List (Nat × Obj)} {r : Nat} {sd : Value} {xs : Bytes} {e : Nat} (hG : ∀ p ∈ G, p ∈ F) (hd : Sl G sd xs) (h : Has E w ((r, vs 135 [sd, i64 (e : Nat)]) :: F)) (hx : xs.length ≤ 1099511627776) (k : Nat) (hk : k ≤ 65536) : Ret Tryd.prog 85 [ptr r 0, i64 k] w fun v w' => Sl G v (rdNext k (xs, e)).1 ∧ ∃ sd', Sl G sd' (rdNext k (xs, e)).2.1 ∧ Has E w' ((r, vs 135 [sd', i64 ((rdNext k (xs, e)).2.2 : Nat)]) :: F) := by
  refine ret_of_wp (l := [ptr r 0, i64 k, undef, undef, undef, undef, undef, undef, undef, undef, undef, undef, undef, undef, undef, undef, undef, undef, undef, undef, undef, undef, undef, undef, undef, undef, undef, undef, undef, undef, undef, undef, undef, undef, undef, undef, undef, undef, undef, undef, undef, undef, undef, undef, undef, undef, undef]) Tryd.func85 rfl (by simp only [Tryd.ntmps85, List.size_toArray, List.length_cons, List.length_nil, Nat.reduceAdd, Nat.reduceSub, Array.replicate_succ, Array.replicate_zero, List.push_toArray, List.append_toArray, List.nil_append, List.cons_append]) fun Q hQ => ?_
  refine cw_seq fun K1 hK1 => ?_
  refine cw_region ?_
  refine wl_p (r_assign rfl) ?_
  refine wl_nil ?_
  refine hK1 _ _ ?_
  clear hK1 K1
  refine cw_seq fun K2 hK2 => ?_
  refine cw_seq fun K3 hK3 => ?_
  refine cw_region ?_
  refine wl_p (r_move rfl) ?_
  refine wl_p (r_eql_nilptr rfl rfl Tryd.runUnderlying98) ?_
  refine wl_p (r_move rfl) ?_
  refine wl_pw (r_move rfl) ?_
  refine wl_pw (r_nilCheck rfl) ?_
  refine wl_pw (r_fieldAddr (off := 1) rfl Tryd.runUnderlying135 rfl Tryd.sizeOf38 rfl rfl) ?_
  refine wl_pw (r_load (v := i64 (e : Nat)) h rfl rfl Tryd.isAgg38) ?_
  refine wl_pw (r_neq  (n := 0) rfl rfl) ?_
  refine wl_p (r_pick_f rfl rfl) ?_
  refine wl_nil ?_
  refine hK3 _ _ ?_
  clear hK3 K3
  refine wp_cond_split rfl (fun hc => ?_) (fun hc => ?_)
  · have he := of_decide_eq_true hc; clear hc
    have he : e ≠ 0 := by omega
    refine cw_seq fun K4 hK4 => ?_
    refine cw_region ?_
    refine wl_p (r_assign rfl) ?_
    refine wl_nil ?_
    refine hK4 _ _ ?_
    clear hK4 K4
    refine wp_ret ?_
    refine (hQ _ _ _ (res_tmp rfl rfl) ?_).1
    try simp only [List.getD_cons_zero, List.getD_cons_succ]
    rw [rdNext_e he]; exact ⟨Rd.nil, sd, hd, h⟩
  · have he := of_decide_eq_false hc; clear hc
    have he : e = 0 := by omega
    subst he
    refine wp_skip ?_
    refine hK2 _ _ ?_
    clear hK2 K2
    refine cw_seq fun K5 hK5 => ?_
    refine wp_block ?_
    refine cw_seq fun K6 hK6 => ?_
    refine cw_region ?_
    refine wl_p (r_move rfl) ?_
    refine wl_p (r_lss_f  (n := 0) rfl rfl (by omega)) ?_
    refine wl_p (r_assign rfl) ?_
    refine wl_nil ?_
    refine hK6 _ _ ?_
    clear hK6 K6
    refine wp_cond_false rfl ?_
    refine cw_seq fun K7 hK7 => ?_
    refine cw_region ?_
    refine wl_p (r_move rfl) ?_
    refine wl_p (r_move rfl) ?_
    refine wl_p (r_nilCheck rfl) ?_
    refine wl_p (r_fieldAddr (off := 0) rfl Tryd.runUnderlying135 rfl Tryd.sizeOf25 rfl rfl) ?_
    refine wl_p (r_load (v := sd) h rfl rfl Tryd.isAgg25) ?_
    refine wl_p (r_len_sl rfl hd Tryd.runUnderlying25) ?_
    refine wl_p (r_gtr   rfl rfl) ?_
    refine wl_p (r_assign rfl) ?_
    refine wl_nil ?_
    refine hK7 _ _ ?_
    clear hK7 K7
    refine wp_cond_split rfl (fun hc => ?_) (fun hc => ?_)
    · have hlt := of_decide_eq_true hc; clear hc
      have hlt : xs.length < k := by omega
      refine cw_seq fun K8 hK8 => ?_
      refine cw_region ?_
      refine wl_p (r_move rfl) ?_
      refine wl_o fun Ko hKo => ?_
      refine op_call [_, _] Tryd.call93 rfl (stop_ok h 3) ?_
      clear h; rintro _ w h
      refine hKo _ _ _ ?_; clear hKo Ko
      refine wl_nil ?_
      refine hK8 _ _ ?_
      clear hK8 K8
      refine cw_seq fun K9 hK9 => ?_
      refine cw_region ?_
      refine wl_p (r_assign rfl) ?_
      refine wl_nil ?_
      refine hK9 _ _ ?_
      clear hK9 K9
      refine wp_ret ?_
      refine (hQ _ _ _ (res_tmp rfl rfl) ?_).1
      try simp only [List.getD_cons_zero, List.getD_cons_succ]
      rw [rdNext_s hlt]; exact ⟨Rd.nil, _, Rd.nil, h⟩
    · have hlt := of_decide_eq_false hc; clear hc
      have hlt : ¬ xs.length < k := by omega
      refine wp_skip ?_
      refine hK5 _ _ ?_
      clear hK5 K5
      refine cw_seq fun K10 hK10 => ?_
      refine cw_region ?_
      refine wl_p (r_move rfl) ?_
      refine wl_p (r_nilCheck rfl) ?_
      refine wl_p (r_fieldAddr (off := 0) rfl Tryd.runUnderlying135 rfl Tryd.sizeOf25 rfl rfl) ?_
      refine wl_p (r_load (v := sd) h rfl rfl Tryd.isAgg25) ?_
      refine wl_p (r_move rfl) ?_
      refine wl_p (r_move rfl) ?_
      refine wl_p (r_slice_hm (hi := k) (mx := k) hd rfl rfl rfl (by omega) (by omega) Tryd.runUnderlying25 Tryd.sizeOf5) ?_
      refine wl_p (r_assign rfl) ?_
      refine wl_nil ?_
      refine hK10 _ _ ?_
      clear hK10 K10
      refine cw_seq fun K11 hK11 => ?_
      refine cw_region ?_
      refine wl_p (r_move rfl) ?_
      refine wl_p (r_move rfl) ?_
      refine wl_p (r_nilCheck rfl) ?_
      refine wl_p (r_fieldAddr (off := 0) rfl Tryd.runUnderlying135 rfl Tryd.sizeOf25 rfl rfl) ?_
      refine wl_p (r_load (v := sd) h rfl rfl Tryd.isAgg25) ?_
      refine wl_p (r_move rfl) ?_
      refine wl_p (r_slice_l (lo := k) hd rfl rfl (by omega) Tryd.runUnderlying25 Tryd.sizeOf5) ?_
      refine wl_p (r_nilCheck rfl) ?_
      refine wl_p (r_fieldAddr (off := 0) rfl Tryd.runUnderlying135 rfl Tryd.sizeOf25 rfl rfl) ?_
      refine wl_o fun Ko hKo => ?_
      refine op_store h rfl rfl (Sl.cutL hd (by omega)).one (by first | (simp; done) | (exact side_of)) Tryd.sizeOf25 fun w h => ?_
      have h := h.nm
      have h := h.nv
      refine hKo _ _ _ ?_; clear hKo Ko
      refine wl_nil ?_
      refine hK11 _ _ ?_
      clear hK11 K11
      refine cw_seq fun K12 hK12 => ?_
      refine cw_region ?_
      refine wl_p (r_move rfl) ?_
      refine wl_p (r_assign rfl) ?_
      refine wl_nil ?_
      refine hK12 _ _ ?_
      clear hK12 K12
      refine wp_ret ?_
      refine (hQ _ _ _ (res_tmp rfl rfl) ?_).1
      try simp only [List.getD_cons_zero, List.getD_cons_succ]
      rw [rdNext_n hlt]; exact ⟨Sl.cutHM hd (Nat.le_refl _) (by omega), _, Sl.cutL hd (by omega), h⟩

set_option maxHeartbeats 1000000 in
set_option maxRecDepth 100000 in
theorem err_ok {E : Env} {w : World} {F G : List (Nat × Obj)} {r : Nat} {sd : Value} {xs : Bytes} {e : Nat} (hG : ∀ p ∈ G, p ∈ F) (hd : Sl G sd xs) (h : Has E w ((r, vs 135 [sd, i64 (e : Nat)]) :: F)) (hx : xs.length ≤ 1099511627776) : Ret Tryd.prog 57 [ptr r 0] w fun v w' => v = i64 e ∧ Has E w' ((r, vs 135 [sd, i64 (e : Nat)]) :: F) := by
  refine ret_of_wp (l := [ptr r 0, undef, undef, undef, undef, undef, undef, undef, undef]) Tryd.func57 rfl (by simp only [Tryd.ntmps57, List.size_toArray, List.length_cons, List.length_nil, Nat.reduceAdd, Nat.reduceSub, Array.replicate_succ, Array.replicate_zero, List.push_toArray, List.append_toArray, List.nil_append, List.cons_append]) fun Q hQ => ?_
  refine cw_seq fun K1 hK1 => ?_
  refine cw_region ?_
  refine wl_p (r_assign rfl) ?_
  refine wl_nil ?_
  refine hK1 _ _ ?_
  clear hK1 K1
  refine cw_seq fun K2 hK2 => ?_
  refine cw_seq fun K3 hK3 => ?_
  refine cw_region ?_
  refine wl_p (r_move rfl) ?_
  refine wl_p (r_eql_nilptr rfl rfl Tryd.runUnderlying98) ?_
  refine wl_nil ?_
  refine hK3 _ _ ?_
  clear hK3 K3
  refine wp_cond_false rfl ?_
  refine wp_skip ?_
  refine hK2 _ _ ?_
  clear hK2 K2
  refine cw_seq fun K4 hK4 => ?_
  refine cw_region ?_
  refine wl_p (r_move rfl) ?_
  refine wl_p (r_nilCheck rfl) ?_
  refine wl_p (r_fieldAddr (off := 1) rfl Tryd.runUnderlying135 rfl Tryd.sizeOf38 rfl rfl) ?_
  refine wl_p (r_load (v := i64 (e : Nat)) h rfl rfl Tryd.isAgg38) ?_
  refine wl_p (r_assign rfl) ?_
  refine wl_nil ?_
  refine hK4 _ _ ?_
  clear hK4 K4
  refine wp_ret ?_
  refine (hQ _ _ _ (res_tmp rfl rfl) ?_).1
  try simp only [List.getD_cons_zero, List.getD_cons_succ]
  first | exact ⟨rfl, h⟩ | exact ⟨by trivial, h⟩

set_option maxHeartbeats 1000000 in
set_option maxRecDepth 100000 in
theorem left_ok {E : Env} {w : World} {F G : List (Nat × Obj)} {r : Nat} {sd : Value} {xs : Bytes} {e : Nat} (hG : ∀ p ∈ G, p ∈ F) (hd : Sl G sd xs) (h : Has E w ((r, vs 135 [sd, i64 (e : Nat)]) :: F)) (hx : xs.length ≤ 1099511627776) : Ret Tryd.prog 58 [ptr r 0] w fun v w' => v = i64 xs.length ∧ Has E w' ((r, vs 135 [sd, i64 (e : Nat)]) :: F) := by
  refine ret_of_wp (l := [ptr r 0, undef, undef, undef, undef, undef, undef, undef, undef, undef]) Tryd.func58 rfl (by simp only [Tryd.ntmps58, List.size_toArray, List.length_cons, List.length_nil, Nat.reduceAdd, Nat.reduceSub, Array.replicate_succ, Array.replicate_zero, List.push_toArray, List.append_toArray, List.nil_append, List.cons_append]) fun Q hQ => ?_
  refine cw_seq fun K1 hK1 => ?_
  refine cw_region ?_
  refine wl_p (r_assign rfl) ?_
  refine wl_nil ?_
  refine hK1 _ _ ?_
  clear hK1 K1
  refine cw_seq fun K2 hK2 => ?_
  refine cw_seq fun K3 hK3 => ?_
  refine cw_region ?_
  refine wl_p (r_move rfl) ?_
  refine wl_p (r_eql_nilptr rfl rfl Tryd.runUnderlying98) ?_
  refine wl_nil ?_
  refine hK3 _ _ ?_
  clear hK3 K3
  refine wp_cond_false rfl ?_
  refine wp_skip ?_
  refine hK2 _ _ ?_
  clear hK2 K2
  refine cw_seq fun K4 hK4 => ?_
  refine cw_region ?_
  refine wl_p (r_move rfl) ?_
  refine wl_p (r_nilCheck rfl) ?_
  refine wl_p (r_fieldAddr (off := 0) rfl Tryd.runUnderlying135 rfl Tryd.sizeOf25 rfl rfl) ?_
  refine wl_p (r_load (v := sd) h rfl rfl Tryd.isAgg25) ?_
  refine wl_p (r_len_sl rfl hd Tryd.runUnderlying25) ?_
  refine wl_p (r_assign rfl) ?_
  refine wl_nil ?_
  refine hK4 _ _ ?_
  clear hK4 K4
  refine wp_ret ?_
  refine (hQ _ _ _ (res_tmp rfl rfl) ?_).1
  try simp only [List.getD_cons_zero, List.getD_cons_succ]
  first | exact ⟨rfl, h⟩ | exact ⟨by trivial, h⟩

set_option maxHeartbeats 1000000 in
set_option maxRecDepth 100000 in
theorem number_ok {E : Env} {w : World} {F G : List (Nat × Obj)} {r : Nat} {sd : Value} {xs : Bytes} {e : Nat} (hG : ∀ p ∈ G, p ∈ F) (hd : Sl G sd xs) (h : Has E w ((r, vs 135 [sd, i64 (e : Nat)]) :: F)) (hx : xs.length ≤ 1099511627776) (k : Nat) (hk : k ≤ 8) : Ret Tryd.prog 84 [ptr r 0, i64 k] w fun v w' => v = D (beNum (rdNext k (xs, e)).1) ∧ ∃ sd', Sl G sd' (rdNext k (xs, e)).2.1 ∧ Has E w' ((r, vs 135 [sd', i64 ((rdNext k (xs, e)).2.2 : Nat)]) :: F) := by
  refine ret_of_wp (l := [ptr r 0, i64 k, undef, undef, undef, undef, undef, undef, undef, undef, undef, undef, undef, undef, undef, undef, undef, undef, undef, undef, undef, undef, undef, undef, undef, undef]) Tryd.func84 rfl (by simp only [Tryd.ntmps84, List.size_toArray, List.length_cons, List.length_nil, Nat.reduceAdd, Nat.reduceSub, Array.replicate_succ, Array.replicate_zero, List.push_toArray, List.append_toArray, List.nil_append, List.cons_append]) fun Q hQ => ?_
  refine cw_seq fun K1 hK1 => ?_
  refine cw_region ?_
  refine wl_p (r_assign rfl) ?_
  refine wl_nil ?_
  refine hK1 _ _ ?_
  clear hK1 K1
  refine cw_seq fun K2 hK2 => ?_
  refine cw_region ?_
  refine wl_p (r_move rfl) ?_
  refine wl_p (r_makeFuncL (f1 := [ptr r 0]) (c1 := []) rfl rfl) ?_
  refine wl_p (r_assign rfl) ?_
  refine wl_nil ?_
  refine hK2 _ _ ?_
  clear hK2 K2
  refine cw_seq fun K3 hK3 => ?_
  refine cw_region ?_
  refine wl_p (r_assign rfl) ?_
  refine wl_nil ?_
  refine hK3 _ _ ?_
  clear hK3 K3
  refine cw_seq fun K4 hK4 => ?_
  refine cw_seq fun K5 hK5 => ?_
  refine cw_region ?_
  refine wl_p (r_move rfl) ?_
  refine wl_p (r_move rfl) ?_
  refine wl_o fun Ko hKo => ?_
  refine op_callv [_, _] rfl Tryd.call85 rfl (next_ok hG hd h hx k (by omega)) ?_
  clear h; rintro vv w ⟨hv, sd2, hs2, h⟩
  have hyl := rdNext_len k (xs, e)
  obtain ⟨ys, hys⟩ : ∃ ys, ys = (rdNext k (xs, e)).1 := ⟨_, rfl⟩
  obtain ⟨st, hst⟩ : ∃ st, st = (rdNext k (xs, e)).2 := ⟨_, rfl⟩
  rw [← hys] at hv hyl
  rw [← hst] at hs2 h
  refine hKo _ _ _ ?_; clear hKo Ko
  refine wl_p (r_len_sl rfl hv Tryd.runUnderlying25) ?_
  refine wl_p (r_move rfl) ?_
  refine wl_nil ?_
  refine hK5 _ _ ?_
  clear hK5 K5
  refine wp_block ?_
  refine cw_loopf [6, 8, 15, 16, 17, 18, 19, 20, 21, 22, 23, 24] (fun f w n => ∃ i : Nat, i ≤ ys.length ∧ f 15 = i64 i ∧ f 6 = D (beNum (ys.take i)) ∧ Has E w ((r, vs 135 [sd2, i64 (st.2 : Nat)]) :: F) ∧ n = ys.length - i) (ys.length) ⟨0, by omega, rfl, by rw [List.take_zero]; rfl, h, rfl⟩ ?_
  clear h; rintro f w n ⟨i, hi, e15, e6, h, rfl⟩ K6 hK6
  simp only [putFn, List.foldl_cons, List.foldl_nil, List.set_cons_zero, List.set_cons_succ, e15, e6]
  clear e15 e6
  refine cw_seq fun K7 hK7 => ?_
  refine cw_region ?_
  refine wl_p (r_lss   rfl rfl) ?_
  refine wl_nil ?_
  refine hK7 _ _ ?_
  clear hK7 K7
  refine cw_seq fun K8 hK8 => ?_
  refine wp_cond_split rfl (fun hc => ?_) (fun hc => ?_)
  · have hlt := of_decide_eq_true hc; clear hc
    have hil : i < ys.length := by omega
    refine wp_skip ?_
    refine hK8 _ _ ?_
    clear hK8 K8
    refine cw_seq fun K9 hK9 => ?_
    refine wp_block ?_
    refine cw_seq fun K10 hK10 => ?_
    refine cw_region ?_
    refine wl_p (r_elem (j := i) hv rfl rfl (by first | rfl | omega) (by omega) Tryd.runUnderlying25 Tryd.sizeOf5) ?_
    refine wl_p (r_load_elemb h (Rd.cons (hv.mono hG)) rfl (by omega) Tryd.isAgg5) ?_
    refine wl_p (r_assign rfl) ?_
    refine wl_nil ?_
    refine hK10 _ _ ?_
    clear hK10 K10
    refine cw_region ?_
    refine wl_p (r_move rfl) ?_
    refine wl_p (r_shl_D  (n := 8) rfl rfl) ?_
    refine wl_p (r_move rfl) ?_
    refine wl_p (r_conv_BD  rfl Tryd.runUnderlying5 Tryd.runUnderlying73) ?_
    refine wl_p (r_or_D   rfl rfl) ?_
    refine wl_p (r_assign rfl) ?_
    refine wl_nil ?_
    refine hK9 _ _ ?_
    clear hK9 K9
    refine cw_region ?_
    refine wl_p (r_add_n  (n := 1) rfl rfl om_of) ?_
    refine wl_p (r_move rfl) ?_
    refine wl_nil ?_
    refine hK6 _ _ (ys.length - (i + 1)) pfn_of ⟨i + 1, by omega, rfl, ?e6_11, h, rfl⟩ (by omega)
    case e6_11 => rw [beNum_succ hil]; rfl
  · have hlt := of_decide_eq_false hc; clear hc
    have hil : i = ys.length := by omega
    refine wp_exit ?_
    refine hK4 _ _ ?_
    clear hK8 hK6 hK4 K8 K6 K4
    refine cw_seq fun K12 hK12 => ?_
    refine cw_region ?_
    refine wl_p (r_move rfl) ?_
    refine wl_p (r_assign rfl) ?_
    refine wl_nil ?_
    refine hK12 _ _ ?_
    clear hK12 K12
    refine wp_ret ?_
    refine (hQ _ _ _ (res_tmp rfl rfl) ?_).1
    try simp only [List.getD_cons_zero, List.getD_cons_succ]
    rw [hil, List.take_length, ← hys, ← hst]; exact ⟨rfl, sd2, hs2, h⟩

set_option maxHeartbeats 1000000 in
set_option maxRecDepth 100000 in
theorem u32_ok {E : Env} {w : World} {F G : List (Nat × Obj)} {r : Nat} {sd : Value} {xs : Bytes} {e : Nat} (hG : ∀ p ∈ G, p ∈ F) (hd : Sl G sd xs) (h : Has E w ((r, vs 135 [sd, i64 (e : Nat)]) :: F)) (hx : xs.length ≤ 1099511627776) : Ret Tryd.prog 55 [ptr r 0] w fun v w' => v = W ((beNum (rdNext 4 (xs, e)).1).setWidth 32) ∧ ∃ sd', Sl G sd' (rdNext 4 (xs, e)).2.1 ∧ Has E w' ((r, vs 135 [sd', i64 ((rdNext 4 (xs, e)).2.2 : Nat)]) :: F) := by
  refine ret_of_wp (l := [ptr r 0, undef, undef, undef, undef, undef]) Tryd.func55 rfl (by simp only [Tryd.ntmps55, List.size_toArray, List.length_cons, List.length_nil, Nat.reduceAdd, Nat.reduceSub, Array.replicate_succ, Array.replicate_zero, List.push_toArray, List.append_toArray, List.nil_append, List.cons_append]) fun Q hQ => ?_
  refine cw_seq fun K1 hK1 => ?_
  refine cw_region ?_
  refine wl_p (r_assign rfl) ?_
  refine wl_nil ?_
  refine hK1 _ _ ?_
  clear hK1 K1
  refine cw_seq fun K2 hK2 => ?_
  refine cw_region ?_
  refine wl_p (r_move rfl) ?_
  refine wl_o fun Ko hKo => ?_
  refine op_call [_, _] Tryd.call84 rfl (number_ok hG hd h hx 4 (by omega)) ?_
  clear h; rintro _ w ⟨rfl, sd2, hs2, h⟩
  refine hKo _ _ _ ?_; clear hKo Ko
  refine wl_p (r_conv_DW  rfl Tryd.runUnderlying73 Tryd.runUnderlying34) ?_
  refine wl_p (r_assign rfl) ?_
  refine wl_nil ?_
  refine hK2 _ _ ?_
  clear hK2 K2
  refine wp_ret ?_
  refine (hQ _ _ _ (res_tmp rfl rfl) ?_).1
  try simp only [List.getD_cons_zero, List.getD_cons_succ]
  exact ⟨by trivial, sd2, hs2, h⟩

set_option maxHeartbeats 1000000 in
set_option maxRecDepth 100000 in
theorem clone_ok0 {E : Env} {w : World} {F : List (Nat × Obj)} (h : Has E w F) {A : Option Addr} {c : Nat} {xs : Bytes} (hd : Sl F (.slice A xs.length c) xs) (hx : xs.length ≤ 1099511627776) : Ret Tryd.prog 22 [.slice A xs.length c] w fun v w' => ∃ Ls, OwnB 5 v xs Ls ∧ Has E w' (Ls ++ F) := by
  refine ret_of_wp (l := [.slice A xs.length c, undef, undef, undef, undef, undef, undef, undef]) Tryd.func22 rfl (by simp only [Tryd.ntmps22, List.size_toArray, List.length_cons, List.length_nil, Nat.reduceAdd, Nat.reduceSub, Array.replicate_succ, Array.replicate_zero, List.push_toArray, List.append_toArray, List.nil_append, List.cons_append]) fun Q hQ => ?_
  refine cw_seq fun K1 hK1 => ?_
  refine cw_region ?_
  refine wl_p (r_assign rfl) ?_
  refine wl_nil ?_
  refine hK1 _ _ ?_
  clear hK1 K1
  refine cw_seq fun K2 hK2 => ?_
  refine cw_seq fun K3 hK3 => ?_
  refine cw_region ?_
  refine wl_p (r_move rfl) ?_
  refine wl_p (r_eql_slnil rfl rfl Tryd.runUnderlying25) ?_
  refine wl_nil ?_
  refine hK3 _ _ ?_
  clear hK3 K3
  refine wp_cond_split rfl (fun hc => ?_) (fun hc => ?_)
  · have hA := hc; clear hc
    refine cw_seq fun K4 hK4 => ?_
    refine cw_region ?_
    refine wl_p (r_assign rfl) ?_
    refine wl_nil ?_
    refine hK4 _ _ ?_
    clear hK4 K4
    refine wp_ret ?_
    refine (hQ _ _ _ (res_tmp rfl rfl) ?_).1
    try simp only [List.getD_cons_zero, List.getD_cons_succ]
    have hx0 : xs = [] := by
      obtain ⟨_, A2, c2, e, _, hr⟩ := hd
      cases e
      cases xs with
      | nil => rfl
      | cons y ys =>
        obtain ⟨g, off, cs, T, fz, e, _⟩ := hr (by simp)
        rw [e] at hA; cases hA
    subst hx0; exact ⟨[], OwnB.nil, h⟩
  · have hA := hc; clear hc
    refine wp_skip ?_
    refine hK2 _ _ ?_
    clear hK2 K2
    refine cw_seq fun K5 hK5 => ?_
    refine cw_region ?_
    refine wl_o fun Ko hKo => ?_
    refine op_buildSliceB [] h rfl rfl Tryd.runUnderlying25 Tryd.sizeOf5 Tryd.zeroValue5 rfl (by decide) fun b5 w h => ?_
    have h := h.tail
    refine hKo _ _ _ ?_; clear hKo Ko
    refine wl_p (r_move rfl) ?_
    refine wl_o fun Ko hKo => ?_
    refine op_appendB h rfl rfl OwnB.nil (hd) rfl Tryd.runUnderlying25 Tryd.typeInfo5 Tryd.sizeOf5 Tryd.zeroValue5 rfl (by simp only [List.length_nil]; show _ * 1 ≤ _; omega) (by simp only [List.length_nil]; omega) fun s7 L7 w ho7 h => ?_
    refine hKo _ _ _ ?_; clear hKo Ko
    refine wl_p (r_assign rfl) ?_
    refine wl_nil ?_
    refine hK5 _ _ ?_
    clear hK5 K5
    refine wp_ret ?_
    refine (hQ _ _ _ (res_tmp rfl rfl) ?_).1
    try simp only [List.getD_cons_zero, List.getD_cons_succ]
    exact ⟨L7, ho7, h⟩

theorem clone_ok {E : Env} {w : World} {F : List (Nat × Obj)} (h : Has E w F) {s : Value} {xs : Bytes} (hd : Sl F s xs) (hx : xs.length ≤ 1099511627776) : Ret Tryd.prog 22 [s] w fun v w' => ∃ Ls, OwnB 5 v xs Ls ∧ Has E w' (Ls ++ F) := by
  obtain ⟨A, c, rfl, _⟩ := hd.get
  exact clone_ok0 h hd hx

set_option maxHeartbeats 1000000 in
set_option maxRecDepth 100000 in
theorem take_ok {E : Env} {w : World} {F G : List (Nat × Obj)} {r : Nat} {sd : Value} {xs : Bytes} {e : Nat} (hG : ∀ p ∈ G, p ∈ F) (hd : Sl G sd xs) (h : Has E w ((r, vs 135 [sd, i64 (e : Nat)]) :: F)) (hx : xs.length ≤ 1099511627776) (k : Nat) (hk : k ≤ 65536) : Ret Tryd.prog 56 [ptr r 0, i64 k] w fun v w' => ∃ Ls, OwnB 5 v (rdNext k (xs, e)).1 Ls ∧ ∃ sd', Sl G sd' (rdNext k (xs, e)).2.1 ∧ Has E w' (Ls ++ (r, vs 135 [sd', i64 ((rdNext k (xs, e)).2.2 : Nat)]) :: F) := by
  refine ret_of_wp (l := [ptr r 0, i64 k, undef, undef, undef, undef, undef, undef, undef]) Tryd.func56 rfl (by simp only [Tryd.ntmps56, List.size_toArray, List.length_cons, List.length_nil, Nat.reduceAdd, Nat.reduceSub, Array.replicate_succ, Array.replicate_zero, List.push_toArray, List.append_toArray, List.nil_append, List.cons_append]) fun Q hQ => ?_
  refine cw_seq fun K1 hK1 => ?_
  refine cw_region ?_
  refine wl_p (r_assign rfl) ?_
  refine wl_nil ?_
  refine hK1 _ _ ?_
  clear hK1 K1
  refine cw_seq fun K2 hK2 => ?_
  refine cw_region ?_
  refine wl_p (r_move rfl) ?_
  refine wl_p (r_move rfl) ?_
  refine wl_o fun Ko hKo => ?_
  refine op_call [_, _] Tryd.call85 rfl (next_ok hG hd h hx k hk) ?_
  clear h; rintro vv w ⟨hv, sd2, hs2, h⟩
  refine hKo _ _ _ ?_; clear hKo Ko
  refine wl_o fun Ko hKo => ?_
  refine op_call [_] Tryd.call22 rfl (clone_ok h (Rd.cons (hv.mono hG)) (Nat.le_trans (rdNext_len k (xs, e)) (by omega))) ?_
  clear h; rintro cv w ⟨Ls, ho, h⟩
  refine hKo _ _ _ ?_; clear hKo Ko
  refine wl_p (r_assign rfl) ?_
  refine wl_nil ?_
  refine hK2 _ _ ?_
  clear hK2 K2
  refine wp_ret ?_
  refine (hQ _ _ _ (res_tmp rfl rfl) ?_).1
  try simp only [List.getD_cons_zero, List.getD_cons_succ]
  exact ⟨Ls, ho, sd2, hs2, h⟩

end Go.Proofs.YtjdfenlmifhhdaaDoor
