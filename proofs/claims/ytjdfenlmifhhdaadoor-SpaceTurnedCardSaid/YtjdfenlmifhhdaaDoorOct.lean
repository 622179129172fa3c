/-
  Walks, printed by mk.py (a program of this work) out of specs6.py: what the Go functions compute, and that nobody else's memory turns. Condition: none.
-/
import Derived.Test.YtjdfenlmifhhdaaDoorProg
import Derived.Test.YtjdfenlmifhhdaaDoorAuto
import Derived.Test.YtjdfenlmifhhdaaDoorWalk2
import Derived.Test.YtjdfenlmifhhdaaDoorPure
namespace Go.Proofs.YtjdfenlmifhhdaaDoor
open Go.RowKit

attribute [local irreducible] be padTo isNought
set_option maxHeartbeats 1000000 in
set_option maxRecDepth 100000 in
theorem put_ok {E : Env} {w : World} {F : List (Nat × Obj)} (h : Has E w F) (x : BitVec 64) (k : Nat) (hk : k ≤ 8) : Ret Tryd.prog 75 [D x, i64 k] w fun v w' => ∃ Ls, OwnB 5 v (be k x) Ls ∧ Has E w' (Ls ++ F) := by
  refine ret_of_wp (l := [D x, i64 k, undef, undef, undef, undef, undef, undef, undef, undef, undef, undef, undef, undef, undef, undef, undef, undef, undef, undef, undef, undef, undef, undef, undef, undef]) Tryd.func75 rfl (by simp only [Tryd.ntmps75, List.size_toArray, List.length_cons, List.length_nil, Nat.reduceAdd, Nat.reduceSub, Array.replicate_succ, Array.replicate_zero, List.push_toArray, List.append_toArray, List.nil_append, List.cons_append]) fun Q hQ => ?_
  refine cw_seq fun K1 hK1 => ?_
  refine cw_region ?_
  refine wl_p (r_assign rfl) ?_
  refine wl_nil ?_
  refine hK1 _ _ ?_
  clear hK1 K1
  refine cw_seq fun K2 hK2 => ?_
  refine cw_region ?_
  refine wl_p (r_move rfl) ?_
  refine wl_o fun Ko hKo => ?_
  refine op_makeB (p := k) (q := k) h rfl rfl (by omega) Tryd.runUnderlying25 Tryd.typeInfo5 (by show _ * 1 ≤ _; first | omega | (exact side_of)) (by omega) Tryd.sizeOf5 Tryd.zeroValue5 fun b8 w h => ?_
  refine hKo _ _ _ ?_; clear hKo Ko
  refine wl_p (r_assign rfl) ?_
  refine wl_nil ?_
  refine hK2 _ _ ?_
  clear hK2 K2
  refine cw_seq fun K3 hK3 => ?_
  refine cw_seq fun K4 hK4 => ?_
  refine cw_region ?_
  refine wl_p (r_move rfl) ?_
  refine wl_p (r_len_v rfl Tryd.runUnderlying25) ?_
  refine wl_p (r_move rfl) ?_
  refine wl_nil ?_
  refine hK4 _ _ ?_
  clear hK4 K4
  refine wp_block ?_
  refine cw_loopf [0, 6, 11, 12, 13, 14, 15, 16, 17, 18, 19, 20, 21, 22, 23, 24] (fun f w n => ∃ i : Nat, i ≤ k ∧ f 11 = i64 i ∧ f 0 = D (iter (beStep k) i (zeros k, x)).2 ∧ Has E w ((b8, bs 5 (iter (beStep k) i (zeros k, x)).1) :: F) ∧ n = k - i) (k) ⟨0, by omega, rfl, rfl, h, rfl⟩ ?_
  clear h; rintro f w n ⟨i, hi, e11, e0, h, rfl⟩ K5 hK5
  simp only [putFn, List.foldl_cons, List.foldl_nil, List.set_cons_zero, List.set_cons_succ, e11, e0]
  clear e11 e0
  have hl := be_len k x i
  have hsucc := iter_succ (beStep k) i (zeros k, x)
  obtain ⟨y, hy⟩ : ∃ y, y = iter (beStep k) i (zeros k, x) := ⟨_, rfl⟩
  rw [← hy] at h hl hsucc
  simp only [← hy]
  refine cw_seq fun K6 hK6 => ?_
  refine cw_region ?_
  refine wl_p (r_lss   rfl rfl) ?_
  refine wl_nil ?_
  refine hK6 _ _ ?_
  clear hK6 K6
  refine cw_seq fun K7 hK7 => ?_
  refine wp_cond_split rfl (fun hc => ?_) (fun hc => ?_)
  · have hlt := of_decide_eq_true hc; clear hc
    have hik : i < k := by omega
    refine wp_skip ?_
    refine hK7 _ _ ?_
    clear hK7 K7
    refine cw_seq fun K8 hK8 => ?_
    refine wp_block ?_
    refine cw_seq fun K9 hK9 => ?_
    refine cw_region ?_
    refine wl_p (r_move rfl) ?_
    refine wl_p (r_assign rfl) ?_
    refine wl_nil ?_
    refine hK9 _ _ ?_
    clear hK9 K9
    refine cw_seq fun K10 hK10 => ?_
    refine cw_region ?_
    refine wl_p (r_move rfl) ?_
    refine wl_p (r_move rfl) ?_
    refine wl_p (r_sub_n (m := k)  (n := 1)  rfl rfl om_of om_of) ?_
    refine wl_p (r_move rfl) ?_
    refine wl_p (r_sub_n (m := k - 1)  (n := i)  rfl rfl om_of om_of) ?_
    refine wl_p (r_move rfl) ?_
    refine wl_p (r_conv_DB  rfl Tryd.runUnderlying73 Tryd.runUnderlying5) ?_
    refine wl_p (r_indexAddr_sl (j := k - 1 - i) rfl rfl Tryd.runUnderlying25 Tryd.sizeOf5 (by first | rfl | omega) (by omega)) ?_
    refine wl_o fun Ko hKo => ?_
    refine op_store_b h rfl rfl (by omega) Tryd.sizeOf5 fun w h => ?_
    have h := h.nm
    refine hKo _ _ _ ?_; clear hKo Ko
    refine wl_nil ?_
    refine hK10 _ _ ?_
    clear hK10 K10
    refine cw_region ?_
    refine wl_p (r_move rfl) ?_
    refine wl_p (r_shr_D  (n := 8) rfl rfl) ?_
    refine wl_p (r_assign rfl) ?_
    refine wl_nil ?_
    refine hK8 _ _ ?_
    clear hK8 K8
    refine cw_region ?_
    refine wl_p (r_add_n  (n := 1) rfl rfl om_of) ?_
    refine wl_p (r_move rfl) ?_
    refine wl_nil ?_
    refine hK5 _ _ (k - (i + 1)) pfn_of ⟨i + 1, by omega, rfl, ?e0_11, ?hh_11, rfl⟩ (by omega)
    case e0_11 => rw [hsucc]; rfl
    case hh_11 => rw [hsucc]; exact h
  · have hlt := of_decide_eq_false hc; clear hc
    have hik : i = k := by omega
    refine wp_exit ?_
    refine hK3 _ _ ?_
    clear hK7 hK5 hK3 K7 K5 K3
    refine cw_seq fun K12 hK12 => ?_
    refine cw_region ?_
    refine wl_p (r_move rfl) ?_
    refine wl_p (r_assign rfl) ?_
    refine wl_nil ?_
    refine hK12 _ _ ?_
    clear hK12 K12
    refine wp_ret ?_
    refine (hQ _ _ _ (res_tmp rfl rfl) ?_).1
    try simp only [List.getD_cons_zero, List.getD_cons_succ]
    have e : y.1 = be k x := by rw [hy, hik, be_def]
    exact ⟨[_], by rw [← e]; exact OwnB.block hl, h⟩

set_option maxHeartbeats 1000000 in
set_option maxRecDepth 100000 in
theorem put16_ok {E : Env} {w : World} {F : List (Nat × Obj)} (h : Has E w F) (x : BitVec 16) : Ret Tryd.prog 65 [H x] w fun v w' => ∃ Ls, OwnB 5 v (be 2 (x.setWidth 64)) Ls ∧ Has E w' (Ls ++ F) := by
  refine ret_of_wp (l := [H x, undef, undef, undef, undef, undef]) Tryd.func65 rfl (by simp only [Tryd.ntmps65, List.size_toArray, List.length_cons, List.length_nil, Nat.reduceAdd, Nat.reduceSub, Array.replicate_succ, Array.replicate_zero, List.push_toArray, List.append_toArray, List.nil_append, List.cons_append]) fun Q hQ => ?_
  refine cw_seq fun K1 hK1 => ?_
  refine cw_region ?_
  refine wl_p (r_assign rfl) ?_
  refine wl_nil ?_
  refine hK1 _ _ ?_
  clear hK1 K1
  refine cw_seq fun K2 hK2 => ?_
  refine cw_region ?_
  refine wl_p (r_move rfl) ?_
  refine wl_p (r_conv_HD  rfl Tryd.runUnderlying51 Tryd.runUnderlying73) ?_
  refine wl_o fun Ko hKo => ?_
  refine op_call [_, _] Tryd.call75 rfl (put_ok h (x.setWidth 64) 2 (by omega)) ?_
  clear h; rintro v w ⟨Ls, ho, h⟩
  refine hKo _ _ _ ?_; clear hKo Ko
  refine wl_p (r_assign rfl) ?_
  refine wl_nil ?_
  refine hK2 _ _ ?_
  clear hK2 K2
  refine wp_ret ?_
  refine (hQ _ _ _ (res_tmp rfl rfl) ?_).1
  try simp only [List.getD_cons_zero, List.getD_cons_succ]
  exact ⟨Ls, ho, h⟩

set_option maxHeartbeats 1000000 in
set_option maxRecDepth 100000 in
theorem put32_ok {E : Env} {w : World} {F : List (Nat × Obj)} (h : Has E w F) (x : BitVec 32) : Ret Tryd.prog 47 [W x] w fun v w' => ∃ Ls, OwnB 5 v (be 4 (x.setWidth 64)) Ls ∧ Has E w' (Ls ++ F) := by
  refine ret_of_wp (l := [W x, undef, undef, undef, undef, undef]) Tryd.func47 rfl (by simp only [Tryd.ntmps47, List.size_toArray, List.length_cons, List.length_nil, Nat.reduceAdd, Nat.reduceSub, Array.replicate_succ, Array.replicate_zero, List.push_toArray, List.append_toArray, List.nil_append, List.cons_append]) fun Q hQ => ?_
  refine cw_seq fun K1 hK1 => ?_
  refine cw_region ?_
  refine wl_p (r_assign rfl) ?_
  refine wl_nil ?_
  refine hK1 _ _ ?_
  clear hK1 K1
  refine cw_seq fun K2 hK2 => ?_
  refine cw_region ?_
  refine wl_p (r_move rfl) ?_
  refine wl_p (r_conv_WD  rfl Tryd.runUnderlying34 Tryd.runUnderlying73) ?_
  refine wl_o fun Ko hKo => ?_
  refine op_call [_, _] Tryd.call75 rfl (put_ok h (x.setWidth 64) 4 (by omega)) ?_
  clear h; rintro v w ⟨Ls, ho, h⟩
  refine hKo _ _ _ ?_; clear hKo Ko
  refine wl_p (r_assign rfl) ?_
  refine wl_nil ?_
  refine hK2 _ _ ?_
  clear hK2 K2
  refine wp_ret ?_
  refine (hQ _ _ _ (res_tmp rfl rfl) ?_).1
  try simp only [List.getD_cons_zero, List.getD_cons_succ]
  exact ⟨Ls, ho, h⟩

set_option maxHeartbeats 1000000 in
set_option maxRecDepth 100000 in
theorem put64_ok {E : Env} {w : World} {F : List (Nat × Obj)} (h : Has E w F) (x : BitVec 64) : Ret Tryd.prog 89 [D x] w fun v w' => ∃ Ls, OwnB 5 v (be 8 x) Ls ∧ Has E w' (Ls ++ F) := by
  refine ret_of_wp (l := [D x, undef, undef, undef, undef]) Tryd.func89 rfl (by simp only [Tryd.ntmps89, List.size_toArray, List.length_cons, List.length_nil, Nat.reduceAdd, Nat.reduceSub, Array.replicate_succ, Array.replicate_zero, List.push_toArray, List.append_toArray, List.nil_append, List.cons_append]) fun Q hQ => ?_
  refine cw_seq fun K1 hK1 => ?_
  refine cw_region ?_
  refine wl_p (r_assign rfl) ?_
  refine wl_nil ?_
  refine hK1 _ _ ?_
  clear hK1 K1
  refine cw_seq fun K2 hK2 => ?_
  refine cw_region ?_
  refine wl_p (r_move rfl) ?_
  refine wl_o fun Ko hKo => ?_
  refine op_call [_, _] Tryd.call75 rfl (put_ok h x 8 (by omega)) ?_
  clear h; rintro v w ⟨Ls, ho, h⟩
  refine hKo _ _ _ ?_; clear hKo Ko
  refine wl_p (r_assign rfl) ?_
  refine wl_nil ?_
  refine hK2 _ _ ?_
  clear hK2 K2
  refine wp_ret ?_
  refine (hQ _ _ _ (res_tmp rfl rfl) ?_).1
  try simp only [List.getD_cons_zero, List.getD_cons_succ]
  exact ⟨Ls, ho, h⟩

set_option maxHeartbeats 1000000 in
set_option maxRecDepth 100000 in
theorem pad_ok {E : Env} {w : World} {F : List (Nat × Obj)} (h : Has E w F) {sd : Value} {xs : Bytes} (hd : Sl F sd xs) (k : Nat) (hk : k ≤ 65536) (hx : xs.length ≤ k) : Ret Tryd.prog 42 [sd, i64 k] w fun v w' => ∃ so Ls, v = .tuple #[so, i64 0] ∧ OwnB 5 so (padTo k xs) Ls ∧ Has E w' (Ls ++ F) := by
  refine ret_of_wp (l := [sd, i64 k, undef, undef, undef, undef, undef, undef, undef, undef, undef, undef, undef, undef, undef, undef, undef, undef, undef, undef, undef, undef, undef, undef, undef]) Tryd.func42 rfl (by simp only [Tryd.ntmps42, List.size_toArray, List.length_cons, List.length_nil, Nat.reduceAdd, Nat.reduceSub, Array.replicate_succ, Array.replicate_zero, List.push_toArray, List.append_toArray, List.nil_append, List.cons_append]) fun Q hQ => ?_
  refine cw_seq fun K1 hK1 => ?_
  refine cw_region ?_
  refine wl_p (r_assign rfl) ?_
  refine wl_p (r_assign rfl) ?_
  refine wl_nil ?_
  refine hK1 _ _ ?_
  clear hK1 K1
  refine cw_seq fun K2 hK2 => ?_
  refine wp_block ?_
  refine cw_seq fun K3 hK3 => ?_
  refine cw_region ?_
  refine wl_p (r_move rfl) ?_
  refine wl_p (r_lss_f  (n := 0) rfl rfl (by omega)) ?_
  refine wl_p (r_move rfl) ?_
  refine wl_pw (r_move rfl) ?_
  refine wl_pw (r_gtr_f  (n := 65536) rfl rfl (by omega)) ?_
  refine wl_p (r_pick_f rfl rfl) ?_
  refine wl_p (r_assign rfl) ?_
  refine wl_nil ?_
  refine hK3 _ _ ?_
  clear hK3 K3
  refine wp_cond_false rfl ?_
  refine cw_seq fun K4 hK4 => ?_
  refine cw_region ?_
  refine wl_p (r_move rfl) ?_
  refine wl_p (r_len_sl rfl hd Tryd.runUnderlying25) ?_
  refine wl_p (r_move rfl) ?_
  refine wl_p (r_gtr_f   rfl rfl (by omega)) ?_
  refine wl_p (r_assign rfl) ?_
  refine wl_nil ?_
  refine hK4 _ _ ?_
  clear hK4 K4
  refine wp_cond_false rfl ?_
  refine wp_skip ?_
  refine hK2 _ _ ?_
  clear hK2 K2
  refine cw_seq fun K5 hK5 => ?_
  refine cw_region ?_
  refine wl_p (r_move rfl) ?_
  refine wl_o fun Ko hKo => ?_
  refine op_makeB (p := k) (q := k) h rfl rfl (by omega) Tryd.runUnderlying25 Tryd.typeInfo5 (by show _ * 1 ≤ _; first | omega | (exact side_of)) (by omega) Tryd.sizeOf5 Tryd.zeroValue5 fun b20 w h => ?_
  refine hKo _ _ _ ?_; clear hKo Ko
  refine wl_p (r_assign rfl) ?_
  refine wl_nil ?_
  refine hK5 _ _ ?_
  clear hK5 K5
  refine cw_seq fun K6 hK6 => ?_
  refine cw_region ?_
  refine wl_p (r_move rfl) ?_
  refine wl_p (r_move rfl) ?_
  refine wl_o fun Ko hKo => ?_
  refine op_copyB (q := xs.length) h rfl rfl (hd.cons) Tryd.runUnderlying25 Tryd.sizeOf5 (by omega) (by simp only [List.length_replicate]; omega) fun w h => ?_
  have h := h.nm
  have e : xs.take xs.length ++ List.drop xs.length (List.replicate k (0 : BitVec 8)) = padTo k xs := by rw [List.take_length, List.drop_replicate, padTo_def]
  rw [e] at h
  refine hKo _ _ _ ?_; clear hKo Ko
  refine wl_nil ?_
  refine hK6 _ _ ?_
  clear hK6 K6
  refine cw_seq fun K7 hK7 => ?_
  refine cw_region ?_
  refine wl_p (r_move rfl) ?_
  refine wl_p (r_assign rfl) ?_
  refine wl_p (r_assign rfl) ?_
  refine wl_nil ?_
  refine hK7 _ _ ?_
  clear hK7 K7
  refine wp_ret ?_
  refine (hQ _ _ _ (res_tmp2 rfl rfl rfl) ?_).1
  try simp only [List.getD_cons_zero, List.getD_cons_succ]
  exact ⟨_, [_], rfl, OwnB.block (padTo_len k xs hx), h⟩

set_option maxHeartbeats 1000000 in
set_option maxRecDepth 100000 in
theorem pad_long {E : Env} {w : World} {F : List (Nat × Obj)} (h : Has E w F) {sd : Value} {xs : Bytes} (hd : Sl F sd xs) (k : Nat) (hk : k ≤ 65536) (hx : k < xs.length) : Ret Tryd.prog 42 [sd, i64 k] w fun v w' => v = .tuple #[.slice none 0 0, i64 5] ∧ Has E w' F := by
  refine ret_of_wp (l := [sd, i64 k, undef, undef, undef, undef, undef, undef, undef, undef, undef, undef, undef, undef, undef, undef, undef, undef, undef, undef, undef, undef, undef, undef, undef]) Tryd.func42 rfl (by simp only [Tryd.ntmps42, List.size_toArray, List.length_cons, List.length_nil, Nat.reduceAdd, Nat.reduceSub, Array.replicate_succ, Array.replicate_zero, List.push_toArray, List.append_toArray, List.nil_append, List.cons_append]) fun Q hQ => ?_
  refine cw_seq fun K1 hK1 => ?_
  refine cw_region ?_
  refine wl_p (r_assign rfl) ?_
  refine wl_p (r_assign rfl) ?_
  refine wl_nil ?_
  refine hK1 _ _ ?_
  clear hK1 K1
  refine cw_seq fun K2 hK2 => ?_
  refine wp_block ?_
  refine cw_seq fun K3 hK3 => ?_
  refine cw_region ?_
  refine wl_p (r_move rfl) ?_
  refine wl_p (r_lss_f  (n := 0) rfl rfl (by omega)) ?_
  refine wl_p (r_move rfl) ?_
  refine wl_pw (r_move rfl) ?_
  refine wl_pw (r_gtr_f  (n := 65536) rfl rfl (by omega)) ?_
  refine wl_p (r_pick_f rfl rfl) ?_
  refine wl_p (r_assign rfl) ?_
  refine wl_nil ?_
  refine hK3 _ _ ?_
  clear hK3 K3
  refine wp_cond_false rfl ?_
  refine cw_seq fun K4 hK4 => ?_
  refine cw_region ?_
  refine wl_p (r_move rfl) ?_
  refine wl_p (r_len_sl rfl hd Tryd.runUnderlying25) ?_
  refine wl_p (r_move rfl) ?_
  refine wl_p (r_gtr_t   rfl rfl (by omega)) ?_
  refine wl_p (r_assign rfl) ?_
  refine wl_nil ?_
  refine hK4 _ _ ?_
  clear hK4 K4
  refine wp_cond_true rfl ?_
  refine cw_seq fun K5 hK5 => ?_
  refine cw_region ?_
  refine wl_p (r_assign rfl) ?_
  refine wl_p (r_assign rfl) ?_
  refine wl_nil ?_
  refine hK5 _ _ ?_
  clear hK5 K5
  refine wp_ret ?_
  refine (hQ _ _ _ (res_tmp2 rfl rfl rfl) ?_).1
  try simp only [List.getD_cons_zero, List.getD_cons_succ]
  exact ⟨by trivial, h⟩

set_option maxHeartbeats 1000000 in
set_option maxRecDepth 100000 in
theorem nought1_ok {w : World} (x : BitVec 8) : Ret Tryd.prog 60 [B x] w fun v w' => v = .bool (decide (x ≠ 0#8)) ∧ w' = w := by
  refine ret_of_wp (l := [B x, undef, undef, undef, undef]) Tryd.func60 rfl (by simp only [Tryd.ntmps60, List.size_toArray, List.length_cons, List.length_nil, Nat.reduceAdd, Nat.reduceSub, Array.replicate_succ, Array.replicate_zero, List.push_toArray, List.append_toArray, List.nil_append, List.cons_append]) fun Q hQ => ?_
  refine cw_seq fun K1 hK1 => ?_
  refine cw_region ?_
  refine wl_p (r_assign rfl) ?_
  refine wl_nil ?_
  refine hK1 _ _ ?_
  clear hK1 K1
  refine cw_seq fun K2 hK2 => ?_
  refine cw_region ?_
  refine wl_p (r_move rfl) ?_
  refine wl_p (r_neq_B  (q := 0#8) rfl rfl) ?_
  refine wl_p (r_assign rfl) ?_
  refine wl_nil ?_
  refine hK2 _ _ ?_
  clear hK2 K2
  refine wp_ret ?_
  refine (hQ _ _ _ (res_tmp rfl rfl) ?_).1
  try simp only [List.getD_cons_zero, List.getD_cons_succ]
  exact ⟨by trivial, by trivial⟩

set_option maxHeartbeats 1000000 in
set_option maxRecDepth 100000 in
theorem indexf_ok {E : Env} {w : World} {F : List (Nat × Obj)} (h : Has E w F) {sd : Value} {xs : Bytes} (hd : Sl F sd xs) (hx : xs.length ≤ 65536) : Ret Tryd.prog 86 [sd, .func (.func 60) #[] #[]] w fun v w' => ∃ z : Int, v = i64 z ∧ decide (z ≥ 0) = !isNought xs ∧ Has E w' F := by
  refine ret_of_wp (l := [sd, .func (.func 60) #[] #[], undef, undef, undef, undef, undef, undef, undef, undef, undef, undef, undef, undef, undef, undef, undef, undef, undef]) Tryd.func86 rfl (by simp only [Tryd.ntmps86, List.size_toArray, List.length_cons, List.length_nil, Nat.reduceAdd, Nat.reduceSub, Array.replicate_succ, Array.replicate_zero, List.push_toArray, List.append_toArray, List.nil_append, List.cons_append]) fun Q hQ => ?_
  refine cw_seq fun K1 hK1 => ?_
  refine cw_region ?_
  refine wl_p (r_assign rfl) ?_
  refine wl_nil ?_
  refine hK1 _ _ ?_
  clear hK1 K1
  refine cw_seq fun K2 hK2 => ?_
  refine cw_seq fun K3 hK3 => ?_
  refine cw_region ?_
  refine wl_p (r_move rfl) ?_
  refine wl_p (r_len_sl rfl hd Tryd.runUnderlying25) ?_
  refine wl_p (r_move rfl) ?_
  refine wl_nil ?_
  refine hK3 _ _ ?_
  clear hK3 K3
  refine wp_block ?_
  refine cw_loopf [4, 5, 8, 9, 10, 11, 12, 13, 14, 15, 16, 17, 18] (fun f w n => ∃ i : Nat, i ≤ xs.length ∧ f 8 = i64 i ∧ (∀ j, j < i → xs.getD j 0 = 0#8) ∧ Has E w F ∧ n = xs.length - i) (xs.length) ⟨0, by omega, rfl, fun j hj => by omega, h, rfl⟩ ?_
  clear h; rintro f w n ⟨i, hi, e8, hz, h, rfl⟩ K4 hK4
  simp only [putFn, List.foldl_cons, List.foldl_nil, List.set_cons_zero, List.set_cons_succ, e8]
  clear e8
  refine cw_seq fun K5 hK5 => ?_
  refine cw_region ?_
  refine wl_p (r_lss   rfl rfl) ?_
  refine wl_nil ?_
  refine hK5 _ _ ?_
  clear hK5 K5
  refine cw_seq fun K6 hK6 => ?_
  refine wp_cond_split rfl (fun hc => ?_) (fun hc => ?_)
  · have hlt := of_decide_eq_true hc; clear hc
    have hil : i < xs.length := by omega
    refine wp_skip ?_
    refine hK6 _ _ ?_
    clear hK6 K6
    refine cw_seq fun K7 hK7 => ?_
    refine wp_block ?_
    refine cw_seq fun K8 hK8 => ?_
    refine cw_region ?_
    refine wl_p (r_move rfl) ?_
    refine wl_p (r_assign rfl) ?_
    refine wl_nil ?_
    refine hK8 _ _ ?_
    clear hK8 K8
    refine cw_seq fun K9 hK9 => ?_
    refine cw_region ?_
    refine wl_p (r_move rfl) ?_
    refine wl_p (r_move rfl) ?_
    refine wl_p (r_move rfl) ?_
    refine wl_p (r_elem (j := i) hd rfl rfl (by first | rfl | omega) (by omega) Tryd.runUnderlying25 Tryd.sizeOf5) ?_
    refine wl_p (r_load_elemb h hd rfl (by omega) Tryd.isAgg5) ?_
    refine wl_o fun Ko hKo => ?_
    refine op_callv [_] rfl Tryd.call60 rfl (nought1_ok _) ?_
    rintro _ w ⟨rfl, rfl⟩
    refine hKo _ _ _ ?_; clear hKo Ko
    refine wl_nil ?_
    refine hK9 _ _ ?_
    clear hK9 K9
    refine wp_cond_split rfl (fun hc => ?_) (fun hc => ?_)
    · have hnz := of_decide_eq_true hc; clear hc
      refine cw_seq fun K10 hK10 => ?_
      refine cw_region ?_
      refine wl_p (r_move rfl) ?_
      refine wl_p (r_assign rfl) ?_
      refine wl_nil ?_
      refine hK10 _ _ ?_
      clear hK10 K10
      refine wp_ret ?_
      refine (hQ _ _ _ (res_tmp rfl rfl) ?_).1
      try simp only [List.getD_cons_zero, List.getD_cons_succ]
      exact ⟨_, rfl, by rw [isNought_f hil hnz]; simp, h⟩
    · have hnz := of_decide_eq_false hc; clear hc
      refine wp_skip ?_
      refine hK7 _ _ ?_
      clear hK7 K7
      refine cw_region ?_
      refine wl_p (r_add_n  (n := 1) rfl rfl om_of) ?_
      refine wl_p (r_move rfl) ?_
      refine wl_nil ?_
      refine hK4 _ _ (xs.length - (i + 1)) pfn_of ⟨i + 1, by omega, rfl, ?hz_11, h, rfl⟩ (by omega)
      case hz_11 => intro j hj; rcases Nat.lt_or_eq_of_le (Nat.le_of_lt_succ hj) with hj | rfl; exact hz j hj; exact Classical.not_not.1 hnz
  · have hlt := of_decide_eq_false hc; clear hc
    have hil : i = xs.length := by omega
    refine wp_exit ?_
    refine hK2 _ _ ?_
    clear hK6 hK4 hK2 K6 K4 K2
    refine cw_seq fun K12 hK12 => ?_
    refine cw_region ?_
    refine wl_p (r_assign rfl) ?_
    refine wl_nil ?_
    refine hK12 _ _ ?_
    clear hK12 K12
    refine wp_ret ?_
    refine (hQ _ _ _ (res_tmp rfl rfl) ?_).1
    try simp only [List.getD_cons_zero, List.getD_cons_succ]
    exact ⟨_, rfl, by rw [isNought_t (by rw [← hil]; exact hz)]; rfl, h⟩

set_option maxHeartbeats 1000000 in
set_option maxRecDepth 100000 in
theorem contains_ok {E : Env} {w : World} {F : List (Nat × Obj)} (h : Has E w F) {sd : Value} {xs : Bytes} (hd : Sl F sd xs) (hx : xs.length ≤ 65536) : Ret Tryd.prog 59 [sd, .func (.func 60) #[] #[]] w fun v w' => v = .bool (!isNought xs) ∧ Has E w' F := by
  refine ret_of_wp (l := [sd, .func (.func 60) #[] #[], undef, undef, undef, undef, undef, undef, undef]) Tryd.func59 rfl (by simp only [Tryd.ntmps59, List.size_toArray, List.length_cons, List.length_nil, Nat.reduceAdd, Nat.reduceSub, Array.replicate_succ, Array.replicate_zero, List.push_toArray, List.append_toArray, List.nil_append, List.cons_append]) fun Q hQ => ?_
  refine cw_seq fun K1 hK1 => ?_
  refine cw_region ?_
  refine wl_p (r_assign rfl) ?_
  refine wl_nil ?_
  refine hK1 _ _ ?_
  clear hK1 K1
  refine cw_seq fun K2 hK2 => ?_
  refine cw_region ?_
  refine wl_p (r_move rfl) ?_
  refine wl_p (r_move rfl) ?_
  refine wl_o fun Ko hKo => ?_
  refine op_call [_, _] Tryd.call86 rfl (indexf_ok h hd hx) ?_
  clear h; rintro _ w ⟨z, rfl, hz, h⟩
  refine hKo _ _ _ ?_; clear hKo Ko
  refine wl_p (r_geq  (n := 0) rfl rfl) ?_
  refine wl_p (r_assign rfl) ?_
  refine wl_nil ?_
  refine hK2 _ _ ?_
  clear hK2 K2
  refine wp_ret ?_
  refine (hQ _ _ _ (res_tmp rfl rfl) ?_).1
  try simp only [List.getD_cons_zero, List.getD_cons_succ]
  exact ⟨by rw [← hz], h⟩

set_option maxHeartbeats 1000000 in
set_option maxRecDepth 100000 in
theorem nought_ok {E : Env} {w : World} {F : List (Nat × Obj)} (h : Has E w F) {sd : Value} {xs : Bytes} (hd : Sl F sd xs) (hx : xs.length ≤ 65536) : Ret Tryd.prog 35 [sd] w fun v w' => v = .bool (isNought xs) ∧ Has E w' F := by
  refine ret_of_wp (l := [sd, undef, undef, undef, undef, undef]) Tryd.func35 rfl (by simp only [Tryd.ntmps35, List.size_toArray, List.length_cons, List.length_nil, Nat.reduceAdd, Nat.reduceSub, Array.replicate_succ, Array.replicate_zero, List.push_toArray, List.append_toArray, List.nil_append, List.cons_append]) fun Q hQ => ?_
  refine cw_seq fun K1 hK1 => ?_
  refine cw_region ?_
  refine wl_p (r_assign rfl) ?_
  refine wl_nil ?_
  refine hK1 _ _ ?_
  clear hK1 K1
  refine cw_seq fun K2 hK2 => ?_
  refine cw_region ?_
  refine wl_p (r_move rfl) ?_
  refine wl_o fun Ko hKo => ?_
  refine op_call [_, _] Tryd.call59 rfl (contains_ok h hd hx) ?_
  clear h; rintro _ w ⟨rfl, h⟩
  refine hKo _ _ _ ?_; clear hKo Ko
  refine wl_p (r_not rfl) ?_
  refine wl_p (r_assign rfl) ?_
  refine wl_nil ?_
  refine hK2 _ _ ?_
  clear hK2 K2
  refine wp_ret ?_
  refine (hQ _ _ _ (res_tmp rfl rfl) ?_).1
  try simp only [List.getD_cons_zero, List.getD_cons_succ]
  exact ⟨by simp, h⟩

end Go.Proofs.YtjdfenlmifhhdaaDoor
