/-
  Walks, printed by mk.py (a program of this work) out of specs14.py: what the Go functions compute, and that nobody else's memory turns. Condition: none.
-/
import Derived.Test.YtjdfenlmifhhdaaDoorProg
import Derived.Test.YtjdfenlmifhhdaaDoorAuto
import Derived.Test.YtjdfenlmifhhdaaDoorDev
namespace Go.Proofs.YtjdfenlmifhhdaaDoor
open Go.RowKit

attribute [local irreducible] layZ
set_option maxHeartbeats 1000000 in
set_option maxRecDepth 100000 in
theorem step_ok {E : Env} {w : World} {F : List (Nat × Obj)} {d most : Nat} {s1 s2 s3 : Value} {st : Int} (h : Has E w ((d, vs 62 [i64 (most : Nat), s1, s2, s3, i64 st, .bool false, .pointer none]) :: F)) {g : FuncId} {caps : List Value} {R : Value → World → Prop} (hcall : ∀ args w, (callFunc g args).run Tryd.prog w = .ok (.enter g args) w) (hg : ∀ (st : Int) w, Has E w ((d, vs 62 [i64 (most : Nat), s1, s2, s3, i64 st, .bool false, .pointer none]) :: F) → Ret Tryd.prog g caps w R) : Ret Tryd.prog 71 [ptr d 0, .func (.func g) #[] caps.toArray] w fun v w' => v = i64 0 ∧ ∃ u, R u w' := by
  refine ret_of_wp (l := [ptr d 0, .func (.func g) #[] caps.toArray, undef, undef, undef, undef, undef, undef, undef, undef, undef, undef, undef, undef, undef, undef, undef, undef, undef, undef, undef, undef, undef, undef, undef, undef, undef, undef, undef, undef, undef, undef, undef, undef, undef, undef, undef, undef, undef, undef, undef, undef, undef, undef, undef, undef, undef, undef, undef, undef, undef, undef, undef, undef, undef, undef, undef, undef, undef, undef, undef, undef, undef, undef, undef, undef, undef, undef, undef]) Tryd.func71 rfl (by simp only [Tryd.ntmps71, List.size_toArray, List.length_cons, List.length_nil, Nat.reduceAdd, Nat.reduceSub, Array.replicate_succ, Array.replicate_zero, List.push_toArray, List.append_toArray, List.nil_append, List.cons_append]) fun Q hQ => ?_
  refine cw_seq fun K1 hK1 => ?_
  refine cw_region ?_
  refine wl_p (r_assign rfl) ?_
  refine wl_nil ?_
  refine hK1 _ _ ?_
  clear hK1 K1
  refine cw_seq fun K2 hK2 => ?_
  refine cw_region ?_
  refine wl_p (r_move rfl) ?_
  refine wl_p (r_nilCheck rfl) ?_
  refine wl_p (r_fieldAddr (off := 4) rfl Tryd.runUnderlying62 rfl Tryd.sizeOf3 rfl rfl) ?_
  refine wl_p (r_load (v := i64 st) h rfl rfl Tryd.isAgg3) ?_
  refine wl_p (r_add_wrap rfl rfl) ?_
  refine wl_p (r_nilCheck rfl) ?_
  refine wl_p (r_fieldAddr (off := 4) rfl Tryd.runUnderlying62 rfl Tryd.sizeOf3 rfl rfl) ?_
  refine wl_o fun Ko hKo => ?_
  refine op_store h rfl rfl rfl (by first | (simp; done) | (exact side_of)) Tryd.sizeOf3 fun w h => ?_
  have h := h.nm
  have h := h.nv
  refine hKo _ _ _ ?_; clear hKo Ko
  refine wl_nil ?_
  refine hK2 _ _ ?_
  clear hK2 K2
  refine cw_seq fun K3 hK3 => ?_
  refine cw_seq fun K4 hK4 => ?_
  refine cw_region ?_
  refine wl_p (r_move rfl) ?_
  refine wl_p (r_nilCheck rfl) ?_
  refine wl_p (r_fieldAddr (off := 6) rfl Tryd.runUnderlying62 rfl Tryd.sizeOf60 rfl rfl) ?_
  refine wl_p (r_load h rfl rfl Tryd.isAgg60) ?_
  refine wl_p (r_neq_nilnil rfl rfl Tryd.runUnderlying60) ?_
  refine wl_p (r_move rfl) ?_
  refine wl_s ?_
  refine wl_s ?_
  refine wl_s ?_
  refine wl_s ?_
  refine wl_s ?_
  refine wl_s ?_
  refine wl_s ?_
  refine wl_s ?_
  refine wl_p (r_pick_f rfl rfl) ?_
  refine wl_nil ?_
  refine hK4 _ _ ?_
  clear hK4 K4
  refine wp_cond_false rfl ?_
  refine wp_skip ?_
  refine hK3 _ _ ?_
  clear hK3 K3
  refine cw_seq fun K5 hK5 => ?_
  refine cw_seq fun K6 hK6 => ?_
  refine cw_region ?_
  refine wl_p (r_move rfl) ?_
  refine wl_p (r_nilCheck rfl) ?_
  refine wl_p (r_fieldAddr (off := 6) rfl Tryd.runUnderlying62 rfl Tryd.sizeOf60 rfl rfl) ?_
  refine wl_p (r_load h rfl rfl Tryd.isAgg60) ?_
  refine wl_p (r_neq_nilnil rfl rfl Tryd.runUnderlying60) ?_
  refine wl_nil ?_
  refine hK6 _ _ ?_
  clear hK6 K6
  refine wp_cond_false rfl ?_
  refine wp_skip ?_
  refine hK5 _ _ ?_
  clear hK5 K5
  refine cw_seq fun K7 hK7 => ?_
  refine cw_region ?_
  refine wl_p (r_move rfl) ?_
  refine wl_o fun Ko hKo => ?_
  refine op_callv caps rfl hcall rfl (hg _ _ h) ?_
  rintro u w hR
  refine hKo _ _ _ ?_; clear hKo Ko
  refine wl_nil ?_
  refine hK7 _ _ ?_
  clear hK7 K7
  refine cw_seq fun K8 hK8 => ?_
  refine cw_region ?_
  refine wl_p (r_assign rfl) ?_
  refine wl_nil ?_
  refine hK8 _ _ ?_
  clear hK8 K8
  refine wp_ret ?_
  refine (hQ _ _ _ (res_tmp rfl rfl) ?_).1
  try simp only [List.getD_cons_zero, List.getD_cons_succ]
  exact ⟨by trivial, u, hR⟩

set_option maxHeartbeats 1000000 in
set_option maxRecDepth 100000 in
theorem sectors_ok {E : Env} {w : World} {F : List (Nat × Obj)} (h : Has E w F) (at_ n : Nat) : Ret Tryd.prog 73 [i64 at_, i64 n] w fun v w' => ∃ q2 q3, v = .func (.func 91) #[] [ptr q2 0, ptr q3 0].toArray ∧ Has E w' ((q3, vs 3 [i64 n]) :: (q2, vs 3 [i64 at_]) :: F) := by
  refine ret_of_wp (l := [i64 at_, i64 n, undef, undef, undef, undef]) Tryd.func73 rfl (by simp only [Tryd.ntmps73, List.size_toArray, List.length_cons, List.length_nil, Nat.reduceAdd, Nat.reduceSub, Array.replicate_succ, Array.replicate_zero, List.push_toArray, List.append_toArray, List.nil_append, List.cons_append]) fun Q hQ => ?_
  refine cw_seq fun K1 hK1 => ?_
  refine cw_region ?_
  refine wl_o fun Ko hKo => ?_
  refine op_box h rfl rfl fun b2 w h => ?_
  refine hKo _ _ _ ?_; clear hKo Ko
  refine wl_o fun Ko hKo => ?_
  refine op_box h rfl rfl fun b3 w h => ?_
  refine hKo _ _ _ ?_; clear hKo Ko
  refine wl_p (r_assign rfl) ?_
  refine wl_nil ?_
  refine hK1 _ _ ?_
  clear hK1 K1
  refine cw_seq fun K2 hK2 => ?_
  refine cw_region ?_
  refine wl_p (r_makeFuncL (f1 := []) (c1 := [ptr b2 0, ptr b3 0]) rfl rfl) ?_
  refine wl_p (r_assign rfl) ?_
  refine wl_nil ?_
  refine hK2 _ _ ?_
  clear hK2 K2
  refine wp_ret ?_
  refine (hQ _ _ _ (res_tmp rfl rfl) ?_).1
  try simp only [List.getD_cons_zero, List.getD_cons_succ]
  exact ⟨b2, b3, rfl, h⟩

theorem at_sector {A i : Nat} : (512 * A) % 512 = 0 := by omega

set_option maxHeartbeats 1000000 in
set_option maxRecDepth 100000 in
theorem sectors1_ok {E : Env} {w : World} {q2 q3 lp : Nat} (A N : Nat) (hA : A ≤ 65536000) (hN1 : 1 ≤ N) (hN : N ≤ 65536) (M : Nat → List (Nat × Obj) → Prop) (hm : ∀ i L, M i L → (q2, vs 3 [i64 ((512 * A : Nat) : Int)]) ∈ L ∧ (q3, vs 3 [i64 ((512 * N : Nat) : Int)]) ∈ L) (J : Nat → World → Prop) (hJ : ∀ i w, J i w → ∃ L, M i L ∧ Has E w L) (hY : ∀ i w, i < N → J i w → YieldR Tryd.prog lp (i64 ((512 * (A + i) : Nat) : Int)) w (J (i + 1))) (h0 : J 0 w) : Ret Tryd.prog 91 [.func (.yield lp) #[] #[], ptr q2 0, ptr q3 0] w fun v w' => J N w' := by
  obtain ⟨L0, hM, h⟩ := hJ 0 w h0
  haveI m2 : Mem L0 q2 (vs 3 [i64 ((512 * A : Nat) : Int)]) := ⟨(hm _ _ hM).1⟩
  haveI m3 : Mem L0 q3 (vs 3 [i64 ((512 * N : Nat) : Int)]) := ⟨(hm _ _ hM).2⟩
  refine ret_of_wp (l := [.func (.yield lp) #[] #[], ptr q2 0, ptr q3 0, undef, undef, undef, undef, undef, undef, undef, undef, undef, undef, undef, undef, undef, undef, undef, undef, undef, undef, undef, undef, undef]) Tryd.func91 rfl (by simp only [Tryd.ntmps91, List.size_toArray, List.length_cons, List.length_nil, Nat.reduceAdd, Nat.reduceSub, Array.replicate_succ, Array.replicate_zero, List.push_toArray, List.append_toArray, List.nil_append, List.cons_append]) fun Q hQ => ?_
  refine cw_seq fun K1 hK1 => ?_
  refine cw_region ?_
  refine wl_p (r_load (v := i64 ((512 * A : Nat) : Int)) h rfl rfl Tryd.isAgg3) ?_
  refine wl_p (r_load (v := i64 ((512 * A : Nat) : Int)) h rfl rfl Tryd.isAgg3) ?_
  refine wl_p (r_rem_n (m := 512 * A)  (n := 512)  rfl rfl om_of) ?_
  rw [at_sector (i := 0)]
  refine wl_p (r_sub_n (m := 512 * A)  (n := 0)  rfl rfl (by omega) (by omega)) ?_
  refine wl_p (r_assign rfl) ?_
  refine wl_nil ?_
  refine hK1 _ _ ?_
  clear hK1 K1
  refine wp_block ?_
  refine cw_loopf [4, 9, 10, 11, 12, 13, 14, 15, 16, 17, 18, 19, 20, 21, 22, 23] (fun f w n => ∃ i : Nat, i ≤ N ∧ f 4 = i64 ((512 * (A + i) : Nat) : Int) ∧ J i w ∧ n = N - i) (N) ⟨0, by omega, by rw [Nat.add_zero]; exact (show i64 ((512 * A - 0 : Nat) : Int) = _ from by rw [Nat.sub_zero]), h0, rfl⟩ ?_
  clear h; rintro f w n ⟨i, hi, e4, hj, rfl⟩ K2 hK2
  simp only [putFn, List.foldl_cons, List.foldl_nil, List.set_cons_zero, List.set_cons_succ, e4]
  clear e4
  clear m2 m3 hM L0
  obtain ⟨L0, hM, h⟩ := hJ i w hj
  haveI m2 : Mem L0 q2 (vs 3 [i64 ((512 * A : Nat) : Int)]) := ⟨(hm _ _ hM).1⟩
  haveI m3 : Mem L0 q3 (vs 3 [i64 ((512 * N : Nat) : Int)]) := ⟨(hm _ _ hM).2⟩
  refine cw_seq fun K3 hK3 => ?_
  refine cw_seq fun K4 hK4 => ?_
  refine cw_region ?_
  refine wl_p (r_load (v := i64 ((512 * N : Nat) : Int)) h rfl rfl Tryd.isAgg3) ?_
  refine wl_p (r_gtr_t  (n := 0) rfl rfl (by omega)) ?_
  refine wl_p (r_move rfl) ?_
  refine wl_pw (r_move rfl) ?_
  refine wl_pw (r_load (v := i64 ((512 * A : Nat) : Int)) h rfl rfl Tryd.isAgg3) ?_
  refine wl_pw (r_load (v := i64 ((512 * N : Nat) : Int)) h rfl rfl Tryd.isAgg3) ?_
  refine wl_pw (r_add_n (m := 512 * A)  (n := 512 * N)  rfl rfl (by omega)) ?_
  refine wl_pw (r_lss   rfl rfl) ?_
  refine wl_p (r_pick rfl rfl) ?_
  refine wl_nil ?_
  refine hK4 _ _ ?_
  clear hK4 K4
  refine wp_cond_split rfl (fun hc => ?_) (fun hc => ?_)
  · have hlt := of_decide_eq_true hc; clear hc
    have hiN : i < N := by omega
    refine wp_skip ?_
    refine hK3 _ _ ?_
    clear hK3 K3
    refine cw_seq fun K5 hK5 => ?_
    refine wp_block ?_
    refine cw_seq fun K6 hK6 => ?_
    refine cw_regionW ?_
    refine lww_op rfl rfl fun Ko hKo => ?_
    refine op_of (r_move rfl) ?_
    simp only [Act.put, List.setIfInBounds_toArray, List.set_cons_zero, List.set_cons_succ, ev_c, ev_t, ev_g, ev_f, List.getD_cons_zero, List.getD_cons_succ, Nat.zero_add, Nat.add_zero, Nat.zero_mul, Nat.mul_one]
    refine hKo _ _ ?_; clear hKo Ko
    refine lww_op rfl rfl fun Ko hKo => ?_
    refine op_of (r_move rfl) ?_
    simp only [Act.put, List.setIfInBounds_toArray, List.set_cons_zero, List.set_cons_succ, ev_c, ev_t, ev_g, ev_f, List.getD_cons_zero, List.getD_cons_succ, Nat.zero_add, Nat.add_zero, Nat.zero_mul, Nat.mul_one]
    refine hKo _ _ ?_; clear hKo Ko
    refine lww_yield rfl rfl (hY i _ hiN hj) fun w hj2 => ?_
    simp only [Act.put, List.setIfInBounds_toArray, List.set_cons_zero, List.set_cons_succ, ev_c, ev_t, ev_g, ev_f, List.getD_cons_zero, List.getD_cons_succ, Nat.zero_add, Nat.add_zero, Nat.zero_mul, Nat.mul_one]
    clear hj h
    refine lww_op rfl rfl fun Ko hKo => ?_
    refine op_of (r_not rfl) ?_
    simp only [Act.put, List.setIfInBounds_toArray, List.set_cons_zero, List.set_cons_succ, ev_c, ev_t, ev_g, ev_f, List.getD_cons_zero, List.getD_cons_succ, Nat.zero_add, Nat.add_zero, Nat.zero_mul, Nat.mul_one]
    refine hKo _ _ ?_; clear hKo Ko
    refine lww_nil ?_
    refine hK6 _ _ ?_
    clear hK6 K6
    refine wp_cond_false rfl ?_
    refine wp_skip ?_
    refine hK5 _ _ ?_
    clear hK5 K5
    refine cw_region ?_
    refine wl_p (r_move rfl) ?_
    refine wl_p (r_add_n (m := 512 * (A + i))  (n := 512)  rfl rfl (by omega)) ?_
    refine wl_p (r_assign rfl) ?_
    refine wl_nil ?_
    refine hK2 _ _ (N - (i + 1)) pfn_of ⟨i + 1, by omega, ?e4_7, hj2, rfl⟩ (by omega)
    case e4_7 => simp only [List.getD_cons_zero, List.getD_cons_succ]; rw [show 512 * (A + i) + 512 = 512 * (A + (i + 1)) by omega]
  · have hlt := of_decide_eq_false hc; clear hc
    have hiN : i = N := by omega
    refine wp_exit ?_
    refine (hQ _ _ _ (res_none rfl) ?_).2
    rw [hiN] at hj; exact hj

set_option maxHeartbeats 2000000 in
set_option maxRecDepth 100000 in
theorem write1_ok {E : Env} {w : World} {F L1 L2 L3 : List (Nat × Obj)} {d b3 b4 b5 most A N n3 : Nat} {s1 s2 s3 sd : Value} {l3 : List Value} {st : Int} {seen xs : Bytes} (h : Has E w ((d, vs 62 [i64 (most : Nat), s1, s2, s3, i64 st, .bool false, .pointer none]) :: (b5, vs 25 [sd]) :: (b4, vs 3 [i64 ((512 * A : Nat) : Int)]) :: (b3, vs 26 [ptr d 0]) :: (L1 ++ (L2 ++ (L3 ++ F))))) (ho1 : OwnB 5 s1 seen L1) (ho3 : OwnS 124 514 s3 n3 l3 L3) (hd : Sl F sd xs) (hx : xs.length = 512 * N) (hN1 : 1 ≤ N) (hN : N ≤ 128) (hA : 512 * A ≤ seen.length) (hs : seen.length ≤ 16777216) (hn3 : n3 ≤ 1073741824) : Ret Tryd.prog 72 [ptr b3 0, ptr b4 0, ptr b5 0] w fun v w' => ∃ (s1 s3 : Value) (st : Int) (n3' : Nat) (l3 : List Value) (L1 L3 : List (Nat × Obj)), OwnB 5 s1 (layZ seen (512 * A) xs) L1 ∧ OwnS 124 514 s3 n3' l3 L3 ∧ n3' ≤ n3 + N ∧ Has E w' ((d, vs 62 [i64 (most : Nat), s1, s2, s3, i64 st, .bool false, .pointer none]) :: (b5, vs 25 [sd]) :: (b4, vs 3 [i64 ((512 * A : Nat) : Int)]) :: (b3, vs 26 [ptr d 0]) :: (L1 ++ (L2 ++ (L3 ++ F)))) := by
  refine ret_of_marks (l := [ptr b3 0, ptr b4 0, ptr b5 0, undef, undef, undef, undef, undef, undef, undef, undef, undef, undef, undef, undef, undef, undef, undef, undef, undef, undef, undef, undef, undef, undef, undef, undef, undef, undef, undef, undef, undef, undef, undef, undef, undef, undef, undef, undef, undef, undef, undef]) Tryd.func72 rfl (by simp only [Tryd.ntmps72, List.size_toArray, List.length_cons, List.length_nil, Nat.reduceAdd, Nat.reduceSub, Array.replicate_succ, Array.replicate_zero, List.push_toArray, List.append_toArray, List.nil_append, List.cons_append]) fun Q hQ => ?_
  refine cw_seq fun K1 hK1 => ?_
  refine cw_drawnH h ((Has.appHead (A := [_, _, _, _]) h)) (fun i => i == 10) (by kernel_rfl) 11 rfl #[false, false, false, false, false, false, false, false, false, false, false] rfl ?_
  clear h; rintro w h hS
  refine dn_l 0 #[true, false, false, false, false, false, false, false, false, false, false] ⟨some 5, _, _, _, _, _⟩ rfl hS (fun w hS => r_load (v := ptr d 0) hS rfl rfl Tryd.isAgg26) ?_
  refine dn_l 1 #[true, true, false, false, false, false, false, false, false, false, false] ⟨some 6, _, _, _, _, _⟩ rfl hS (fun w hS => r_load (v := ptr d 0) hS rfl rfl Tryd.isAgg26) ?_
  refine dn_p 2 #[true, true, true, false, false, false, false, false, false, false, false] ⟨some 7, _, _, _, _, _⟩ rfl (fun w => r_nilCheck rfl) ?_
  refine dn_p 3 #[true, true, true, true, false, false, false, false, false, false, false] ⟨some 8, _, _, _, _, _⟩ rfl (fun w => r_fieldAddr (off := 1) rfl Tryd.runUnderlying62 rfl Tryd.sizeOf25 rfl rfl) ?_
  refine dn_l 4 #[true, true, true, true, true, false, false, false, false, false, false] ⟨some 9, _, _, _, _, _⟩ rfl hS (fun w hS => r_load (v := s1) hS rfl rfl Tryd.isAgg25) ?_
  refine dn_l 5 #[true, true, true, true, true, true, false, false, false, false, false] ⟨some 10, _, _, _, _, _⟩ rfl hS (fun w hS => r_load (v := i64 ((512 * A : Nat) : Int)) hS rfl rfl Tryd.isAgg3) ?_
  refine dn_l 6 #[true, true, true, true, true, true, true, false, false, false, false] ⟨some 11, _, _, _, _, _⟩ rfl hS (fun w hS => r_load (v := sd) hS rfl rfl Tryd.isAgg25) ?_
  have h := Has.swapApp (A := [_, _, _, _]) (B := L1) h
  simp only [List.cons_append, List.nil_append] at h
  refine dn_o 7 #[true, true, true, true, true, true, true, true, false, false, false] ⟨some 12, _, _, _, _, _⟩ fun Ko hKo => ?_
  refine op_call [_, _, _] Tryd.call36 rfl (lay_ok ho1 h (Rd.cons (Rd.cons (Rd.cons (Rd.cons (Rd.app _ (Rd.app _ hd)))))) (512 * A) (by omega) (by omega)) ?_
  clear h; rintro s12 w ⟨L12, ho12, h⟩
  have h12 := (OwnS.rd0 ho12).one
  obtain ⟨ss, hss⟩ : ∃ ss, ss = layZ seen (512 * A) xs := ⟨_, rfl⟩
  rw [← hss] at ho12
  have hsl : 512 * A + 512 * N ≤ ss.length := by rw [hss, layZ_len _ _ _ (by omega)]; omega
  have hsl2 : ss.length ≤ 1099511627776 := by rw [hss, layZ_len _ _ _ (by omega)]; omega
  refine hKo _ _ _ (fun _ => (Has.appHead (A := [_, _, _, _]) h.appTail)) ?_; clear hKo Ko
  refine dn_p 8 #[true, true, true, true, true, true, true, true, true, false, false] ⟨some 13, _, _, _, _, _⟩ rfl (fun w => r_nilCheck rfl) ?_
  refine dn_p 9 #[true, true, true, true, true, true, true, true, true, true, false] ⟨some 14, _, _, _, _, _⟩ rfl (fun w => r_fieldAddr (off := 1) rfl Tryd.runUnderlying62 rfl Tryd.sizeOf25 rfl rfl) ?_
  refine dn_o 10 #[true, true, true, true, true, true, true, true, true, true, true] ⟨none, _, _, _, _, _⟩ fun Ko hKo => ?_
  refine op_store h rfl rfl h12 (by first | (simp; done) | (exact side_of)) Tryd.sizeOf25 fun w h => ?_
  have h := h.nm
  have h := h.nv
  refine hKo _ _ _ (fun hT => absurd hT (by decide)) ?_; clear hKo Ko
  refine dn_done (by kernel_rfl) ?_
  have h := Has.swapApp (A := L12) (B := [_, _, _, _]) h
  simp only [List.cons_append, List.nil_append] at h
  refine hK1 _ _ ?_
  clear hK1 K1
  refine cw_seq fun K2 hK2 => ?_
  refine cw_region ?_
  refine wl_p (r_load (v := i64 ((512 * A : Nat) : Int)) h rfl rfl Tryd.isAgg3) ?_
  refine wl_p (r_load (v := sd) h rfl rfl Tryd.isAgg25) ?_
  refine wl_p (r_len_sl rfl hd Tryd.runUnderlying25) ?_
  refine wl_o fun Ko hKo => ?_
  refine op_call [_, _] Tryd.call73 rfl (sectors_ok h (512 * A) xs.length) ?_
  clear h; rintro _ w ⟨q2, q3, rfl, h⟩
  rw [hx] at h
  refine hKo _ _ _ ?_; clear hKo Ko
  refine wl_nil ?_
  refine hK2 _ _ ?_
  clear hK2 K2
  refine wp_block ?_
  refine cw_rangeFunc h rfl Tryd.call91 19 rfl (N) (fun i => i64 ((512 * (A + i) : Nat) : Int)) (fun i L => ∃ (s3 : Value) (l3 : List Value) (L3 : List (Nat × Obj)), OwnS 124 514 s3 (n3 + i) l3 L3 ∧ L = (q3, vs 3 [i64 ((512 * N : Nat) : Int)]) :: (q2, vs 3 [i64 ((512 * A : Nat) : Int)]) :: (d, vs 62 [i64 (most : Nat), s12, s2, s3, i64 st, .bool false, .pointer none]) :: (b5, vs 25 [sd]) :: (b4, vs 3 [i64 ((512 * A : Nat) : Int)]) :: (b3, vs 26 [ptr d 0]) :: (L12 ++ (L2 ++ (L3 ++ F)))) (⟨s3, l3, L3, ho3, rfl⟩) ?_ ?_ ?_
  · intro lp J hJ hY w h0
    exact sectors1_ok A N (by omega) hN1 (by omega) (fun i L => ∃ (s3 : Value) (l3 : List Value) (L3 : List (Nat × Obj)), OwnS 124 514 s3 (n3 + i) l3 L3 ∧ L = (q3, vs 3 [i64 ((512 * N : Nat) : Int)]) :: (q2, vs 3 [i64 ((512 * A : Nat) : Int)]) :: (d, vs 62 [i64 (most : Nat), s12, s2, s3, i64 st, .bool false, .pointer none]) :: (b5, vs 25 [sd]) :: (b4, vs 3 [i64 ((512 * A : Nat) : Int)]) :: (b3, vs 26 [ptr d 0]) :: (L12 ++ (L2 ++ (L3 ++ F)))) (fun i L hM => by obtain ⟨_, _, _, _, rfl⟩ := hM; simp) J hJ hY h0
  · rintro i hi lp Dd Lr w ⟨s3, l3, L3, ho3, rfl⟩ K0 hK0
    refine cw_regionI (by rfl) (fun _ _ h => h) ?_
    refine wl_p (r_assign rfl) ?_
    refine wl_nil ?_
    refine hK0 _ fun Bo w Kq h hno hKq => ?_
    clear hK0
    refine wpIn_block ?_
    refine wpIn_seq_k fun K3 hK3 => ?_
    refine cw_regionI (by rfl) (fun _ _ h => hno _ _ h) ?_
    refine wl_p (r_move rfl) ?_
    refine wl_p (r_buildP (ps := [(0, _)]) (pl := [(0, 1), (1, 1), (2, 512)]) (z := [i64 0, i64 0] ++ (List.replicate 512 0#8).map B) (cs := [i64 ((512 * (A + i) : Nat) : Int), i64 0] ++ (List.replicate 512 0#8).map B) rfl (by kernel_rfl) ((fill_step (cs := [i64 ((512 * (A + i) : Nat) : Int)]) rfl rfl rfl (by simp)).trans rfl)) ?_
    refine wl_o fun Ko hKo => ?_
    refine op_alloc (cs := [i64 0, i64 0] ++ (List.replicate 512 0#8).map B) h Tryd.zeroValue124 rfl fun b6 w h => ?_
    refine hKo _ _ _ ?_; clear hKo Ko
    refine wl_o fun Ko hKo => ?_
    refine op_store_all (cs := [i64 ((512 * (A + i) : Nat) : Int), i64 0] ++ (List.replicate 512 0#8).map B) h rfl rfl (by intro v hv; simp only [List.mem_append, List.mem_cons, List.not_mem_nil, or_false] at hv; rcases hv with (rfl | rfl) | hv; rfl; rfl; exact oneB v hv) (by simp) (by intro w; rw [Tryd.sizeOf124]; simp) fun w h => ?_
    simp only [List.set_cons_zero] at h
    have h : Has E w ((b6, bsR 124 [i64 ((512 * (A + i) : Nat) : Int), i64 0] (List.replicate 512 0#8)) :: _) := h
    refine hKo _ _ _ ?_; clear hKo Ko
    refine wl_nil ?_
    refine hK3 _ _ ?_
    clear hK3 K3
    refine wpIn_seq_k fun K4 hK4 => ?_
    refine cw_drawnHI (by rfl) (fun _ _ h => hno _ _ h) h ((Has.appHead (A := [_, _, _, _, _, _, _, _]) h.tail)) (fun i => i == 10) (by kernel_rfl) 11 rfl #[false, false, false, false, false, false, false, false, false, false, false] rfl ?_
    clear h; rintro w h hS
    refine dn_p 0 #[true, false, false, false, false, false, false, false, false, false, false] ⟨some 22, _, _, _, _, _⟩ rfl (fun w => r_fieldAddr (off := 2) rfl Tryd.runUnderlying124 rfl Tryd.sizeOf50 rfl rfl) ?_
    refine dn_p 1 #[true, true, false, false, false, false, false, false, false, false, false] ⟨some 23, _, _, _, _, _⟩ rfl (fun w => r_slice_arr rfl Tryd.runUnderlying50 Tryd.sizeOf5 (by omega)) ?_
    refine dn_l 2 #[true, true, true, false, false, false, false, false, false, false, false] ⟨some 24, _, _, _, _, _⟩ rfl hS (fun w hS => r_load (v := ptr d 0) hS rfl rfl Tryd.isAgg26) ?_
    refine dn_p 3 #[true, true, true, true, false, false, false, false, false, false, false] ⟨some 25, _, _, _, _, _⟩ rfl (fun w => r_nilCheck rfl) ?_
    refine dn_p 4 #[true, true, true, true, true, false, false, false, false, false, false] ⟨some 26, _, _, _, _, _⟩ rfl (fun w => r_fieldAddr (off := 1) rfl Tryd.runUnderlying62 rfl Tryd.sizeOf25 rfl rfl) ?_
    refine dn_l 5 #[true, true, true, true, true, true, false, false, false, false, false] ⟨some 27, _, _, _, _, _⟩ rfl hS (fun w hS => r_load (v := s12) hS rfl rfl Tryd.isAgg25) ?_
    refine dn_p 6 #[true, true, true, true, true, true, true, false, false, false, false] ⟨some 28, _, _, _, _, _⟩ rfl (fun w => r_move rfl) ?_
    refine dn_p 7 #[true, true, true, true, true, true, true, true, false, false, false] ⟨some 29, _, _, _, _, _⟩ rfl (fun w => r_slice_l (lo := 512 * (A + i)) (ho12.sl F) rfl rfl (by omega) Tryd.runUnderlying25 Tryd.sizeOf5) ?_
    refine dn_o 8 #[true, true, true, true, true, true, true, true, true, false, false] ⟨some 30, _, _, _, _, _⟩ fun Ko hKo => ?_
    refine op_copyBR (q := 512) (N := 2) h rfl rfl rfl (Sl.cutL (ho12.slm (by intro p hp; simp only [List.mem_append, List.mem_cons, hp, true_or, or_true])) (by omega)) Tryd.runUnderlying25 Tryd.sizeOf5 (by rw [List.length_drop]; omega) (by simp) fun w h => ?_
    simp only [List.set_cons_zero] at h
    rw [show List.drop 512 (List.replicate 512 0#8) = [] by simp, List.append_nil] at h
    obtain ⟨ys, hys⟩ : ∃ ys, ys = (ss.drop (512 * (A + i))).take 512 := ⟨_, rfl⟩
    rw [← hys] at h
    have hyl : ys.length = 512 := by rw [hys, List.length_take, List.length_drop]; omega
    refine hKo _ _ _ (fun _ => (Has.appHead (A := [_, _, _, _, _, _, _, _]) h.tail)) ?_; clear hKo Ko
    refine dn_p 9 #[true, true, true, true, true, true, true, true, true, true, false] ⟨some 31, _, _, _, _, _⟩ rfl (fun w => r_fieldAddr (off := 1) rfl Tryd.runUnderlying124 rfl Tryd.sizeOf3 rfl rfl) ?_
    refine dn_o 10 #[true, true, true, true, true, true, true, true, true, true, true] ⟨none, _, _, _, _, _⟩ fun Ko hKo => ?_
    refine op_store_pre h rfl rfl rfl (by simp) Tryd.sizeOf3 fun w h => ?_
    simp only [List.set_cons_zero, List.set_cons_succ] at h
    have h : Has E w ((b6, bsR 124 [i64 ((512 * (A + i) : Nat) : Int), i64 512] ys) :: _) := h
    refine hKo _ _ _ (fun hT => absurd hT (by decide)) ?_; clear hKo Ko
    refine dn_done (by kernel_rfl) ?_
    refine hK4 _ _ ?_
    clear hK4 K4
    refine cw_drawnHI (by rfl) (fun _ _ h => hno _ _ h) h ((Has.appHead (A := [_, _, _, _, _, _, _, _, _]) h)) (fun i => i == 10) (by kernel_rfl) 11 rfl #[false, false, false, false, false, false, false, false, false, false, false] rfl ?_
    clear h; rintro w h hS
    refine dn_l 0 #[true, false, false, false, false, false, false, false, false, false, false] ⟨some 32, _, _, _, _, _⟩ rfl hS (fun w hS => r_load (v := ptr d 0) hS rfl rfl Tryd.isAgg26) ?_
    refine dn_l 1 #[true, true, false, false, false, false, false, false, false, false, false] ⟨some 33, _, _, _, _, _⟩ rfl hS (fun w hS => r_load (v := ptr d 0) hS rfl rfl Tryd.isAgg26) ?_
    refine dn_p 2 #[true, true, true, false, false, false, false, false, false, false, false] ⟨some 34, _, _, _, _, _⟩ rfl (fun w => r_nilCheck rfl) ?_
    refine dn_p 3 #[true, true, true, true, false, false, false, false, false, false, false] ⟨some 35, _, _, _, _, _⟩ rfl (fun w => r_fieldAddr (off := 3) rfl Tryd.runUnderlying62 rfl Tryd.sizeOf59 rfl rfl) ?_
    refine dn_l 4 #[true, true, true, true, true, false, false, false, false, false, false] ⟨some 36, _, _, _, _, _⟩ rfl hS (fun w hS => r_load (v := s3) hS rfl rfl Tryd.isAgg59) ?_
    refine dn_l 5 #[true, true, true, true, true, true, false, false, false, false, false] ⟨some 37, _, _, _, _, _⟩ rfl hS (fun w hS => r_load_all hS rfl (by simp [hyl]) Tryd.isAgg124 Tryd.sizeOf124) ?_
    refine dn_o 6 #[true, true, true, true, true, true, true, false, false, false, false] ⟨some 38, _, _, _, _, _⟩ fun Ko hKo => ?_
    refine op_buildSlice1 (cs := [i64 ((512 * (A + i) : Nat) : Int), i64 512] ++ ys.map B) h rfl rfl (by simp [hyl]) Tryd.runUnderlying59 Tryd.sizeOf124 Tryd.zeroValue124 (by decide) (by decide) fun b38 w h => ?_
    refine hKo _ _ _ (fun _ => (Has.appHead (A := [_, _, _, _, _, _, _, _, _]) h.tail)) ?_; clear hKo Ko
    have h := Has.swapApp (A := [_, _, _, _, _, _, _, _, _, _] ++ (L12 ++ L2)) (B := L3) (R := F) (by simpa only [List.append_assoc, List.cons_append, List.nil_append] using h)
    simp only [List.append_assoc, List.cons_append, List.nil_append] at h
    refine dn_o 7 #[true, true, true, true, true, true, true, true, false, false, false] ⟨some 39, _, _, _, _, _⟩ fun Ko hKo => ?_
    refine op_append h rfl rfl ho3 (Rd.app _ (Rd.mk (off := 0) (n := 1) (c := 1) (sz := 514) (by omega) (by simp [hyl]))) rfl Tryd.runUnderlying59 Tryd.typeInfo124 Tryd.sizeOf124 Tryd.zeroValue124 rfl (by decide) (by show _ * 528 ≤ _; first | omega | (exact side_of)) (by omega) (by intro v hv; rw [List.drop_zero, List.take_of_length_le (by simp [hyl])] at hv; simp only [List.mem_append, List.mem_cons, List.not_mem_nil, or_false] at hv; rcases hv with rfl | rfl | hv <;> first | rfl | exact oneB _ hv) fun s39 L39 w ho39 h => ?_
    refine hKo _ _ _ (fun _ => (Has.appHead (A := [_, _, _, _, _, _, _, _, _]) h.appTail.tail)) ?_; clear hKo Ko
    refine dn_p 8 #[true, true, true, true, true, true, true, true, true, false, false] ⟨some 40, _, _, _, _, _⟩ rfl (fun w => r_nilCheck rfl) ?_
    refine dn_p 9 #[true, true, true, true, true, true, true, true, true, true, false] ⟨some 41, _, _, _, _, _⟩ rfl (fun w => r_fieldAddr (off := 3) rfl Tryd.runUnderlying62 rfl Tryd.sizeOf59 rfl rfl) ?_
    refine dn_o 10 #[true, true, true, true, true, true, true, true, true, true, true] ⟨none, _, _, _, _, _⟩ fun Ko hKo => ?_
    refine op_store h rfl rfl (OwnS.rd0 ho39).one (by first | (simp; done) | (exact side_of)) Tryd.sizeOf59 fun w h => ?_
    have h := h.nm
    have h := h.nv
    refine hKo _ _ _ (fun hT => absurd hT (by decide)) ?_; clear hKo Ko
    refine dn_done (by kernel_rfl) ?_
    have h := Has.swapApp (A := L39) (B := [_, _, _, _, _, _, _, _] ++ (L12 ++ L2)) (R := F) (by simpa only [List.append_assoc, List.cons_append, List.nil_append] using h.midTail.midTail)
    simp only [List.append_assoc, List.cons_append, List.nil_append] at h
    exact hKq _ _ _ ⟨s39, _, L39, ho39, rfl⟩ h
  · rintro lp Bo Dd Lr w ⟨s3, l3, L3, ho3, rfl⟩ h
    obtain ⟨ht, h⟩ := run_take (P := Tryd.prog) h
    refine hQ _ Dd _ _ _ ht (res_none rfl) ?_
    rw [← hss]
    exact ⟨s12, s3, st, _, l3, L12, L3, ho12, ho3, Nat.le_refl _, h.tail.tail⟩

end Go.Proofs.YtjdfenlmifhhdaaDoor
