/-
  Walks, printed by mk.py (a program of this work) out of specs8.py: what the Go functions compute, and that nobody else's memory turns. Condition: none.
-/
import Derived.Test.YtjdfenlmifhhdaaDoorProg
import Derived.Test.YtjdfenlmifhhdaaDoorAuto
import Derived.Test.YtjdfenlmifhhdaaDoorOct2
namespace Go.Proofs.YtjdfenlmifhhdaaDoor
open Go.RowKit

set_option maxHeartbeats 1000000 in
set_option maxRecDepth 100000 in
theorem grow_ok {E : Env} {w : World} {F : List (Nat × Obj)} (h : Has E w F) (k : Nat) (hk : k ≤ 1099511627776) : Ret Tryd.prog 74 [.slice none 0 0, i64 k] w fun v w' => ∃ Ls, OwnB 5 v [] Ls ∧ Has E w' (Ls ++ F) := by
  refine ret_of_wp (l := [.slice none 0 0, i64 k, undef, undef, undef, undef, undef, undef, undef, undef, undef, undef, undef, undef, undef, undef, undef, undef, undef, undef, undef, undef, undef, undef, undef, undef, undef]) Tryd.func74 rfl (by simp only [Tryd.ntmps74, List.size_toArray, List.length_cons, List.length_nil, Nat.reduceAdd, Nat.reduceSub, Array.replicate_succ, Array.replicate_zero, List.push_toArray, List.append_toArray, List.nil_append, List.cons_append]) fun Q hQ => ?_
  refine cw_seq fun K1 hK1 => ?_
  refine cw_region ?_
  refine wl_p (r_assign rfl) ?_
  refine wl_nil ?_
  refine hK1 _ _ ?_
  clear hK1 K1
  refine cw_seq fun K2 hK2 => ?_
  refine cw_seq fun K3 hK3 => ?_
  refine cw_region ?_
  refine wl_p (r_move rfl) ?_
  refine wl_p (r_lss_f  (n := 0) rfl rfl (by omega)) ?_
  refine wl_nil ?_
  refine hK3 _ _ ?_
  clear hK3 K3
  refine wp_cond_false rfl ?_
  refine wp_skip ?_
  refine hK2 _ _ ?_
  clear hK2 K2
  refine cw_seq fun K4 hK4 => ?_
  refine cw_seq fun K5 hK5 => ?_
  refine cw_region ?_
  refine wl_p (r_move rfl) ?_
  refine wl_p (r_move rfl) ?_
  refine wl_p (r_cap_v rfl Tryd.runUnderlying25) ?_
  refine wl_p (r_move rfl) ?_
  refine wl_p (r_len_v rfl Tryd.runUnderlying25) ?_
  refine wl_p (r_sub_n (m := 0)  (n := 0)  rfl rfl (by omega) (by omega)) ?_
  refine wl_p (r_sub_n (m := k)  (n := 0)  rfl rfl (by omega) (by omega)) ?_
  refine wl_p (r_assign rfl) ?_
  refine wl_nil ?_
  refine hK5 _ _ ?_
  clear hK5 K5
  refine cw_seq fun K6 hK6 => ?_
  refine cw_region ?_
  refine wl_p (r_move rfl) ?_
  refine wl_p (r_gtr  (n := 0) rfl rfl) ?_
  refine wl_nil ?_
  refine hK6 _ _ ?_
  clear hK6 K6
  refine wp_cond_split rfl (fun hc => ?_) (fun hc => ?_)
  · have hk0 := of_decide_eq_true hc; clear hc
    refine cw_region ?_
    refine wl_p (r_move rfl) ?_
    refine wl_p (r_move rfl) ?_
    refine wl_p (r_cap_v rfl Tryd.runUnderlying25) ?_
    refine wl_p (r_slice_h (hi := 0) (Rd.nil (L := F) (sz := 1) (A := none) (c := 0)) rfl rfl (by omega) Tryd.runUnderlying25 Tryd.sizeOf5) ?_
    refine wl_p (r_move rfl) ?_
    refine wl_o fun Ko hKo => ?_
    refine op_append_zeros (td := .bool) (m := k) h rfl rfl (OwnS.nil (T := 5) (sz := 1) (A := none)) rfl Tryd.runUnderlying25 Tryd.typeInfo5 Tryd.runUnderlying3 Tryd.sizeOf5 Tryd.zeroValue5 rfl rfl (by show _ * 1 ≤ _; omega) (by omega) fun s22 L22 w ho22 h => ?_
    refine hKo _ _ _ ?_; clear hKo Ko
    refine wl_p (r_move rfl) ?_
    refine wl_p (r_len_v rfl Tryd.runUnderlying25) ?_
    refine wl_p (r_slice_h (hi := 0) (ho22.rd F) rfl rfl (by omega) Tryd.runUnderlying25 Tryd.sizeOf5) ?_
    refine wl_p (r_assign rfl) ?_
    refine wl_nil ?_
    refine hK4 _ _ ?_
    clear hK4 K4
    refine cw_seq fun K7 hK7 => ?_
    refine cw_region ?_
    refine wl_p (r_move rfl) ?_
    refine wl_p (r_assign rfl) ?_
    refine wl_nil ?_
    refine hK7 _ _ ?_
    clear hK7 K7
    refine wp_ret ?_
    refine (hQ _ _ _ (res_tmp rfl rfl) ?_).1
    try simp only [List.getD_cons_zero, List.getD_cons_succ]
    exact ⟨L22, OwnB.empty ho22, h⟩
  · have hk0 := of_decide_eq_false hc; clear hc
    refine wp_skip ?_
    refine hK4 _ _ ?_
    clear hK4 K4
    refine cw_seq fun K8 hK8 => ?_
    refine cw_region ?_
    refine wl_p (r_move rfl) ?_
    refine wl_p (r_assign rfl) ?_
    refine wl_nil ?_
    refine hK8 _ _ ?_
    clear hK8 K8
    refine wp_ret ?_
    refine (hQ _ _ _ (res_tmp rfl rfl) ?_).1
    try simp only [List.getD_cons_zero, List.getD_cons_succ]
    exact ⟨[], OwnB.nil, h⟩

set_option maxHeartbeats 1000000 in
set_option maxRecDepth 100000 in
theorem concat_ok {E : Env} {w : World} {F : List (Nat × Obj)} (h : Has E w F) {s : Value} {n₀ : Nat} {ss : List Value} {xss : List Bytes} (hd : Rd F 1 s n₀ ss) (hs : Sls F ss xss) (hl : ss.length = n₀) (hl2 : xss.length = n₀) (hn : n₀ ≤ 65536) (hx : xss.flatten.length ≤ 1099511627776) : Ret Tryd.prog 46 [s] w fun v w' => ∃ Ls, OwnB 5 v xss.flatten Ls ∧ Has E w' (Ls ++ F) := by
  refine ret_of_wp (l := [s, undef, undef, undef, undef, undef, undef, undef, undef, undef, undef, undef, undef, undef, undef, undef, undef, undef, undef, undef, undef, undef, undef, undef, undef, undef, undef, undef, undef, undef, undef, undef, undef, undef, undef, undef]) Tryd.func46 rfl (by simp only [Tryd.ntmps46, List.size_toArray, List.length_cons, List.length_nil, Nat.reduceAdd, Nat.reduceSub, Array.replicate_succ, Array.replicate_zero, List.push_toArray, List.append_toArray, List.nil_append, List.cons_append]) fun Q hQ => ?_
  refine cw_seq fun K1 hK1 => ?_
  refine cw_region ?_
  refine wl_p (r_assign rfl) ?_
  refine wl_nil ?_
  refine hK1 _ _ ?_
  clear hK1 K1
  refine cw_seq fun K2 hK2 => ?_
  refine cw_region ?_
  refine wl_p (r_assign rfl) ?_
  refine wl_nil ?_
  refine hK2 _ _ ?_
  clear hK2 K2
  refine cw_seq fun K3 hK3 => ?_
  refine cw_seq fun K4 hK4 => ?_
  refine cw_region ?_
  refine wl_p (r_move rfl) ?_
  refine wl_p (r_len rfl hd Tryd.runUnderlying106) ?_
  refine wl_p (r_move rfl) ?_
  refine wl_nil ?_
  refine hK4 _ _ ?_
  clear hK4 K4
  refine wp_block ?_
  refine cw_loopf [3, 5, 11, 12, 13, 14, 15, 16, 17, 18, 19, 20, 21, 22] (fun f w n => ∃ i : Nat, i ≤ n₀ ∧ f 11 = i64 i ∧ f 3 = i64 ((xss.take i).flatten.length : Nat) ∧ Has E w F ∧ n = n₀ - i) (n₀) ⟨0, by omega, rfl, by rw [List.take_zero]; rfl, h, rfl⟩ ?_
  clear h; rintro f w n ⟨i, hi, e11, e3, h, rfl⟩ K5 hK5
  simp only [putFn, List.foldl_cons, List.foldl_nil, List.set_cons_zero, List.set_cons_succ, e11, e3]
  clear e11 e3
  refine cw_seq fun K6 hK6 => ?_
  refine cw_region ?_
  refine wl_p (r_lss   rfl rfl) ?_
  refine wl_nil ?_
  refine hK6 _ _ ?_
  clear hK6 K6
  refine cw_seq fun K7 hK7 => ?_
  refine wp_cond_split rfl (fun hc => ?_) (fun hc => ?_)
  · have hlt := of_decide_eq_true hc; clear hc
    have hil : i < n₀ := by omega
    obtain ⟨v, hv, hvs⟩ := hs i (by omega)
    have hb := take_flat_len (xss := xss) (i + 1)
    rw [take_flat (by omega), List.length_append] at hb
    refine wp_skip ?_
    refine hK7 _ _ ?_
    clear hK7 K7
    refine cw_seq fun K8 hK8 => ?_
    refine wp_block ?_
    refine cw_seq fun K9 hK9 => ?_
    refine cw_region ?_
    refine wl_p (r_elem (j := i) hd rfl rfl (by first | rfl | omega) (by omega) Tryd.runUnderlying106 Tryd.sizeOf25) ?_
    refine wl_p (r_load_elem h hd rfl hv Tryd.isAgg25) ?_
    refine wl_p (r_assign rfl) ?_
    refine wl_nil ?_
    refine hK9 _ _ ?_
    clear hK9 K9
    refine cw_seq fun K10 hK10 => ?_
    refine cw_region ?_
    refine wl_p (r_move rfl) ?_
    refine wl_p (r_move rfl) ?_
    refine wl_p (r_len_sl rfl hvs Tryd.runUnderlying25) ?_
    refine wl_p (r_add_n   rfl rfl (by omega)) ?_
    refine wl_p (r_assign rfl) ?_
    refine wl_nil ?_
    refine hK10 _ _ ?_
    clear hK10 K10
    refine cw_seq fun K11 hK11 => ?_
    refine cw_region ?_
    refine wl_p (r_move rfl) ?_
    refine wl_p (r_lss_f  (n := 0) rfl rfl (by omega)) ?_
    refine wl_nil ?_
    refine hK11 _ _ ?_
    clear hK11 K11
    refine wp_cond_false rfl ?_
    refine wp_skip ?_
    refine hK8 _ _ ?_
    clear hK8 K8
    refine cw_region ?_
    refine wl_p (r_add_n  (n := 1) rfl rfl om_of) ?_
    refine wl_p (r_move rfl) ?_
    refine wl_nil ?_
    refine hK5 _ _ (n₀ - (i + 1)) pfn_of ⟨i + 1, by omega, rfl, ?e3_12, h, rfl⟩ (by omega)
    case e3_12 => rw [take_flat (by omega), List.length_append]; rfl
  · have hlt := of_decide_eq_false hc; clear hc
    have hil : i = n₀ := by omega
    refine wp_exit ?_
    refine hK3 _ _ ?_
    clear hK7 hK5 hK3 K7 K5 K3
    refine cw_seq fun K13 hK13 => ?_
    refine cw_region ?_
    refine wl_p (r_move rfl) ?_
    refine wl_o fun Ko hKo => ?_
    refine op_call [_, _] Tryd.call74 rfl (grow_ok h _ (by have := take_flat_len (xss := xss) i; omega)) ?_
    clear h; rintro so w ⟨Ls, ho, h⟩
    refine hKo _ _ _ ?_; clear hKo Ko
    refine wl_p (r_assign rfl) ?_
    refine wl_nil ?_
    refine hK13 _ _ ?_
    clear hK13 K13
    refine cw_seq fun K14 hK14 => ?_
    refine cw_seq fun K15 hK15 => ?_
    refine cw_region ?_
    refine wl_p (r_move rfl) ?_
    refine wl_p (r_len rfl hd Tryd.runUnderlying106) ?_
    refine wl_p (r_move rfl) ?_
    refine wl_nil ?_
    refine hK15 _ _ ?_
    clear hK15 K15
    refine wp_block ?_
    refine cw_loopf [6, 8, 27, 28, 29, 30, 31, 32, 33, 34] (fun f w n => ∃ (i : Nat) (so : Value) (Ls : List (Nat × Obj)), i ≤ n₀ ∧ f 27 = i64 i ∧ f 6 = so ∧ OwnB 5 so (xss.take i).flatten Ls ∧ Has E w (Ls ++ F) ∧ n = n₀ - i) (n₀) ⟨0, _, _, by omega, rfl, rfl, by rw [List.take_zero]; exact ho, h, rfl⟩ ?_
    clear h; rintro f w n ⟨i, so, Ls, hi, e27, e6, ho, h, rfl⟩ K16 hK16
    simp only [putFn, List.foldl_cons, List.foldl_nil, List.set_cons_zero, List.set_cons_succ, e27, e6]
    clear e27 e6
    refine cw_seq fun K17 hK17 => ?_
    refine cw_region ?_
    refine wl_p (r_lss   rfl rfl) ?_
    refine wl_nil ?_
    refine hK17 _ _ ?_
    clear hK17 K17
    refine cw_seq fun K18 hK18 => ?_
    refine wp_cond_split rfl (fun hc => ?_) (fun hc => ?_)
    · have hlt := of_decide_eq_true hc; clear hc
      have hil : i < n₀ := by omega
      obtain ⟨v, hv, hvs⟩ := hs i (by omega)
      have hb := take_flat_len (xss := xss) (i + 1)
      rw [take_flat (by omega), List.length_append] at hb
      refine wp_skip ?_
      refine hK18 _ _ ?_
      clear hK18 K18
      refine cw_seq fun K19 hK19 => ?_
      refine wp_block ?_
      refine cw_seq fun K20 hK20 => ?_
      refine cw_region ?_
      refine wl_p (r_elem (j := i) hd rfl rfl (by first | rfl | omega) (by omega) Tryd.runUnderlying106 Tryd.sizeOf25) ?_
      refine wl_p (r_load_elem h (hd.app Ls) rfl hv Tryd.isAgg25) ?_
      refine wl_p (r_assign rfl) ?_
      refine wl_nil ?_
      refine hK20 _ _ ?_
      clear hK20 K20
      refine cw_region ?_
      refine wl_p (r_move rfl) ?_
      refine wl_p (r_move rfl) ?_
      refine wl_o fun Ko hKo => ?_
      refine op_appendB h rfl rfl ho (Rd.app Ls hvs) rfl Tryd.runUnderlying25 Tryd.typeInfo5 Tryd.sizeOf5 Tryd.zeroValue5 rfl (by show _ * 1 ≤ _; omega) (by omega) fun s33 L33 w ho33 h => ?_
      refine hKo _ _ _ ?_; clear hKo Ko
      refine wl_p (r_assign rfl) ?_
      refine wl_nil ?_
      refine hK19 _ _ ?_
      clear hK19 K19
      refine cw_region ?_
      refine wl_p (r_add_n  (n := 1) rfl rfl om_of) ?_
      refine wl_p (r_move rfl) ?_
      refine wl_nil ?_
      refine hK16 _ _ (n₀ - (i + 1)) pfn_of ⟨i + 1, _, L33, by omega, rfl, rfl, ?ho_21, h, rfl⟩ (by omega)
      case ho_21 => rw [take_flat (by omega)]; exact ho33
    · have hlt := of_decide_eq_false hc; clear hc
      have hil : i = n₀ := by omega
      refine wp_exit ?_
      refine hK14 _ _ ?_
      clear hK18 hK16 hK14 K18 K16 K14
      refine cw_seq fun K22 hK22 => ?_
      refine cw_region ?_
      refine wl_p (r_move rfl) ?_
      refine wl_p (r_assign rfl) ?_
      refine wl_nil ?_
      refine hK22 _ _ ?_
      clear hK22 K22
      refine wp_ret ?_
      refine (hQ _ _ _ (res_tmp rfl rfl) ?_).1
      try simp only [List.getD_cons_zero, List.getD_cons_succ]
      rw [hil, ← hl2, List.take_length] at ho; exact ⟨Ls, ho, h⟩

end Go.Proofs.YtjdfenlmifhhdaaDoor
