/-
  Walks, printed by mk.py (a program of this work) out of specs11.py: what the Go functions compute, and that nobody else's memory turns. Condition: none.
-/
import Derived.Test.YtjdfenlmifhhdaaDoorProg
import Derived.Test.YtjdfenlmifhhdaaDoorAuto
import Derived.Test.YtjdfenlmifhhdaaDoorSha2
namespace Go.Proofs.YtjdfenlmifhhdaaDoor
open Go.RowKit

attribute [local irreducible] addBlk blocks shaSt shaRest padded shaOut sha be padTo hmac xorC macKey nodeSum pageSum leafSum label
set_option maxHeartbeats 1000000 in
set_option maxRecDepth 100000 in
theorem shaof_ok {E : Env} {w : World} {F : List (Nat × Obj)} (h : Has E w F) {s : Value} {n₀ : Nat} {ss : List Value} {xss : List Bytes} (hd : Rd F 1 s n₀ ss) (hs : Sls F ss xss) (hl : ss.length = n₀) (hl2 : xss.length = n₀) (hn : n₀ ≤ 65536) (hx : xss.flatten.length ≤ 1099511620000) [m0 : Mem F 0 (ws 157 rootsL)] : Ret Tryd.prog 37 [s] w fun v w' => v = aggB (sha xss.flatten) ∧ Has E w' F := by
  refine ret_of_wp (l := [s, undef, undef, undef, undef, undef, undef, undef, undef, undef, undef, undef, undef, undef, undef, undef, undef, undef, undef]) Tryd.func37 rfl (by simp only [Tryd.ntmps37, List.size_toArray, List.length_cons, List.length_nil, Nat.reduceAdd, Nat.reduceSub, Array.replicate_succ, Array.replicate_zero, List.push_toArray, List.append_toArray, List.nil_append, List.cons_append]) fun Q hQ => ?_
  refine cw_seq fun K1 hK1 => ?_
  refine cw_region ?_
  refine wl_o fun Ko hKo => ?_
  refine op_allocB 32 h Tryd.zeroValue35 rfl fun b2 w h => ?_
  refine hKo _ _ _ ?_; clear hKo Ko
  refine wl_nil ?_
  refine hK1 _ _ ?_
  clear hK1 K1
  refine cw_seq fun K2 hK2 => ?_
  refine cw_region ?_
  refine wl_o fun Ko hKo => ?_
  refine op_call [] Tryd.call61 rfl (shanew_ok h) ?_
  clear h; rintro _ w ⟨hb, rfl, h⟩
  refine hKo _ _ _ ?_; clear hKo Ko
  refine wl_p (r_assign rfl) ?_
  refine wl_nil ?_
  refine hK2 _ _ ?_
  clear hK2 K2
  refine cw_seq fun K3 hK3 => ?_
  refine cw_seq fun K4 hK4 => ?_
  refine cw_region ?_
  refine wl_p (r_move rfl) ?_
  refine wl_p (r_len rfl hd Tryd.runUnderlying106) ?_
  refine wl_p (r_move rfl) ?_
  refine wl_nil ?_
  refine hK4 _ _ ?_
  clear hK4 K4
  refine wp_block ?_
  refine cw_loopf [5, 9, 10, 11, 12, 13, 14, 15, 16] (fun f w n => ∃ (i : Nat) (sr : Value) (Ls : List (Nat × Obj)), i ≤ n₀ ∧ f 9 = i64 i ∧ Sl (Ls ++ (b2, bs 35 (List.replicate 32 0)) :: F) sr (shaRest (xss.take i).flatten) ∧ Has E w ((hb, wsR 142 (shaSt ((xss.take i).flatten)) [sr, i64 ((xss.take i).flatten).length]) :: (Ls ++ (b2, bs 35 (List.replicate 32 0)) :: F)) ∧ n = n₀ - i) (n₀) ⟨0, _, [], by omega, rfl, by rw [List.take_zero, List.flatten_nil, shaRest_nil]; exact Rd.nil, h, rfl⟩ ?_
  clear h; rintro f w n ⟨i, sr, Ls, hi, e9, hsr, h, rfl⟩ K5 hK5
  simp only [putFn, List.foldl_cons, List.foldl_nil, List.set_cons_zero, List.set_cons_succ, e9]
  clear e9
  refine cw_seq fun K6 hK6 => ?_
  refine cw_region ?_
  refine wl_p (r_lss   rfl rfl) ?_
  refine wl_nil ?_
  refine hK6 _ _ ?_
  clear hK6 K6
  refine cw_seq fun K7 hK7 => ?_
  refine wp_cond_split rfl (fun hc => ?_) (fun hc => ?_)
  · have hlt := of_decide_eq_true hc; clear hc
    have hil : i < n₀ := by omega
    obtain ⟨vv, hv, hvs⟩ := hs i (by omega)
    have hbd := take_flat_len (xss := xss) (i + 1)
    rw [take_flat (by omega), List.length_append] at hbd
    refine wp_skip ?_
    refine hK7 _ _ ?_
    clear hK7 K7
    refine cw_seq fun K8 hK8 => ?_
    refine wp_block ?_
    refine cw_seq fun K9 hK9 => ?_
    refine cw_region ?_
    refine wl_p (r_elem (j := i) hd rfl rfl (by first | rfl | omega) (by omega) Tryd.runUnderlying106 Tryd.sizeOf25) ?_
    refine wl_p (r_load_elem h (Rd.cons (Rd.app _ (Rd.cons hd))) rfl hv Tryd.isAgg25) ?_
    refine wl_p (r_assign rfl) ?_
    refine wl_nil ?_
    refine hK9 _ _ ?_
    clear hK9 K9
    refine cw_region ?_
    refine wl_p (r_move rfl) ?_
    refine wl_p (r_move rfl) ?_
    refine wl_o fun Ko hKo => ?_
    refine op_call [_, _] Tryd.call62 rfl (shawrite_ok h hsr (Rd.app _ (Rd.cons hvs)) (by omega)) ?_
    clear h; rintro _ w ⟨rfl, sr2, L2, hs2, h⟩
    refine hKo _ _ _ ?_; clear hKo Ko
    refine wl_nil ?_
    refine hK8 _ _ ?_
    clear hK8 K8
    refine cw_region ?_
    refine wl_p (r_add_n  (n := 1) rfl rfl om_of) ?_
    refine wl_p (r_move rfl) ?_
    refine wl_nil ?_
    refine hK5 _ _ (n₀ - (i + 1)) pfn_of ⟨i + 1, sr2, L2 ++ Ls, by omega, rfl, ?hs_10, ?hh_10, rfl⟩ (by omega)
    case hs_10 => rw [take_flat (by omega)]; exact hs2.unassoc
    case hh_10 => rw [take_flat (by omega)]; exact h.assoc1
  · have hlt := of_decide_eq_false hc; clear hc
    have hil : i = n₀ := by omega
    refine wp_exit ?_
    refine hK3 _ _ ?_
    clear hK7 hK5 hK3 K7 K5 K3
    refine cw_seq fun K11 hK11 => ?_
    refine cw_region ?_
    refine wl_p (r_move rfl) ?_
    have hfl : (xss.take i).flatten = xss.flatten := by rw [hil, ← hl2, List.take_length]
    refine wl_o fun Ko hKo => ?_
    refine op_call [_] Tryd.call63 rfl (shasum_ok h hsr (by rw [hfl]; omega)) ?_
    clear h; rintro _ w ⟨rfl, h⟩
    rw [hfl] at h
    simp only [hfl]
    refine hKo _ _ _ ?_; clear hKo Ko
    refine wl_o fun Ko hKo => ?_
    refine op_store_ball h rfl rfl (by exact sha_len _) len_of Tryd.sizeOf35 fun w h => ?_
    have h := h.nm
    refine hKo _ _ _ ?_; clear hKo Ko
    have h := h.tail.appTail
    refine wl_nil ?_
    refine hK11 _ _ ?_
    clear hK11 K11
    refine wp_ret ?_
    refine (hQ _ _ _ (res_cell h rfl rfl (by simp [sha_len]) Tryd.isAgg35 Tryd.sizeOf35) ?_).1
    exact ⟨rfl, h.tail⟩

theorem xorIn_zero (c : BitVec 8) (l₀ l : Bytes) : iter (xorIn c l₀) 0 l = l := rfl

set_option maxHeartbeats 1000000 in
set_option maxRecDepth 100000 in
theorem macnew_ok {E : Env} {w : World} {F : List (Nat × Obj)} (h : Has E w F) {sk : Value} {key : Bytes} (hk : Sl F sk key) (hkl : key.length ≤ 64) [m0 : Mem F 0 (ws 157 rootsL)] : Ret Tryd.prog 67 [sk] w fun v w' => ∃ m hb sr Lx, v = ptr m 0 ∧ Sl ((m, bsR 149 [ptr hb 0] (xorC 92#8 (macKey key))) :: (Lx ++ F)) sr (shaRest (xorC 54#8 (macKey key))) ∧ Has E w' ((hb, wsR 142 (shaSt (xorC 54#8 (macKey key))) [sr, i64 (xorC 54#8 (macKey key)).length]) :: (m, bsR 149 [ptr hb 0] (xorC 92#8 (macKey key))) :: (Lx ++ F)) := by
  refine ret_of_wp (l := [sk, undef, undef, undef, undef, undef, undef, undef, undef, undef, undef, undef, undef, undef, undef, undef, undef, undef, undef, undef, undef, undef, undef, undef, undef, undef, undef, undef, undef, undef, undef, undef, undef, undef, undef, undef, undef, undef, undef, undef, undef, undef, undef, undef, undef]) Tryd.func67 rfl (by simp only [Tryd.ntmps67, List.size_toArray, List.length_cons, List.length_nil, Nat.reduceAdd, Nat.reduceSub, Array.replicate_succ, Array.replicate_zero, List.push_toArray, List.append_toArray, List.nil_append, List.cons_append]) fun Q hQ => ?_
  refine cw_seq fun K1 hK1 => ?_
  refine cw_region ?_
  refine wl_p (r_assign rfl) ?_
  refine wl_nil ?_
  refine hK1 _ _ ?_
  clear hK1 K1
  refine cw_seq fun K2 hK2 => ?_
  refine cw_seq fun K3 hK3 => ?_
  refine cw_region ?_
  refine wl_p (r_move rfl) ?_
  refine wl_p (r_len_sl rfl hk Tryd.runUnderlying25) ?_
  refine wl_p (r_gtr_f  (n := 64) rfl rfl (by omega)) ?_
  refine wl_nil ?_
  refine hK3 _ _ ?_
  clear hK3 K3
  refine wp_cond_false rfl ?_
  refine wp_skip ?_
  refine hK2 _ _ ?_
  clear hK2 K2
  refine cw_seq fun K4 hK4 => ?_
  refine cw_region ?_
  refine wl_o fun Ko hKo => ?_
  refine op_allocB 64 h Tryd.zeroValue147 rfl fun b4 w h => ?_
  refine hKo _ _ _ ?_; clear hKo Ko
  refine wl_nil ?_
  refine hK4 _ _ ?_
  clear hK4 K4
  refine cw_seq fun K5 hK5 => ?_
  refine cw_region ?_
  refine wl_o fun Ko hKo => ?_
  refine op_call [] Tryd.call61 rfl (shanew_ok h) ?_
  clear h; rintro _ w ⟨hb, rfl, h⟩
  refine hKo _ _ _ ?_; clear hKo Ko
  refine wl_p (r_buildP (ps := [(0, _)]) (pl := [(0, 1), (1, 64)]) (z := [(Value.pointer none), (Value.int IntKind.u8 0), (Value.int IntKind.u8 0), (Value.int IntKind.u8 0), (Value.int IntKind.u8 0), (Value.int IntKind.u8 0), (Value.int IntKind.u8 0), (Value.int IntKind.u8 0), (Value.int IntKind.u8 0), (Value.int IntKind.u8 0), (Value.int IntKind.u8 0), (Value.int IntKind.u8 0), (Value.int IntKind.u8 0), (Value.int IntKind.u8 0), (Value.int IntKind.u8 0), (Value.int IntKind.u8 0), (Value.int IntKind.u8 0), (Value.int IntKind.u8 0), (Value.int IntKind.u8 0), (Value.int IntKind.u8 0), (Value.int IntKind.u8 0), (Value.int IntKind.u8 0), (Value.int IntKind.u8 0), (Value.int IntKind.u8 0), (Value.int IntKind.u8 0), (Value.int IntKind.u8 0), (Value.int IntKind.u8 0), (Value.int IntKind.u8 0), (Value.int IntKind.u8 0), (Value.int IntKind.u8 0), (Value.int IntKind.u8 0), (Value.int IntKind.u8 0), (Value.int IntKind.u8 0), (Value.int IntKind.u8 0), (Value.int IntKind.u8 0), (Value.int IntKind.u8 0), (Value.int IntKind.u8 0), (Value.int IntKind.u8 0), (Value.int IntKind.u8 0), (Value.int IntKind.u8 0), (Value.int IntKind.u8 0), (Value.int IntKind.u8 0), (Value.int IntKind.u8 0), (Value.int IntKind.u8 0), (Value.int IntKind.u8 0), (Value.int IntKind.u8 0), (Value.int IntKind.u8 0), (Value.int IntKind.u8 0), (Value.int IntKind.u8 0), (Value.int IntKind.u8 0), (Value.int IntKind.u8 0), (Value.int IntKind.u8 0), (Value.int IntKind.u8 0), (Value.int IntKind.u8 0), (Value.int IntKind.u8 0), (Value.int IntKind.u8 0), (Value.int IntKind.u8 0), (Value.int IntKind.u8 0), (Value.int IntKind.u8 0), (Value.int IntKind.u8 0), (Value.int IntKind.u8 0), (Value.int IntKind.u8 0), (Value.int IntKind.u8 0), (Value.int IntKind.u8 0), (Value.int IntKind.u8 0)]) rfl (by kernel_rfl) ((show fillL _ _ [(0, ptr hb 0)] = some ([ptr hb 0] ++ (zeros 64).map B) from rfl))) ?_
  refine wl_o fun Ko hKo => ?_
  refine op_box h rfl rfl fun b17 w h => ?_
  refine hKo _ _ _ ?_; clear hKo Ko
  refine wl_p (r_assign rfl) ?_
  refine wl_nil ?_
  refine hK5 _ _ ?_
  clear hK5 K5
  refine cw_seq fun K6 hK6 => ?_
  refine cw_region ?_
  obtain ⟨l₀, hl₀⟩ : ∃ l₀, l₀ = macKey key := ⟨_, rfl⟩
  have hll : l₀.length = 64 := by rw [hl₀, macKey_len]
  have h : Has E w ((b17, bsR 149 [ptr hb 0] (zeros 64)) :: _) := h
  refine wl_p (r_slice_arr rfl Tryd.runUnderlying147 Tryd.sizeOf5 om_of) ?_
  refine wl_p (r_move rfl) ?_
  refine wl_o fun Ko hKo => ?_
  refine op_copyB (q := key.length) h rfl rfl (hk.cons.cons.cons) Tryd.runUnderlying25 Tryd.sizeOf5 (by omega) (by simp only [List.length_replicate]; omega) fun w h => ?_
  have h := h.nm
  rw [show key.take key.length ++ List.drop key.length (List.replicate 64 (0 : BitVec 8)) = l₀ by rw [hl₀, macKey_le key hkl, List.take_length, List.drop_replicate, padTo_def]] at h
  refine hKo _ _ _ ?_; clear hKo Ko
  refine wl_nil ?_
  refine hK6 _ _ ?_
  clear hK6 K6
  refine cw_seq fun K7 hK7 => ?_
  refine cw_seq fun K8 hK8 => ?_
  refine cw_region ?_
  refine wl_p (r_load_allb h rfl hll Tryd.isAgg147 Tryd.sizeOf147) ?_
  refine wl_p (r_move rfl) ?_
  refine wl_nil ?_
  refine hK8 _ _ ?_
  clear hK8 K8
  refine wp_block ?_
  refine cw_loopf [6, 7, 22, 23, 24, 25, 26, 27, 28, 29, 30, 31, 32, 33, 34, 35, 36, 37] (fun f w n => ∃ (i : Nat), i ≤ 64 ∧ f 22 = i64 i ∧ Has E w ((b17, bsR 149 [ptr hb 0] (iter (xorIn 92#8 l₀) i (zeros 64))) :: (hb, wsR 142 (shaSt ([] : Bytes)) [.slice none 0 0, i64 ([] : Bytes).length]) :: (b4, bs 147 (iter (xorIn 54#8 l₀) i l₀)) :: F) ∧ n = 64 - i) (64) ⟨0, by omega, rfl, h, rfl⟩ ?_
  clear h; rintro f w n ⟨i, hi, e22, h, rfl⟩ K9 hK9
  simp only [putFn, List.foldl_cons, List.foldl_nil, List.set_cons_zero, List.set_cons_succ, e22]
  clear e22
  have hq1 : (iter (xorIn 92#8 l₀) i (zeros 64)).length = 64 := by rw [xorIn_len, zeros_len]
  have hq2 : (iter (xorIn 54#8 l₀) i l₀).length = 64 := by rw [xorIn_len, hll]
  refine cw_seq fun K10 hK10 => ?_
  refine cw_region ?_
  refine wl_p (r_lss  (n := 64) rfl rfl) ?_
  refine wl_nil ?_
  refine hK10 _ _ ?_
  clear hK10 K10
  refine cw_seq fun K11 hK11 => ?_
  refine wp_cond_split rfl (fun hc => ?_) (fun hc => ?_)
  · have hlt := of_decide_eq_true hc; clear hc
    have hi64 : i < 64 := by omega
    refine wp_skip ?_
    refine hK11 _ _ ?_
    clear hK11 K11
    refine cw_seq fun K12 hK12 => ?_
    refine wp_block ?_
    refine cw_seq fun K13 hK13 => ?_
    refine cw_region ?_
    refine wl_p (r_move rfl) ?_
    refine wl_p (r_index (j := i) rfl rfl Tryd.runUnderlying147 Tryd.sizeOf5 Tryd.isAgg5 (by first | rfl | omega) (by omega) (getBl (by omega))) ?_
    refine wl_p (r_assign rfl) ?_
    refine wl_p (r_assign rfl) ?_
    refine wl_nil ?_
    refine hK13 _ _ ?_
    clear hK13 K13
    refine cw_drawn0 h (by kernel_rfl) 13 rfl #[false, false, false, false, false, false, false, false, false, false, false, false, false] rfl ?_
    clear h; rintro w h
    refine dn_p 0 #[true, false, false, false, false, false, false, false, false, false, false, false, false] ⟨some 26, _, _, _, _, _⟩ rfl (fun w => r_move rfl) ?_
    refine dn_p 1 #[true, true, false, false, false, false, false, false, false, false, false, false, false] ⟨some 27, _, _, _, _, _⟩ rfl (fun w => r_move rfl) ?_
    refine dn_p 2 #[true, true, true, false, false, false, false, false, false, false, false, false, false] ⟨some 28, _, _, _, _, _⟩ rfl (fun w => r_move rfl) ?_
    refine dn_p 3 #[true, true, true, true, false, false, false, false, false, false, false, false, false] ⟨some 29, _, _, _, _, _⟩ rfl (fun w => r_move rfl) ?_
    refine dn_p 4 #[true, true, true, true, true, false, false, false, false, false, false, false, false] ⟨some 30, _, _, _, _, _⟩ rfl (fun w => r_xor_B  (q := 54#8) rfl rfl) ?_
    refine dn_p 5 #[true, true, true, true, true, true, false, false, false, false, false, false, false] ⟨some 31, _, _, _, _, _⟩ rfl (fun w => r_move rfl) ?_
    refine dn_p 6 #[true, true, true, true, true, true, true, false, false, false, false, false, false] ⟨some 32, _, _, _, _, _⟩ rfl (fun w => r_xor_B  (q := 92#8) rfl rfl) ?_
    refine dn_p 7 #[true, true, true, true, true, true, true, true, false, false, false, false, false] ⟨some 33, _, _, _, _, _⟩ rfl (fun w => r_indexAddr_arr (j := i) rfl rfl Tryd.runUnderlying147 Tryd.sizeOf5 (by first | rfl | omega) (by omega)) ?_
    refine dn_p 9 #[true, true, true, true, true, true, true, true, false, true, false, false, false] ⟨some 34, _, _, _, _, _⟩ rfl (fun w => r_nilCheck rfl) ?_
    refine dn_p 10 #[true, true, true, true, true, true, true, true, false, true, true, false, false] ⟨some 35, _, _, _, _, _⟩ rfl (fun w => r_fieldAddr (off := 1) rfl Tryd.runUnderlying149 rfl Tryd.sizeOf147 rfl rfl) ?_
    refine dn_o 8 #[true, true, true, true, true, true, true, true, true, true, true, false, false] ⟨none, _, _, _, _, _⟩ fun Ko hKo => ?_
    refine op_store_b h rfl rfl (by omega) Tryd.sizeOf5 fun w h => ?_
    have h := h.nm
    refine hKo _ _ _ (fun _ => trivial) ?_; clear hKo Ko
    refine dn_p 11 #[true, true, true, true, true, true, true, true, true, true, true, true, false] ⟨some 36, _, _, _, _, _⟩ rfl (fun w => r_indexAddr_arr (j := i) rfl rfl Tryd.runUnderlying147 Tryd.sizeOf5 (by first | rfl | omega) (by omega)) ?_
    refine dn_o 12 #[true, true, true, true, true, true, true, true, true, true, true, true, true] ⟨none, _, _, _, _, _⟩ fun Ko hKo => ?_
    refine op_store_bR (N := 1) (j := i) h rfl rfl rfl (by omega) (by omega) Tryd.sizeOf5 fun w h => ?_
    simp only [List.set_cons_zero, List.set_cons_succ] at h
    refine hKo _ _ _ (fun _ => trivial) ?_; clear hKo Ko
    refine dn_done (by kernel_rfl) ?_
    refine hK12 _ _ ?_
    clear hK12 K12
    refine cw_region ?_
    refine wl_p (r_add_n  (n := 1) rfl rfl om_of) ?_
    refine wl_p (r_move rfl) ?_
    refine wl_nil ?_
    refine hK9 _ _ (64 - (i + 1)) pfn_of ⟨i + 1, by omega, rfl, h, rfl⟩ (by omega)
  · have hlt := of_decide_eq_false hc; clear hc
    have hi64 : i = 64 := by omega
    refine wp_exit ?_
    refine hK7 _ _ ?_
    clear hK11 hK9 hK7 K11 K9 K7
    refine cw_seq fun K15 hK15 => ?_
    rw [hi64, xorIn_all _ l₀ (zeros 64) 64 (zeros_len _) hll, xorIn_all _ l₀ l₀ 64 hll hll, hl₀] at h
    have h := h.swap
    have hxl : (xorC 54#8 (macKey key)).length = 64 := by rw [xorC_len, macKey_len]
    refine cw_drawnH h (h) (fun i => i == 5) (by kernel_rfl) 6 rfl #[false, false, false, false, false, false] rfl ?_
    clear h; rintro w h hS
    refine dn_p 0 #[true, false, false, false, false, false] ⟨some 38, _, _, _, _, _⟩ rfl (fun w => r_move rfl) ?_
    refine dn_p 1 #[true, true, false, false, false, false] ⟨some 39, _, _, _, _, _⟩ rfl (fun w => r_nilCheck rfl) ?_
    refine dn_p 2 #[true, true, true, false, false, false] ⟨some 40, _, _, _, _, _⟩ rfl (fun w => r_fieldAddr (off := 0) rfl Tryd.runUnderlying149 rfl Tryd.sizeOf107 rfl rfl) ?_
    refine dn_l 3 #[true, true, true, true, false, false] ⟨some 41, _, _, _, _, _⟩ rfl (by first | exact h | exact h.tail | exact h.tail.tail | exact hS) (fun w hS => r_load_pre hS rfl rfl Tryd.isAgg107) ?_
    refine dn_p 4 #[true, true, true, true, true, false] ⟨some 42, _, _, _, _, _⟩ rfl (fun w => r_slice_arr rfl Tryd.runUnderlying147 Tryd.sizeOf5 (by omega)) ?_
    refine dn_o 5 #[true, true, true, true, true, true] ⟨some 43, _, _, _, _, _⟩ fun Ko hKo => ?_
    refine op_call [_, _] Tryd.call62 rfl (shawrite_ok h (by rw [shaRest_nil]; exact Rd.nil) (Sl.all (t := xorC 54#8 (macKey key)) (by omega) hxl) (by simp; omega)) ?_
    clear h; rintro _ w ⟨rfl, sr2, L2, hs2, h⟩
    refine hKo _ _ _ (fun hT => absurd hT (by decide)) ?_; clear hKo Ko
    refine dn_done (by kernel_rfl) ?_
    refine hK15 _ _ ?_
    clear hK15 K15
    refine cw_seq fun K16 hK16 => ?_
    refine cw_region ?_
    refine wl_p (r_move rfl) ?_
    refine wl_p (r_assign rfl) ?_
    refine wl_nil ?_
    refine hK16 _ _ ?_
    clear hK16 K16
    refine wp_ret ?_
    refine (hQ _ _ _ (res_tmp rfl rfl) ?_).1
    try simp only [List.getD_cons_zero, List.getD_cons_succ]
    rw [List.nil_append] at hs2 h
    refine ⟨b17, hb, sr2, L2 ++ [(b4, bs 147 (xorC 54#8 (macKey key)))], rfl, ?_, ?_⟩
    · refine hs2.mono fun p hp => ?_
      simp only [List.mem_append, List.mem_cons, List.not_mem_nil, or_false] at hp ⊢
      rcases hp with hp | hp | hp | hp <;> simp [hp]
    · have := h.unmid1
      rw [List.append_assoc]; exact this

set_option maxHeartbeats 1000000 in
set_option maxRecDepth 100000 in
theorem macwrite_ok {E : Env} {w : World} {F : List (Nat × Obj)} {m hb : Nat} {all op xs : Bytes} {sr sd : Value} (h : Has E w ((hb, wsR 142 (shaSt (all)) [sr, i64 (all).length]) :: (m, bsR 149 [ptr hb 0] op) :: F)) (hs : Sl ((m, bsR 149 [ptr hb 0] op) :: F) sr (shaRest all)) (hd : Sl F sd xs) [m0 : Mem F 0 (ws 157 rootsL)] (hn : all.length + xs.length ≤ 1099511627776) : Ret Tryd.prog 68 [ptr m 0, sd] w fun v w' => v = i64 0 ∧ ∃ sr' Ls, Sl ((m, bsR 149 [ptr hb 0] op) :: (Ls ++ F)) sr' (shaRest (all ++ xs)) ∧ Has E w' ((hb, wsR 142 (shaSt (all ++ xs)) [sr', i64 (all ++ xs).length]) :: (m, bsR 149 [ptr hb 0] op) :: (Ls ++ F)) := by
  refine ret_of_wp (l := [ptr m 0, sd, undef, undef, undef, undef, undef, undef, undef, undef, undef, undef, undef]) Tryd.func68 rfl (by simp only [Tryd.ntmps68, List.size_toArray, List.length_cons, List.length_nil, Nat.reduceAdd, Nat.reduceSub, Array.replicate_succ, Array.replicate_zero, List.push_toArray, List.append_toArray, List.nil_append, List.cons_append]) fun Q hQ => ?_
  refine cw_seq fun K1 hK1 => ?_
  refine cw_region ?_
  refine wl_p (r_assign rfl) ?_
  refine wl_nil ?_
  refine hK1 _ _ ?_
  clear hK1 K1
  refine cw_seq fun K2 hK2 => ?_
  refine cw_seq fun K3 hK3 => ?_
  refine cw_region ?_
  refine wl_p (r_move rfl) ?_
  refine wl_p (r_eql_nilptr rfl rfl Tryd.runUnderlying118) ?_
  refine wl_nil ?_
  refine hK3 _ _ ?_
  clear hK3 K3
  refine wp_cond_false rfl ?_
  refine wp_skip ?_
  refine hK2 _ _ ?_
  clear hK2 K2
  refine cw_seq fun K4 hK4 => ?_
  refine cw_region ?_
  refine wl_p (r_move rfl) ?_
  refine wl_p (r_nilCheck rfl) ?_
  refine wl_p (r_fieldAddr (off := 0) rfl Tryd.runUnderlying149 rfl Tryd.sizeOf107 rfl rfl) ?_
  refine wl_p (r_load_pre h rfl rfl Tryd.isAgg107) ?_
  refine wl_p (r_move rfl) ?_
  refine wl_o fun Ko hKo => ?_
  refine op_call [_, _] Tryd.call62 rfl (shawrite_ok h hs hd.cons hn) ?_
  clear h; rintro _ w ⟨rfl, sr2, L2, hs2, h⟩
  refine hKo _ _ _ ?_; clear hKo Ko
  refine wl_p (r_assign rfl) ?_
  refine wl_nil ?_
  refine hK4 _ _ ?_
  clear hK4 K4
  refine wp_ret ?_
  refine (hQ _ _ _ (res_tmp rfl rfl) ?_).1
  try simp only [List.getD_cons_zero, List.getD_cons_succ]
  exact ⟨by trivial, sr2, L2, hs2.unmid', h.unmid1⟩

set_option maxHeartbeats 1000000 in
set_option maxRecDepth 100000 in
theorem macsum_ok {E : Env} {w : World} {F : List (Nat × Obj)} {m hb : Nat} {all op : Bytes} {sr : Value} (h : Has E w ((hb, wsR 142 (shaSt (all)) [sr, i64 (all).length]) :: (m, bsR 149 [ptr hb 0] op) :: F)) (hs : Sl ((m, bsR 149 [ptr hb 0] op) :: F) sr (shaRest all)) (hop : op.length = 64) [m0 : Mem F 0 (ws 157 rootsL)] (hn : all.length ≤ 1099511627776) : Ret Tryd.prog 69 [ptr m 0] w fun v w' => v = aggB (sha (op ++ sha all)) ∧ Has E w' ((hb, wsR 142 (shaSt (all)) [sr, i64 (all).length]) :: (m, bsR 149 [ptr hb 0] op) :: F) := by
  have hsl := sha_len all
  refine ret_of_wp (l := [ptr m 0, undef, undef, undef, undef, undef, undef, undef, undef, undef, undef, undef, undef, undef, undef, undef, undef, undef, undef]) Tryd.func69 rfl (by simp only [Tryd.ntmps69, List.size_toArray, List.length_cons, List.length_nil, Nat.reduceAdd, Nat.reduceSub, Array.replicate_succ, Array.replicate_zero, List.push_toArray, List.append_toArray, List.nil_append, List.cons_append]) fun Q hQ => ?_
  refine cw_seq fun K1 hK1 => ?_
  refine cw_region ?_
  refine wl_o fun Ko hKo => ?_
  refine op_allocB 32 h Tryd.zeroValue35 rfl fun b2 w h => ?_
  refine hKo _ _ _ ?_; clear hKo Ko
  refine wl_nil ?_
  refine hK1 _ _ ?_
  clear hK1 K1
  refine cw_seq fun K2 hK2 => ?_
  refine cw_seq fun K3 hK3 => ?_
  refine cw_region ?_
  refine wl_p (r_move rfl) ?_
  refine wl_p (r_eql_nilptr rfl rfl Tryd.runUnderlying118) ?_
  refine wl_nil ?_
  refine hK3 _ _ ?_
  clear hK3 K3
  refine wp_cond_false rfl ?_
  refine wp_skip ?_
  refine hK2 _ _ ?_
  clear hK2 K2
  refine cw_seq fun K4 hK4 => ?_
  refine cw_region ?_
  refine wl_p (r_move rfl) ?_
  refine wl_p (r_nilCheck rfl) ?_
  refine wl_p (r_fieldAddr (off := 0) rfl Tryd.runUnderlying149 rfl Tryd.sizeOf107 rfl rfl) ?_
  refine wl_p (r_load_pre h rfl rfl Tryd.isAgg107) ?_
  have h := h.swap
  refine wl_o fun Ko hKo => ?_
  refine op_call [_] Tryd.call63 rfl (shasum_ok h (hs.mono (by intro p hp; simp only [List.mem_cons] at hp ⊢; rcases hp with hp | hp <;> simp [hp])) hn) ?_
  clear h; rintro _ w ⟨rfl, h⟩
  refine hKo _ _ _ ?_; clear hKo Ko
  refine wl_o fun Ko hKo => ?_
  refine op_allocB 32 h Tryd.zeroValue35 rfl fun b3 w h => ?_
  refine hKo _ _ _ ?_; clear hKo Ko
  refine wl_o fun Ko hKo => ?_
  refine op_store_ball h rfl rfl (by exact hsl) len_of Tryd.sizeOf35 fun w h => ?_
  have h := h.nm
  refine hKo _ _ _ ?_; clear hKo Ko
  refine wl_nil ?_
  refine hK4 _ _ ?_
  clear hK4 K4
  refine cw_seq fun K5 hK5 => ?_
  refine cw_drawn0 h (by kernel_rfl) 8 rfl #[false, false, false, false, false, false, false, false] rfl ?_
  clear h; rintro w h
  refine dn_p 0 #[true, false, false, false, false, false, false, false] ⟨some 12, _, _, _, _, _⟩ rfl (fun w => r_move rfl) ?_
  refine dn_p 1 #[true, true, false, false, false, false, false, false] ⟨some 13, _, _, _, _, _⟩ rfl (fun w => r_nilCheck rfl) ?_
  refine dn_p 2 #[true, true, true, false, false, false, false, false] ⟨some 14, _, _, _, _, _⟩ rfl (fun w => r_fieldAddr (off := 1) rfl Tryd.runUnderlying149 rfl Tryd.sizeOf147 rfl rfl) ?_
  refine dn_p 3 #[true, true, true, true, false, false, false, false] ⟨some 15, _, _, _, _, _⟩ rfl (fun w => r_slice_arr rfl Tryd.runUnderlying147 Tryd.sizeOf5 (by omega)) ?_
  refine dn_p 4 #[true, true, true, true, true, false, false, false] ⟨some 16, _, _, _, _, _⟩ rfl (fun w => r_slice_arr rfl Tryd.runUnderlying35 Tryd.sizeOf5 (by omega)) ?_
  refine dn_o 5 #[true, true, true, true, true, true, false, false] ⟨some 17, _, _, _, _, _⟩ fun Ko hKo => ?_
  refine op_buildSliceL [_, _] h rfl rfl Tryd.runUnderlying106 Tryd.sizeOf25 Tryd.zeroValue25 rfl (by decide) (by intro v hv; simp only [List.mem_cons, List.not_mem_nil, or_false] at hv; rcases hv with rfl | rfl <;> first | rfl | assumption) fun b17 w h => ?_
  refine hKo _ _ _ (fun _ => trivial) ?_; clear hKo Ko
  refine dn_o 6 #[true, true, true, true, true, true, true, false] ⟨some 18, _, _, _, _, _⟩ fun Ko hKo => ?_
  refine op_call [_] Tryd.call37 rfl (shaof_ok h (Rd.mk (off := 0) (n := 2) (c := 2) (sz := 1) (by omega) (by simp)) (xss := [op, sha all]) (Sls.cons (Sl.mkR (pre := [ptr hb 0]) rfl hop (by omega)) (Sls.cons (Sl.all (t := sha all) (by omega) hsl) Sls.nil)) rfl rfl (by omega) (by simp [hop, hsl])) ?_
  clear h; rintro _ w ⟨rfl, h⟩
  simp only [List.flatten_cons, List.flatten_nil, List.append_nil]
  refine hKo _ _ _ (fun _ => trivial) ?_; clear hKo Ko
  refine dn_o 7 #[true, true, true, true, true, true, true, true] ⟨none, _, _, _, _, _⟩ fun Ko hKo => ?_
  refine op_store_ball h rfl rfl (by exact sha_len _) len_of Tryd.sizeOf35 fun w h => ?_
  have h := h.nm
  refine hKo _ _ _ (fun _ => trivial) ?_; clear hKo Ko
  refine dn_done (by kernel_rfl) ?_
  refine hK5 _ _ ?_
  clear hK5 K5
  refine wp_ret ?_
  refine (hQ _ _ _ (res_cell h rfl rfl (by simp [sha_len]) Tryd.isAgg35 Tryd.sizeOf35) ?_).1
  exact ⟨rfl, h.tail.tail.swap.tail⟩

set_option maxHeartbeats 1000000 in
set_option maxRecDepth 100000 in
theorem macof_ok {E : Env} {w : World} {F : List (Nat × Obj)} (h : Has E w F) {sk : Value} {key : Bytes} (hk : Sl F sk key) (hkl : key.length ≤ 64) {s : Value} {n₀ : Nat} {ss : List Value} {xss : List Bytes} (hd : Rd F 1 s n₀ ss) (hs : Sls F ss xss) (hl : ss.length = n₀) (hl2 : xss.length = n₀) (hn : n₀ ≤ 65536) (hx : xss.flatten.length ≤ 1099511620000) [m0 : Mem F 0 (ws 157 rootsL)] : Ret Tryd.prog 41 [sk, s] w fun v w' => v = aggB (hmac key xss.flatten) ∧ Has E w' F := by
  obtain ⟨ip, hip⟩ : ∃ ip, ip = xorC 54#8 (macKey key) := ⟨_, rfl⟩
  obtain ⟨op, hop⟩ : ∃ op, op = xorC 92#8 (macKey key) := ⟨_, rfl⟩
  have hil0 : ip.length = 64 := by rw [hip, xorC_len, macKey_len]
  have hol0 : op.length = 64 := by rw [hop, xorC_len, macKey_len]
  refine ret_of_wp (l := [sk, s, undef, undef, undef, undef, undef, undef, undef, undef, undef, undef, undef, undef, undef, undef, undef, undef, undef, undef, undef, undef]) Tryd.func41 rfl (by simp only [Tryd.ntmps41, List.size_toArray, List.length_cons, List.length_nil, Nat.reduceAdd, Nat.reduceSub, Array.replicate_succ, Array.replicate_zero, List.push_toArray, List.append_toArray, List.nil_append, List.cons_append]) fun Q hQ => ?_
  refine cw_seq fun K1 hK1 => ?_
  refine cw_region ?_
  refine wl_o fun Ko hKo => ?_
  refine op_allocB 32 h Tryd.zeroValue35 rfl fun b4 w h => ?_
  refine hKo _ _ _ ?_; clear hKo Ko
  refine wl_nil ?_
  refine hK1 _ _ ?_
  clear hK1 K1
  refine cw_seq fun K2 hK2 => ?_
  refine cw_region ?_
  refine wl_p (r_move rfl) ?_
  refine wl_o fun Ko hKo => ?_
  refine op_call [_] Tryd.call67 rfl (macnew_ok h hk.cons hkl) ?_
  clear h; rintro _ w ⟨m, hb, sr, Lx, rfl, hsr, h⟩
  rw [← hip, ← hop] at h hsr
  refine hKo _ _ _ ?_; clear hKo Ko
  refine wl_p (r_assign rfl) ?_
  refine wl_nil ?_
  refine hK2 _ _ ?_
  clear hK2 K2
  refine cw_seq fun K3 hK3 => ?_
  refine cw_seq fun K4 hK4 => ?_
  refine cw_region ?_
  refine wl_p (r_move rfl) ?_
  refine wl_p (r_len rfl hd Tryd.runUnderlying106) ?_
  refine wl_p (r_move rfl) ?_
  refine wl_nil ?_
  refine hK4 _ _ ?_
  clear hK4 K4
  refine wp_block ?_
  refine cw_loopf [7, 12, 13, 14, 15, 16, 17, 18, 19] (fun f w n => ∃ (i : Nat) (sr : Value) (Lx : List (Nat × Obj)), i ≤ n₀ ∧ f 12 = i64 i ∧ Sl ((m, bsR 149 [ptr hb 0] op) :: (Lx ++ (b4, bs 35 (List.replicate 32 0)) :: F)) sr (shaRest (ip ++ (xss.take i).flatten)) ∧ Has E w ((hb, wsR 142 (shaSt (ip ++ (xss.take i).flatten)) [sr, i64 (ip ++ (xss.take i).flatten).length]) :: (m, bsR 149 [ptr hb 0] op) :: (Lx ++ (b4, bs 35 (List.replicate 32 0)) :: F)) ∧ n = n₀ - i) (n₀) ⟨0, _, Lx, by omega, rfl, by rw [List.take_zero, List.flatten_nil, List.append_nil]; exact hsr, by rw [List.take_zero, List.flatten_nil, List.append_nil]; exact h, rfl⟩ ?_
  clear h; rintro f w n ⟨i, sr, Lx, hi, e12, hsr, h, rfl⟩ K5 hK5
  simp only [putFn, List.foldl_cons, List.foldl_nil, List.set_cons_zero, List.set_cons_succ, e12]
  clear e12
  refine cw_seq fun K6 hK6 => ?_
  refine cw_region ?_
  refine wl_p (r_lss   rfl rfl) ?_
  refine wl_nil ?_
  refine hK6 _ _ ?_
  clear hK6 K6
  refine cw_seq fun K7 hK7 => ?_
  refine wp_cond_split rfl (fun hc => ?_) (fun hc => ?_)
  · have hlt := of_decide_eq_true hc; clear hc
    have hil : i < n₀ := by omega
    obtain ⟨vv, hv, hvs⟩ := hs i (by omega)
    have hbd := take_flat_len (xss := xss) (i + 1)
    rw [take_flat (by omega), List.length_append] at hbd
    refine wp_skip ?_
    refine hK7 _ _ ?_
    clear hK7 K7
    refine cw_seq fun K8 hK8 => ?_
    refine wp_block ?_
    refine cw_seq fun K9 hK9 => ?_
    refine cw_region ?_
    refine wl_p (r_elem (j := i) hd rfl rfl (by first | rfl | omega) (by omega) Tryd.runUnderlying106 Tryd.sizeOf25) ?_
    refine wl_p (r_load_elem h (Rd.cons (Rd.cons (Rd.app _ (Rd.cons hd)))) rfl hv Tryd.isAgg25) ?_
    refine wl_p (r_assign rfl) ?_
    refine wl_nil ?_
    refine hK9 _ _ ?_
    clear hK9 K9
    refine cw_region ?_
    refine wl_p (r_move rfl) ?_
    refine wl_p (r_move rfl) ?_
    refine wl_o fun Ko hKo => ?_
    refine op_call [_, _] Tryd.call68 rfl (macwrite_ok h hsr (Rd.app _ (Rd.cons hvs)) (by rw [List.length_append]; omega)) ?_
    clear h; rintro _ w ⟨rfl, sr2, L2, hs2, h⟩
    refine hKo _ _ _ ?_; clear hKo Ko
    refine wl_nil ?_
    refine hK8 _ _ ?_
    clear hK8 K8
    refine cw_region ?_
    refine wl_p (r_add_n  (n := 1) rfl rfl om_of) ?_
    refine wl_p (r_move rfl) ?_
    refine wl_nil ?_
    refine hK5 _ _ (n₀ - (i + 1)) pfn_of ⟨i + 1, sr2, L2 ++ Lx, by omega, rfl, ?hs_10, ?hh_10, rfl⟩ (by omega)
    case hs_10 => rw [take_flat (by omega), ← List.append_assoc]; exact hs2.unassoc1
    case hh_10 => rw [take_flat (by omega), ← List.append_assoc]; exact h.assoc2
  · have hlt := of_decide_eq_false hc; clear hc
    have hil : i = n₀ := by omega
    refine wp_exit ?_
    refine hK3 _ _ ?_
    clear hK7 hK5 hK3 K7 K5 K3
    refine cw_seq fun K11 hK11 => ?_
    refine cw_region ?_
    refine wl_p (r_move rfl) ?_
    have hfl : (xss.take i).flatten = xss.flatten := by rw [hil, ← hl2, List.take_length]
    refine wl_o fun Ko hKo => ?_
    refine op_call [_] Tryd.call69 rfl (macsum_ok h hsr hol0 (by rw [hfl, List.length_append]; omega)) ?_
    clear h; rintro _ w ⟨rfl, h⟩
    have h := h.tail.tail.appTail
    simp only [hfl]
    have hm : sha (op ++ sha (ip ++ xss.flatten)) = hmac key xss.flatten := by rw [hmac, hop, hip]
    simp only [hm]
    refine hKo _ _ _ ?_; clear hKo Ko
    refine wl_o fun Ko hKo => ?_
    refine op_store_ball h rfl rfl (by exact hmac_len _ _) len_of Tryd.sizeOf35 fun w h => ?_
    have h := h.nm
    refine hKo _ _ _ ?_; clear hKo Ko
    refine wl_nil ?_
    refine hK11 _ _ ?_
    clear hK11 K11
    refine wp_ret ?_
    refine (hQ _ _ _ (res_cell h rfl rfl (by simp [hmac_len]) Tryd.isAgg35 Tryd.sizeOf35) ?_).1
    exact ⟨rfl, h.tail⟩

set_option maxHeartbeats 1000000 in
set_option maxRecDepth 100000 in
theorem equal_ok {E : Env} {w : World} {F : List (Nat × Obj)} (h : Has E w F) {sa sb : Value} {xs ys : Bytes} (ha : Sl F sa xs) (hb : Sl F sb ys) (hl : xs.length = ys.length) (hx : xs.length ≤ 1099511627776) : Ret Tryd.prog 52 [sa, sb] w fun v w' => v = .bool (decide (xs = ys)) ∧ Has E w' F := by
  refine ret_of_wp (l := [sa, sb, undef, undef, undef, undef, undef, undef, undef, undef, undef, undef, undef, undef, undef, undef, undef, undef, undef, undef, undef, undef, undef, undef, undef, undef, undef, undef, undef, undef, undef]) Tryd.func52 rfl (by simp only [Tryd.ntmps52, List.size_toArray, List.length_cons, List.length_nil, Nat.reduceAdd, Nat.reduceSub, Array.replicate_succ, Array.replicate_zero, List.push_toArray, List.append_toArray, List.nil_append, List.cons_append]) fun Q hQ => ?_
  refine cw_seq fun K1 hK1 => ?_
  refine cw_region ?_
  refine wl_p (r_assign rfl) ?_
  refine wl_nil ?_
  refine hK1 _ _ ?_
  clear hK1 K1
  refine cw_seq fun K2 hK2 => ?_
  refine cw_seq fun K3 hK3 => ?_
  refine cw_region ?_
  refine wl_p (r_move rfl) ?_
  refine wl_p (r_len_sl rfl ha Tryd.runUnderlying25) ?_
  refine wl_p (r_move rfl) ?_
  refine wl_p (r_len_sl rfl hb Tryd.runUnderlying25) ?_
  refine wl_p (r_neq_f   rfl rfl (by omega)) ?_
  refine wl_nil ?_
  refine hK3 _ _ ?_
  clear hK3 K3
  refine wp_cond_false rfl ?_
  refine wp_skip ?_
  refine hK2 _ _ ?_
  clear hK2 K2
  refine cw_seq fun K4 hK4 => ?_
  refine cw_region ?_
  refine wl_p (r_assign rfl) ?_
  refine wl_nil ?_
  refine hK4 _ _ ?_
  clear hK4 K4
  refine cw_seq fun K5 hK5 => ?_
  refine cw_seq fun K6 hK6 => ?_
  refine cw_region ?_
  refine wl_p (r_move rfl) ?_
  refine wl_p (r_len_sl rfl ha Tryd.runUnderlying25) ?_
  refine wl_p (r_move rfl) ?_
  refine wl_nil ?_
  refine hK6 _ _ ?_
  clear hK6 K6
  refine wp_block ?_
  refine cw_loopf [5, 6, 14, 15, 16, 17, 18, 19, 20, 21, 22, 23, 24, 25, 26, 27, 28] (fun f w n => ∃ (i : Nat) (p : BitVec 8), i ≤ xs.length ∧ f 14 = i64 i ∧ f 5 = B p ∧ (p = 0#8 ↔ xs.take i = ys.take i) ∧ Has E w F ∧ n = xs.length - i) (xs.length) ⟨0, 0#8, by omega, rfl, rfl, by simp, h, rfl⟩ ?_
  clear h; rintro f w n ⟨i, p, hi, e14, e5, hp, h, rfl⟩ K7 hK7
  simp only [putFn, List.foldl_cons, List.foldl_nil, List.set_cons_zero, List.set_cons_succ, e14, e5]
  clear e14 e5
  refine cw_seq fun K8 hK8 => ?_
  refine cw_region ?_
  refine wl_p (r_lss   rfl rfl) ?_
  refine wl_nil ?_
  refine hK8 _ _ ?_
  clear hK8 K8
  refine cw_seq fun K9 hK9 => ?_
  refine wp_cond_split rfl (fun hc => ?_) (fun hc => ?_)
  · have hlt := of_decide_eq_true hc; clear hc
    have hil : i < xs.length := by omega
    refine wp_skip ?_
    refine hK9 _ _ ?_
    clear hK9 K9
    refine cw_seq fun K10 hK10 => ?_
    refine wp_block ?_
    refine cw_seq fun K11 hK11 => ?_
    refine cw_region ?_
    refine wl_p (r_move rfl) ?_
    refine wl_p (r_assign rfl) ?_
    refine wl_nil ?_
    refine hK11 _ _ ?_
    clear hK11 K11
    refine cw_drawnH h (h) (fun i => false) (by kernel_rfl) 12 rfl #[false, false, false, false, false, false, false, false, false, false, false, false] rfl ?_
    clear h; rintro w h hS
    refine dn_p 0 #[true, false, false, false, false, false, false, false, false, false, false, false] ⟨some 17, _, _, _, _, _⟩ rfl (fun w => r_move rfl) ?_
    refine dn_p 1 #[true, true, false, false, false, false, false, false, false, false, false, false] ⟨some 18, _, _, _, _, _⟩ rfl (fun w => r_move rfl) ?_
    refine dn_p 2 #[true, true, true, false, false, false, false, false, false, false, false, false] ⟨some 19, _, _, _, _, _⟩ rfl (fun w => r_move rfl) ?_
    refine dn_p 3 #[true, true, true, true, false, false, false, false, false, false, false, false] ⟨some 20, _, _, _, _, _⟩ rfl (fun w => r_elem (j := i) ha rfl rfl (by first | rfl | omega) (by omega) Tryd.runUnderlying25 Tryd.sizeOf5) ?_
    refine dn_l 4 #[true, true, true, true, true, false, false, false, false, false, false, false] ⟨some 21, _, _, _, _, _⟩ rfl (by first | exact h | exact h.tail | exact h.tail.tail | exact hS) (fun w hS => r_load_elemb hS ha rfl (by omega) Tryd.isAgg5) ?_
    refine dn_p 5 #[true, true, true, true, true, true, false, false, false, false, false, false] ⟨some 22, _, _, _, _, _⟩ rfl (fun w => r_move rfl) ?_
    refine dn_p 6 #[true, true, true, true, true, true, true, false, false, false, false, false] ⟨some 23, _, _, _, _, _⟩ rfl (fun w => r_move rfl) ?_
    refine dn_p 7 #[true, true, true, true, true, true, true, true, false, false, false, false] ⟨some 24, _, _, _, _, _⟩ rfl (fun w => r_elem (j := i) hb rfl rfl (by first | rfl | omega) (by omega) Tryd.runUnderlying25 Tryd.sizeOf5) ?_
    refine dn_l 8 #[true, true, true, true, true, true, true, true, true, false, false, false] ⟨some 25, _, _, _, _, _⟩ rfl (by first | exact h | exact h.tail | exact h.tail.tail | exact hS) (fun w hS => r_load_elemb hS hb rfl (by omega) Tryd.isAgg5) ?_
    refine dn_p 9 #[true, true, true, true, true, true, true, true, true, true, false, false] ⟨some 26, _, _, _, _, _⟩ rfl (fun w => r_xor_B   rfl rfl) ?_
    refine dn_p 10 #[true, true, true, true, true, true, true, true, true, true, true, false] ⟨some 27, _, _, _, _, _⟩ rfl (fun w => r_or_B   rfl rfl) ?_
    refine dn_p 11 #[true, true, true, true, true, true, true, true, true, true, true, true] ⟨some 5, _, _, _, _, _⟩ rfl (fun w => r_assign rfl) ?_
    refine dn_done (by kernel_rfl) ?_
    refine hK10 _ _ ?_
    clear hK10 K10
    refine cw_region ?_
    refine wl_p (r_add_n  (n := 1) rfl rfl om_of) ?_
    refine wl_p (r_move rfl) ?_
    refine wl_nil ?_
    refine hK7 _ _ (xs.length - (i + 1)) pfn_of ⟨i + 1, _, by omega, rfl, rfl, ?hp_12, h, rfl⟩ (by omega)
    case hp_12 => rw [apart_step, take_same hil (by omega), hp]
  · have hlt := of_decide_eq_false hc; clear hc
    have hil : i = xs.length := by omega
    refine wp_exit ?_
    refine hK5 _ _ ?_
    clear hK9 hK7 hK5 K9 K7 K5
    refine cw_seq fun K13 hK13 => ?_
    refine cw_region ?_
    refine wl_p (r_move rfl) ?_
    refine wl_p (r_eql_B  (q := 0#8) rfl rfl) ?_
    refine wl_p (r_assign rfl) ?_
    refine wl_nil ?_
    refine hK13 _ _ ?_
    clear hK13 K13
    refine wp_ret ?_
    refine (hQ _ _ _ (res_tmp rfl rfl) ?_).1
    try simp only [List.getD_cons_zero, List.getD_cons_succ]
    refine ⟨congrArg Value.bool (Bool.eq_iff_iff.2 ?_), h⟩
    simp only [decide_eq_true_eq]
    rw [hp, hil, List.take_length, hl, List.take_length]

set_option maxHeartbeats 1000000 in
set_option maxRecDepth 100000 in
theorem label_ok {E : Env} {w : World} {F : List (Nat × Obj)} (h : Has E w F) {key : Bytes} (hk : key.length = 32) {st : ByteArray} {name : Bytes} (hst : (st.data.toList.map fun u => B u.toBitVec) = name.map B) (hsz : st.size = name.length) (hn : name.length ≤ 1000) [m0 : Mem F 0 (ws 157 rootsL)] : Ret Tryd.prog 25 [aggB key, .string st] w fun v w' => v = aggB (label key name) ∧ Has E w' F := by
  refine ret_of_wp (l := [aggB key, .string st, undef, undef, undef, undef, undef, undef, undef, undef, undef, undef]) Tryd.func25 rfl (by simp only [Tryd.ntmps25, List.size_toArray, List.length_cons, List.length_nil, Nat.reduceAdd, Nat.reduceSub, Array.replicate_succ, Array.replicate_zero, List.push_toArray, List.append_toArray, List.nil_append, List.cons_append]) fun Q hQ => ?_
  refine cw_seq fun K1 hK1 => ?_
  refine cw_region ?_
  refine wl_o fun Ko hKo => ?_
  refine op_box h rfl rfl fun b2 w h => ?_
  refine hKo _ _ _ ?_; clear hKo Ko
  refine wl_o fun Ko hKo => ?_
  refine op_allocB 32 h Tryd.zeroValue23 rfl fun b4 w h => ?_
  refine hKo _ _ _ ?_; clear hKo Ko
  refine wl_nil ?_
  refine hK1 _ _ ?_
  clear hK1 K1
  refine cw_seq fun K2 hK2 => ?_
  refine cw_region ?_
  refine wl_p (r_slice_arr rfl Tryd.runUnderlying23 Tryd.sizeOf5 (by omega)) ?_
  refine wl_o fun Ko hKo => ?_
  refine op_buildSliceB [114#8, 101#8, 108#8, 105#8, 113#8, 117#8, 97#8, 114#8, 121#8, 32#8] h rfl rfl Tryd.runUnderlying25 Tryd.sizeOf5 Tryd.zeroValue5 rfl (by decide) fun b6 w h => ?_
  refine hKo _ _ _ ?_; clear hKo Ko
  refine wl_o fun Ko hKo => ?_
  refine op_conv_bytes h rfl Tryd.runUnderlying25 Tryd.runUnderlying5 fun w h => ?_
  have h := h.nm
  refine hKo _ _ _ ?_; clear hKo Ko
  refine wl_p (r_move rfl) ?_
  refine wl_o fun Ko hKo => ?_
  refine op_conv_string h rfl Tryd.runUnderlying9 Tryd.runUnderlying25 Tryd.runUnderlying5 fun b9 c9 j9 z9 w hc9 h => ?_
  rw [hst] at h
  refine hKo _ _ _ ?_; clear hKo Ko
  refine wl_o fun Ko hKo => ?_
  refine op_buildSliceL [_, _] h rfl rfl Tryd.runUnderlying106 Tryd.sizeOf25 Tryd.zeroValue25 rfl (by decide) (by intro v hv; simp only [List.mem_cons, List.not_mem_nil, or_false] at hv; rcases hv with rfl | rfl <;> first | rfl | assumption) fun b10 w h => ?_
  refine hKo _ _ _ ?_; clear hKo Ko
  refine wl_o fun Ko hKo => ?_
  refine op_call [_, _] Tryd.call41 rfl (macof_ok h (Sl.all (t := key) (by omega) hk) (by omega) (Rd.mk (off := 0) (n := 2) (c := 2) (sz := 1) (by omega) (by simp)) (xss := [ours, name]) (Sls.cons (Sl.all (t := ours) (n := 10) (by omega) rfl) (Sls.cons (Sl.head (xs := name) (by omega) (by omega)) Sls.nil)) rfl rfl (by omega) (by simp [ours]; omega)) ?_
  clear h; rintro _ w ⟨rfl, h⟩
  simp only [List.flatten_cons, List.flatten_nil, List.append_nil]
  rw [show hmac key (ours ++ name) = label key name by rw [label]]
  refine hKo _ _ _ ?_; clear hKo Ko
  refine wl_o fun Ko hKo => ?_
  refine op_store_ball h rfl rfl (by exact label_len _ _) len_of Tryd.sizeOf23 fun w h => ?_
  have h := h.nm
  refine hKo _ _ _ ?_; clear hKo Ko
  refine wl_nil ?_
  refine hK2 _ _ ?_
  clear hK2 K2
  refine wp_ret ?_
  refine (hQ _ _ _ (res_cell h rfl rfl (by simp [label_len]) Tryd.isAgg23 Tryd.sizeOf23) ?_).1
  exact ⟨rfl, h.tail.tail.tail.tail.tail⟩

set_option maxHeartbeats 1000000 in
set_option maxRecDepth 100000 in
theorem nodesum_ok {E : Env} {w : World} {F : List (Nat × Obj)} (h : Has E w F) {sd : Value} {xs : Bytes} (hd : Sl F sd xs) (hx : xs.length ≤ 65536) [m0 : Mem F 0 (ws 157 rootsL)] : Ret Tryd.prog 19 [sd] w fun v w' => v = aggB (nodeSum xs) ∧ Has E w' F := by
  have h1 := hd.one
  refine ret_of_wp (l := [sd, undef, undef, undef, undef, undef, undef, undef]) Tryd.func19 rfl (by simp only [Tryd.ntmps19, List.size_toArray, List.length_cons, List.length_nil, Nat.reduceAdd, Nat.reduceSub, Array.replicate_succ, Array.replicate_zero, List.push_toArray, List.append_toArray, List.nil_append, List.cons_append]) fun Q hQ => ?_
  refine cw_seq fun K1 hK1 => ?_
  refine cw_region ?_
  refine wl_o fun Ko hKo => ?_
  refine op_allocB 32 h Tryd.zeroValue35 rfl fun b2 w h => ?_
  refine hKo _ _ _ ?_; clear hKo Ko
  refine wl_nil ?_
  refine hK1 _ _ ?_
  clear hK1 K1
  refine cw_seq fun K2 hK2 => ?_
  refine cw_region ?_
  refine wl_o fun Ko hKo => ?_
  refine op_buildSliceB [110#8, 111#8, 100#8, 101#8] h rfl rfl Tryd.runUnderlying25 Tryd.sizeOf5 Tryd.zeroValue5 rfl (by decide) fun b3 w h => ?_
  refine hKo _ _ _ ?_; clear hKo Ko
  refine wl_o fun Ko hKo => ?_
  refine op_conv_bytes h rfl Tryd.runUnderlying25 Tryd.runUnderlying5 fun w h => ?_
  have h := h.nm
  refine hKo _ _ _ ?_; clear hKo Ko
  refine wl_p (r_move rfl) ?_
  refine wl_o fun Ko hKo => ?_
  refine op_buildSliceL [_, _] h rfl rfl Tryd.runUnderlying106 Tryd.sizeOf25 Tryd.zeroValue25 rfl (by decide) (by intro v hv; simp only [List.mem_cons, List.not_mem_nil, or_false] at hv; rcases hv with rfl | rfl <;> first | rfl | assumption) fun b6 w h => ?_
  refine hKo _ _ _ ?_; clear hKo Ko
  refine wl_o fun Ko hKo => ?_
  refine op_call [_] Tryd.call37 rfl (shaof_ok h (Rd.mk (off := 0) (n := 2) (c := 2) (sz := 1) (by omega) (by simp)) (xss := [nodeName, xs]) (Sls.cons (Sl.all (t := nodeName) (n := 4) (by omega) rfl) (Sls.cons hd.cons.cons.cons Sls.nil)) rfl rfl (by omega) (by simp [nodeName]; omega)) ?_
  clear h; rintro _ w ⟨rfl, h⟩
  simp only [List.flatten_cons, List.flatten_nil, List.append_nil]
  rw [show sha (nodeName ++ xs) = nodeSum xs by rw [nodeSum]]
  refine hKo _ _ _ ?_; clear hKo Ko
  refine wl_o fun Ko hKo => ?_
  refine op_store_ball h rfl rfl (by exact nodeSum_len _) len_of Tryd.sizeOf35 fun w h => ?_
  have h := h.nm
  refine hKo _ _ _ ?_; clear hKo Ko
  refine wl_nil ?_
  refine hK2 _ _ ?_
  clear hK2 K2
  refine wp_ret ?_
  refine (hQ _ _ _ (res_cell h rfl rfl (by simp [nodeSum_len]) Tryd.isAgg35 Tryd.sizeOf35) ?_).1
  exact ⟨rfl, h.tail.tail.tail⟩

set_option maxHeartbeats 1000000 in
set_option maxRecDepth 100000 in
theorem pagesum_ok {E : Env} {w : World} {F : List (Nat × Obj)} (h : Has E w F) {sd : Value} {xs : Bytes} (hd : Sl F sd xs) (hx : xs.length ≤ 65536) [m0 : Mem F 0 (ws 157 rootsL)] : Ret Tryd.prog 18 [sd] w fun v w' => v = aggB (pageSum xs) ∧ Has E w' F := by
  have h1 := hd.one
  refine ret_of_wp (l := [sd, undef, undef, undef, undef, undef, undef, undef]) Tryd.func18 rfl (by simp only [Tryd.ntmps18, List.size_toArray, List.length_cons, List.length_nil, Nat.reduceAdd, Nat.reduceSub, Array.replicate_succ, Array.replicate_zero, List.push_toArray, List.append_toArray, List.nil_append, List.cons_append]) fun Q hQ => ?_
  refine cw_seq fun K1 hK1 => ?_
  refine cw_region ?_
  refine wl_o fun Ko hKo => ?_
  refine op_allocB 32 h Tryd.zeroValue35 rfl fun b2 w h => ?_
  refine hKo _ _ _ ?_; clear hKo Ko
  refine wl_nil ?_
  refine hK1 _ _ ?_
  clear hK1 K1
  refine cw_seq fun K2 hK2 => ?_
  refine cw_region ?_
  refine wl_o fun Ko hKo => ?_
  refine op_buildSliceB [112#8, 97#8, 103#8, 101#8] h rfl rfl Tryd.runUnderlying25 Tryd.sizeOf5 Tryd.zeroValue5 rfl (by decide) fun b3 w h => ?_
  refine hKo _ _ _ ?_; clear hKo Ko
  refine wl_o fun Ko hKo => ?_
  refine op_conv_bytes h rfl Tryd.runUnderlying25 Tryd.runUnderlying5 fun w h => ?_
  have h := h.nm
  refine hKo _ _ _ ?_; clear hKo Ko
  refine wl_p (r_move rfl) ?_
  refine wl_o fun Ko hKo => ?_
  refine op_buildSliceL [_, _] h rfl rfl Tryd.runUnderlying106 Tryd.sizeOf25 Tryd.zeroValue25 rfl (by decide) (by intro v hv; simp only [List.mem_cons, List.not_mem_nil, or_false] at hv; rcases hv with rfl | rfl <;> first | rfl | assumption) fun b6 w h => ?_
  refine hKo _ _ _ ?_; clear hKo Ko
  refine wl_o fun Ko hKo => ?_
  refine op_call [_] Tryd.call37 rfl (shaof_ok h (Rd.mk (off := 0) (n := 2) (c := 2) (sz := 1) (by omega) (by simp)) (xss := [pageName, xs]) (Sls.cons (Sl.all (t := pageName) (n := 4) (by omega) rfl) (Sls.cons hd.cons.cons.cons Sls.nil)) rfl rfl (by omega) (by simp [pageName]; omega)) ?_
  clear h; rintro _ w ⟨rfl, h⟩
  simp only [List.flatten_cons, List.flatten_nil, List.append_nil]
  rw [show sha (pageName ++ xs) = pageSum xs by rw [pageSum]]
  refine hKo _ _ _ ?_; clear hKo Ko
  refine wl_o fun Ko hKo => ?_
  refine op_store_ball h rfl rfl (by exact pageSum_len _) len_of Tryd.sizeOf35 fun w h => ?_
  have h := h.nm
  refine hKo _ _ _ ?_; clear hKo Ko
  refine wl_nil ?_
  refine hK2 _ _ ?_
  clear hK2 K2
  refine wp_ret ?_
  refine (hQ _ _ _ (res_cell h rfl rfl (by simp [pageSum_len]) Tryd.isAgg35 Tryd.sizeOf35) ?_).1
  exact ⟨rfl, h.tail.tail.tail⟩

set_option maxHeartbeats 1000000 in
set_option maxRecDepth 100000 in
theorem leafsum_ok {E : Env} {w : World} {F : List (Nat × Obj)} (h : Has E w F) {key : Bytes} (hk : key.length = 32) (at_ : BitVec 32) {sd : Value} {xs : Bytes} (hd : Sl F sd xs) (hx : xs.length ≤ 65536) [m0 : Mem F 0 (ws 157 rootsL)] : Ret Tryd.prog 38 [aggB key, W at_, sd] w fun v w' => v = aggB (leafSum key at_ xs) ∧ Has E w' F := by
  have h1 := hd.one
  refine ret_of_wp (l := [aggB key, W at_, sd, undef, undef, undef, undef, undef, undef, undef, undef, undef, undef, undef, undef]) Tryd.func38 rfl (by simp only [Tryd.ntmps38, List.size_toArray, List.length_cons, List.length_nil, Nat.reduceAdd, Nat.reduceSub, Array.replicate_succ, Array.replicate_zero, List.push_toArray, List.append_toArray, List.nil_append, List.cons_append]) fun Q hQ => ?_
  refine cw_seq fun K1 hK1 => ?_
  refine cw_region ?_
  refine wl_o fun Ko hKo => ?_
  refine op_box h rfl rfl fun b3 w h => ?_
  refine hKo _ _ _ ?_; clear hKo Ko
  refine wl_o fun Ko hKo => ?_
  refine op_allocB 32 h Tryd.zeroValue35 rfl fun b6 w h => ?_
  refine hKo _ _ _ ?_; clear hKo Ko
  refine wl_nil ?_
  refine hK1 _ _ ?_
  clear hK1 K1
  refine cw_seq fun K2 hK2 => ?_
  refine cw_cut [7, 8, 9, 10, 11, 12, 13, 14] (fun f w => Has E w ((b6, bs 35 (leafSum key at_ xs)) :: (b3, bs 23 key) :: F)) ?_ ?_
  · intro K3 hK3
    refine cw_drawn0 h (by kernel_rfl) 9 rfl #[false, false, false, false, false, false, false, false, false] rfl ?_
    clear h; rintro w h
    refine dn_p 0 #[true, false, false, false, false, false, false, false, false] ⟨some 7, _, _, _, _, _⟩ rfl (fun w => r_slice_arr rfl Tryd.runUnderlying23 Tryd.sizeOf5 (by omega)) ?_
    refine dn_p 3 #[true, false, false, true, false, false, false, false, false] ⟨some 10, _, _, _, _, _⟩ rfl (fun w => r_move rfl) ?_
    refine dn_p 5 #[true, false, false, true, false, true, false, false, false] ⟨some 12, _, _, _, _, _⟩ rfl (fun w => r_move rfl) ?_
    refine dn_ops (rs := [1, 4]) (by kernel_rfl) (by decide) ?_
    refine all_cons ?_ (all_cons ?_ (all_nil))
    · refine dn_1 1 #[true, true, false, true, false, true, false, false, false] ⟨some 8, _, _, _, _, _⟩ fun Ko hKo => ?_
      refine op_buildSliceB [108#8, 101#8, 97#8, 102#8] h rfl rfl Tryd.runUnderlying25 Tryd.sizeOf5 Tryd.zeroValue5 rfl (by decide) fun b8 w h => ?_
      refine hKo _ _ _ (fun _ => trivial) ?_; clear hKo Ko
      refine dn_ops (rs := [2, 4]) (by kernel_rfl) (by decide) ?_
      refine all_cons ?_ (all_cons ?_ (all_nil))
      · refine dn_1 2 #[true, true, true, true, false, true, false, false, false] ⟨some 9, _, _, _, _, _⟩ fun Ko hKo => ?_
        refine op_conv_bytes h rfl Tryd.runUnderlying25 Tryd.runUnderlying5 fun w h => ?_
        have h := h.nm
        refine hKo _ _ _ (fun _ => trivial) ?_; clear hKo Ko
        refine dn_o 4 #[true, true, true, true, true, true, false, false, false] ⟨some 11, _, _, _, _, _⟩ fun Ko hKo => ?_
        refine op_call [_] Tryd.call47 rfl (put32_ok h at_) ?_
        clear h; rintro s11 w ⟨L11, ho11, h⟩
        have h11 := (OwnS.rd0 ho11).one
        refine hKo _ _ _ (fun _ => trivial) ?_; clear hKo Ko
        refine dn_o 6 #[true, true, true, true, true, true, true, false, false] ⟨some 13, _, _, _, _, _⟩ fun Ko hKo => ?_
        refine op_buildSliceL [_, _, _] h rfl rfl Tryd.runUnderlying106 Tryd.sizeOf25 Tryd.zeroValue25 rfl (by decide) (by intro v hv; simp only [List.mem_cons, List.not_mem_nil, or_false] at hv; rcases hv with rfl | rfl | rfl <;> first | rfl | assumption) fun b13 w h => ?_
        refine hKo _ _ _ (fun _ => trivial) ?_; clear hKo Ko
        refine dn_o 7 #[true, true, true, true, true, true, true, true, false] ⟨some 14, _, _, _, _, _⟩ fun Ko hKo => ?_
        refine op_call [_, _] Tryd.call41 rfl (macof_ok h (Sl.all (t := key) (by omega) hk) (by omega) (Rd.mk (off := 0) (n := 3) (c := 3) (sz := 1) (by omega) (by simp)) (xss := [leafName, be 4 (at_.setWidth 64), xs]) (Sls.cons (Sl.all (t := leafName) (n := 4) (by omega) rfl) (Sls.cons (ho11.slm (by intro p hp; simp only [List.mem_append, List.mem_cons, hp, true_or, or_true])) (Sls.cons (hd.mono (by intro p hp; simp only [List.mem_append, List.mem_cons, hp, or_true])) Sls.nil))) rfl rfl (by omega) (by simp [leafName, be_length]; omega)) ?_
        clear h; rintro _ w ⟨rfl, h⟩
        simp only [List.flatten_cons, List.flatten_nil, List.append_nil]
        rw [show hmac key (leafName ++ (be 4 (at_.setWidth 64) ++ xs)) = leafSum key at_ xs by rw [leafSum]]
        refine hKo _ _ _ (fun _ => trivial) ?_; clear hKo Ko
        refine dn_o 8 #[true, true, true, true, true, true, true, true, true] ⟨none, _, _, _, _, _⟩ fun Ko hKo => ?_
        refine op_store_ball h rfl rfl (by exact leafSum_len _ _ _) len_of Tryd.sizeOf35 fun w h => ?_
        have h := h.nm
        refine hKo _ _ _ (fun _ => trivial) ?_; clear hKo Ko
        refine dn_done (by kernel_rfl) ?_
        exact hK3 _ _ pfn_of (by first | exact h.tail.tail.appTail | exact h.tail.appTail.tail)
      · refine dn_1 4 #[true, true, false, true, true, true, false, false, false] ⟨some 11, _, _, _, _, _⟩ fun Ko hKo => ?_
        refine op_call [_] Tryd.call47 rfl (put32_ok h at_) ?_
        clear h; rintro s11 w ⟨L11, ho11, h⟩
        have h11 := (OwnS.rd0 ho11).one
        refine hKo _ _ _ (fun _ => trivial) ?_; clear hKo Ko
        refine dn_o 2 #[true, true, true, true, true, true, false, false, false] ⟨some 9, _, _, _, _, _⟩ fun Ko hKo => ?_
        refine op_conv_bytes h rfl Tryd.runUnderlying25 Tryd.runUnderlying5 fun w h => ?_
        have h := h.nm
        refine hKo _ _ _ (fun _ => trivial) ?_; clear hKo Ko
        refine dn_o 6 #[true, true, true, true, true, true, true, false, false] ⟨some 13, _, _, _, _, _⟩ fun Ko hKo => ?_
        refine op_buildSliceL [_, _, _] h rfl rfl Tryd.runUnderlying106 Tryd.sizeOf25 Tryd.zeroValue25 rfl (by decide) (by intro v hv; simp only [List.mem_cons, List.not_mem_nil, or_false] at hv; rcases hv with rfl | rfl | rfl <;> first | rfl | assumption) fun b13 w h => ?_
        refine hKo _ _ _ (fun _ => trivial) ?_; clear hKo Ko
        refine dn_o 7 #[true, true, true, true, true, true, true, true, false] ⟨some 14, _, _, _, _, _⟩ fun Ko hKo => ?_
        refine op_call [_, _] Tryd.call41 rfl (macof_ok h (Sl.all (t := key) (by omega) hk) (by omega) (Rd.mk (off := 0) (n := 3) (c := 3) (sz := 1) (by omega) (by simp)) (xss := [leafName, be 4 (at_.setWidth 64), xs]) (Sls.cons (Sl.all (t := leafName) (n := 4) (by omega) rfl) (Sls.cons (ho11.slm (by intro p hp; simp only [List.mem_append, List.mem_cons, hp, true_or, or_true])) (Sls.cons (hd.mono (by intro p hp; simp only [List.mem_append, List.mem_cons, hp, or_true])) Sls.nil))) rfl rfl (by omega) (by simp [leafName, be_length]; omega)) ?_
        clear h; rintro _ w ⟨rfl, h⟩
        simp only [List.flatten_cons, List.flatten_nil, List.append_nil]
        rw [show hmac key (leafName ++ (be 4 (at_.setWidth 64) ++ xs)) = leafSum key at_ xs by rw [leafSum]]
        refine hKo _ _ _ (fun _ => trivial) ?_; clear hKo Ko
        refine dn_o 8 #[true, true, true, true, true, true, true, true, true] ⟨none, _, _, _, _, _⟩ fun Ko hKo => ?_
        refine op_store_ball h rfl rfl (by exact leafSum_len _ _ _) len_of Tryd.sizeOf35 fun w h => ?_
        have h := h.nm
        refine hKo _ _ _ (fun _ => trivial) ?_; clear hKo Ko
        refine dn_done (by kernel_rfl) ?_
        exact hK3 _ _ pfn_of (by first | exact h.tail.tail.appTail | exact h.tail.appTail.tail)
    · refine dn_1 4 #[true, false, false, true, true, true, false, false, false] ⟨some 11, _, _, _, _, _⟩ fun Ko hKo => ?_
      refine op_call [_] Tryd.call47 rfl (put32_ok h at_) ?_
      clear h; rintro s11 w ⟨L11, ho11, h⟩
      have h11 := (OwnS.rd0 ho11).one
      refine hKo _ _ _ (fun _ => trivial) ?_; clear hKo Ko
      refine dn_o 1 #[true, true, false, true, true, true, false, false, false] ⟨some 8, _, _, _, _, _⟩ fun Ko hKo => ?_
      refine op_buildSliceB [108#8, 101#8, 97#8, 102#8] h rfl rfl Tryd.runUnderlying25 Tryd.sizeOf5 Tryd.zeroValue5 rfl (by decide) fun b8 w h => ?_
      refine hKo _ _ _ (fun _ => trivial) ?_; clear hKo Ko
      refine dn_o 2 #[true, true, true, true, true, true, false, false, false] ⟨some 9, _, _, _, _, _⟩ fun Ko hKo => ?_
      refine op_conv_bytes h rfl Tryd.runUnderlying25 Tryd.runUnderlying5 fun w h => ?_
      have h := h.nm
      refine hKo _ _ _ (fun _ => trivial) ?_; clear hKo Ko
      refine dn_o 6 #[true, true, true, true, true, true, true, false, false] ⟨some 13, _, _, _, _, _⟩ fun Ko hKo => ?_
      refine op_buildSliceL [_, _, _] h rfl rfl Tryd.runUnderlying106 Tryd.sizeOf25 Tryd.zeroValue25 rfl (by decide) (by intro v hv; simp only [List.mem_cons, List.not_mem_nil, or_false] at hv; rcases hv with rfl | rfl | rfl <;> first | rfl | assumption) fun b13 w h => ?_
      refine hKo _ _ _ (fun _ => trivial) ?_; clear hKo Ko
      refine dn_o 7 #[true, true, true, true, true, true, true, true, false] ⟨some 14, _, _, _, _, _⟩ fun Ko hKo => ?_
      refine op_call [_, _] Tryd.call41 rfl (macof_ok h (Sl.all (t := key) (by omega) hk) (by omega) (Rd.mk (off := 0) (n := 3) (c := 3) (sz := 1) (by omega) (by simp)) (xss := [leafName, be 4 (at_.setWidth 64), xs]) (Sls.cons (Sl.all (t := leafName) (n := 4) (by omega) rfl) (Sls.cons (ho11.slm (by intro p hp; simp only [List.mem_append, List.mem_cons, hp, true_or, or_true])) (Sls.cons (hd.mono (by intro p hp; simp only [List.mem_append, List.mem_cons, hp, or_true])) Sls.nil))) rfl rfl (by omega) (by simp [leafName, be_length]; omega)) ?_
      clear h; rintro _ w ⟨rfl, h⟩
      simp only [List.flatten_cons, List.flatten_nil, List.append_nil]
      rw [show hmac key (leafName ++ (be 4 (at_.setWidth 64) ++ xs)) = leafSum key at_ xs by rw [leafSum]]
      refine hKo _ _ _ (fun _ => trivial) ?_; clear hKo Ko
      refine dn_o 8 #[true, true, true, true, true, true, true, true, true] ⟨none, _, _, _, _, _⟩ fun Ko hKo => ?_
      refine op_store_ball h rfl rfl (by exact leafSum_len _ _ _) len_of Tryd.sizeOf35 fun w h => ?_
      have h := h.nm
      refine hKo _ _ _ (fun _ => trivial) ?_; clear hKo Ko
      refine dn_done (by kernel_rfl) ?_
      exact hK3 _ _ pfn_of (by first | exact h.tail.tail.appTail | exact h.tail.appTail.tail)
  clear h; rintro f w h
  simp only [putFn, List.foldl_cons, List.foldl_nil, List.set_cons_zero, List.set_cons_succ]
  refine hK2 _ _ ?_
  clear hK2 K2
  refine wp_ret ?_
  refine (hQ _ _ _ (res_cell h rfl rfl (by simp [leafSum_len]) Tryd.isAgg35 Tryd.sizeOf35) ?_).1
  exact ⟨rfl, h.tail.tail⟩

end Go.Proofs.YtjdfenlmifhhdaaDoor
