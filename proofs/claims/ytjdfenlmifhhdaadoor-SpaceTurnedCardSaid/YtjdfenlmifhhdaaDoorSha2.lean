/-
  Walks, printed by mk.py (a program of this work) out of specs10.py: what the Go functions compute, and that nobody else's memory turns. Condition: none.
-/
import Derived.Test.YtjdfenlmifhhdaaDoorProg
import Derived.Test.YtjdfenlmifhhdaaDoorAuto
import Derived.Test.YtjdfenlmifhhdaaDoorSha
namespace Go.Proofs.YtjdfenlmifhhdaaDoor
open Go.RowKit

attribute [local irreducible] addBlk blocks shaSt shaRest padded shaOut sha be padTo
set_option maxHeartbeats 1000000 in
set_option maxRecDepth 100000 in
theorem shanew_ok {E : Env} {w : World} {F : List (Nat × Obj)} (h : Has E w F) : Ret Tryd.prog 61 [] w fun v w' => ∃ b, v = ptr b 0 ∧ Has E w' ((b, wsR 142 (shaSt (([] : Bytes))) [.slice none 0 0, i64 (([] : Bytes)).length]) :: F) := by
  refine ret_of_wp (l := [undef, undef, undef, undef]) Tryd.func61 rfl (by simp only [Tryd.ntmps61, List.size_toArray, List.length_cons, List.length_nil, Nat.reduceAdd, Nat.reduceSub, Array.replicate_succ, Array.replicate_zero, List.push_toArray, List.append_toArray, List.nil_append, List.cons_append]) fun Q hQ => ?_
  refine cw_seq fun K1 hK1 => ?_
  refine cw_region ?_
  refine wl_p (r_assign rfl) ?_
  refine wl_nil ?_
  refine hK1 _ _ ?_
  clear hK1 K1
  refine cw_seq fun K2 hK2 => ?_
  refine cw_region ?_
  refine wl_o fun Ko hKo => ?_
  refine op_call [] Tryd.call87 rfl (first_ok h) ?_
  clear h; rintro _ w ⟨rfl, h⟩
  refine hKo _ _ _ ?_; clear hKo Ko
  refine wl_p (r_buildP (ps := [(0, _)]) (pl := [(0, 8), (8, 1), (9, 1)]) (z := [(Value.int IntKind.u32 0), (Value.int IntKind.u32 0), (Value.int IntKind.u32 0), (Value.int IntKind.u32 0), (Value.int IntKind.u32 0), (Value.int IntKind.u32 0), (Value.int IntKind.u32 0), (Value.int IntKind.u32 0), (Value.slice none 0 0), (Value.int IntKind.i64 0)]) rfl (by kernel_rfl) ((show fillL _ _ [(0, aggW st0)] = some (st0.map W ++ [.slice none 0 0, i64 0]) from rfl))) ?_
  refine wl_o fun Ko hKo => ?_
  refine op_box h rfl rfl fun b3 w h => ?_
  refine hKo _ _ _ ?_; clear hKo Ko
  refine wl_p (r_assign rfl) ?_
  refine wl_nil ?_
  refine hK2 _ _ ?_
  clear hK2 K2
  refine wp_ret ?_
  refine (hQ _ _ _ (res_tmp rfl rfl) ?_).1
  try simp only [List.getD_cons_zero, List.getD_cons_succ]
  exact ⟨_, rfl, by rw [shaSt_nil]; exact h⟩

set_option maxHeartbeats 1000000 in
set_option maxRecDepth 100000 in
theorem shawrite_ok {E : Env} {w : World} {F : List (Nat × Obj)} {b : Nat} {all xs : Bytes} {sr sd : Value} (h : Has E w ((b, wsR 142 (shaSt (all)) [sr, i64 (all).length]) :: F)) (hs : Sl F sr (shaRest all)) (hd : Sl F sd xs) [m0 : Mem F 0 (ws 157 rootsL)] (hn : all.length + xs.length ≤ 1099511627776) : Ret Tryd.prog 62 [ptr b 0, sd] w fun v w' => v = i64 0 ∧ ∃ sr' Ls, Sl (Ls ++ F) sr' (shaRest (all ++ xs)) ∧ Has E w' ((b, wsR 142 (shaSt (all ++ xs)) [sr', i64 (all ++ xs).length]) :: (Ls ++ F)) := by
  have h1 := hs.one
  have h2 := hd.one
  have hst := shaSt_len all
  have hrl := shaRest_len all
  refine ret_of_wp (l := [ptr b 0, sd, undef, undef, undef, undef, undef, undef, undef, undef, undef, undef, undef, undef, undef, undef, undef, undef, undef, undef, undef, undef, undef, undef, undef, undef, undef, undef, undef, undef, undef, undef, undef, undef, undef, undef, undef, undef]) Tryd.func62 rfl (by simp only [Tryd.ntmps62, List.size_toArray, List.length_cons, List.length_nil, Nat.reduceAdd, Nat.reduceSub, Array.replicate_succ, Array.replicate_zero, List.push_toArray, List.append_toArray, List.nil_append, List.cons_append]) fun Q hQ => ?_
  refine cw_seq fun K1 hK1 => ?_
  refine cw_region ?_
  refine wl_p (r_assign rfl) ?_
  refine wl_nil ?_
  refine hK1 _ _ ?_
  clear hK1 K1
  refine cw_seq fun K2 hK2 => ?_
  refine cw_seq fun K3 hK3 => ?_
  refine cw_region ?_
  refine wl_p (r_move rfl) ?_
  refine wl_p (r_eql_nilptr rfl rfl Tryd.runUnderlying107) ?_
  refine wl_nil ?_
  refine hK3 _ _ ?_
  clear hK3 K3
  refine wp_cond_false rfl ?_
  refine wp_skip ?_
  refine hK2 _ _ ?_
  clear hK2 K2
  refine cw_seq fun K4 hK4 => ?_
  refine cw_region ?_
  refine wl_p (r_move rfl) ?_
  refine wl_p (r_nilCheck rfl) ?_
  refine wl_p (r_fieldAddr (off := 9) rfl Tryd.runUnderlying142 rfl Tryd.sizeOf3 rfl rfl) ?_
  refine wl_p (r_load_wt (N := 8) (j := 1) h rfl len_of rfl rfl Tryd.isAgg3) ?_
  refine wl_p (r_move rfl) ?_
  refine wl_p (r_len_sl rfl hd Tryd.runUnderlying25) ?_
  refine wl_p (r_add_n (m := all.length)  (n := xs.length)  rfl rfl (by omega)) ?_
  refine wl_p (r_nilCheck rfl) ?_
  refine wl_p (r_fieldAddr (off := 9) rfl Tryd.runUnderlying142 rfl Tryd.sizeOf3 rfl rfl) ?_
  refine wl_o fun Ko hKo => ?_
  refine op_store_wt (N := 8) (j := 1) h rfl rfl rfl len_of rfl (by simp) Tryd.sizeOf3 fun w h => ?_
  have h := h.ns
  refine hKo _ _ _ ?_; clear hKo Ko
  refine wl_nil ?_
  refine hK4 _ _ ?_
  clear hK4 K4
  refine cw_seq fun K5 hK5 => ?_
  refine cw_region ?_
  refine wl_p (r_move rfl) ?_
  refine wl_p (r_nilCheck rfl) ?_
  refine wl_p (r_fieldAddr (off := 8) rfl Tryd.runUnderlying142 rfl Tryd.sizeOf25 rfl rfl) ?_
  refine wl_p (r_load_wt (N := 8) (j := 0) h rfl len_of rfl rfl Tryd.isAgg25) ?_
  refine wl_p (r_move rfl) ?_
  refine wl_o fun Ko hKo => ?_
  refine op_buildSliceL [_, _] h rfl rfl Tryd.runUnderlying106 Tryd.sizeOf25 Tryd.zeroValue25 rfl (by decide) (by intro v hv; simp only [List.mem_cons, List.not_mem_nil, or_false] at hv; rcases hv with rfl | rfl <;> first | rfl | assumption) fun b21 w h => ?_
  refine hKo _ _ _ ?_; clear hKo Ko
  refine wl_o fun Ko hKo => ?_
  refine op_call [_] Tryd.call46 rfl (concat_ok h (Rd.mk (off := 0) (n := 2) (c := 2) (sz := 1) (by omega) (by simp)) (xss := [shaRest all, xs]) (Sls.cons hs.cons.cons (Sls.cons hd.cons.cons Sls.nil)) rfl rfl (by omega) (by simp; omega)) ?_
  clear h; rintro so w ⟨Ls, ho, h⟩
  simp only [List.flatten_cons, List.flatten_nil, List.append_nil] at ho
  obtain ⟨ys, hys⟩ : ∃ ys, ys = shaRest all ++ xs := ⟨_, rfl⟩
  rw [← hys] at ho
  have hyl : ys.length = all.length % 64 + xs.length := by rw [hys, List.length_append, hrl]
  have h := h.midTail.unmid
  have hso := ho.sl F
  refine hKo _ _ _ ?_; clear hKo Ko
  refine wl_p (r_assign rfl) ?_
  refine wl_nil ?_
  refine hK5 _ _ ?_
  clear hK5 K5
  refine cw_seq fun K6 hK6 => ?_
  refine wp_block ?_
  refine cw_loopf [1, 23, 24, 25, 26, 27, 28, 29, 30, 31, 32, 33] (fun f w n => ∃ (i : Nat) (sb : Value), 64 * i ≤ ys.length ∧ f 1 = sb ∧ Sl (Ls ++ F) sb (ys.drop (64 * i)) ∧ Has E w ((b, wsR 142 (blocks (shaSt all) ys i) [sr, i64 ((all.length + xs.length : Nat) : Int)]) :: (Ls ++ F)) ∧ n = ys.length - 64 * i) (ys.length - 64 * 0) ⟨0, _, by omega, rfl, hso, by rw [blocks_zero]; exact h, rfl⟩ ?_
  clear h; rintro f w n ⟨i, sb, hi, e1, hsb, h, rfl⟩ K7 hK7
  simp only [putFn, List.foldl_cons, List.foldl_nil, List.set_cons_zero, List.set_cons_succ, e1]
  clear e1
  have hbl : (blocks (shaSt all) ys i).length = 8 := blocks_len _ _ hst i
  have hdl : (ys.drop (64 * i)).length = ys.length - 64 * i := List.length_drop
  refine cw_seq fun K8 hK8 => ?_
  refine cw_seq fun K9 hK9 => ?_
  refine cw_region ?_
  refine wl_p (r_move rfl) ?_
  refine wl_p (r_len_sl rfl hsb Tryd.runUnderlying25) ?_
  refine wl_p (r_geq  (n := 64) rfl rfl) ?_
  refine wl_nil ?_
  refine hK9 _ _ ?_
  clear hK9 K9
  refine wp_cond_split rfl (fun hc => ?_) (fun hc => ?_)
  · have hge := of_decide_eq_true hc; clear hc
    have h64 : 64 * (i + 1) ≤ ys.length := by omega
    have hbk : ((ys.drop (64 * i)).take 64).length = 64 := by rw [List.length_take, hdl]; omega
    refine wp_skip ?_
    refine hK8 _ _ ?_
    clear hK8 K8
    refine wp_block ?_
    refine cw_seq fun K10 hK10 => ?_
    refine cw_drawn0 h (by kernel_rfl) 6 rfl #[false, false, false, false, false, false] rfl ?_
    clear h; rintro w h
    refine dn_p 0 #[true, false, false, false, false, false] ⟨some 26, _, _, _, _, _⟩ rfl (fun w => r_move rfl) ?_
    refine dn_p 1 #[true, true, false, false, false, false] ⟨some 27, _, _, _, _, _⟩ rfl (fun w => r_nilCheck rfl) ?_
    refine dn_p 2 #[true, true, true, false, false, false] ⟨some 28, _, _, _, _, _⟩ rfl (fun w => r_fieldAddr (off := 0) rfl Tryd.runUnderlying142 rfl Tryd.sizeOf139 rfl rfl) ?_
    refine dn_p 3 #[true, true, true, true, false, false] ⟨some 29, _, _, _, _, _⟩ rfl (fun w => r_move rfl) ?_
    refine dn_p 4 #[true, true, true, true, true, false] ⟨some 30, _, _, _, _, _⟩ rfl (fun w => r_slice_hm (hi := 64) (mx := 64) hsb rfl rfl rfl (by omega) (by omega) Tryd.runUnderlying25 Tryd.sizeOf5) ?_
    refine dn_o 5 #[true, true, true, true, true, true] ⟨some 31, _, _, _, _, _⟩ fun Ko hKo => ?_
    refine op_call [_, _] Tryd.call88 rfl (add_ok h hbl (Sl.cutHM hsb (hi := 64) (mx := 64) (by omega) (by omega)) hbk) ?_
    clear h; rintro _ w h
    refine hKo _ _ _ (fun _ => trivial) ?_; clear hKo Ko
    refine dn_done (by kernel_rfl) ?_
    refine hK10 _ _ ?_
    clear hK10 K10
    refine cw_region ?_
    refine wl_p (r_move rfl) ?_
    refine wl_p (r_slice_l (lo := 64) hsb rfl rfl (by omega) Tryd.runUnderlying25 Tryd.sizeOf5) ?_
    refine wl_p (r_assign rfl) ?_
    refine wl_nil ?_
    refine hK7 _ _ (ys.length - 64 * (i + 1)) pfn_of ⟨i + 1, _, by omega, rfl, ?hs_11, ?hh_11, rfl⟩ (by omega)
    case hs_11 => have := Sl.cutL hsb (lo := 64) (by omega); rw [List.drop_drop] at this; exact this
    case hh_11 => rw [blocks_succ]; exact h
  · have hge := of_decide_eq_false hc; clear hc
    have h64 : i = ys.length / 64 := by omega
    refine wp_exit ?_
    refine hK6 _ _ ?_
    clear hK8 hK7 hK6 K8 K7 K6
    refine cw_seq fun K12 hK12 => ?_
    refine cw_region ?_
    refine wl_p (r_move rfl) ?_
    refine wl_p (r_move rfl) ?_
    refine wl_p (r_nilCheck rfl) ?_
    refine wl_p (r_fieldAddr (off := 8) rfl Tryd.runUnderlying142 rfl Tryd.sizeOf25 rfl rfl) ?_
    refine wl_o fun Ko hKo => ?_
    refine op_store_wt (N := 8) (j := 0) h rfl rfl hsb.one len_of rfl (by simp) Tryd.sizeOf25 fun w h => ?_
    have h := h.ns
    refine hKo _ _ _ ?_; clear hKo Ko
    refine wl_nil ?_
    refine hK12 _ _ ?_
    clear hK12 K12
    refine cw_seq fun K13 hK13 => ?_
    refine cw_region ?_
    refine wl_p (r_assign rfl) ?_
    refine wl_nil ?_
    refine hK13 _ _ ?_
    clear hK13 K13
    refine wp_ret ?_
    refine (hQ _ _ _ (res_tmp rfl rfl) ?_).1
    try simp only [List.getD_cons_zero, List.getD_cons_succ]
    refine ⟨by trivial, sb, Ls, ?_, ?_⟩
    · rw [shaRest_app, ← hys, ← h64]; exact hsb
    · rw [shaSt_app, ← hys, ← h64, List.length_append]; exact h

set_option maxHeartbeats 2000000 in
set_option maxRecDepth 100000 in
theorem shasum_ok {E : Env} {w : World} {F : List (Nat × Obj)} {b : Nat} {all : Bytes} {sr : Value} (h : Has E w ((b, wsR 142 (shaSt (all)) [sr, i64 (all).length]) :: F)) (hs : Sl F sr (shaRest all)) [m0 : Mem F 0 (ws 157 rootsL)] (hn : all.length ≤ 1099511627776) : Ret Tryd.prog 63 [ptr b 0] w fun v w' => v = aggB (sha all) ∧ Has E w' ((b, wsR 142 (shaSt (all)) [sr, i64 (all).length]) :: F) := by
  have h1 := hs.one
  have hst := shaSt_len all
  have hrl := shaRest_len all
  refine ret_of_wp (l := [ptr b 0, undef, undef, undef, undef, undef, undef, undef, undef, undef, undef, undef, undef, undef, undef, undef, undef, undef, undef, undef, undef, undef, undef, undef, undef, undef, undef, undef, undef, undef, undef, undef, undef, undef, undef, undef, undef, undef, undef, undef, undef, undef, undef, undef, undef, undef, undef, undef, undef, undef, undef, undef, undef, undef, undef, undef, undef, undef, undef]) Tryd.func63 rfl (by simp only [Tryd.ntmps63, List.size_toArray, List.length_cons, List.length_nil, Nat.reduceAdd, Nat.reduceSub, Array.replicate_succ, Array.replicate_zero, List.push_toArray, List.append_toArray, List.nil_append, List.cons_append]) fun Q hQ => ?_
  refine cw_seq fun K1 hK1 => ?_
  refine cw_region ?_
  refine wl_o fun Ko hKo => ?_
  refine op_allocB 32 h Tryd.zeroValue35 rfl fun b2 w h => ?_
  refine hKo _ _ _ ?_; clear hKo Ko
  refine wl_nil ?_
  refine hK1 _ _ ?_
  clear hK1 K1
  refine cw_seq fun K2 hK2 => ?_
  refine cw_region ?_
  refine wl_o fun Ko hKo => ?_
  refine op_allocB 32 h Tryd.zeroValue35 rfl fun b3 w h => ?_
  refine hKo _ _ _ ?_; clear hKo Ko
  refine wl_nil ?_
  refine hK2 _ _ ?_
  clear hK2 K2
  refine cw_seq fun K3 hK3 => ?_
  refine cw_seq fun K4 hK4 => ?_
  refine cw_region ?_
  refine wl_p (r_move rfl) ?_
  refine wl_p (r_eql_nilptr rfl rfl Tryd.runUnderlying107) ?_
  refine wl_nil ?_
  refine hK4 _ _ ?_
  clear hK4 K4
  refine wp_cond_false rfl ?_
  refine wp_skip ?_
  refine hK3 _ _ ?_
  clear hK3 K3
  refine cw_seq fun K5 hK5 => ?_
  refine cw_region ?_
  refine wl_p (r_move rfl) ?_
  refine wl_p (r_nilCheck rfl) ?_
  refine wl_p (r_fieldAddr (off := 8) rfl Tryd.runUnderlying142 rfl Tryd.sizeOf25 rfl rfl) ?_
  refine wl_p (r_load_wt (N := 8) (j := 0) h rfl len_of rfl rfl Tryd.isAgg25) ?_
  refine wl_o fun Ko hKo => ?_
  refine op_call [_] Tryd.call22 rfl (clone_ok h hs.cons.cons.cons (by omega)) ?_
  clear h; rintro s15 w ⟨L15, ho15, h⟩
  refine hKo _ _ _ ?_; clear hKo Ko
  refine wl_o fun Ko hKo => ?_
  refine op_buildSliceB [128#8] h rfl rfl Tryd.runUnderlying25 Tryd.sizeOf5 Tryd.zeroValue5 rfl (by decide) fun b16 w h => ?_
  have h := h.mid
  refine hKo _ _ _ ?_; clear hKo Ko
  refine wl_o fun Ko hKo => ?_
  refine op_appendB h rfl rfl ho15 (Rd.app _ (Sl.all (t := [128#8]) (n := 1) (by omega) rfl)) rfl Tryd.runUnderlying25 Tryd.typeInfo5 Tryd.sizeOf5 Tryd.zeroValue5 rfl (by simp only [List.length_cons, List.length_nil]; show _ * 1 ≤ _; omega) (by simp only [List.length_cons, List.length_nil]; omega) fun s17 L17 w ho17 h => ?_
  have h := h.midTail
  refine hKo _ _ _ ?_; clear hKo Ko
  refine wl_p (r_assign rfl) ?_
  refine wl_nil ?_
  refine hK5 _ _ ?_
  clear hK5 K5
  refine cw_seq fun K6 hK6 => ?_
  refine wp_block ?_
  refine cw_loopf [4, 18, 19, 20, 21, 22, 23, 24] (fun f w n => ∃ (k : Nat) (s4 : Value) (L4 : List (Nat × Obj)), k ≤ padN all.length ∧ f 4 = s4 ∧ OwnB 5 s4 (shaRest all ++ [128#8] ++ zeros k) L4 ∧ Has E w (L4 ++ ((b3, bs 35 (List.replicate 32 0)) :: (b2, bs 35 (List.replicate 32 0)) :: (b, wsR 142 (shaSt (all)) [sr, i64 (all).length]) :: F)) ∧ n = padN all.length - k) (padN all.length) ⟨0, _, _, by omega, rfl, by simpa [zeros] using ho17, h, rfl⟩ ?_
  clear h; rintro f w n ⟨k, s4, L4, hk, e4, ho4, h, rfl⟩ K7 hK7
  simp only [putFn, List.foldl_cons, List.foldl_nil, List.set_cons_zero, List.set_cons_succ, e4]
  clear e4
  have hpl : (shaRest all ++ [128#8] ++ zeros k).length = all.length % 64 + 1 + k := by simp only [List.length_append, List.length_cons, List.length_nil, zeros_len, hrl]
  have hpn : padN all.length = (119 - all.length % 64) % 64 := rfl
  refine cw_seq fun K8 hK8 => ?_
  refine cw_seq fun K9 hK9 => ?_
  refine cw_region ?_
  refine wl_p (r_move rfl) ?_
  have hs4 := ho4.sl ((b3, bs 35 (List.replicate 32 0)) :: (b2, bs 35 (List.replicate 32 0)) :: (b, wsR 142 (shaSt (all)) [sr, i64 (all).length]) :: F)
  refine wl_p (r_len_sl rfl hs4 Tryd.runUnderlying25) ?_
  refine wl_p (r_rem_n  (n := 64)  rfl rfl om_of) ?_
  refine wl_p (r_neq  (n := 56) rfl rfl) ?_
  refine wl_nil ?_
  refine hK9 _ _ ?_
  clear hK9 K9
  refine wp_cond_split rfl (fun hc => ?_) (fun hc => ?_)
  · have hne := of_decide_eq_true hc; clear hc
    have hkp : k < padN all.length := by omega
    refine wp_skip ?_
    refine hK8 _ _ ?_
    clear hK8 K8
    refine wp_block ?_
    refine cw_region ?_
    refine wl_p (r_move rfl) ?_
    refine wl_o fun Ko hKo => ?_
    refine op_buildSliceB [0#8] h rfl rfl Tryd.runUnderlying25 Tryd.sizeOf5 Tryd.zeroValue5 rfl (by decide) fun b23 w h => ?_
    have h := h.mid
    refine hKo _ _ _ ?_; clear hKo Ko
    refine wl_o fun Ko hKo => ?_
    refine op_appendB h rfl rfl ho4 (Rd.app _ (Sl.all (t := [0#8]) (n := 1) (by omega) rfl)) rfl Tryd.runUnderlying25 Tryd.typeInfo5 Tryd.sizeOf5 Tryd.zeroValue5 rfl (by simp only [List.length_cons, List.length_nil]; show _ * 1 ≤ _; omega) (by simp only [List.length_cons, List.length_nil]; omega) fun s24 L24 w ho24 h => ?_
    refine hKo _ _ _ ?_; clear hKo Ko
    refine wl_p (r_assign rfl) ?_
    refine wl_nil ?_
    refine hK7 _ _ (padN all.length - (k + 1)) pfn_of ⟨k + 1, _, L24, by omega, rfl, ?ho_10, h.midTail, rfl⟩ (by omega)
    case ho_10 => rw [show zeros (k + 1) = zeros k ++ [0#8] from List.replicate_succ', ← List.append_assoc]; exact ho24
  · have hne := of_decide_eq_false hc; clear hc
    have hkp : k = padN all.length := by omega
    refine wp_exit ?_
    refine hK6 _ _ ?_
    clear hK8 hK7 hK6 K8 K7 K6
    refine cw_seq fun K11 hK11 => ?_
    refine cw_region ?_
    refine wl_p (r_move rfl) ?_
    refine wl_p (r_move rfl) ?_
    refine wl_p (r_nilCheck rfl) ?_
    refine wl_p (r_fieldAddr (off := 9) rfl Tryd.runUnderlying142 rfl Tryd.sizeOf3 rfl rfl) ?_
    refine wl_p (r_load_wt (N := 8) (j := 1) h rfl len_of rfl rfl Tryd.isAgg3) ?_
    refine wl_p (r_conv_iD (m := all.length)  rfl Tryd.runUnderlying3 Tryd.runUnderlying73) ?_
    refine wl_p (r_mul_D  (q := 8#64) rfl rfl) ?_
    refine wl_o fun Ko hKo => ?_
    refine op_call [_] Tryd.call89 rfl (put64_ok h (BitVec.ofNat 64 all.length * 8#64)) ?_
    clear h; rintro s32 w ⟨L32, ho32, h⟩
    have h := h.swapApp
    refine hKo _ _ _ ?_; clear hKo Ko
    refine wl_o fun Ko hKo => ?_
    refine op_appendB h rfl rfl ho4 (Rd.app _ (ho32.sl ((b3, bs 35 (List.replicate 32 0)) :: (b2, bs 35 (List.replicate 32 0)) :: (b, wsR 142 (shaSt (all)) [sr, i64 (all).length]) :: F))) rfl Tryd.runUnderlying25 Tryd.typeInfo5 Tryd.sizeOf5 Tryd.zeroValue5 rfl (by rw [be_length]; show _ * 1 ≤ _; omega) (by rw [be_length]; omega) fun s33 L33 w ho33 h => ?_
    have h := h.midApp
    rw [hkp, show shaRest all ++ [128#8] ++ zeros (padN all.length) ++ be 8 (BitVec.ofNat 64 all.length * 8#64) = padded all by rw [padded]] at ho33
    have hs33 := ho33.sl ((b3, bs 35 (List.replicate 32 0)) :: (b2, bs 35 (List.replicate 32 0)) :: (b, wsR 142 (shaSt (all)) [sr, i64 (all).length]) :: F)
    have hpd := padded_len all
    refine hKo _ _ _ ?_; clear hKo Ko
    refine wl_p (r_assign rfl) ?_
    refine wl_nil ?_
    refine hK11 _ _ ?_
    clear hK11 K11
    refine cw_seq fun K12 hK12 => ?_
    refine cw_region ?_
    refine wl_p (r_move rfl) ?_
    refine wl_p (r_nilCheck rfl) ?_
    refine wl_p (r_fieldAddr (off := 0) rfl Tryd.runUnderlying142 rfl Tryd.sizeOf139 rfl rfl) ?_
    refine wl_p (r_load_wrall h rfl hst Tryd.isAgg139 Tryd.sizeOf139) ?_
    refine wl_o fun Ko hKo => ?_
    refine op_allocW 8 h Tryd.zeroValue139 rfl fun b5 w h => ?_
    refine hKo _ _ _ ?_; clear hKo Ko
    refine wl_o fun Ko hKo => ?_
    refine op_store_wall h rfl rfl hst (by simp) Tryd.sizeOf139 fun w h => ?_
    simp only [List.set_cons_zero, List.set_cons_succ] at h
    refine hKo _ _ _ ?_; clear hKo Ko
    refine wl_nil ?_
    refine hK12 _ _ ?_
    clear hK12 K12
    refine cw_seq fun K13 hK13 => ?_
    refine wp_block ?_
    refine cw_loopf [4, 38, 39, 40, 41, 42, 43, 44, 45] (fun f w n => ∃ (i : Nat) (s4 : Value), 64 * i ≤ (padded all).length ∧ f 4 = s4 ∧ Sl (L33 ++ ((b3, bs 35 (List.replicate 32 0)) :: (b2, bs 35 (List.replicate 32 0)) :: (b, wsR 142 (shaSt (all)) [sr, i64 (all).length]) :: F)) s4 ((padded all).drop (64 * i)) ∧ Has E w ((b5, ws 139 (blocks (shaSt all) (padded all) i)) :: (L33 ++ ((b3, bs 35 (List.replicate 32 0)) :: (b2, bs 35 (List.replicate 32 0)) :: (b, wsR 142 (shaSt (all)) [sr, i64 (all).length]) :: F))) ∧ n = (padded all).length - 64 * i) ((padded all).length - 64 * 0) ⟨0, _, by omega, rfl, hs33, by rw [blocks_zero]; exact h, rfl⟩ ?_
    clear h; rintro f w n ⟨i, s4, hi, e4, hsb, h, rfl⟩ K14 hK14
    simp only [putFn, List.foldl_cons, List.foldl_nil, List.set_cons_zero, List.set_cons_succ, e4]
    clear e4
    have hbl : (blocks (shaSt all) (padded all) i).length = 8 := blocks_len _ _ hst i
    have hdl : ((padded all).drop (64 * i)).length = (padded all).length - 64 * i := List.length_drop
    refine cw_seq fun K15 hK15 => ?_
    refine cw_seq fun K16 hK16 => ?_
    refine cw_region ?_
    refine wl_p (r_move rfl) ?_
    refine wl_p (r_len_sl rfl hsb Tryd.runUnderlying25) ?_
    refine wl_p (r_gtr  (n := 0) rfl rfl) ?_
    refine wl_nil ?_
    refine hK16 _ _ ?_
    clear hK16 K16
    refine wp_cond_split rfl (fun hc => ?_) (fun hc => ?_)
    · have hge := of_decide_eq_true hc; clear hc
      have h64 : 64 * (i + 1) ≤ (padded all).length := by omega
      have hbk : (((padded all).drop (64 * i)).take 64).length = 64 := by rw [List.length_take, hdl]; omega
      refine wp_skip ?_
      refine hK15 _ _ ?_
      clear hK15 K15
      refine cw_seq fun K17 hK17 => ?_
      refine wp_block ?_
      refine cw_region ?_
      refine wl_p (r_move rfl) ?_
      refine wl_p (r_slice_hm (hi := 64) (mx := 64) hsb rfl rfl rfl (by omega) (by omega) Tryd.runUnderlying25 Tryd.sizeOf5) ?_
      refine wl_o fun Ko hKo => ?_
      refine op_call [_, _] Tryd.call88 rfl (add_okW h hbl (Sl.cutHM hsb (hi := 64) (mx := 64) (by omega) (by omega)) hbk) ?_
      clear h; rintro _ w h
      refine hKo _ _ _ ?_; clear hKo Ko
      refine wl_nil ?_
      refine hK17 _ _ ?_
      clear hK17 K17
      refine cw_region ?_
      refine wl_p (r_move rfl) ?_
      refine wl_p (r_slice_l (lo := 64) hsb rfl rfl (by omega) Tryd.runUnderlying25 Tryd.sizeOf5) ?_
      refine wl_p (r_assign rfl) ?_
      refine wl_nil ?_
      refine hK14 _ _ ((padded all).length - 64 * (i + 1)) pfn_of ⟨i + 1, _, by omega, rfl, ?hs_18, ?hh_18, rfl⟩ (by omega)
      case hs_18 => have := Sl.cutL hsb (lo := 64) (by omega); rw [List.drop_drop] at this; exact this
      case hh_18 => rw [blocks_succ]; exact h
    · have hge := of_decide_eq_false hc; clear hc
      have h64 : i = (padded all).length / 64 := by omega
      refine wp_exit ?_
      refine hK13 _ _ ?_
      clear hK15 hK14 hK13 K15 K14 K13
      refine cw_seq fun K19 hK19 => ?_
      refine cw_seq fun K20 hK20 => ?_
      obtain ⟨S, hS⟩ : ∃ S, S = blocks (shaSt all) (padded all) i := ⟨_, rfl⟩
      rw [← hS] at h hbl
      refine cw_region ?_
      refine wl_p (r_load_wall h rfl hbl Tryd.isAgg139 Tryd.sizeOf139) ?_
      refine wl_p (r_move rfl) ?_
      refine wl_nil ?_
      refine hK20 _ _ ?_
      clear hK20 K20
      refine wp_block ?_
      refine cw_loopf [6, 7, 47, 48, 49, 50, 51, 52, 53, 54, 55, 56, 57] (fun f w n => ∃ (j : Nat), j ≤ 8 ∧ f 47 = i64 j ∧ Has E w ((b5, ws 139 S) :: (L33 ++ (b3, bs 35 (iter (outStep S) j (zeros 32))) :: (b2, bs 35 (List.replicate 32 0)) :: (b, wsR 142 (shaSt (all)) [sr, i64 (all).length]) :: F)) ∧ n = 8 - j) (8) ⟨0, by omega, rfl, h, rfl⟩ ?_
      clear h; rintro f w n ⟨j, hj, e47, h, rfl⟩ K21 hK21
      simp only [putFn, List.foldl_cons, List.foldl_nil, List.set_cons_zero, List.set_cons_succ, e47]
      clear e47
      have hol := outIter_len S j hj
      have hsucc := iter_succ (outStep S) j (zeros 32)
      obtain ⟨out, hout⟩ : ∃ out, out = iter (outStep S) j (zeros 32) := ⟨_, rfl⟩
      rw [← hout] at h hol hsucc
      refine cw_seq fun K22 hK22 => ?_
      refine cw_region ?_
      refine wl_p (r_lss  (n := 8) rfl rfl) ?_
      refine wl_nil ?_
      refine hK22 _ _ ?_
      clear hK22 K22
      refine cw_seq fun K23 hK23 => ?_
      refine wp_cond_split rfl (fun hc => ?_) (fun hc => ?_)
      · have hlt := of_decide_eq_true hc; clear hc
        have hj8 : j < 8 := by omega
        refine wp_skip ?_
        refine hK23 _ _ ?_
        clear hK23 K23
        refine cw_seq fun K24 hK24 => ?_
        refine wp_block ?_
        refine cw_seq fun K25 hK25 => ?_
        refine cw_region ?_
        refine wl_p (r_move rfl) ?_
        refine wl_p (r_index (j := j) rfl rfl Tryd.runUnderlying139 Tryd.sizeOf34 Tryd.isAgg34 (by first | rfl | omega) (by omega) (getWl (by omega))) ?_
        refine wl_p (r_assign rfl) ?_
        refine wl_p (r_assign rfl) ?_
        refine wl_nil ?_
        refine hK25 _ _ ?_
        clear hK25 K25
        refine cw_drawn0 h (by kernel_rfl) 6 rfl #[false, false, false, false, false, false] rfl ?_
        clear h; rintro w h
        refine dn_p 0 #[true, false, false, false, false, false] ⟨some 51, _, _, _, _, _⟩ rfl (fun w => r_move rfl) ?_
        refine dn_p 1 #[true, true, false, false, false, false] ⟨some 52, _, _, _, _, _⟩ rfl (fun w => r_mul_n (m := 4)  (n := j)  rfl rfl om_of) ?_
        refine dn_p 2 #[true, true, true, false, false, false] ⟨some 53, _, _, _, _, _⟩ rfl (fun w => r_slice_arr_l (lo := 4 * j) rfl rfl Tryd.runUnderlying35 Tryd.sizeOf5 (by omega)) ?_
        refine dn_p 3 #[true, true, true, true, false, false] ⟨some 54, _, _, _, _, _⟩ rfl (fun w => r_move rfl) ?_
        refine dn_o 4 #[true, true, true, true, true, false] ⟨some 55, _, _, _, _, _⟩ fun Ko hKo => ?_
        refine op_call [_] Tryd.call47 rfl (put32_ok h (S.getD j 0)) ?_
        clear h; rintro s55 w ⟨L55, ho55, h⟩
        refine hKo _ _ _ (fun _ => trivial) ?_; clear hKo Ko
        refine dn_o 5 #[true, true, true, true, true, true] ⟨some 56, _, _, _, _, _⟩ fun Ko hKo => ?_
        refine op_copyB (q := 4) h rfl rfl (ho55.sl _) Tryd.runUnderlying25 Tryd.sizeOf5 (by rw [be_length]; omega) (by omega) fun w h => ?_
        have h := h.nm
        rw [List.take_of_length_le (l := be 4 _) (by rw [be_length]; omega)] at h
        refine hKo _ _ _ (fun _ => trivial) ?_; clear hKo Ko
        refine dn_done (by kernel_rfl) ?_
        refine hK24 _ _ ?_
        clear hK24 K24
        refine cw_region ?_
        refine wl_p (r_add_n  (n := 1) rfl rfl om_of) ?_
        refine wl_p (r_move rfl) ?_
        refine wl_nil ?_
        refine hK21 _ _ (8 - (j + 1)) pfn_of ⟨j + 1, by omega, rfl, ?hh_26, rfl⟩ (by omega)
        case hh_26 => rw [hsucc, outStep]; exact h.appTail
      · have hlt := of_decide_eq_false hc; clear hc
        have hj8 : j = 8 := by omega
        refine wp_exit ?_
        refine hK19 _ _ ?_
        clear hK23 hK21 hK19 K23 K21 K19
        refine cw_seq fun K27 hK27 => ?_
        rw [hj8] at hout
        rw [hout, shaOut_def, hS, h64, sha_def] at h
        have hsl := sha_len all
        refine cw_region ?_
        refine wl_p (r_load_allb h rfl hsl Tryd.isAgg35 Tryd.sizeOf35) ?_
        refine wl_o fun Ko hKo => ?_
        refine op_store_ball h rfl rfl hsl (by simp) Tryd.sizeOf35 fun w h => ?_
        simp only [List.set_cons_zero, List.set_cons_succ, set_app] at h
        refine hKo _ _ _ ?_; clear hKo Ko
        refine wl_nil ?_
        refine hK27 _ _ ?_
        clear hK27 K27
        refine wp_ret ?_
        refine (hQ _ _ _ (res_cell h rfl rfl (by simpa using hsl) Tryd.isAgg35 Tryd.sizeOf35) ?_).1
        exact ⟨rfl, h.tail.appTail.tail.tail⟩

end Go.Proofs.YtjdfenlmifhhdaaDoor
