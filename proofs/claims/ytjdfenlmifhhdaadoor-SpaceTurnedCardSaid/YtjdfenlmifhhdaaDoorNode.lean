/-
  Walks, printed by mk.py (a program of this work) out of specs16.py: what the Go functions compute, and that nobody else's memory turns. Condition: none.
-/
import Derived.Test.YtjdfenlmifhhdaaDoorProg
import Derived.Test.YtjdfenlmifhhdaaDoorAuto
import Derived.Test.YtjdfenlmifhhdaaDoorSup
import Derived.Test.YtjdfenlmifhhdaaDoorPure3
namespace Go.Proofs.YtjdfenlmifhhdaaDoor
open Go.RowKit

attribute [local irreducible] be padTo nodeV putNode beNum
set_option maxHeartbeats 1000000 in
set_option maxRecDepth 100000 in
theorem nodeput_ok {E : Env} {w : World} {F : List (Nat × Obj)} (h : Has E w F) (n : List Rf) (hs : sums n) (hn : n.length = 8) : Ret Tryd.prog 27 [aggV (nodeV n)] w fun v w' => ∃ Ls, OwnB 5 v (putNode n) Ls ∧ Has E w' (Ls ++ F) := by
  have hnl : (nodeV n).length = 264 := by rw [nodeV_len n hs, hn]
  refine ret_of_wp (l := [aggV (nodeV n), undef, undef, undef, undef, undef, undef, undef, undef, undef, undef, undef, undef, undef, undef, undef, undef, undef, undef, undef]) Tryd.func27 rfl (by simp only [Tryd.ntmps27, List.size_toArray, List.length_cons, List.length_nil, Nat.reduceAdd, Nat.reduceSub, Array.replicate_succ, Array.replicate_zero, List.push_toArray, List.append_toArray, List.nil_append, List.cons_append]) fun Q hQ => ?_
  refine cw_seq fun K1 hK1 => ?_
  refine cw_region ?_
  refine wl_o fun Ko hKo => ?_
  refine op_box h rfl rfl fun b1 w h => ?_
  refine hKo _ _ _ ?_; clear hKo Ko
  refine wl_p (r_assign rfl) ?_
  refine wl_nil ?_
  refine hK1 _ _ ?_
  clear hK1 K1
  refine cw_seq fun K2 hK2 => ?_
  refine cw_region ?_
  refine wl_p (r_assign rfl) ?_
  refine wl_nil ?_
  refine hK2 _ _ ?_
  clear hK2 K2
  refine cw_seq fun K3 hK3 => ?_
  refine cw_seq fun K4 hK4 => ?_
  refine cw_region ?_
  refine wl_p (r_load_all h rfl (by simp [hnl]) Tryd.isAgg43 Tryd.sizeOf43) ?_
  refine wl_p (r_move rfl) ?_
  refine wl_nil ?_
  refine hK4 _ _ ?_
  clear hK4 K4
  refine wp_block ?_
  refine cw_loopf [3, 5, 7, 8, 9, 10, 11, 12, 13, 14, 15, 16, 17, 18] (fun f w nn => ∃ (i : Nat) (so : Value) (Ls : List (Nat × Obj)), i ≤ 8 ∧ f 7 = i64 i ∧ f 3 = so ∧ OwnB 5 so (putNode (n.take i)) Ls ∧ Has E w (Ls ++ (b1, vs 43 (nodeV n)) :: F) ∧ nn = 8 - i) (8) ⟨0, _, [], by omega, rfl, rfl, (by rw [List.take_zero, putNode_nil]; exact OwnB.nil), h, rfl⟩ ?_
  clear h; rintro f w nn ⟨i, so, Ls, hi, e7, e3, ho, h, rfl⟩ K5 hK5
  simp only [putFn, List.foldl_cons, List.foldl_nil, List.set_cons_zero, List.set_cons_succ, e7, e3]
  clear e7 e3
  have ho1 := (OwnS.rd0 ho).one
  have hpl := putNode_take_len n i hs hn hi
  refine cw_seq fun K6 hK6 => ?_
  refine cw_region ?_
  refine wl_p (r_lss  (n := 8) rfl rfl) ?_
  refine wl_nil ?_
  refine hK6 _ _ ?_
  clear hK6 K6
  refine cw_seq fun K7 hK7 => ?_
  refine wp_cond_split rfl (fun hc => ?_) (fun hc => ?_)
  · have hlt := of_decide_eq_true hc; clear hc
    have hi8 : i < 8 := by omega
    obtain ⟨r, hr⟩ : ∃ r, r = n.getD i rfZ := ⟨_, rfl⟩
    have hrl : r.sum.length = 32 := by rw [hr]; exact sums_getD i hs
    refine wp_skip ?_
    refine hK7 _ _ ?_
    clear hK7 K7
    refine cw_seq fun K8 hK8 => ?_
    refine wp_block ?_
    refine cw_seq fun K9 hK9 => ?_
    refine cw_region ?_
    refine wl_p (r_index_agg (j := i) (cs := refV r) rfl rfl Tryd.runUnderlying43 Tryd.sizeOf37 Tryd.isAgg37 (by first | rfl | omega) (by omega) (by rw [nodeV_get n i hs (by omega), hr])) ?_
    refine wl_o fun Ko hKo => ?_
    refine op_alloc (cs := [W 0#32] ++ (List.replicate 32 0#8).map B) h Tryd.zeroValue37 rfl fun b5 w h => ?_
    refine hKo _ _ _ ?_; clear hKo Ko
    refine wl_o fun Ko hKo => ?_
    refine op_store_all (cs := refV r) h rfl rfl (fun v hv => by rcases List.mem_cons.1 hv with rfl | hv; rfl; exact oneB v hv) (by simp [refV, hrl]) (by intro w; rw [refV_len r hrl]; exact Tryd.sizeOf37 w) fun w h => ?_
    simp only [List.set_cons_zero] at h
    have h : Has E w ((b5, bsR 37 [W r.at_] r.sum) :: _) := h
    refine hKo _ _ _ ?_; clear hKo Ko
    refine wl_nil ?_
    refine hK9 _ _ ?_
    clear hK9 K9
    refine cw_drawnH h ((Has.appHead (A := [_]) h)) (fun i => false) (by kernel_rfl) 9 rfl #[false, false, false, false, false, false, false, false, false] rfl ?_
    clear h; rintro w h hS
    refine dn_p 0 #[true, false, false, false, false, false, false, false, false] ⟨some 10, _, _, _, _, _⟩ rfl (fun w => r_move rfl) ?_
    refine dn_p 1 #[true, true, false, false, false, false, false, false, false] ⟨some 11, _, _, _, _, _⟩ rfl (fun w => r_fieldAddr (off := 0) rfl Tryd.runUnderlying37 rfl Tryd.sizeOf34 rfl rfl) ?_
    refine dn_l 2 #[true, true, true, false, false, false, false, false, false] ⟨some 12, _, _, _, _, _⟩ rfl hS (fun w hS => r_load_pre hS rfl rfl Tryd.isAgg34) ?_
    refine dn_p 4 #[true, true, true, false, true, false, false, false, false] ⟨some 14, _, _, _, _, _⟩ rfl (fun w => r_fieldAddr (off := 1) rfl Tryd.runUnderlying37 rfl Tryd.sizeOf35 rfl rfl) ?_
    refine dn_p 5 #[true, true, true, false, true, true, false, false, false] ⟨some 15, _, _, _, _, _⟩ rfl (fun w => r_slice_arr rfl Tryd.runUnderlying35 Tryd.sizeOf5 (by omega)) ?_
    refine dn_o 3 #[true, true, true, true, true, true, false, false, false] ⟨some 13, _, _, _, _, _⟩ fun Ko hKo => ?_
    refine op_call [_] Tryd.call47 rfl (put32_ok h r.at_) ?_
    clear h; rintro s13 w ⟨L13, ho13, h⟩
    have h13 := (OwnS.rd0 ho13).one
    refine hKo _ _ _ (fun _ => (Has.appHead (A := [_]) h.appTail)) ?_; clear hKo Ko
    refine dn_o 6 #[true, true, true, true, true, true, true, false, false] ⟨some 16, _, _, _, _, _⟩ fun Ko hKo => ?_
    refine op_buildSliceL [_, _, _] h rfl rfl Tryd.runUnderlying106 Tryd.sizeOf25 Tryd.zeroValue25 rfl (by decide) (by intro v hv; simp only [List.mem_cons, List.not_mem_nil, or_false] at hv; rcases hv with rfl | rfl | rfl <;> first | rfl | assumption) fun b16 w h => ?_
    refine hKo _ _ _ (fun _ => (Has.appHead (A := [_]) h.tail.appTail)) ?_; clear hKo Ko
    refine dn_o 7 #[true, true, true, true, true, true, true, true, false] ⟨some 17, _, _, _, _, _⟩ fun Ko hKo => ?_
    refine op_call [_] Tryd.call46 rfl (concat_ok h (Rd.mk (off := 0) (n := 3) (c := 3) (sz := 1) (by omega) (by simp)) (xss := [putNode (n.take i), be 4 (r.at_.setWidth 64), r.sum]) (Sls.cons (ho.slm (by intro p hp; simp only [List.mem_append, List.mem_cons, hp, true_or, or_true])) (Sls.cons (ho13.slm (by intro p hp; simp only [List.mem_append, List.mem_cons, hp, true_or, or_true])) (Sls.cons (Sl.mkR (pre := [W r.at_]) rfl hrl (by omega)) Sls.nil))) rfl rfl (by omega) (by simp only [List.flatten_cons, List.flatten_nil, List.append_nil, List.length_append, be_length]; omega)) ?_
    clear h; rintro s17 w ⟨L17, ho17, h⟩
    simp only [List.flatten_cons, List.flatten_nil, List.append_nil] at ho17
    rw [hr, ← putNode_succ n i (by omega)] at ho17
    refine hKo _ _ _ (fun _ => (Has.appHead (A := [_]) h.appTail.tail.appTail)) ?_; clear hKo Ko
    refine dn_p 8 #[true, true, true, true, true, true, true, true, true] ⟨some 3, _, _, _, _, _⟩ rfl (fun w => r_assign rfl) ?_
    refine dn_done (by kernel_rfl) ?_
    have h := h.midTail.midApp.midTail.midApp
    refine hK8 _ _ ?_
    clear hK8 K8
    refine cw_region ?_
    refine wl_p (r_add_n  (n := 1) rfl rfl om_of) ?_
    refine wl_p (r_move rfl) ?_
    refine wl_nil ?_
    refine hK5 _ _ (8 - (i + 1)) pfn_of ⟨i + 1, _, L17, by omega, rfl, rfl, ho17, h, rfl⟩ (by omega)
  · have hlt := of_decide_eq_false hc; clear hc
    have hi8 : i = 8 := by omega
    refine wp_exit ?_
    refine hK3 _ _ ?_
    clear hK7 hK5 hK3 K7 K5 K3
    refine cw_seq fun K11 hK11 => ?_
    refine cw_region ?_
    refine wl_p (r_move rfl) ?_
    refine wl_p (r_assign rfl) ?_
    refine wl_nil ?_
    refine hK11 _ _ ?_
    clear hK11 K11
    refine wp_ret ?_
    refine (hQ _ _ _ (res_tmp rfl rfl) ?_).1
    try simp only [List.getD_cons_zero, List.getD_cons_succ]
    rw [hi8, List.take_of_length_le (by omega)] at ho
    exact ⟨Ls, ho, h.midTail⟩

set_option maxHeartbeats 2000000 in
set_option maxRecDepth 100000 in
theorem nodeget_ok {E : Env} {w : World} {F : List (Nat × Obj)} (h : Has E w F) {A : Option Addr} {c : Nat} {xs : Bytes} (hd : Sl F (.slice A xs.length c) xs) (hx : xs.length = 288) : Ret Tryd.prog 34 [.slice A xs.length c] w fun v w' => ((getOk xs ∧ v = .tuple #[aggV (nodeV (getNode xs)), i64 0]) ∨ (¬ getOk xs ∧ v = .tuple #[aggV (nodeV ndZ), i64 4])) ∧ Has E w' F := by
  refine ret_of_wp (l := [.slice A xs.length c, undef, undef, undef, undef, undef, undef, undef, undef, undef, undef, undef, undef, undef, undef, undef, undef, undef, undef, undef, undef, undef, undef, undef, undef, undef, undef, undef, undef, undef, undef, undef, undef, undef, undef, undef, undef, undef, undef, undef, undef, undef, undef, undef, undef, undef, undef, undef, undef, undef, undef]) Tryd.func34 rfl (by simp only [Tryd.ntmps34, List.size_toArray, List.length_cons, List.length_nil, Nat.reduceAdd, Nat.reduceSub, Array.replicate_succ, Array.replicate_zero, List.push_toArray, List.append_toArray, List.nil_append, List.cons_append]) fun Q hQ => ?_
  refine cw_seq fun K1 hK1 => ?_
  refine cw_region ?_
  refine wl_o fun Ko hKo => ?_
  refine op_alloc (cs := nodeV ndZ) h Tryd.zeroValue43 (by kernel_rfl) fun b2 w h => ?_
  refine hKo _ _ _ ?_; clear hKo Ko
  refine wl_p (r_assign rfl) ?_
  refine wl_nil ?_
  refine hK1 _ _ ?_
  clear hK1 K1
  refine cw_seq fun K2 hK2 => ?_
  refine cw_region ?_
  refine wl_o fun Ko hKo => ?_
  refine op_alloc (cs := nodeV ndZ) h Tryd.zeroValue43 (by kernel_rfl) fun b4 w h => ?_
  refine hKo _ _ _ ?_; clear hKo Ko
  refine wl_nil ?_
  refine hK2 _ _ ?_
  clear hK2 K2
  refine cw_seq fun K3 hK3 => ?_
  refine cw_region ?_
  refine wl_p (r_move rfl) ?_
  refine wl_o fun Ko hKo => ?_
  refine op_call [_] Tryd.call54 rfl (read_ok h) ?_
  clear h; rintro _ w ⟨rd, rfl, h⟩
  refine hKo _ _ _ ?_; clear hKo Ko
  refine wl_p (r_assign rfl) ?_
  refine wl_nil ?_
  refine hK3 _ _ ?_
  clear hK3 K3
  refine cw_seq fun K4 hK4 => ?_
  refine cw_seq fun K5 hK5 => ?_
  refine cw_region ?_
  refine wl_p (r_move rfl) ?_
  refine wl_nil ?_
  refine hK5 _ _ ?_
  clear hK5 K5
  refine wp_block ?_
  refine cw_loopf [3, 6, 7, 10, 11, 12, 13, 14, 15, 16, 17, 18, 19, 20, 21, 22, 23, 24, 25, 26, 27, 28, 29, 30, 31, 32, 33, 34, 35, 36, 37, 38, 39, 40] (fun f w n => ∃ (i : Nat) (sd : Value), i ≤ 8 ∧ f 10 = i64 i ∧ (∀ j, j < i → okRef (getRef xs j)) ∧ Sl F sd (xs.drop (36 * i)) ∧ Has E w ((rd, vs 135 [sd, i64 (0 : Nat)]) :: (b4, vs 43 (nodeV (getN xs i))) :: (b2, vs 43 (nodeV (ndZ))) :: F) ∧ n = 8 - i) (8) ⟨0, _, by omega, rfl, fun j hj => absurd hj (by omega), hd, (by rw [getN_zero]; exact h), rfl⟩ ?_
  clear h; rintro f w n ⟨i, sd, hi, e10, hok, hsd, h, rfl⟩ K6 hK6
  simp only [putFn, List.foldl_cons, List.foldl_nil, List.set_cons_zero, List.set_cons_succ, e10]
  clear e10
  have hgl := getN_len xs i hi
  have hgs := getN_sums xs hx i hi
  refine cw_seq fun K7 hK7 => ?_
  refine cw_region ?_
  refine wl_p (r_lss  (n := 8) rfl rfl) ?_
  refine wl_nil ?_
  refine hK7 _ _ ?_
  clear hK7 K7
  refine cw_seq fun K8 hK8 => ?_
  refine wp_cond_split rfl (fun hc => ?_) (fun hc => ?_)
  · have hlt := of_decide_eq_true hc; clear hc
    have hi8 : i < 8 := by omega
    have hdl : ¬ (xs.drop (36 * i)).length < 4 := by rw [List.length_drop]; omega
    have hdl2 : ¬ (xs.drop (36 * i + 4)).length < 32 := by rw [List.length_drop]; omega
    refine wp_skip ?_
    refine hK8 _ _ ?_
    clear hK8 K8
    refine cw_seq fun K9 hK9 => ?_
    refine wp_block ?_
    refine cw_seq fun K10 hK10 => ?_
    refine cw_region ?_
    refine wl_p (r_move rfl) ?_
    refine wl_p (r_assign rfl) ?_
    refine wl_nil ?_
    refine hK10 _ _ ?_
    clear hK10 K10
    refine cw_seq fun K11 hK11 => ?_
    refine cw_region ?_
    refine wl_p (r_move rfl) ?_
    refine wl_p (r_indexAddr_arr (j := i) rfl rfl Tryd.runUnderlying43 Tryd.sizeOf37 (by first | rfl | omega) (by omega)) ?_
    refine wl_p (r_assign rfl) ?_
    refine wl_nil ?_
    refine hK11 _ _ ?_
    clear hK11 K11
    refine cw_seq fun K12 hK12 => ?_
    refine cw_region ?_
    refine wl_p (r_move rfl) ?_
    refine wl_p (r_move rfl) ?_
    refine wl_o fun Ko hKo => ?_
    refine op_call [_] Tryd.call55 rfl (u32_ok (G := F) (fun p hp => List.mem_cons_of_mem _ (List.mem_cons_of_mem _ hp)) hsd h (by rw [List.length_drop]; omega)) ?_
    clear h; rintro _ w ⟨rfl, s17, hs17, h⟩
    rw [rdNext_n hdl] at hs17 h
    dsimp only at hs17 h
    simp only [rdNext_n hdl]
    rw [List.drop_drop] at hs17
    refine hKo _ _ _ ?_; clear hKo Ko
    refine wl_p (r_nilCheck rfl) ?_
    refine wl_p (r_fieldAddr (off := 0) rfl Tryd.runUnderlying37 rfl Tryd.sizeOf34 rfl rfl) ?_
    refine wl_o fun Ko hKo => ?_
    refine op_store (l := nodeV (getN xs i)) h rfl rfl rfl (by rw [nodeV_len _ hgs, hgl]; omega) Tryd.sizeOf34 fun w h => ?_
    simp only [List.set_cons_zero, List.set_cons_succ, ev_t, List.getD_cons_zero, List.getD_cons_succ, Nat.zero_add, Nat.add_zero] at h
    rw [nodeV_at _ i _ hgs (by omega), getN_at xs i hi8] at h
    refine hKo _ _ _ ?_; clear hKo Ko
    refine wl_nil ?_
    obtain ⟨at_, hat⟩ : ∃ a, a = BitVec.setWidth 32 (beNum (List.take 4 (List.drop (36 * i) xs))) := ⟨_, rfl⟩
    simp only [← hat] at h ⊢
    have hgs2 : sums ((getN xs i).set i ⟨at_, rfZ.sum⟩) := sums_set hgs rfl
    have hgl2 : ((getN xs i).set i ⟨at_, rfZ.sum⟩).length = 8 := by rw [List.length_set, hgl]
    refine hK12 _ _ ?_
    clear hK12 K12
    refine cw_seq fun K13 hK13 => ?_
    refine cw_drawn0 h (by kernel_rfl) 7 rfl #[false, false, false, false, false, false, false] rfl ?_
    clear h; rintro w h
    refine dn_p 0 #[true, false, false, false, false, false, false] ⟨some 20, _, _, _, _, _⟩ rfl (fun w => r_move rfl) ?_
    refine dn_p 1 #[true, true, false, false, false, false, false] ⟨some 21, _, _, _, _, _⟩ rfl (fun w => r_nilCheck rfl) ?_
    refine dn_p 2 #[true, true, true, false, false, false, false] ⟨some 22, _, _, _, _, _⟩ rfl (fun w => r_fieldAddr (off := 1) rfl Tryd.runUnderlying37 rfl Tryd.sizeOf35 rfl rfl) ?_
    refine dn_p 3 #[true, true, true, true, false, false, false] ⟨some 23, _, _, _, _, _⟩ rfl (fun w => r_slice_arr rfl Tryd.runUnderlying35 Tryd.sizeOf5 (by omega)) ?_
    refine dn_p 4 #[true, true, true, true, true, false, false] ⟨some 24, _, _, _, _, _⟩ rfl (fun w => r_move rfl) ?_
    refine dn_o 5 #[true, true, true, true, true, true, false] ⟨some 25, _, _, _, _, _⟩ fun Ko hKo => ?_
    refine op_call [_, _] Tryd.call56 rfl (take_ok (G := F) (fun p hp => List.mem_cons_of_mem _ (List.mem_cons_of_mem _ hp)) hs17 h (by rw [List.length_drop]; omega) 32 (by omega)) ?_
    clear h; rintro s25 w ⟨L25, ho25, s26, hs26, h⟩
    rw [rdNext_n hdl2] at ho25 hs26 h
    dsimp only at ho25 hs26 h
    rw [List.drop_drop, show 36 * i + 4 + 32 = 36 * (i + 1) by omega] at hs26
    obtain ⟨ys, hys⟩ : ∃ ys, ys = List.take 32 (List.drop (36 * i + 4) xs) := ⟨_, rfl⟩
    rw [← hys] at ho25
    have hyl : ys.length = 32 := by rw [hys, List.length_take, List.length_drop]; omega
    have hgr : getRef xs i = ⟨at_, ys⟩ := by rw [hat, hys, getRef]
    refine hKo _ _ _ (fun _ => trivial) ?_; clear hKo Ko
    refine dn_o 6 #[true, true, true, true, true, true, true] ⟨some 26, _, _, _, _, _⟩ fun Ko hKo => ?_
    refine op_copy (q := 32) h rfl rfl (ho25.sl _) Tryd.runUnderlying25 Tryd.sizeOf5 (by omega) (by rw [nodeV_len _ hgs2, hgl2]; omega) oneB fun w h => ?_
    simp only [List.set_cons_zero, List.set_cons_succ, set_app, set_app0, Nat.mul_one, Nat.zero_add] at h
    rw [List.take_of_length_le (l := ys.map B) (by rw [List.length_map]; omega), nodeV_sum _ i ys hgs2 (by omega) hyl, getD_set (by omega), set_set, ← hgr, getN_succ xs i hi8] at h
    refine hKo _ _ _ (fun _ => trivial) ?_; clear hKo Ko
    refine dn_done (by kernel_rfl) ?_
    have h := h.appTail
    have hgl3 := getN_len xs (i + 1) (by omega)
    have hgs3 := getN_sums xs hx (i + 1) (by omega)
    have hcell : (nodeV (getN xs (i + 1)))[i * 33]? = some (W at_) := by
      have := nodeV_get (getN xs (i + 1)) i hgs3 (by omega)
      rw [← getN_succ xs i hi8, getD_set (by omega), hgr] at this
      have := congrArg (fun l => l[0]?) this
      simp only [List.getElem?_take, List.getElem?_drop] at this
      rw [← getN_succ xs i hi8, hgr]
      simpa [refV] using this
    have hseg : ((nodeV (getN xs (i + 1))).drop (i * 33)).take 33 = refV ⟨at_, ys⟩ := by rw [nodeV_get _ i hgs3 (by omega), ← getN_succ xs i hi8, getD_set (by omega), hgr]
    refine hK13 _ _ ?_
    clear hK13 K13
    refine cw_seq fun K14 hK14 => ?_
    by_cases hz : at_ = 0#32
    · skip
      refine cw_region ?_
      refine wl_p (r_move rfl) ?_
      refine wl_p (r_nilCheck rfl) ?_
      refine wl_p (r_fieldAddr (off := 0) rfl Tryd.runUnderlying37 rfl Tryd.sizeOf34 rfl rfl) ?_
      refine wl_p (r_load (i := i * 33) h rfl (by rw [List.getElem?_toArray]; exact hcell) Tryd.isAgg34) ?_
      refine wl_p (r_eql_W_t  (q := 0#32) rfl rfl (by first | assumption | omega | (exact side_of) | (simp; done))) ?_
      refine wl_p (r_move rfl) ?_
      refine wl_pw (r_move rfl) ?_
      refine wl_pw (r_nilCheck rfl) ?_
      refine wl_pw (r_load_seg (o := i * 33) (n := 33) h rfl (by simp only [List.size_toArray]; rw [nodeV_len _ hgs3, hgl3]; omega) Tryd.isAgg37 Tryd.sizeOf37 (v := aggV (refV ⟨at_, ys⟩)) (by refine congrArg Value.agg ?_; rw [← hseg]; apply Array.ext'; simp [List.take_drop])) ?_
      refine wl_pw (r_buildP (ps := []) (cs := refV rfZ) (pl := [(0, 1), (1, 32)]) (z := refV rfZ) rfl (by kernel_rfl) rfl) ?_
      refine wl_pw (r_neq_agg (b := decide (¬ ys = zeros 32)) (eqRef 9997) Tryd.isAgg37 Tryd.sizeOf37 (by kernel_rfl) rfl rfl (refV_len _ hyl) (refV_len rfZ rfl) (isRef _ hyl) (isRef rfZ rfl) (by rw [decide_eq_true_eq, hz]; exact not_congr ⟨fun e => by rw [e]; rfl, fun e => congrArg Rf.sum (refV_inj e)⟩)) ?_
      refine wl_p (r_pick rfl rfl) ?_
      refine wl_nil ?_
      refine hK14 _ _ ?_
      clear hK14 K14
      refine wp_cond_split rfl (fun hc => ?_) (fun hc => ?_)
      · have hne := of_decide_eq_true hc; clear hc
        refine cw_seq fun K15 hK15 => ?_
        refine cw_region ?_
        refine wl_p (r_buildP (ps := []) (cs := nodeV ndZ) (pl := (List.range 8).map fun i => (i * 33, 33)) (z := nodeV ndZ) rfl (by kernel_rfl) rfl) ?_
        refine wl_o fun Ko hKo => ?_
        refine op_store_all (cs := nodeV ndZ) h rfl rfl (nodeV_one _) (by rfl) (by intro w; rw [nodeV_len _ ndZ_sums]; exact Tryd.sizeOf43 w) fun w h => ?_
        simp only [List.set_cons_zero, List.set_cons_succ, set_app, set_app0] at h
        refine hKo _ _ _ ?_; clear hKo Ko
        refine wl_p (r_assign rfl) ?_
        refine wl_nil ?_
        refine hK15 _ _ ?_
        clear hK15 K15
        refine wp_ret ?_
        refine (hQ _ _ _ (res_cell2 h rfl rfl (by simp only [List.size_toArray]; first | (rw [nodeV_len _ ndZ_sums]; rfl) | (rw [nodeV_len _ hgs, hgl])) Tryd.isAgg43 Tryd.sizeOf43 rfl) ?_).1
        exact ⟨.inr ⟨fun hk => hne (by have := hk i hi8; rw [hgr] at this; exact this hz), rfl⟩, h.tail.tail.tail⟩
      · have hne := of_decide_eq_false hc; clear hc
        refine wp_skip ?_
        refine hK9 _ _ ?_
        clear hK9 K9
        refine cw_region ?_
        refine wl_p (r_add_n  (n := 1) rfl rfl om_of) ?_
        refine wl_p (r_move rfl) ?_
        refine wl_nil ?_
        refine hK6 _ _ (8 - (i + 1)) pfn_of ⟨i + 1, s26, by omega, rfl, ?hok_16, hs26, h, rfl⟩ (by omega)
        case hok_16 => intro j hj; rcases Nat.lt_or_eq_of_le (Nat.le_of_lt_succ hj) with hj | rfl; exact hok j hj; first | exact fun h0 => absurd (by rw [hgr] at h0; exact h0) hz | exact fun _ => by rw [hgr]; exact Classical.not_not.1 hne
    · skip
      refine cw_region ?_
      refine wl_p (r_move rfl) ?_
      refine wl_p (r_nilCheck rfl) ?_
      refine wl_p (r_fieldAddr (off := 0) rfl Tryd.runUnderlying37 rfl Tryd.sizeOf34 rfl rfl) ?_
      refine wl_p (r_load (i := i * 33) h rfl (by rw [List.getElem?_toArray]; exact hcell) Tryd.isAgg34) ?_
      refine wl_p (r_eql_W_f  (q := 0#32) rfl rfl (by first | assumption | omega | (exact side_of) | (simp; done))) ?_
      refine wl_p (r_move rfl) ?_
      refine wl_s ?_
      refine wl_s ?_
      refine wl_s ?_
      refine wl_s ?_
      refine wl_s ?_
      refine wl_p (r_pick_f rfl rfl) ?_
      refine wl_nil ?_
      refine hK14 _ _ ?_
      clear hK14 K14
      refine wp_cond_false rfl ?_
      refine wp_skip ?_
      refine hK9 _ _ ?_
      clear hK9 K9
      refine cw_region ?_
      refine wl_p (r_add_n  (n := 1) rfl rfl om_of) ?_
      refine wl_p (r_move rfl) ?_
      refine wl_nil ?_
      refine hK6 _ _ (8 - (i + 1)) pfn_of ⟨i + 1, s26, by omega, rfl, ?hok_17, hs26, h, rfl⟩ (by omega)
      case hok_17 => intro j hj; rcases Nat.lt_or_eq_of_le (Nat.le_of_lt_succ hj) with hj | rfl; exact hok j hj; first | exact fun h0 => absurd (by rw [hgr] at h0; exact h0) hz | exact fun _ => by rw [hgr]; exact Classical.not_not.1 hne
  · have hlt := of_decide_eq_false hc; clear hc
    have hi8 : i = 8 := by omega
    subst hi8
    refine wp_exit ?_
    refine hK4 _ _ ?_
    clear hK8 hK6 hK4 K8 K6 K4
    refine cw_seq fun K18 hK18 => ?_
    refine cw_seq fun K19 hK19 => ?_
    refine cw_region ?_
    refine wl_p (r_move rfl) ?_
    refine wl_o fun Ko hKo => ?_
    refine op_call [_] Tryd.call57 rfl (err_ok (G := F) (fun p hp => List.mem_cons_of_mem _ (List.mem_cons_of_mem _ hp)) hsd h (by rw [List.length_drop]; omega)) ?_
    clear h; rintro _ w ⟨rfl, h⟩
    refine hKo _ _ _ ?_; clear hKo Ko
    refine wl_p (r_neq_f  (n := 0) rfl rfl (by first | assumption | omega | (exact side_of) | (simp; done))) ?_
    refine wl_p (r_move rfl) ?_
    refine wl_pw (r_move rfl) ?_
    refine wl_w fun Ko hKo => ?_
    refine op_call [_] Tryd.call58 rfl (left_ok (G := F) (fun p hp => List.mem_cons_of_mem _ (List.mem_cons_of_mem _ hp)) hsd h (by rw [List.length_drop]; omega)) ?_
    clear h; rintro _ w ⟨rfl, h⟩
    refine hKo _ _ _ ?_; clear hKo Ko
    refine wl_pw (r_gtr_f  (n := 0) rfl rfl (by rw [List.length_drop]; omega)) ?_
    refine wl_p (r_pick_f rfl rfl) ?_
    refine wl_nil ?_
    refine hK19 _ _ ?_
    clear hK19 K19
    refine wp_cond_false rfl ?_
    refine wp_skip ?_
    refine hK18 _ _ ?_
    clear hK18 K18
    refine cw_seq fun K20 hK20 => ?_
    refine cw_region ?_
    refine wl_p (r_load_all h rfl (by simp only [List.size_toArray]; rw [nodeV_len _ hgs, hgl]) Tryd.isAgg43 Tryd.sizeOf43) ?_
    refine wl_o fun Ko hKo => ?_
    refine op_store_all (cs := nodeV (getN xs 8)) h rfl rfl (nodeV_one _) (by rw [nodeV_len _ hgs, nodeV_len _ ndZ_sums, hgl]; rfl) (by intro w; rw [nodeV_len _ hgs, hgl]; exact Tryd.sizeOf43 w) fun w h => ?_
    simp only [List.set_cons_zero, List.set_cons_succ] at h
    refine hKo _ _ _ ?_; clear hKo Ko
    refine wl_p (r_assign rfl) ?_
    refine wl_nil ?_
    refine hK20 _ _ ?_
    clear hK20 K20
    refine wp_ret ?_
    refine (hQ _ _ _ (res_cell2 h rfl rfl (by simp only [List.size_toArray]; first | (rw [nodeV_len _ ndZ_sums]; rfl) | (rw [nodeV_len _ hgs, hgl])) Tryd.isAgg43 Tryd.sizeOf43 rfl) ?_).1
    exact ⟨.inl ⟨hok, rfl⟩, h.tail.tail.tail⟩

theorem nodeget {E : Env} {w : World} {F : List (Nat × Obj)} (h : Has E w F) {sd : Value} {xs : Bytes} (hd : Sl F sd xs) (hx : xs.length = 288) : Ret Tryd.prog 34 [sd] w fun v w' => ((getOk xs ∧ v = .tuple #[aggV (nodeV (getNode xs)), i64 0]) ∨ (¬ getOk xs ∧ v = .tuple #[aggV (nodeV ndZ), i64 4])) ∧ Has E w' F := by
  obtain ⟨A, c, rfl, _⟩ := hd.get
  exact nodeget_ok h hd hx

end Go.Proofs.YtjdfenlmifhhdaaDoor
