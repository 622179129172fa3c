/-
  Walks, printed by mk.py (a program of this work) out of specs20.py: what the Go functions compute, and that nobody else's memory turns. Condition: none.
-/
import Derived.Test.YtjdfenlmifhhdaaDoorProg
import Derived.Test.YtjdfenlmifhhdaaDoorAuto
import Derived.Test.YtjdfenlmifhhdaaDoorSpc3
import Derived.Test.YtjdfenlmifhhdaaDoorPure4
namespace Go.Proofs.YtjdfenlmifhhdaaDoor
open Go.RowKit

attribute [local irreducible] layZ padTo sha hmac leafSum nodeSum pageSum superSum label schedule over encrypt decrypt nodeV putNode be beNum isNought spGet spGetD spGetN spPut spPutD awC awS rootsL
set_option maxHeartbeats 1000000 in
set_option maxRecDepth 100000 in
theorem begun_ok {E : Env} {w : World} {F : List (Nat × Obj)} (h : Has E w F)  : Ret Tryd.prog 6 [] w fun v w' => ∃ d Ld, v = ptr d 0 ∧ DevB d 32768 (zeros 16384) (zeros 16384) 0 Ld ∧ Has E w' (Ld ++ F) := by
  refine ret_of_wp (l := [undef, undef, undef, undef, undef, undef, undef]) Tryd.func6 rfl (by simp only [Tryd.ntmps6, List.size_toArray, List.length_cons, List.length_nil, Nat.reduceAdd, Nat.reduceSub, Array.replicate_succ, Array.replicate_zero, List.push_toArray, List.append_toArray, List.nil_append, List.cons_append]) fun Q hQ => ?_
  refine cw_seq fun K1 hK1 => ?_
  refine cw_region ?_
  refine wl_p (r_assign rfl) ?_
  refine wl_nil ?_
  refine hK1 _ _ ?_
  clear hK1 K1
  refine cw_seq fun K2 hK2 => ?_
  refine cw_region ?_
  refine wl_o fun Ko hKo => ?_
  refine op_call [_] Tryd.call21 rfl (devnew_ok h 32768 (by decide)) ?_
  clear h; rintro _ w ⟨d, Ld, rfl, hD, h⟩
  refine hKo _ _ _ ?_; clear hKo Ko
  refine wl_p (r_assign rfl) ?_
  refine wl_nil ?_
  refine hK2 _ _ ?_
  clear hK2 K2
  refine cw_seq fun K3 hK3 => ?_
  refine cw_region ?_
  refine wl_p (r_move rfl) ?_
  refine wl_o fun Ko hKo => ?_
  refine op_makeB (p := 16384) (q := 16384) h rfl rfl om_of Tryd.runUnderlying25 Tryd.typeInfo5 (by show _ * 1 ≤ _; first | omega | (exact side_of)) om_of Tryd.sizeOf5 Tryd.zeroValue5 fun b4 w h => ?_
  refine hKo _ _ _ ?_; clear hKo Ko
  have h := h.mid
  refine wl_o fun Ko hKo => ?_
  refine op_call [_, _] Tryd.call8 rfl (load_ok hD h (xs := zeros 16384) (Sl.all (by omega) (zeros_len _)) (by rw [zeros_len]; decide) (by decide)) ?_
  clear h; rintro _ w ⟨Ld2, hD2, h⟩
  refine hKo _ _ _ ?_; clear hKo Ko
  refine wl_nil ?_
  refine hK3 _ _ ?_
  clear hK3 K3
  refine cw_seq fun K4 hK4 => ?_
  refine cw_region ?_
  refine wl_p (r_move rfl) ?_
  refine wl_p (r_assign rfl) ?_
  refine wl_nil ?_
  refine hK4 _ _ ?_
  clear hK4 K4
  refine wp_ret ?_
  refine (hQ _ _ _ (res_tmp rfl rfl) ?_).1
  try simp only [List.getD_cons_zero, List.getD_cons_succ]
  exact ⟨d, Ld2, rfl, hD2, h.midTail⟩

set_option maxHeartbeats 1000000 in
set_option maxRecDepth 100000 in
theorem same_ok {E : Env} {w : World} {F : List (Nat × Obj)} (h : Has E w F) {key : Bytes} (hkl : key.length = 32) {sd : Value} {xs : Bytes} (hd : Sl F sd xs) (hx : xs.length ≤ 65536) (r : Rf) (hr : r.sum.length = 32) [m0 : Mem F 0 (ws 157 rootsL)] : Ret Tryd.prog 20 [aggB key, sd, aggV (refV r)] w fun v w' => v = .bool (decide (leafSum (label key nameTag) r.at_ xs = r.sum)) ∧ Has E w' F := by
  refine ret_of_wp (l := [aggB key, sd, aggV (refV r), undef, undef, undef, undef, undef, undef, undef, undef, undef, undef, undef, undef, undef]) Tryd.func20 rfl (by simp only [Tryd.ntmps20, List.size_toArray, List.length_cons, List.length_nil, Nat.reduceAdd, Nat.reduceSub, Array.replicate_succ, Array.replicate_zero, List.push_toArray, List.append_toArray, List.nil_append, List.cons_append]) fun Q hQ => ?_
  refine cw_seq fun K1 hK1 => ?_
  refine cw_region ?_
  refine wl_o fun Ko hKo => ?_
  refine op_box h rfl (show Value.cells (aggB key) = (key.map B).toArray from rfl) fun b3 w h => ?_
  refine hKo _ _ _ ?_; clear hKo Ko
  refine wl_o fun Ko hKo => ?_
  refine op_box h rfl (show Value.cells (aggV (refV r)) = (refV r).toArray from rfl) fun b5 w h => ?_
  refine hKo _ _ _ ?_; clear hKo Ko
  have h : Has E w ((b5, bsR 37 [W r.at_] r.sum) :: _) := h
  refine wl_p (r_assign rfl) ?_
  refine wl_nil ?_
  refine hK1 _ _ ?_
  clear hK1 K1
  refine cw_seq fun K2 hK2 => ?_
  refine cw_drawnH h ((Has.appHead (A := [_, _]) h)) (fun i => false) (by kernel_rfl) 10 rfl #[false, false, false, false, false, false, false, false, false, false] rfl ?_
  clear h; rintro w h hS
  refine dn_l 0 #[true, false, false, false, false, false, false, false, false, false] ⟨some 7, _, _, _, _, _⟩ rfl hS (fun w hS => r_load_allb hS rfl hkl Tryd.isAgg23 Tryd.sizeOf23) ?_
  refine dn_p 2 #[true, false, true, false, false, false, false, false, false, false] ⟨some 9, _, _, _, _, _⟩ rfl (fun w => r_fieldAddr (off := 0) rfl Tryd.runUnderlying37 rfl Tryd.sizeOf34 rfl rfl) ?_
  refine dn_l 3 #[true, false, true, true, false, false, false, false, false, false] ⟨some 10, _, _, _, _, _⟩ rfl hS (fun w hS => r_load_pre hS rfl rfl Tryd.isAgg34) ?_
  refine dn_p 4 #[true, false, true, true, true, false, false, false, false, false] ⟨some 11, _, _, _, _, _⟩ rfl (fun w => r_move rfl) ?_
  refine dn_p 6 #[true, false, true, true, true, false, true, false, false, false] ⟨some 13, _, _, _, _, _⟩ rfl (fun w => r_fieldAddr (off := 1) rfl Tryd.runUnderlying37 rfl Tryd.sizeOf35 rfl rfl) ?_
  refine dn_l 7 #[true, false, true, true, true, false, true, true, false, false] ⟨some 14, _, _, _, _, _⟩ rfl hS (fun w hS => r_load_bRall hS rfl rfl hr Tryd.isAgg35 Tryd.sizeOf35) ?_
  refine dn_o 1 #[true, true, true, true, true, false, true, true, false, false] ⟨some 8, _, _, _, _, _⟩ fun Ko hKo => ?_
  refine op_call [_, _] Tryd.call25 rfl (label_ok h hkl (name := nameTag) rfl rfl (by decide)) ?_
  clear h; rintro _ w ⟨rfl, h⟩
  refine hKo _ _ _ (fun _ => (Has.appHead (A := [_, _]) h)) ?_; clear hKo Ko
  refine dn_o 5 #[true, true, true, true, true, true, true, true, false, false] ⟨some 12, _, _, _, _, _⟩ fun Ko hKo => ?_
  refine op_call [_, _, _] Tryd.call38 rfl (leafsum_ok h (label_len _ _) r.at_ hd.cons.cons hx) ?_
  clear h; rintro _ w ⟨rfl, h⟩
  refine hKo _ _ _ (fun _ => (Has.appHead (A := [_, _]) h)) ?_; clear hKo Ko
  refine dn_p 8 #[true, true, true, true, true, true, true, true, true, false] ⟨some 15, _, _, _, _, _⟩ rfl (fun w => r_eql_agg (b := decide (leafSum (label key nameTag) r.at_ xs = r.sum)) (eqSum 9998) Tryd.isAgg35 Tryd.sizeOf35 (by kernel_rfl) rfl rfl (by simp [leafSum_len]) (by simp [hr]) (isB _ 32 (leafSum_len _ _ _)) (isB _ 32 hr) (by rw [decide_eq_true_eq]; exact mapB_inj.symm)) ?_
  refine dn_p 9 #[true, true, true, true, true, true, true, true, true, true] ⟨some 6, _, _, _, _, _⟩ rfl (fun w => r_assign rfl) ?_
  refine dn_done (by kernel_rfl) ?_
  refine hK2 _ _ ?_
  clear hK2 K2
  refine wp_ret ?_
  refine (hQ _ _ _ (res_tmp rfl rfl) ?_).1
  try simp only [List.getD_cons_zero, List.getD_cons_succ]
  exact ⟨by trivial, h.tail.tail⟩

set_option maxHeartbeats 2000000 in
set_option maxRecDepth 100000 in
theorem awake_ok {E : Env} {w : World} {F : List (Nat × Obj)} (h : Has E w F) [m0 : Mem F 0 (ws 157 rootsL)] : Ret Tryd.prog 13 [] w fun v w' => v = .bool true ∧ Has E w' F := by
  refine ret_of_wp (l := [undef, undef, undef, undef, undef, undef, undef, undef, undef, undef, undef, undef, undef, undef, undef, undef, undef, undef, undef, undef, undef, undef, undef, undef, undef, undef, undef, undef, undef, undef, undef, undef, undef, undef, undef, undef, undef, undef, undef, undef, undef, undef, undef, undef, undef, undef, undef, undef, undef, undef, undef, undef, undef, undef, undef, undef, undef, undef, undef, undef, undef, undef]) Tryd.func13 rfl (by simp only [Tryd.ntmps13, List.size_toArray, List.length_cons, List.length_nil, Nat.reduceAdd, Nat.reduceSub, Array.replicate_succ, Array.replicate_zero, List.push_toArray, List.append_toArray, List.nil_append, List.cons_append]) fun Q hQ => ?_
  refine cw_seq fun K1 hK1 => ?_
  refine cw_region ?_
  refine wl_p (r_assign rfl) ?_
  refine wl_nil ?_
  refine hK1 _ _ ?_
  clear hK1 K1
  refine cw_seq fun K2 hK2 => ?_
  refine cw_region ?_
  refine wl_o fun Ko hKo => ?_
  refine op_call [] Tryd.call6 rfl (begun_ok h) ?_
  clear h; rintro _ w ⟨d, Ld, rfl, hD, h⟩
  refine hKo _ _ _ ?_; clear hKo Ko
  refine wl_p (r_buildP (ps := [(0, _), (1, _)]) (cs := [i64 ((8 : Nat) : Int), i64 ((1 : Nat) : Int)]) (pl := [(0, 1), (1, 1)]) (z := [i64 0, i64 0]) rfl (by kernel_rfl) rfl) ?_
  refine wl_p (r_buildP (ps := [(0, _)]) (cs := awKey.map B) (pl := (List.range 32).map fun i => (i * 1, 1)) (z := (List.replicate 32 0#8).map B) rfl (by kernel_rfl) rfl) ?_
  refine wl_o fun Ko hKo => ?_
  refine op_call [_, _, _] Tryd.call9 rfl (spnew_ok h (d := d) (c := 8) (p := 1) (key := awKey) (by decide) (by decide) (by decide) (by decide) rfl super_ne) ?_
  clear h; rintro _ w ⟨s, x, c1, c2, rfl, h⟩
  have h := Has.swapApp (A := [_, _, _, _]) (B := Ld) h
  simp only [List.cons_append, List.nil_append] at h
  refine hKo _ _ _ ?_; clear hKo Ko
  refine wl_p (r_assign rfl) ?_
  refine wl_nil ?_
  refine hK2 _ _ ?_
  clear hK2 K2
  refine cw_seq fun K3 hK3 => ?_
  refine cw_region ?_
  refine wl_p (r_move rfl) ?_
  refine wl_o fun Ko hKo => ?_
  refine op_makeB (p := 512) (q := 512) h rfl rfl om_of Tryd.runUnderlying25 Tryd.typeInfo5 (by show _ * 1 ≤ _; first | omega | (exact side_of)) om_of Tryd.sizeOf5 Tryd.zeroValue5 fun b14 w h => ?_
  refine hKo _ _ _ ?_; clear hKo Ko
  have h := h.mid
  refine wl_o fun Ko hKo => ?_
  refine op_call [_, _, _] Tryd.call12 rfl (putdata_ok hD h (c := 8) (p := 1) (x := x) (tag := (label awKey nameTag)) (by decide) (by decide) (by decide) (by decide) (schedule_len _ (label_len _ _)) (schedule_len _ (label_len _ _)) (label_len _ _) 0#32 (xs := zeros 512) (Sl.all (by omega) (zeros_len _)) (by decide) (by rw [zeros_len]; decide) (by decide)) ?_
  clear h; rintro _ w ⟨rfl, Ld2, hD2, h⟩
  simp only [aw_put] at hD2 ⊢
  rw [show spRef 0 1 (leafSum (label awKey nameTag) (0#32 + 1#32)) 0#32 (over (encrypt (schedule (label awKey nameOne))) (schedule (label awKey nameTwo)) (BitVec.ofNat 64 (8 + (0#32).toNat * 1)) (zeros 512)) = ⟨1#32, leafSum (label awKey nameTag) 1#32 (awC (schedule (label awKey nameOne)) (schedule (label awKey nameTwo)))⟩ from aw_ref _ _ _]
  refine hKo _ _ _ ?_; clear hKo Ko
  refine wl_p (r_move rfl) ?_
  refine wl_p (r_extract rfl rfl) ?_
  refine wl_p (r_extract rfl rfl) ?_
  refine wl_o fun Ko hKo => ?_
  refine op_alloc (cs := refV rfZ) h Tryd.zeroValue37 rfl fun b2 w h => ?_
  refine hKo _ _ _ ?_; clear hKo Ko
  refine wl_o fun Ko hKo => ?_
  refine op_store_all (cs := refV (⟨1#32, leafSum (label awKey nameTag) 1#32 (awC (schedule (label awKey nameOne)) (schedule (label awKey nameTwo)))⟩)) h rfl rfl (fun v hv => by rcases List.mem_cons.1 hv with rfl | hv; rfl; exact oneB v hv) (by first | rfl | (rw [refV_len _ (show (Rf.sum ⟨1#32, leafSum (label awKey nameTag) 1#32 (awC (schedule (label awKey nameOne)) (schedule (label awKey nameTwo)))⟩).length = 32 from leafSum_len _ _ _)]; rfl)) (by intro w; rw [refV_len _ (show (Rf.sum ⟨1#32, leafSum (label awKey nameTag) 1#32 (awC (schedule (label awKey nameOne)) (schedule (label awKey nameTwo)))⟩).length = 32 from leafSum_len _ _ _)]; exact Tryd.sizeOf37 w) fun w h => ?_
  simp only [List.set_cons_zero, List.set_cons_succ, set_app, set_app0] at h
  refine hKo _ _ _ ?_; clear hKo Ko
  have h : Has E w ((b2, bsR 37 [W 1#32] (leafSum (label awKey nameTag) 1#32 (awC (schedule (label awKey nameOne)) (schedule (label awKey nameTwo))))) :: _) := h
  refine wl_p (r_assign rfl) ?_
  refine wl_nil ?_
  refine hK3 _ _ ?_
  clear hK3 K3
  refine cw_seq fun K4 hK4 => ?_
  refine cw_region ?_
  refine wl_p (r_move rfl) ?_
  refine wl_p (r_load_all h rfl (by simp [leafSum_len]) Tryd.isAgg37 Tryd.sizeOf37) ?_
  have h := h.mid
  refine wl_o fun Ko hKo => ?_
  refine op_call [_, _] Tryd.call14 rfl (data_ok hD2 h (c := 8) (p := 1) (x := x) (tag := (label awKey nameTag)) (by decide) (by decide) (by decide) (by decide) (schedule_len _ (label_len _ _)) (schedule_len _ (label_len _ _)) (label_len _ _) ⟨1#32, leafSum (label awKey nameTag) 1#32 (awC (schedule (label awKey nameOne)) (schedule (label awKey nameTwo)))⟩ (leafSum_len _ _ _) (by rw [awS_len]; decide)) ?_
  clear h; rintro _ w ⟨so4, Ls4, rfl, ho4, h⟩
  rw [aw_data] at ho4 ⊢
  refine hKo _ _ _ ?_; clear hKo Ko
  refine wl_p (r_move rfl) ?_
  refine wl_p (r_extract rfl rfl) ?_
  refine wl_p (r_extract rfl rfl) ?_
  refine wl_p (r_assign rfl) ?_
  refine wl_p (r_assign rfl) ?_
  refine wl_nil ?_
  refine hK4 _ _ ?_
  clear hK4 K4
  refine cw_seq fun K5 hK5 => ?_
  refine cw_region ?_
  refine wl_p (r_move rfl) ?_
  refine wl_p (r_buildP (ps := [(0, _)]) (cs := refV ⟨2#32, zeros 32⟩) (pl := [(0, 1), (1, 32)]) (z := refV rfZ) rfl (by kernel_rfl) rfl) ?_
  have h := h.swapApp
  refine wl_o fun Ko hKo => ?_
  refine op_call [_, _] Tryd.call14 rfl (data_ok hD2 h (c := 8) (p := 1) (x := x) (tag := (label awKey nameTag)) (by decide) (by decide) (by decide) (by decide) (schedule_len _ (label_len _ _)) (schedule_len _ (label_len _ _)) (label_len _ _) ⟨2#32, zeros 32⟩ (zeros_len _) (by rw [awS_len]; decide)) ?_
  clear h; rintro _ w ⟨so7, Ls7, rfl, ho7, h⟩
  rw [aw_other _ _ _ rfl] at ho7 ⊢
  refine hKo _ _ _ ?_; clear hKo Ko
  refine wl_p (r_move rfl) ?_
  refine wl_p (r_extract rfl rfl) ?_
  refine wl_p (r_extract rfl rfl) ?_
  refine wl_p (r_assign rfl) ?_
  refine wl_p (r_assign rfl) ?_
  refine wl_nil ?_
  refine hK5 _ _ ?_
  clear hK5 K5
  refine cw_seq fun K6 hK6 => ?_
  refine cw_drawnH h (h) (fun i => false) (by kernel_rfl) 33 rfl #[false, false, false, false, false, false, false, false, false, false, false, false, false, false, false, false, false, false, false, false, false, false, false, false, false, false, false, false, false, false, false, false, false] rfl ?_
  clear h; rintro w h hS
  refine dn_p 0 #[true, false, false, false, false, false, false, false, false, false, false, false, false, false, false, false, false, false, false, false, false, false, false, false, false, false, false, false, false, false, false, false, false] ⟨some 30, _, _, _, _, _⟩ rfl (fun w => r_move rfl) ?_
  refine dn_p 1 #[true, true, false, false, false, false, false, false, false, false, false, false, false, false, false, false, false, false, false, false, false, false, false, false, false, false, false, false, false, false, false, false, false] ⟨some 31, _, _, _, _, _⟩ rfl (fun w => r_neq_nilptr rfl rfl Tryd.runUnderlying30) ?_
  refine dn_p 2 #[true, true, true, false, false, false, false, false, false, false, false, false, false, false, false, false, false, false, false, false, false, false, false, false, false, false, false, false, false, false, false, false, false] ⟨some 32, _, _, _, _, _⟩ rfl (fun w => r_move rfl) ?_
  refine dn_p 3 #[true, true, true, true, false, false, false, false, false, false, false, false, false, false, false, false, false, false, false, false, false, false, false, false, false, false, false, false, false, false, false, false, false] ⟨some 33, _, _, _, _, _⟩ rfl (fun w => r_fieldAddr (off := 0) rfl Tryd.runUnderlying37 rfl Tryd.sizeOf34 rfl rfl) ?_
  refine dn_l 4 #[true, true, true, true, true, false, false, false, false, false, false, false, false, false, false, false, false, false, false, false, false, false, false, false, false, false, false, false, false, false, false, false, false] ⟨some 34, _, _, _, _, _⟩ rfl hS (fun w hS => r_load_pre hS rfl rfl Tryd.isAgg34) ?_
  refine dn_p 5 #[true, true, true, true, true, true, false, false, false, false, false, false, false, false, false, false, false, false, false, false, false, false, false, false, false, false, false, false, false, false, false, false, false] ⟨some 35, _, _, _, _, _⟩ rfl (fun w => r_eql_W  (q := 1#32) rfl rfl) ?_
  simp only [decide_true]
  refine dn_p 6 #[true, true, true, true, true, true, true, false, false, false, false, false, false, false, false, false, false, false, false, false, false, false, false, false, false, false, false, false, false, false, false, false, false] ⟨some 36, _, _, _, _, _⟩ rfl (fun w => r_pick rfl rfl) ?_
  refine dn_p 7 #[true, true, true, true, true, true, true, true, false, false, false, false, false, false, false, false, false, false, false, false, false, false, false, false, false, false, false, false, false, false, false, false, false] ⟨some 37, _, _, _, _, _⟩ rfl (fun w => r_move rfl) ?_
  refine dn_p 8 #[true, true, true, true, true, true, true, true, true, false, false, false, false, false, false, false, false, false, false, false, false, false, false, false, false, false, false, false, false, false, false, false, false] ⟨some 38, _, _, _, _, _⟩ rfl (fun w => r_move rfl) ?_
  refine dn_p 9 #[true, true, true, true, true, true, true, true, true, true, false, false, false, false, false, false, false, false, false, false, false, false, false, false, false, false, false, false, false, false, false, false, false] ⟨some 39, _, _, _, _, _⟩ rfl (fun w => r_eql  (n := 0) rfl rfl) ?_
  simp only [decide_true]
  refine dn_p 10 #[true, true, true, true, true, true, true, true, true, true, true, false, false, false, false, false, false, false, false, false, false, false, false, false, false, false, false, false, false, false, false, false, false] ⟨some 40, _, _, _, _, _⟩ rfl (fun w => r_pick rfl rfl) ?_
  refine dn_p 11 #[true, true, true, true, true, true, true, true, true, true, true, true, false, false, false, false, false, false, false, false, false, false, false, false, false, false, false, false, false, false, false, false, false] ⟨some 41, _, _, _, _, _⟩ rfl (fun w => r_move rfl) ?_
  refine dn_p 12 #[true, true, true, true, true, true, true, true, true, true, true, true, true, false, false, false, false, false, false, false, false, false, false, false, false, false, false, false, false, false, false, false, false] ⟨some 42, _, _, _, _, _⟩ rfl (fun w => r_move rfl) ?_
  refine dn_p 13 #[true, true, true, true, true, true, true, true, true, true, true, true, true, true, false, false, false, false, false, false, false, false, false, false, false, false, false, false, false, false, false, false, false] ⟨some 43, _, _, _, _, _⟩ rfl (fun w => r_eql  (n := 0) rfl rfl) ?_
  simp only [decide_true]
  refine dn_p 14 #[true, true, true, true, true, true, true, true, true, true, true, true, true, true, true, false, false, false, false, false, false, false, false, false, false, false, false, false, false, false, false, false, false] ⟨some 44, _, _, _, _, _⟩ rfl (fun w => r_pick rfl rfl) ?_
  refine dn_p 15 #[true, true, true, true, true, true, true, true, true, true, true, true, true, true, true, true, false, false, false, false, false, false, false, false, false, false, false, false, false, false, false, false, false] ⟨some 45, _, _, _, _, _⟩ rfl (fun w => r_move rfl) ?_
  refine dn_p 16 #[true, true, true, true, true, true, true, true, true, true, true, true, true, true, true, true, true, false, false, false, false, false, false, false, false, false, false, false, false, false, false, false, false] ⟨some 46, _, _, _, _, _⟩ rfl (fun w => r_move rfl) ?_
  refine dn_l 17 #[true, true, true, true, true, true, true, true, true, true, true, true, true, true, true, true, true, true, false, false, false, false, false, false, false, false, false, false, false, false, false, false, false] ⟨some 47, _, _, _, _, _⟩ rfl hS (fun w hS => r_conv_str hS rfl (xs := zeros 512) (ho4.slm (by intro p hp; simp only [List.mem_append, List.mem_cons, hp, true_or, or_true])) Tryd.runUnderlying25 Tryd.runUnderlying5 Tryd.runUnderlying9) ?_
  refine dn_o 18 #[true, true, true, true, true, true, true, true, true, true, true, true, true, true, true, true, true, true, true, false, false, false, false, false, false, false, false, false, false, false, false, false, false] ⟨some 48, _, _, _, _, _⟩ fun Ko hKo => ?_
  refine op_makeB (p := 512) (q := 512) h rfl rfl om_of Tryd.runUnderlying25 Tryd.typeInfo5 (by show _ * 1 ≤ _; first | omega | (exact side_of)) om_of Tryd.sizeOf5 Tryd.zeroValue5 fun b48 w h => ?_
  refine hKo _ _ _ (fun _ => h.tail) ?_; clear hKo Ko
  refine dn_o 19 #[true, true, true, true, true, true, true, true, true, true, true, true, true, true, true, true, true, true, true, true, false, false, false, false, false, false, false, false, false, false, false, false, false] ⟨some 49, _, _, _, _, _⟩ fun Ko hKo => ?_
  refine op_of (r_conv_str h rfl (xs := zeros 512) (Sl.all (by omega) (zeros_len _)) Tryd.runUnderlying25 Tryd.runUnderlying5 Tryd.runUnderlying9) ?_
  refine hKo _ _ _ (fun _ => (by first | exact h | exact h.tail | exact h.tail.tail | exact hS)) ?_; clear hKo Ko
  refine dn_p 20 #[true, true, true, true, true, true, true, true, true, true, true, true, true, true, true, true, true, true, true, true, true, false, false, false, false, false, false, false, false, false, false, false, false] ⟨some 50, _, _, _, _, _⟩ rfl (fun w => r_eql_str rfl rfl) ?_
  simp only [decide_true]
  refine dn_p 21 #[true, true, true, true, true, true, true, true, true, true, true, true, true, true, true, true, true, true, true, true, true, true, false, false, false, false, false, false, false, false, false, false, false] ⟨some 51, _, _, _, _, _⟩ rfl (fun w => r_pick rfl rfl) ?_
  refine dn_p 22 #[true, true, true, true, true, true, true, true, true, true, true, true, true, true, true, true, true, true, true, true, true, true, true, false, false, false, false, false, false, false, false, false, false] ⟨some 52, _, _, _, _, _⟩ rfl (fun w => r_move rfl) ?_
  refine dn_p 23 #[true, true, true, true, true, true, true, true, true, true, true, true, true, true, true, true, true, true, true, true, true, true, true, true, false, false, false, false, false, false, false, false, false] ⟨some 53, _, _, _, _, _⟩ rfl (fun w => r_move rfl) ?_
  refine dn_p 24 #[true, true, true, true, true, true, true, true, true, true, true, true, true, true, true, true, true, true, true, true, true, true, true, true, true, false, false, false, false, false, false, false, false] ⟨some 54, _, _, _, _, _⟩ rfl (fun w => r_eql  (n := 40) rfl rfl) ?_
  simp only [decide_true]
  refine dn_p 25 #[true, true, true, true, true, true, true, true, true, true, true, true, true, true, true, true, true, true, true, true, true, true, true, true, true, true, false, false, false, false, false, false, false] ⟨some 55, _, _, _, _, _⟩ rfl (fun w => r_pick rfl rfl) ?_
  refine dn_p 26 #[true, true, true, true, true, true, true, true, true, true, true, true, true, true, true, true, true, true, true, true, true, true, true, true, true, true, true, false, false, false, false, false, false] ⟨some 56, _, _, _, _, _⟩ rfl (fun w => r_move rfl) ?_
  refine dn_p 27 #[true, true, true, true, true, true, true, true, true, true, true, true, true, true, true, true, true, true, true, true, true, true, true, true, true, true, true, true, false, false, false, false, false] ⟨some 57, _, _, _, _, _⟩ rfl (fun w => r_pick rfl rfl) ?_
  refine dn_p 28 #[true, true, true, true, true, true, true, true, true, true, true, true, true, true, true, true, true, true, true, true, true, true, true, true, true, true, true, true, true, false, false, false, false] ⟨some 58, _, _, _, _, _⟩ rfl (fun w => r_move rfl) ?_
  refine dn_p 29 #[true, true, true, true, true, true, true, true, true, true, true, true, true, true, true, true, true, true, true, true, true, true, true, true, true, true, true, true, true, true, false, false, false] ⟨some 59, _, _, _, _, _⟩ rfl (fun w => r_pick rfl rfl) ?_
  refine dn_p 30 #[true, true, true, true, true, true, true, true, true, true, true, true, true, true, true, true, true, true, true, true, true, true, true, true, true, true, true, true, true, true, true, false, false] ⟨some 60, _, _, _, _, _⟩ rfl (fun w => r_move rfl) ?_
  refine dn_p 31 #[true, true, true, true, true, true, true, true, true, true, true, true, true, true, true, true, true, true, true, true, true, true, true, true, true, true, true, true, true, true, true, true, false] ⟨some 61, _, _, _, _, _⟩ rfl (fun w => r_pick rfl rfl) ?_
  refine dn_p 32 #[true, true, true, true, true, true, true, true, true, true, true, true, true, true, true, true, true, true, true, true, true, true, true, true, true, true, true, true, true, true, true, true, true] ⟨some 0, _, _, _, _, _⟩ rfl (fun w => r_assign rfl) ?_
  refine dn_done (by kernel_rfl) ?_
  refine hK6 _ _ ?_
  clear hK6 K6
  refine wp_ret ?_
  refine (hQ _ _ _ (res_tmp rfl rfl) ?_).1
  try simp only [List.getD_cons_zero, List.getD_cons_succ]
  exact ⟨by trivial, h.tail.appTail.appTail.appTail.tail.tail.tail.tail.tail.tail⟩

end Go.Proofs.YtjdfenlmifhhdaaDoor
