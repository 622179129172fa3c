/-
  Walks, printed by mk.py (a program of this work) out of specs23.py: what the Go functions compute, and that nobody else's memory turns. Condition: none.
-/
import Derived.Test.YtjdfenlmifhhdaaDoorProg
import Derived.Test.YtjdfenlmifhhdaaDoorAuto
import Derived.Test.YtjdfenlmifhhdaaDoorLaw
import Derived.Test.YtjdfenlmifhhdaaDoorPure6
namespace Go.Proofs.YtjdfenlmifhhdaaDoor
open Go.RowKit

attribute [local irreducible] layZ padTo sha hmac leafSum nodeSum pageSum superSum label schedule over encrypt decrypt nodeV putNode be beNum isNought spGet spGetD spGetN spPut spPutD awC awS rootsL fillStep nd1
set_option maxHeartbeats 4000000 in
set_option maxRecDepth 100000 in
theorem turned_ok {E : Env} {w : World} {F : List (Nat × Obj)} (h : Has E w F) [m0 : Mem F 0 (ws 157 rootsL)] {key bb : Bytes} {h0 h1 : BitVec 16} (hkl : key.length = 32) (hbl : bb.length = 512) : Ret Tryd.prog 5 [aggB key, aggB bb, aggV [H h0, H h1]] w fun v w' => v = .bool true ∧ Has E w' F := by
  refine ret_of_wp (l := [aggB key, aggB bb, aggV [H h0, H h1], undef, undef, undef, undef, undef, undef, undef, undef, undef, undef, undef, undef, undef, undef, undef, undef, undef, undef, undef, undef, undef, undef, undef, undef, undef, undef, undef, undef, undef, undef, undef, undef, undef, undef, undef, undef, undef, undef, undef, undef, undef, undef, undef, undef, undef, undef, undef, undef, undef, undef, undef, undef, undef, undef, undef, undef, undef, undef, undef, undef, undef, undef, undef, undef, undef, undef, undef, undef, undef, undef, undef, undef, undef, undef, undef, undef, undef, undef, undef, undef, undef, undef, undef, undef, undef, undef, undef, undef, undef, undef, undef, undef, undef, undef, undef, undef, undef, undef, undef, undef, undef, undef, undef, undef, undef, undef, undef, undef, undef, undef, undef, undef, undef, undef, undef, undef, undef, undef, undef, undef, undef, undef, undef, undef, undef, undef, undef, undef, undef, undef, undef, undef, undef, undef, undef, undef, undef, undef, undef, undef, undef, undef, undef, undef, undef, undef, undef, undef, undef, undef, undef, undef, undef, undef, undef, undef, undef, undef, undef, undef, undef, undef, undef, undef, undef, undef, undef, undef, undef, undef, undef, undef, undef, undef, undef, undef, undef, undef, undef, undef, undef, undef, undef]) Tryd.func5 rfl (by simp only [Tryd.ntmps5, List.size_toArray, List.length_cons, List.length_nil, Nat.reduceAdd, Nat.reduceSub, Array.replicate_succ, Array.replicate_zero, List.push_toArray, List.append_toArray, List.nil_append, List.cons_append]) fun Q hQ => ?_
  refine cw_seq fun K1 hK1 => ?_
  refine cw_region ?_
  refine wl_o fun Ko hKo => ?_
  refine op_box h rfl (show Value.cells (aggB key) = (key.map B).toArray from rfl) fun b3 w h => ?_
  refine hKo _ _ _ ?_; clear hKo Ko
  refine wl_o fun Ko hKo => ?_
  refine op_box h rfl (show Value.cells (aggB bb) = (bb.map B).toArray from rfl) fun b4 w h => ?_
  refine hKo _ _ _ ?_; clear hKo Ko
  refine wl_o fun Ko hKo => ?_
  refine op_box h rfl (show Value.cells (aggV [H h0, H h1]) = [H h0, H h1].toArray from rfl) fun b5 w h => ?_
  refine hKo _ _ _ ?_; clear hKo Ko
  refine wl_p (r_assign rfl) ?_
  refine wl_nil ?_
  refine hK1 _ _ ?_
  clear hK1 K1
  refine cw_seq fun K2 hK2 => ?_
  refine cw_region ?_
  refine wl_p (r_indexAddr_arr (j := 1) rfl rfl Tryd.runUnderlying52 Tryd.sizeOf51 (by first | rfl | omega) om_of) ?_
  refine wl_p (r_load h rfl rfl Tryd.isAgg51) ?_
  refine wl_p (r_conv_HB  rfl Tryd.runUnderlying51 Tryd.runUnderlying5) ?_
  obtain ⟨bw, hbw⟩ : ∃ b, b = h1.setWidth 8 := ⟨_, rfl⟩
  rw [← hbw]
  clear hbw
  refine wl_p (r_assign rfl) ?_
  refine wl_nil ?_
  refine hK2 _ _ ?_
  clear hK2 K2
  refine cw_seq fun K3 hK3 => ?_
  refine cw_seq fun K4 hK4 => ?_
  refine cw_region ?_
  refine wl_p (r_move rfl) ?_
  refine wl_p (r_eql_B  (q := 0#8) rfl rfl) ?_
  refine wl_nil ?_
  refine hK4 _ _ ?_
  clear hK4 K4
  refine wp_cond_split rfl (fun hc => ?_) (fun hc => ?_)
  · have hne := of_decide_eq_true hc; clear hc
    refine cw_seq fun K5 hK5 => ?_
    refine cw_region ?_
    refine wl_o fun Ko hKo => ?_
    refine op_call [] Tryd.call13 rfl (awake_ok h) ?_
    clear h; rintro _ w ⟨rfl, h⟩
    refine hKo _ _ _ ?_; clear hKo Ko
    refine wl_p (r_assign rfl) ?_
    refine wl_nil ?_
    refine hK5 _ _ ?_
    clear hK5 K5
    refine wp_ret ?_
    refine (hQ _ _ _ (res_tmp rfl rfl) ?_).1
    try simp only [List.getD_cons_zero, List.getD_cons_succ]
    exact ⟨by trivial, h.tail.tail.tail⟩
  · have hne := of_decide_eq_false hc; clear hc
    refine wp_skip ?_
    refine hK3 _ _ ?_
    clear hK3 K3
    refine cw_seq fun K6 hK6 => ?_
    refine cw_region ?_
    refine wl_o fun Ko hKo => ?_
    refine op_call [] Tryd.call6 rfl (begun_ok h) ?_
    clear h; rintro _ w ⟨d, Ld, rfl, hD, h⟩
    refine hKo _ _ _ ?_; clear hKo Ko
    refine wl_p (r_assign rfl) ?_
    refine wl_nil ?_
    refine hK6 _ _ ?_
    clear hK6 K6
    refine cw_seq fun K7 hK7 => ?_
    refine cw_region ?_
    refine wl_p (r_move rfl) ?_
    refine wl_p (r_buildP (ps := [(0, _), (1, _)]) (cs := [i64 ((8 : Nat) : Int), i64 ((1 : Nat) : Int)]) (pl := [(0, 1), (1, 1)]) (z := [i64 0, i64 0]) rfl (by kernel_rfl) rfl) ?_
    refine wl_p (r_load_allb h rfl hkl Tryd.isAgg23 Tryd.sizeOf23) ?_
    refine wl_o fun Ko hKo => ?_
    refine op_call [_, _, _] Tryd.call9 rfl (spnew_ok h (d := d) (c := 8) (p := 1) (key := key) (by decide) (by decide) (by decide) (by decide) hkl super_ne) ?_
    clear h; rintro _ w ⟨s, x, c1, c2, rfl, h⟩
    have h := Has.swapApp (A := [_, _, _, _]) (B := Ld) h
    simp only [List.cons_append, List.nil_append] at h
    refine hKo _ _ _ ?_; clear hKo Ko
    refine wl_p (r_assign rfl) ?_
    refine wl_nil ?_
    refine hK7 _ _ ?_
    clear hK7 K7
    refine cw_seq fun K8 hK8 => ?_
    refine cw_region ?_
    refine wl_p (r_move rfl) ?_
    refine wl_p (r_slice_arr rfl Tryd.runUnderlying50 Tryd.sizeOf5 om_of) ?_
    refine wl_o fun Ko hKo => ?_
    refine op_call [_, _, _] Tryd.call12 rfl (putdata_ok hD h (c := 8) (p := 1) (x := x) (tag := (label key nameTag)) (by decide) (by decide) (by decide) (by decide) (schedule_len _ (label_len _ _)) (schedule_len _ (label_len _ _)) (label_len _ _) 0#32 (xs := bb) (Sl.all (by omega) hbl) (by decide) (by rw [zeros_len]; decide) (by omega)) ?_
    clear h; rintro _ w ⟨rfl, Ld2, hD2, h⟩
    have e51 := putD1 32768 (zeros 16384) (0#32).toNat (schedule (label key nameOne)) (schedule (label key nameTwo)) bb (by decide) hbl (by rw [zeros_len]; decide) (by rw [zeros_len]; decide)
    simp only [e51] at hD2 ⊢
    clear e51
    have hcl : (over (encrypt (schedule (label key nameOne))) (schedule (label key nameTwo)) (BitVec.ofNat 64 (8 + (0#32).toNat * 1)) bb).length = 512 := by rw [over_all (encrypt (schedule (label key nameOne))) (enc_len (schedule (label key nameOne))) (schedule (label key nameTwo)) (BitVec.ofNat 64 (8 + (0#32).toNat * 1)) bb (N := 1) hbl, hbl]
    have hsl : (layZ (zeros 16384) (4096 + 512 * (0#32).toNat) (over (encrypt (schedule (label key nameOne))) (schedule (label key nameTwo)) (BitVec.ofNat 64 (8 + (0#32).toNat * 1)) bb)).length = 16384 := by rw [layZ_len1 _ _ _ (by rw [hcl, zeros_len]; decide), zeros_len]
    generalize layZ (zeros 16384) (4096 + 512 * (0#32).toNat) (over (encrypt (schedule (label key nameOne))) (schedule (label key nameTwo)) (BitVec.ofNat 64 (8 + (0#32).toNat * 1)) bb) = seen at hD2 hsl ⊢
    rw [show spRef 0 1 (leafSum (label key nameTag) (0#32 + 1#32)) 0#32 (over (encrypt (schedule (label key nameOne))) (schedule (label key nameTwo)) (BitVec.ofNat 64 (8 + (0#32).toNat * 1)) bb) = ⟨0#32 + 1#32, leafSum (label key nameTag) (0#32 + 1#32) (over (encrypt (schedule (label key nameOne))) (schedule (label key nameTwo)) (BitVec.ofNat 64 (8 + (0#32).toNat * 1)) bb)⟩ by rw [ref1, padTo_all _ _ hcl]]
    refine hKo _ _ _ ?_; clear hKo Ko
    refine wl_p (r_move rfl) ?_
    refine wl_p (r_extract rfl rfl) ?_
    refine wl_p (r_extract rfl rfl) ?_
    refine wl_o fun Ko hKo => ?_
    refine op_alloc (cs := refV rfZ) h Tryd.zeroValue37 rfl fun b10 w h => ?_
    refine hKo _ _ _ ?_; clear hKo Ko
    refine wl_o fun Ko hKo => ?_
    refine op_store_all (cs := refV (⟨0#32 + 1#32, leafSum (label key nameTag) (0#32 + 1#32) (over (encrypt (schedule (label key nameOne))) (schedule (label key nameTwo)) (BitVec.ofNat 64 (8 + (0#32).toNat * 1)) bb)⟩)) h rfl rfl (fun v hv => by rcases List.mem_cons.1 hv with rfl | hv; rfl; exact oneB v hv) (by first | rfl | (rw [refV_len _ (show (Rf.sum ⟨0#32 + 1#32, leafSum (label key nameTag) (0#32 + 1#32) (over (encrypt (schedule (label key nameOne))) (schedule (label key nameTwo)) (BitVec.ofNat 64 (8 + (0#32).toNat * 1)) bb)⟩).length = 32 from leafSum_len _ _ _)]; rfl)) (by intro w; rw [refV_len _ (show (Rf.sum ⟨0#32 + 1#32, leafSum (label key nameTag) (0#32 + 1#32) (over (encrypt (schedule (label key nameOne))) (schedule (label key nameTwo)) (BitVec.ofNat 64 (8 + (0#32).toNat * 1)) bb)⟩).length = 32 from leafSum_len _ _ _)]; exact Tryd.sizeOf37 w) fun w h => ?_
    simp only [List.set_cons_zero, List.set_cons_succ, set_app, set_app0] at h
    have h := h.mid
    refine hKo _ _ _ ?_; clear hKo Ko
    refine wl_p (r_assign rfl) ?_
    refine wl_nil ?_
    refine hK8 _ _ ?_
    clear hK8 K8
    refine cw_seq fun K9 hK9 => ?_
    refine cw_region ?_
    refine wl_p (r_move rfl) ?_
    refine wl_p (r_slice_arr rfl Tryd.runUnderlying50 Tryd.sizeOf5 om_of) ?_
    refine wl_o fun Ko hKo => ?_
    refine op_call [_, _, _] Tryd.call10 rfl (putpage_ok hD2 h (c := 8) (p := 1) (by decide) (by decide) (by decide) (by decide) 1#32 (xs := bb) (Sl.all (by omega) hbl) (by decide) (by rw [hsl]; decide) (by omega)) ?_
    clear h; rintro _ w ⟨rfl, Ld3, hD3, h⟩
    have e51 := put1 32768 seen (1#32).toNat bb (by decide) (by omega) (by rw [hsl]; decide) (by omega)
    simp only [e51] at hD3 ⊢
    clear e51
    have hpl : (padTo 512 bb).length = 512 := padTo_512 _ (by omega)
    have hsl3 : (layZ seen (4096 + 512 * (1#32).toNat) (padTo 512 bb)).length = 16384 := by rw [layZ_len1 _ _ _ (by rw [hpl, hsl]; decide), hsl]
    generalize layZ seen (4096 + 512 * (1#32).toNat) (padTo 512 bb) = seen3 at hD3 hsl3 ⊢
    rw [show spRef 0 1 pageSum 1#32 bb = ⟨1#32 + 1#32, pageSum bb⟩ by rw [ref1, padTo_all _ _ hbl]]
    refine hKo _ _ _ ?_; clear hKo Ko
    refine wl_p (r_move rfl) ?_
    refine wl_p (r_extract rfl rfl) ?_
    refine wl_p (r_extract rfl rfl) ?_
    refine wl_o fun Ko hKo => ?_
    refine op_alloc (cs := refV rfZ) h Tryd.zeroValue37 rfl fun b12 w h => ?_
    refine hKo _ _ _ ?_; clear hKo Ko
    refine wl_o fun Ko hKo => ?_
    refine op_store_all (cs := refV (⟨1#32 + 1#32, pageSum bb⟩)) h rfl rfl (fun v hv => by rcases List.mem_cons.1 hv with rfl | hv; rfl; exact oneB v hv) (by first | rfl | (rw [refV_len _ (show (Rf.sum ⟨1#32 + 1#32, pageSum bb⟩).length = 32 from pageSum_len _)]; rfl)) (by intro w; rw [refV_len _ (show (Rf.sum ⟨1#32 + 1#32, pageSum bb⟩).length = 32 from pageSum_len _)]; exact Tryd.sizeOf37 w) fun w h => ?_
    simp only [List.set_cons_zero, List.set_cons_succ, set_app, set_app0] at h
    have h := h.mid
    refine hKo _ _ _ ?_; clear hKo Ko
    refine wl_p (r_assign rfl) ?_
    refine wl_nil ?_
    refine hK9 _ _ ?_
    clear hK9 K9
    refine cw_seq fun K10 hK10 => ?_
    refine cw_region ?_
    refine wl_p (r_move rfl) ?_
    refine wl_p (r_buildP (ps := [(0, _)]) (cs := awKey.map B) (pl := (List.range 32).map fun i => (i * 1, 1)) (z := (List.replicate 32 0#8).map B) rfl (by kernel_rfl) rfl) ?_
    refine wl_p (r_buildP (ps := [(0, _), (1, _)]) (cs := refV ⟨1#32, awKey⟩) (pl := [(0, 1), (1, 32)]) (z := refV rfZ) rfl (by kernel_rfl) (build_ref 1#32 awKey rfl)) ?_
    refine wl_p (r_buildP (ps := [(0, _)]) (cs := nodeV nd1) (pl := (List.range 8).map fun i => (i * 33, 33)) (z := nodeV ndZ) rfl (by kernel_rfl) (by kernel_rfl)) ?_
    refine wl_o fun Ko hKo => ?_
    refine op_call [_, _, _] Tryd.call11 rfl (putnode_ok hD3 h (c := 8) (p := 1) (by decide) (by decide) (by decide) (by decide) 2#32 nd1 nd1_sums nd1_8 (by decide) (by rw [hsl3]; decide) (by omega)) ?_
    clear h; rintro _ w ⟨rfl, Ld4, hD4, h⟩
    have e51 := put1 32768 seen3 (2#32).toNat (putNode nd1) (by decide) (by rw [nd1_len]; decide) (by rw [hsl3]; decide) (by omega)
    simp only [e51] at hD4 ⊢
    clear e51
    have hp7 : (padTo 512 (putNode nd1)).length = 512 := padTo_512 _ (by rw [nd1_len]; decide)
    have hsl4 : (layZ seen3 (4096 + 512 * (2#32).toNat) (padTo 512 (putNode nd1))).length = 16384 := by rw [layZ_len1 _ _ _ (by rw [hp7, hsl3]; decide), hsl3]
    generalize layZ seen3 (4096 + 512 * (2#32).toNat) (padTo 512 (putNode nd1)) = seen4 at hD4 hsl4 ⊢
    refine hKo _ _ _ ?_; clear hKo Ko
    refine wl_p (r_move rfl) ?_
    refine wl_p (r_extract rfl rfl) ?_
    refine wl_p (r_extract rfl rfl) ?_
    refine wl_o fun Ko hKo => ?_
    refine op_alloc (cs := refV rfZ) h Tryd.zeroValue37 rfl fun b14 w h => ?_
    refine hKo _ _ _ ?_; clear hKo Ko
    refine wl_o fun Ko hKo => ?_
    refine op_store_all (cs := refV (⟨2#32 + 1#32, nodeSum (padTo 512 (putNode nd1))⟩)) h rfl rfl (fun v hv => by rcases List.mem_cons.1 hv with rfl | hv; rfl; exact oneB v hv) (by first | rfl | (rw [refV_len _ (show (Rf.sum ⟨2#32 + 1#32, nodeSum (padTo 512 (putNode nd1))⟩).length = 32 from nodeSum_len _)]; rfl)) (by intro w; rw [refV_len _ (show (Rf.sum ⟨2#32 + 1#32, nodeSum (padTo 512 (putNode nd1))⟩).length = 32 from nodeSum_len _)]; exact Tryd.sizeOf37 w) fun w h => ?_
    simp only [List.set_cons_zero, List.set_cons_succ, set_app, set_app0] at h
    have h := h.mid
    refine hKo _ _ _ ?_; clear hKo Ko
    refine wl_p (r_assign rfl) ?_
    refine wl_nil ?_
    refine hK10 _ _ ?_
    clear hK10 K10
    refine cw_seq fun K11 hK11 => ?_
    refine cw_seq fun K12 hK12 => ?_
    refine cw_region ?_
    refine wl_p (r_move rfl) ?_
    refine wl_p (r_neq_f  (n := 0) rfl rfl (by first | assumption | omega | (exact side_of) | (simp; done))) ?_
    refine wl_p (r_move rfl) ?_
    refine wl_pw (r_move rfl) ?_
    refine wl_pw (r_neq_f  (n := 0) rfl rfl (by first | assumption | omega | (exact side_of) | (simp; done))) ?_
    refine wl_p (r_pick_f rfl rfl) ?_
    refine wl_p (r_move rfl) ?_
    refine wl_pw (r_move rfl) ?_
    refine wl_pw (r_neq_f  (n := 0) rfl rfl (by first | assumption | omega | (exact side_of) | (simp; done))) ?_
    refine wl_p (r_pick_f rfl rfl) ?_
    refine wl_nil ?_
    refine hK12 _ _ ?_
    clear hK12 K12
    refine wp_cond_false rfl ?_
    refine wp_skip ?_
    refine hK11 _ _ ?_
    clear hK11 K11
    refine cw_seq fun K13 hK13 => ?_
    refine cw_region ?_
    refine wl_p (r_move rfl) ?_
    refine wl_o fun Ko hKo => ?_
    refine op_call [_] Tryd.call7 rfl (bytes_ok hD4 h (by omega)) ?_
    clear h; rintro s16 w ⟨L16, ho16, h⟩
    obtain ⟨g, c, junk, rfl, hc, rfl⟩ := own_pos ho16 (by omega)
    rw [hsl4] at hc ⊢
    clear ho16
    refine hKo _ _ _ ?_; clear hKo Ko
    refine wl_p (r_assign rfl) ?_
    refine wl_nil ?_
    refine hK13 _ _ ?_
    clear hK13 K13
    refine cw_seq fun K14 hK14 => ?_
    refine cw_seq fun K15 hK15 => ?_
    refine cw_region ?_
    refine wl_p (r_move rfl) ?_
    refine wl_p (r_len_v rfl Tryd.runUnderlying25) ?_
    refine wl_p (r_neq_f  (n := 16384) rfl rfl (by first | assumption | omega | (exact side_of) | (simp; done))) ?_
    refine wl_nil ?_
    refine hK15 _ _ ?_
    clear hK15 K15
    refine wp_cond_false rfl ?_
    refine wp_skip ?_
    refine hK14 _ _ ?_
    clear hK14 K14
    refine cw_seq fun K16 hK16 => ?_
    refine cw_seq fun K17 hK17 => ?_
    refine cw_region ?_
    refine wl_p (r_assign rfl) ?_
    refine wl_nil ?_
    refine hK17 _ _ ?_
    clear hK17 K17
    refine wp_block ?_
    refine cw_loopf [17, 18, 75, 76, 77, 78, 79, 80, 81, 82, 83, 84, 85, 86, 87, 88, 89, 90, 91, 92, 93, 94, 95, 96, 97, 98, 99, 100, 101] (fun f w n => ∃ i, i ≤ 3 ∧ n = 3 - i ∧ f 17 = i64 (i : Nat) ∧ ∃ al safe kk Ld, DevB d 32768 al safe kk Ld ∧ safe.length = 16384 ∧ al.length = 16384 ∧ kk ≤ 10 ∧ Has E w ((g, vs 5 (al.map B ++ junk)) :: (Ld ++ ((b14, vs 37 (refV ⟨2#32 + 1#32, nodeSum (padTo 512 (putNode nd1))⟩)) :: (b12, vs 37 (refV ⟨1#32 + 1#32, pageSum bb⟩)) :: (b10, vs 37 (refV ⟨0#32 + 1#32, leafSum (label key nameTag) (0#32 + 1#32) (over (encrypt (schedule (label key nameOne))) (schedule (label key nameTwo)) (BitVec.ofNat 64 (8 + (0#32).toNat * 1)) bb)⟩)) :: (s, bsR 68 [ptr d 0, i64 ((8 : Nat) : Int), i64 ((1 : Nat) : Int), ptr x 0] (label key nameTag)) :: (x, vs 86 [ptr c1 0, ptr c2 0]) :: (c2, bs 117 (schedule (label key nameTwo))) :: (c1, bs 117 (schedule (label key nameOne))) :: (b5, vs 52 [H h0, H h1]) :: (b4, bs 50 bb) :: (b3, bs 23 key) :: F)))) (3) ⟨0, by omega, rfl, rfl, _, _, _, _, hD4, zeros_len _, hsl4, by omega, h⟩ ?_
    clear h; rintro f w n ⟨i, hi, rfl, e17, al, safe, kk, Ld, hD, hsf, hal, hkk, h⟩ K18 hK18
    simp only [putFn, List.foldl_cons, List.foldl_nil, List.set_cons_zero, List.set_cons_succ, e17]
    clear e17
    refine cw_seq fun K19 hK19 => ?_
    refine cw_seq fun K20 hK20 => ?_
    refine cw_region ?_
    refine wl_p (r_move rfl) ?_
    refine wl_p (r_lss  (n := 3) rfl rfl) ?_
    refine wl_nil ?_
    refine hK20 _ _ ?_
    clear hK20 K20
    refine wp_cond_split rfl (fun hc => ?_) (fun hc => ?_)
    · have hlt := of_decide_eq_true hc; clear hc
      have hlt : i < 3 := by omega
      refine wp_skip ?_
      refine hK19 _ _ ?_
      clear hK19 K19
      refine cw_seq fun K21 hK21 => ?_
      refine wp_block ?_
      refine cw_seq fun K22 hK22 => ?_
      refine cw_region ?_
      refine wl_p (r_move rfl) ?_
      refine wl_p (r_mul_n (m := 512)  (n := i)  rfl rfl (by omega)) ?_
      refine wl_p (r_add_n (m := 4096)  (n := 512 * i)  rfl rfl (by omega)) ?_
      refine wl_p (r_indexAddr_arr (j := 0) rfl rfl Tryd.runUnderlying52 Tryd.sizeOf51 (by first | rfl | omega) om_of) ?_
      refine wl_p (r_load h rfl rfl Tryd.isAgg51) ?_
      refine wl_p (r_rem_H  (q := 512#16) rfl rfl rfl) ?_
      refine wl_p (r_conv_Hi  rfl Tryd.runUnderlying51 Tryd.runUnderlying3 (by have := (h0 % 512#16).isLt; omega)) ?_
      obtain ⟨k0, hk, hk0⟩ : ∃ k0, k0 = (h0 % 512#16).toNat ∧ k0 < 512 := ⟨_, rfl, by rw [BitVec.toNat_umod]; exact Nat.mod_lt _ (by decide)⟩
      rw [← hk]
      clear hk
      refine wl_p (r_add_n (m := 4096 + 512 * i)  (n := k0)  rfl rfl (by omega)) ?_
      refine wl_p (r_assign rfl) ?_
      refine wl_nil ?_
      refine hK22 _ _ ?_
      clear hK22 K22
      refine cw_seq fun K23 hK23 => ?_
      refine cw_region ?_
      refine wl_p (r_move rfl) ?_
      refine wl_p (r_move rfl) ?_
      refine wl_p (r_elem (j := (4096 + 512 * i + k0)) (Sl.head (L := [(g, vs 5 (al.map B ++ junk))]) (xs := al) hal (by omega)) rfl rfl (by first | rfl | omega) (by omega) Tryd.runUnderlying25 Tryd.sizeOf5) ?_
      refine wl_p (r_load_elemb h (Sl.head (xs := al) hal (by omega)) rfl (by omega) Tryd.isAgg5) ?_
      refine wl_p (r_move rfl) ?_
      refine wl_p (r_xor_B   rfl rfl) ?_
      refine wl_p (r_indexAddr_sl (j := (4096 + 512 * i + k0)) rfl rfl Tryd.runUnderlying25 Tryd.sizeOf5 (by first | rfl | omega) (by omega)) ?_
      refine wl_o fun Ko hKo => ?_
      refine op_store h rfl rfl rfl (by simp [hal]; omega) Tryd.sizeOf5 fun w h => ?_
      simp only [List.set_cons_zero, ev_c, ev_t, List.getD_cons_zero, List.getD_cons_succ] at h
      rw [show (List.map B al ++ junk).set (4096 + 512 * i + k0) (B (al.getD (4096 + 512 * i + k0) 0 ^^^ bw)) = List.map B (al.set (4096 + 512 * i + k0) (al.getD (4096 + 512 * i + k0) 0 ^^^ bw)) ++ junk by rw [List.set_append_left _ _ (by simp [hal]; omega), setB]] at h
      have hal2 : (al.set (4096 + 512 * i + k0) (al.getD (4096 + 512 * i + k0) 0 ^^^ bw)).length = 16384 := by rw [List.length_set, hal]
      have hone := lay_one al (4096 + 512 * i + k0) (al.getD (4096 + 512 * i + k0) 0 ^^^ bw) (by omega)
      generalize al.set (4096 + 512 * i + k0) (al.getD (4096 + 512 * i + k0) 0 ^^^ bw) = al2 at h hal2 hone
      have h := h.mid
      refine hKo _ _ _ ?_; clear hKo Ko
      refine wl_nil ?_
      refine hK23 _ _ ?_
      clear hK23 K23
      refine cw_region ?_
      refine wl_p (r_move rfl) ?_
      refine wl_p (r_move rfl) ?_
      refine wl_p (r_move rfl) ?_
      refine wl_p (r_move rfl) ?_
      refine wl_p (r_move rfl) ?_
      refine wl_p (r_add_n (m := (4096 + 512 * i + k0))  (n := 1)  rfl rfl (by omega)) ?_
      refine wl_p (r_slice_lh (lo := (4096 + 512 * i + k0)) (hi := (4096 + 512 * i + k0) + 1) (Sl.head (L := [(g, vs 5 (al2.map B ++ junk))]) (xs := al2) hal2 (by omega)) rfl rfl rfl (by omega) (by omega) Tryd.runUnderlying25 Tryd.sizeOf5) ?_
      refine wl_o fun Ko hKo => ?_
      refine op_call [_, _, _] Tryd.call17 rfl (edit_ok hD h (Sl.cutLH (Sl.head (xs := al2) hal2 (by omega)) (lo := (4096 + 512 * i + k0)) (hi := (4096 + 512 * i + k0) + 1) (by omega) (by omega)) (4096 + 512 * i + k0) (by decide) (by rw [List.length_drop, List.length_take]; omega) (by omega) (by omega) (by omega) (by omega) (by rw [List.length_drop, List.length_take]; omega)) ?_
      clear h; rintro _ w ⟨Ld5, hD5, h⟩
      rw [hone] at hD5
      have hsf5 : (layZ safe (4096 + 512 * i + k0) ((al2.take ((4096 + 512 * i + k0) + 1)).drop (4096 + 512 * i + k0))).length = 16384 := by rw [layZ_len1 _ _ _ (by rw [List.length_drop, List.length_take]; omega), hsf]
      have h := h.unmid
      refine hKo _ _ _ ?_; clear hKo Ko
      refine wl_nil ?_
      refine hK21 _ _ ?_
      clear hK21 K21
      refine cw_region ?_
      refine wl_p (r_move rfl) ?_
      refine wl_p (r_add_n  (n := 1) rfl rfl om_of) ?_
      refine wl_p (r_assign rfl) ?_
      refine wl_nil ?_
      refine hK18 _ _ (3 - (i + 1)) pfn_of ⟨i + 1, by omega, rfl, rfl, _, _, _, _, hD5, hsf5, hal2, hkk, h⟩ (by omega)
    · have hlt := of_decide_eq_false hc; clear hc
      refine wp_exit ?_
      refine hK16 _ _ ?_
      clear hK19 hK18 hK16 K19 K18 K16
      refine cw_seq fun K25 hK25 => ?_
      have h := h.mid
      refine cw_region ?_
      refine wl_p (r_move rfl) ?_
      refine wl_p (r_load_all h rfl (by simp [refV, leafSum_len]) Tryd.isAgg37 Tryd.sizeOf37) ?_
      refine wl_o fun Ko hKo => ?_
      refine op_call [_, _] Tryd.call14 rfl (data_ok hD h (c := 8) (p := 1) (x := x) (tag := (label key nameTag)) (by decide) (by decide) (by decide) (by decide) (schedule_len _ (label_len _ _)) (schedule_len _ (label_len _ _)) (label_len _ _) ⟨0#32 + 1#32, leafSum (label key nameTag) (0#32 + 1#32) (over (encrypt (schedule (label key nameOne))) (schedule (label key nameTwo)) (BitVec.ofNat 64 (8 + (0#32).toNat * 1)) bb)⟩ (leafSum_len _ _ _) (by rw [hal]; decide)) ?_
      clear h; rintro _ w ⟨so19, Ls19, rfl, ho19, h⟩
      have h := h.appTail
      have q1 := turn_data al (label key nameTag) (schedule (label key nameOne)) (schedule (label key nameTwo)) 0#32 (leafSum (label key nameTag) (0#32 + 1#32) (over (encrypt (schedule (label key nameOne))) (schedule (label key nameTwo)) (BitVec.ofNat 64 (8 + (0#32).toNat * 1)) bb)) (by decide)
      generalize spGetD al 1 (label key nameTag) (schedule (label key nameOne)) (schedule (label key nameTwo)) ⟨0#32 + 1#32, leafSum (label key nameTag) (0#32 + 1#32) (over (encrypt (schedule (label key nameOne))) (schedule (label key nameTwo)) (BitVec.ofNat 64 (8 + (0#32).toNat * 1)) bb)⟩ = z1 at q1 ⊢
      clear ho19
      obtain ⟨e1, o1⟩ := z1
      simp only at q1 ⊢
      refine hKo _ _ _ ?_; clear hKo Ko
      refine wl_p (r_move rfl) ?_
      refine wl_p (r_extract rfl rfl) ?_
      refine wl_p (r_extract rfl rfl) ?_
      refine wl_p (r_assign rfl) ?_
      refine wl_p (r_assign rfl) ?_
      refine wl_nil ?_
      refine hK25 _ _ ?_
      clear hK25 K25
      refine cw_seq fun K26 hK26 => ?_
      refine cw_region ?_
      refine wl_p (r_move rfl) ?_
      refine wl_p (r_load_all h rfl (by simp [refV, pageSum_len]) Tryd.isAgg37 Tryd.sizeOf37) ?_
      refine wl_o fun Ko hKo => ?_
      refine op_call [_, _] Tryd.call15 rfl (page_ok hD h (c := 8) (p := 1) (by decide) (by decide) (by decide) (by decide) ⟨1#32 + 1#32, pageSum bb⟩ (pageSum_len _) (by rw [hal]; decide)) ?_
      clear h; rintro _ w ⟨so21, Ls21, rfl, ho21, h⟩
      have h := h.appTail
      have q2 := turn_get al pageSum 1#32 (pageSum bb) (by decide)
      generalize spGet al 1 pageSum ⟨1#32 + 1#32, pageSum bb⟩ = z2 at q2 ⊢
      clear ho21
      obtain ⟨e2, o2⟩ := z2
      simp only at q2 ⊢
      refine hKo _ _ _ ?_; clear hKo Ko
      refine wl_p (r_move rfl) ?_
      refine wl_p (r_extract rfl rfl) ?_
      refine wl_p (r_extract rfl rfl) ?_
      refine wl_p (r_assign rfl) ?_
      refine wl_p (r_assign rfl) ?_
      refine wl_nil ?_
      refine hK26 _ _ ?_
      clear hK26 K26
      refine cw_seq fun K27 hK27 => ?_
      refine cw_region ?_
      refine wl_p (r_move rfl) ?_
      refine wl_p (r_load_all h rfl (by simp [refV, nodeSum_len]) Tryd.isAgg37 Tryd.sizeOf37) ?_
      refine wl_o fun Ko hKo => ?_
      refine op_call [_, _] Tryd.call16 rfl (node_ok hD h (c := 8) (p := 1) (by decide) (by decide) (by decide) (by decide) ⟨2#32 + 1#32, nodeSum (padTo 512 (putNode nd1))⟩ (nodeSum_len _) (by rw [hal]; decide)) ?_
      clear h; rintro _ w ⟨rfl, h⟩
      obtain ⟨q3, q4, q5⟩ := turn_node al 2#32 (nodeSum (padTo 512 (putNode nd1))) (by decide)
      generalize spGetN al 1 ⟨2#32 + 1#32, nodeSum (padTo 512 (putNode nd1))⟩ = z3 at q3 q4 q5 ⊢
      obtain ⟨e3, o3⟩ := z3
      simp only at q3 q4 q5 ⊢
      have hn3 : (nodeV o3).length = 264 := by rw [nodeV_len _ q4, q5]
      refine hKo _ _ _ ?_; clear hKo Ko
      refine wl_p (r_move rfl) ?_
      refine wl_p (r_extract rfl rfl) ?_
      refine wl_p (r_extract rfl rfl) ?_
      refine wl_o fun Ko hKo => ?_
      refine op_alloc (cs := nodeV ndZ) h Tryd.zeroValue43 (by kernel_rfl) fun b23 w h => ?_
      refine hKo _ _ _ ?_; clear hKo Ko
      refine wl_o fun Ko hKo => ?_
      refine op_store_all (cs := nodeV (o3)) h rfl rfl (nodeV_one _) (by rw [hn3]; exact (nodeV_len _ ndZ_sums).symm) (by intro w; rw [hn3]; exact Tryd.sizeOf43 w) fun w h => ?_
      simp only [List.set_cons_zero, List.set_cons_succ, set_app, set_app0] at h
      have h := h.tail
      refine hKo _ _ _ ?_; clear hKo Ko
      refine wl_p (r_assign rfl) ?_
      refine wl_nil ?_
      refine hK27 _ _ ?_
      clear hK27 K27
      refine cw_seq fun K28 hK28 => ?_
      refine cw_seq fun K29 hK29 => ?_
      refine cw_cut [120, 121, 122, 123, 124, 125, 126, 127, 128, 129, 130, 131, 132, 133, 134, 135, 136, 137, 138, 139, 140, 141, 142, 143, 144, 145, 146, 147, 148, 149] (fun f w => f 149 = .bool false ∧ Has E w (Ld ++ ((g, vs 5 (al.map B ++ junk)) :: (b14, vs 37 (refV ⟨2#32 + 1#32, nodeSum (padTo 512 (putNode nd1))⟩)) :: (b12, vs 37 (refV ⟨1#32 + 1#32, pageSum bb⟩)) :: (b10, vs 37 (refV ⟨0#32 + 1#32, leafSum (label key nameTag) (0#32 + 1#32) (over (encrypt (schedule (label key nameOne))) (schedule (label key nameTwo)) (BitVec.ofNat 64 (8 + (0#32).toNat * 1)) bb)⟩)) :: (s, bsR 68 [ptr d 0, i64 ((8 : Nat) : Int), i64 ((1 : Nat) : Int), ptr x 0] (label key nameTag)) :: (x, vs 86 [ptr c1 0, ptr c2 0]) :: (c2, bs 117 (schedule (label key nameTwo))) :: (c1, bs 117 (schedule (label key nameOne))) :: (b5, vs 52 [H h0, H h1]) :: (b4, bs 50 bb) :: (b3, bs 23 key) :: F))) ?_ ?_
      · intro K30 hK30
        by_cases c1 : e1 = 40
        · obtain rfl := c1
          by_cases c2 : e2 = 40
          · obtain rfl := c2
            by_cases c3 : e3 = 40
            · obtain rfl := c3
              refine cw_drawnH h (h) (fun i => false) (by kernel_rfl) 30 rfl #[false, false, false, false, false, false, false, false, false, false, false, false, false, false, false, false, false, false, false, false, false, false, false, false, false, false, false, false, false, false] rfl ?_
              clear h; rintro w h hS
              refine dn_p 0 #[true, false, false, false, false, false, false, false, false, false, false, false, false, false, false, false, false, false, false, false, false, false, false, false, false, false, false, false, false, false] ⟨some 120, _, _, _, _, _⟩ rfl (fun w => r_move rfl) ?_
              refine dn_p 1 #[true, true, false, false, false, false, false, false, false, false, false, false, false, false, false, false, false, false, false, false, false, false, false, false, false, false, false, false, false, false] ⟨some 121, _, _, _, _, _⟩ rfl (fun w => r_neq_f  (n := 40) rfl rfl (by first | assumption | omega | (exact side_of) | (simp; done))) ?_
              refine dn_p 2 #[true, true, true, false, false, false, false, false, false, false, false, false, false, false, false, false, false, false, false, false, false, false, false, false, false, false, false, false, false, false] ⟨some 122, _, _, _, _, _⟩ rfl (fun w => r_move rfl) ?_
              refine dn_s 3 #[true, true, true, true, false, false, false, false, false, false, false, false, false, false, false, false, false, false, false, false, false, false, false, false, false, false, false, false, false, false] ⟨some 123, _, _, _, _, _⟩ rfl ?_
              refine dn_s 4 #[true, true, true, true, true, false, false, false, false, false, false, false, false, false, false, false, false, false, false, false, false, false, false, false, false, false, false, false, false, false] ⟨some 124, _, _, _, _, _⟩ rfl ?_
              refine dn_p 5 #[true, true, true, true, true, true, false, false, false, false, false, false, false, false, false, false, false, false, false, false, false, false, false, false, false, false, false, false, false, false] ⟨some 125, _, _, _, _, _⟩ rfl (fun w => r_pick_f rfl rfl) ?_
              refine dn_p 6 #[true, true, true, true, true, true, true, false, false, false, false, false, false, false, false, false, false, false, false, false, false, false, false, false, false, false, false, false, false, false] ⟨some 126, _, _, _, _, _⟩ rfl (fun w => r_move rfl) ?_
              refine dn_p 7 #[true, true, true, true, true, true, true, true, false, false, false, false, false, false, false, false, false, false, false, false, false, false, false, false, false, false, false, false, false, false] ⟨some 127, _, _, _, _, _⟩ rfl (fun w => r_move rfl) ?_
              refine dn_p 8 #[true, true, true, true, true, true, true, true, true, false, false, false, false, false, false, false, false, false, false, false, false, false, false, false, false, false, false, false, false, false] ⟨some 128, _, _, _, _, _⟩ rfl (fun w => r_neq_f  (n := 40) rfl rfl (by first | assumption | omega | (exact side_of) | (simp; done))) ?_
              refine dn_p 9 #[true, true, true, true, true, true, true, true, true, true, false, false, false, false, false, false, false, false, false, false, false, false, false, false, false, false, false, false, false, false] ⟨some 129, _, _, _, _, _⟩ rfl (fun w => r_move rfl) ?_
              refine dn_s 10 #[true, true, true, true, true, true, true, true, true, true, true, false, false, false, false, false, false, false, false, false, false, false, false, false, false, false, false, false, false, false] ⟨some 130, _, _, _, _, _⟩ rfl ?_
              refine dn_s 11 #[true, true, true, true, true, true, true, true, true, true, true, true, false, false, false, false, false, false, false, false, false, false, false, false, false, false, false, false, false, false] ⟨some 131, _, _, _, _, _⟩ rfl ?_
              refine dn_s 12 #[true, true, true, true, true, true, true, true, true, true, true, true, true, false, false, false, false, false, false, false, false, false, false, false, false, false, false, false, false, false] ⟨some 132, _, _, _, _, _⟩ rfl ?_
              refine dn_s 13 #[true, true, true, true, true, true, true, true, true, true, true, true, true, true, false, false, false, false, false, false, false, false, false, false, false, false, false, false, false, false] ⟨some 133, _, _, _, _, _⟩ rfl ?_
              refine dn_s 14 #[true, true, true, true, true, true, true, true, true, true, true, true, true, true, true, false, false, false, false, false, false, false, false, false, false, false, false, false, false, false] ⟨some 134, _, _, _, _, _⟩ rfl ?_
              refine dn_s 15 #[true, true, true, true, true, true, true, true, true, true, true, true, true, true, true, true, false, false, false, false, false, false, false, false, false, false, false, false, false, false] ⟨some 135, _, _, _, _, _⟩ rfl ?_
              refine dn_p 16 #[true, true, true, true, true, true, true, true, true, true, true, true, true, true, true, true, true, false, false, false, false, false, false, false, false, false, false, false, false, false] ⟨some 136, _, _, _, _, _⟩ rfl (fun w => r_pick_f rfl rfl) ?_
              refine dn_p 17 #[true, true, true, true, true, true, true, true, true, true, true, true, true, true, true, true, true, true, false, false, false, false, false, false, false, false, false, false, false, false] ⟨some 137, _, _, _, _, _⟩ rfl (fun w => r_pick_f rfl rfl) ?_
              refine dn_p 18 #[true, true, true, true, true, true, true, true, true, true, true, true, true, true, true, true, true, true, true, false, false, false, false, false, false, false, false, false, false, false] ⟨some 138, _, _, _, _, _⟩ rfl (fun w => r_move rfl) ?_
              refine dn_p 19 #[true, true, true, true, true, true, true, true, true, true, true, true, true, true, true, true, true, true, true, true, false, false, false, false, false, false, false, false, false, false] ⟨some 139, _, _, _, _, _⟩ rfl (fun w => r_move rfl) ?_
              refine dn_p 20 #[true, true, true, true, true, true, true, true, true, true, true, true, true, true, true, true, true, true, true, true, true, false, false, false, false, false, false, false, false, false] ⟨some 140, _, _, _, _, _⟩ rfl (fun w => r_neq_f  (n := 40) rfl rfl (by first | assumption | omega | (exact side_of) | (simp; done))) ?_
              refine dn_p 21 #[true, true, true, true, true, true, true, true, true, true, true, true, true, true, true, true, true, true, true, true, true, true, false, false, false, false, false, false, false, false] ⟨some 141, _, _, _, _, _⟩ rfl (fun w => r_move rfl) ?_
              refine dn_s 22 #[true, true, true, true, true, true, true, true, true, true, true, true, true, true, true, true, true, true, true, true, true, true, true, false, false, false, false, false, false, false] ⟨some 142, _, _, _, _, _⟩ rfl ?_
              refine dn_s 23 #[true, true, true, true, true, true, true, true, true, true, true, true, true, true, true, true, true, true, true, true, true, true, true, true, false, false, false, false, false, false] ⟨some 143, _, _, _, _, _⟩ rfl ?_
              refine dn_s 24 #[true, true, true, true, true, true, true, true, true, true, true, true, true, true, true, true, true, true, true, true, true, true, true, true, true, false, false, false, false, false] ⟨some 144, _, _, _, _, _⟩ rfl ?_
              refine dn_s 25 #[true, true, true, true, true, true, true, true, true, true, true, true, true, true, true, true, true, true, true, true, true, true, true, true, true, true, false, false, false, false] ⟨some 145, _, _, _, _, _⟩ rfl ?_
              refine dn_s 26 #[true, true, true, true, true, true, true, true, true, true, true, true, true, true, true, true, true, true, true, true, true, true, true, true, true, true, true, false, false, false] ⟨some 146, _, _, _, _, _⟩ rfl ?_
              refine dn_s 27 #[true, true, true, true, true, true, true, true, true, true, true, true, true, true, true, true, true, true, true, true, true, true, true, true, true, true, true, true, false, false] ⟨some 147, _, _, _, _, _⟩ rfl ?_
              refine dn_p 28 #[true, true, true, true, true, true, true, true, true, true, true, true, true, true, true, true, true, true, true, true, true, true, true, true, true, true, true, true, true, false] ⟨some 148, _, _, _, _, _⟩ rfl (fun w => r_pick_f rfl rfl) ?_
              refine dn_p 29 #[true, true, true, true, true, true, true, true, true, true, true, true, true, true, true, true, true, true, true, true, true, true, true, true, true, true, true, true, true, true] ⟨some 149, _, _, _, _, _⟩ rfl (fun w => r_pick_f rfl rfl) ?_
              refine dn_done (by kernel_rfl) ?_
              exact hK30 _ _ pfn_of ⟨rfl, h⟩
            · obtain ⟨rfl, hq3⟩ := q3.resolve_left c3
              refine cw_drawnH h (h) (fun i => false) (by kernel_rfl) 30 rfl #[false, false, false, false, false, false, false, false, false, false, false, false, false, false, false, false, false, false, false, false, false, false, false, false, false, false, false, false, false, false] rfl ?_
              clear h; rintro w h hS
              refine dn_p 0 #[true, false, false, false, false, false, false, false, false, false, false, false, false, false, false, false, false, false, false, false, false, false, false, false, false, false, false, false, false, false] ⟨some 120, _, _, _, _, _⟩ rfl (fun w => r_move rfl) ?_
              refine dn_p 1 #[true, true, false, false, false, false, false, false, false, false, false, false, false, false, false, false, false, false, false, false, false, false, false, false, false, false, false, false, false, false] ⟨some 121, _, _, _, _, _⟩ rfl (fun w => r_neq_f  (n := 40) rfl rfl (by first | assumption | omega | (exact side_of) | (simp; done))) ?_
              refine dn_p 2 #[true, true, true, false, false, false, false, false, false, false, false, false, false, false, false, false, false, false, false, false, false, false, false, false, false, false, false, false, false, false] ⟨some 122, _, _, _, _, _⟩ rfl (fun w => r_move rfl) ?_
              refine dn_s 3 #[true, true, true, true, false, false, false, false, false, false, false, false, false, false, false, false, false, false, false, false, false, false, false, false, false, false, false, false, false, false] ⟨some 123, _, _, _, _, _⟩ rfl ?_
              refine dn_s 4 #[true, true, true, true, true, false, false, false, false, false, false, false, false, false, false, false, false, false, false, false, false, false, false, false, false, false, false, false, false, false] ⟨some 124, _, _, _, _, _⟩ rfl ?_
              refine dn_p 5 #[true, true, true, true, true, true, false, false, false, false, false, false, false, false, false, false, false, false, false, false, false, false, false, false, false, false, false, false, false, false] ⟨some 125, _, _, _, _, _⟩ rfl (fun w => r_pick_f rfl rfl) ?_
              refine dn_p 6 #[true, true, true, true, true, true, true, false, false, false, false, false, false, false, false, false, false, false, false, false, false, false, false, false, false, false, false, false, false, false] ⟨some 126, _, _, _, _, _⟩ rfl (fun w => r_move rfl) ?_
              refine dn_p 7 #[true, true, true, true, true, true, true, true, false, false, false, false, false, false, false, false, false, false, false, false, false, false, false, false, false, false, false, false, false, false] ⟨some 127, _, _, _, _, _⟩ rfl (fun w => r_move rfl) ?_
              refine dn_p 8 #[true, true, true, true, true, true, true, true, true, false, false, false, false, false, false, false, false, false, false, false, false, false, false, false, false, false, false, false, false, false] ⟨some 128, _, _, _, _, _⟩ rfl (fun w => r_neq_f  (n := 40) rfl rfl (by first | assumption | omega | (exact side_of) | (simp; done))) ?_
              refine dn_p 9 #[true, true, true, true, true, true, true, true, true, true, false, false, false, false, false, false, false, false, false, false, false, false, false, false, false, false, false, false, false, false] ⟨some 129, _, _, _, _, _⟩ rfl (fun w => r_move rfl) ?_
              refine dn_s 10 #[true, true, true, true, true, true, true, true, true, true, true, false, false, false, false, false, false, false, false, false, false, false, false, false, false, false, false, false, false, false] ⟨some 130, _, _, _, _, _⟩ rfl ?_
              refine dn_s 11 #[true, true, true, true, true, true, true, true, true, true, true, true, false, false, false, false, false, false, false, false, false, false, false, false, false, false, false, false, false, false] ⟨some 131, _, _, _, _, _⟩ rfl ?_
              refine dn_s 12 #[true, true, true, true, true, true, true, true, true, true, true, true, true, false, false, false, false, false, false, false, false, false, false, false, false, false, false, false, false, false] ⟨some 132, _, _, _, _, _⟩ rfl ?_
              refine dn_s 13 #[true, true, true, true, true, true, true, true, true, true, true, true, true, true, false, false, false, false, false, false, false, false, false, false, false, false, false, false, false, false] ⟨some 133, _, _, _, _, _⟩ rfl ?_
              refine dn_s 14 #[true, true, true, true, true, true, true, true, true, true, true, true, true, true, true, false, false, false, false, false, false, false, false, false, false, false, false, false, false, false] ⟨some 134, _, _, _, _, _⟩ rfl ?_
              refine dn_s 15 #[true, true, true, true, true, true, true, true, true, true, true, true, true, true, true, true, false, false, false, false, false, false, false, false, false, false, false, false, false, false] ⟨some 135, _, _, _, _, _⟩ rfl ?_
              refine dn_p 16 #[true, true, true, true, true, true, true, true, true, true, true, true, true, true, true, true, true, false, false, false, false, false, false, false, false, false, false, false, false, false] ⟨some 136, _, _, _, _, _⟩ rfl (fun w => r_pick_f rfl rfl) ?_
              refine dn_p 17 #[true, true, true, true, true, true, true, true, true, true, true, true, true, true, true, true, true, true, false, false, false, false, false, false, false, false, false, false, false, false] ⟨some 137, _, _, _, _, _⟩ rfl (fun w => r_pick_f rfl rfl) ?_
              refine dn_p 18 #[true, true, true, true, true, true, true, true, true, true, true, true, true, true, true, true, true, true, true, false, false, false, false, false, false, false, false, false, false, false] ⟨some 138, _, _, _, _, _⟩ rfl (fun w => r_move rfl) ?_
              refine dn_p 19 #[true, true, true, true, true, true, true, true, true, true, true, true, true, true, true, true, true, true, true, true, false, false, false, false, false, false, false, false, false, false] ⟨some 139, _, _, _, _, _⟩ rfl (fun w => r_move rfl) ?_
              refine dn_p 20 #[true, true, true, true, true, true, true, true, true, true, true, true, true, true, true, true, true, true, true, true, true, false, false, false, false, false, false, false, false, false] ⟨some 140, _, _, _, _, _⟩ rfl (fun w => r_neq_t  (n := 40) rfl rfl (by first | assumption | omega | (exact side_of) | (simp; done))) ?_
              refine dn_p 21 #[true, true, true, true, true, true, true, true, true, true, true, true, true, true, true, true, true, true, true, true, true, true, false, false, false, false, false, false, false, false] ⟨some 141, _, _, _, _, _⟩ rfl (fun w => r_move rfl) ?_
              refine dn_p 22 #[true, true, true, true, true, true, true, true, true, true, true, true, true, true, true, true, true, true, true, true, true, true, true, false, false, false, false, false, false, false] ⟨some 142, _, _, _, _, _⟩ rfl (fun w => r_move rfl) ?_
              refine dn_p 23 #[true, true, true, true, true, true, true, true, true, true, true, true, true, true, true, true, true, true, true, true, true, true, true, true, false, false, false, false, false, false] ⟨some 143, _, _, _, _, _⟩ rfl (fun w => r_slice_lh (lo := 5120) (hi := 5632) (Sl.head (L := [(g, vs 5 (al.map B ++ junk))]) (xs := al) hal (by omega)) rfl rfl rfl (by omega) (by omega) Tryd.runUnderlying25 Tryd.sizeOf5) ?_
              refine dn_p 25 #[true, true, true, true, true, true, true, true, true, true, true, true, true, true, true, true, true, true, true, true, true, true, true, true, false, true, false, false, false, false] ⟨some 145, _, _, _, _, _⟩ rfl (fun w => r_fieldAddr (off := 1) rfl Tryd.runUnderlying37 rfl Tryd.sizeOf35 rfl rfl) ?_
              refine dn_l 26 #[true, true, true, true, true, true, true, true, true, true, true, true, true, true, true, true, true, true, true, true, true, true, true, true, false, true, true, false, false, false] ⟨some 146, _, _, _, _, _⟩ rfl h (fun w hS => r_load_bRall (pre := [W (2#32 + 1#32)]) hS rfl rfl (nodeSum_len _) Tryd.isAgg35 Tryd.sizeOf35) ?_
              refine dn_o 24 #[true, true, true, true, true, true, true, true, true, true, true, true, true, true, true, true, true, true, true, true, true, true, true, true, true, true, true, false, false, false] ⟨some 144, _, _, _, _, _⟩ fun Ko hKo => ?_
              refine op_call [_] Tryd.call19 rfl (nodesum_ok h (Sl.cutLH (Sl.head (xs := al) hal (by omega)) (lo := 5120) (hi := 5632) (by omega) (by omega)) (by rw [List.length_drop, List.length_take]; omega)) ?_
              clear h; rintro _ w ⟨rfl, h⟩
              rw [clu_cut al 2 5120 5632 rfl rfl, show nodeSum (clu al 2) = nodeSum (padTo 512 (putNode nd1)) from hq3]
              refine hKo _ _ _ (fun _ => h) ?_; clear hKo Ko
              refine dn_p 27 #[true, true, true, true, true, true, true, true, true, true, true, true, true, true, true, true, true, true, true, true, true, true, true, true, true, true, true, true, false, false] ⟨some 147, _, _, _, _, _⟩ rfl (fun w => r_neq_agg (b := false) (eqSum 9998) Tryd.isAgg35 Tryd.sizeOf35 (by kernel_rfl) rfl rfl (by simp [nodeSum_len]) (by simp [nodeSum_len]) (isB _ 32 (nodeSum_len _)) (isB _ 32 (nodeSum_len _)) (by simp)) ?_
              refine dn_p 28 #[true, true, true, true, true, true, true, true, true, true, true, true, true, true, true, true, true, true, true, true, true, true, true, true, true, true, true, true, true, false] ⟨some 148, _, _, _, _, _⟩ rfl (fun w => r_pick rfl rfl) ?_
              refine dn_p 29 #[true, true, true, true, true, true, true, true, true, true, true, true, true, true, true, true, true, true, true, true, true, true, true, true, true, true, true, true, true, true] ⟨some 149, _, _, _, _, _⟩ rfl (fun w => r_pick_f rfl rfl) ?_
              refine dn_done (by kernel_rfl) ?_
              exact hK30 _ _ pfn_of ⟨rfl, h⟩
          · obtain ⟨rfl, hq2⟩ := q2.resolve_left c2
            by_cases c3 : e3 = 40
            · obtain rfl := c3
              refine cw_drawnH h (h) (fun i => false) (by kernel_rfl) 30 rfl #[false, false, false, false, false, false, false, false, false, false, false, false, false, false, false, false, false, false, false, false, false, false, false, false, false, false, false, false, false, false] rfl ?_
              clear h; rintro w h hS
              refine dn_p 0 #[true, false, false, false, false, false, false, false, false, false, false, false, false, false, false, false, false, false, false, false, false, false, false, false, false, false, false, false, false, false] ⟨some 120, _, _, _, _, _⟩ rfl (fun w => r_move rfl) ?_
              refine dn_p 1 #[true, true, false, false, false, false, false, false, false, false, false, false, false, false, false, false, false, false, false, false, false, false, false, false, false, false, false, false, false, false] ⟨some 121, _, _, _, _, _⟩ rfl (fun w => r_neq_f  (n := 40) rfl rfl (by first | assumption | omega | (exact side_of) | (simp; done))) ?_
              refine dn_p 2 #[true, true, true, false, false, false, false, false, false, false, false, false, false, false, false, false, false, false, false, false, false, false, false, false, false, false, false, false, false, false] ⟨some 122, _, _, _, _, _⟩ rfl (fun w => r_move rfl) ?_
              refine dn_s 3 #[true, true, true, true, false, false, false, false, false, false, false, false, false, false, false, false, false, false, false, false, false, false, false, false, false, false, false, false, false, false] ⟨some 123, _, _, _, _, _⟩ rfl ?_
              refine dn_s 4 #[true, true, true, true, true, false, false, false, false, false, false, false, false, false, false, false, false, false, false, false, false, false, false, false, false, false, false, false, false, false] ⟨some 124, _, _, _, _, _⟩ rfl ?_
              refine dn_p 5 #[true, true, true, true, true, true, false, false, false, false, false, false, false, false, false, false, false, false, false, false, false, false, false, false, false, false, false, false, false, false] ⟨some 125, _, _, _, _, _⟩ rfl (fun w => r_pick_f rfl rfl) ?_
              refine dn_p 6 #[true, true, true, true, true, true, true, false, false, false, false, false, false, false, false, false, false, false, false, false, false, false, false, false, false, false, false, false, false, false] ⟨some 126, _, _, _, _, _⟩ rfl (fun w => r_move rfl) ?_
              refine dn_p 7 #[true, true, true, true, true, true, true, true, false, false, false, false, false, false, false, false, false, false, false, false, false, false, false, false, false, false, false, false, false, false] ⟨some 127, _, _, _, _, _⟩ rfl (fun w => r_move rfl) ?_
              refine dn_p 8 #[true, true, true, true, true, true, true, true, true, false, false, false, false, false, false, false, false, false, false, false, false, false, false, false, false, false, false, false, false, false] ⟨some 128, _, _, _, _, _⟩ rfl (fun w => r_neq_t  (n := 40) rfl rfl (by first | assumption | omega | (exact side_of) | (simp; done))) ?_
              refine dn_p 9 #[true, true, true, true, true, true, true, true, true, true, false, false, false, false, false, false, false, false, false, false, false, false, false, false, false, false, false, false, false, false] ⟨some 129, _, _, _, _, _⟩ rfl (fun w => r_move rfl) ?_
              refine dn_p 10 #[true, true, true, true, true, true, true, true, true, true, true, false, false, false, false, false, false, false, false, false, false, false, false, false, false, false, false, false, false, false] ⟨some 130, _, _, _, _, _⟩ rfl (fun w => r_move rfl) ?_
              refine dn_p 11 #[true, true, true, true, true, true, true, true, true, true, true, true, false, false, false, false, false, false, false, false, false, false, false, false, false, false, false, false, false, false] ⟨some 131, _, _, _, _, _⟩ rfl (fun w => r_slice_lh (lo := 4608) (hi := 5120) (Sl.head (L := [(g, vs 5 (al.map B ++ junk))]) (xs := al) hal (by omega)) rfl rfl rfl (by omega) (by omega) Tryd.runUnderlying25 Tryd.sizeOf5) ?_
              refine dn_p 13 #[true, true, true, true, true, true, true, true, true, true, true, true, false, true, false, false, false, false, false, false, false, false, false, false, false, false, false, false, false, false] ⟨some 133, _, _, _, _, _⟩ rfl (fun w => r_fieldAddr (off := 1) rfl Tryd.runUnderlying37 rfl Tryd.sizeOf35 rfl rfl) ?_
              refine dn_l 14 #[true, true, true, true, true, true, true, true, true, true, true, true, false, true, true, false, false, false, false, false, false, false, false, false, false, false, false, false, false, false] ⟨some 134, _, _, _, _, _⟩ rfl h (fun w hS => r_load_bRall (pre := [W (1#32 + 1#32)]) hS rfl rfl (pageSum_len _) Tryd.isAgg35 Tryd.sizeOf35) ?_
              refine dn_o 12 #[true, true, true, true, true, true, true, true, true, true, true, true, true, true, true, false, false, false, false, false, false, false, false, false, false, false, false, false, false, false] ⟨some 132, _, _, _, _, _⟩ fun Ko hKo => ?_
              refine op_call [_] Tryd.call18 rfl (pagesum_ok h (Sl.cutLH (Sl.head (xs := al) hal (by omega)) (lo := 4608) (hi := 5120) (by omega) (by omega)) (by rw [List.length_drop, List.length_take]; omega)) ?_
              clear h; rintro _ w ⟨rfl, h⟩
              rw [clu_cut al 1 4608 5120 rfl rfl, show pageSum (clu al 1) = pageSum bb from hq2]
              refine hKo _ _ _ (fun _ => h) ?_; clear hKo Ko
              refine dn_p 15 #[true, true, true, true, true, true, true, true, true, true, true, true, true, true, true, true, false, false, false, false, false, false, false, false, false, false, false, false, false, false] ⟨some 135, _, _, _, _, _⟩ rfl (fun w => r_neq_agg (b := false) (eqSum 9998) Tryd.isAgg35 Tryd.sizeOf35 (by kernel_rfl) rfl rfl (by simp [pageSum_len]) (by simp [pageSum_len]) (isB _ 32 (pageSum_len _)) (isB _ 32 (pageSum_len _)) (by simp)) ?_
              refine dn_p 16 #[true, true, true, true, true, true, true, true, true, true, true, true, true, true, true, true, true, false, false, false, false, false, false, false, false, false, false, false, false, false] ⟨some 136, _, _, _, _, _⟩ rfl (fun w => r_pick rfl rfl) ?_
              refine dn_p 17 #[true, true, true, true, true, true, true, true, true, true, true, true, true, true, true, true, true, true, false, false, false, false, false, false, false, false, false, false, false, false] ⟨some 137, _, _, _, _, _⟩ rfl (fun w => r_pick_f rfl rfl) ?_
              refine dn_p 18 #[true, true, true, true, true, true, true, true, true, true, true, true, true, true, true, true, true, true, true, false, false, false, false, false, false, false, false, false, false, false] ⟨some 138, _, _, _, _, _⟩ rfl (fun w => r_move rfl) ?_
              refine dn_p 19 #[true, true, true, true, true, true, true, true, true, true, true, true, true, true, true, true, true, true, true, true, false, false, false, false, false, false, false, false, false, false] ⟨some 139, _, _, _, _, _⟩ rfl (fun w => r_move rfl) ?_
              refine dn_p 20 #[true, true, true, true, true, true, true, true, true, true, true, true, true, true, true, true, true, true, true, true, true, false, false, false, false, false, false, false, false, false] ⟨some 140, _, _, _, _, _⟩ rfl (fun w => r_neq_f  (n := 40) rfl rfl (by first | assumption | omega | (exact side_of) | (simp; done))) ?_
              refine dn_p 21 #[true, true, true, true, true, true, true, true, true, true, true, true, true, true, true, true, true, true, true, true, true, true, false, false, false, false, false, false, false, false] ⟨some 141, _, _, _, _, _⟩ rfl (fun w => r_move rfl) ?_
              refine dn_s 22 #[true, true, true, true, true, true, true, true, true, true, true, true, true, true, true, true, true, true, true, true, true, true, true, false, false, false, false, false, false, false] ⟨some 142, _, _, _, _, _⟩ rfl ?_
              refine dn_s 23 #[true, true, true, true, true, true, true, true, true, true, true, true, true, true, true, true, true, true, true, true, true, true, true, true, false, false, false, false, false, false] ⟨some 143, _, _, _, _, _⟩ rfl ?_
              refine dn_s 24 #[true, true, true, true, true, true, true, true, true, true, true, true, true, true, true, true, true, true, true, true, true, true, true, true, true, false, false, false, false, false] ⟨some 144, _, _, _, _, _⟩ rfl ?_
              refine dn_s 25 #[true, true, true, true, true, true, true, true, true, true, true, true, true, true, true, true, true, true, true, true, true, true, true, true, true, true, false, false, false, false] ⟨some 145, _, _, _, _, _⟩ rfl ?_
              refine dn_s 26 #[true, true, true, true, true, true, true, true, true, true, true, true, true, true, true, true, true, true, true, true, true, true, true, true, true, true, true, false, false, false] ⟨some 146, _, _, _, _, _⟩ rfl ?_
              refine dn_s 27 #[true, true, true, true, true, true, true, true, true, true, true, true, true, true, true, true, true, true, true, true, true, true, true, true, true, true, true, true, false, false] ⟨some 147, _, _, _, _, _⟩ rfl ?_
              refine dn_p 28 #[true, true, true, true, true, true, true, true, true, true, true, true, true, true, true, true, true, true, true, true, true, true, true, true, true, true, true, true, true, false] ⟨some 148, _, _, _, _, _⟩ rfl (fun w => r_pick_f rfl rfl) ?_
              refine dn_p 29 #[true, true, true, true, true, true, true, true, true, true, true, true, true, true, true, true, true, true, true, true, true, true, true, true, true, true, true, true, true, true] ⟨some 149, _, _, _, _, _⟩ rfl (fun w => r_pick_f rfl rfl) ?_
              refine dn_done (by kernel_rfl) ?_
              exact hK30 _ _ pfn_of ⟨rfl, h⟩
            · obtain ⟨rfl, hq3⟩ := q3.resolve_left c3
              refine cw_drawnH h (h) (fun i => false) (by kernel_rfl) 30 rfl #[false, false, false, false, false, false, false, false, false, false, false, false, false, false, false, false, false, false, false, false, false, false, false, false, false, false, false, false, false, false] rfl ?_
              clear h; rintro w h hS
              refine dn_p 0 #[true, false, false, false, false, false, false, false, false, false, false, false, false, false, false, false, false, false, false, false, false, false, false, false, false, false, false, false, false, false] ⟨some 120, _, _, _, _, _⟩ rfl (fun w => r_move rfl) ?_
              refine dn_p 1 #[true, true, false, false, false, false, false, false, false, false, false, false, false, false, false, false, false, false, false, false, false, false, false, false, false, false, false, false, false, false] ⟨some 121, _, _, _, _, _⟩ rfl (fun w => r_neq_f  (n := 40) rfl rfl (by first | assumption | omega | (exact side_of) | (simp; done))) ?_
              refine dn_p 2 #[true, true, true, false, false, false, false, false, false, false, false, false, false, false, false, false, false, false, false, false, false, false, false, false, false, false, false, false, false, false] ⟨some 122, _, _, _, _, _⟩ rfl (fun w => r_move rfl) ?_
              refine dn_s 3 #[true, true, true, true, false, false, false, false, false, false, false, false, false, false, false, false, false, false, false, false, false, false, false, false, false, false, false, false, false, false] ⟨some 123, _, _, _, _, _⟩ rfl ?_
              refine dn_s 4 #[true, true, true, true, true, false, false, false, false, false, false, false, false, false, false, false, false, false, false, false, false, false, false, false, false, false, false, false, false, false] ⟨some 124, _, _, _, _, _⟩ rfl ?_
              refine dn_p 5 #[true, true, true, true, true, true, false, false, false, false, false, false, false, false, false, false, false, false, false, false, false, false, false, false, false, false, false, false, false, false] ⟨some 125, _, _, _, _, _⟩ rfl (fun w => r_pick_f rfl rfl) ?_
              refine dn_p 6 #[true, true, true, true, true, true, true, false, false, false, false, false, false, false, false, false, false, false, false, false, false, false, false, false, false, false, false, false, false, false] ⟨some 126, _, _, _, _, _⟩ rfl (fun w => r_move rfl) ?_
              refine dn_p 7 #[true, true, true, true, true, true, true, true, false, false, false, false, false, false, false, false, false, false, false, false, false, false, false, false, false, false, false, false, false, false] ⟨some 127, _, _, _, _, _⟩ rfl (fun w => r_move rfl) ?_
              refine dn_p 8 #[true, true, true, true, true, true, true, true, true, false, false, false, false, false, false, false, false, false, false, false, false, false, false, false, false, false, false, false, false, false] ⟨some 128, _, _, _, _, _⟩ rfl (fun w => r_neq_t  (n := 40) rfl rfl (by first | assumption | omega | (exact side_of) | (simp; done))) ?_
              refine dn_p 9 #[true, true, true, true, true, true, true, true, true, true, false, false, false, false, false, false, false, false, false, false, false, false, false, false, false, false, false, false, false, false] ⟨some 129, _, _, _, _, _⟩ rfl (fun w => r_move rfl) ?_
              refine dn_p 10 #[true, true, true, true, true, true, true, true, true, true, true, false, false, false, false, false, false, false, false, false, false, false, false, false, false, false, false, false, false, false] ⟨some 130, _, _, _, _, _⟩ rfl (fun w => r_move rfl) ?_
              refine dn_p 11 #[true, true, true, true, true, true, true, true, true, true, true, true, false, false, false, false, false, false, false, false, false, false, false, false, false, false, false, false, false, false] ⟨some 131, _, _, _, _, _⟩ rfl (fun w => r_slice_lh (lo := 4608) (hi := 5120) (Sl.head (L := [(g, vs 5 (al.map B ++ junk))]) (xs := al) hal (by omega)) rfl rfl rfl (by omega) (by omega) Tryd.runUnderlying25 Tryd.sizeOf5) ?_
              refine dn_p 13 #[true, true, true, true, true, true, true, true, true, true, true, true, false, true, false, false, false, false, false, false, false, false, false, false, false, false, false, false, false, false] ⟨some 133, _, _, _, _, _⟩ rfl (fun w => r_fieldAddr (off := 1) rfl Tryd.runUnderlying37 rfl Tryd.sizeOf35 rfl rfl) ?_
              refine dn_l 14 #[true, true, true, true, true, true, true, true, true, true, true, true, false, true, true, false, false, false, false, false, false, false, false, false, false, false, false, false, false, false] ⟨some 134, _, _, _, _, _⟩ rfl h (fun w hS => r_load_bRall (pre := [W (1#32 + 1#32)]) hS rfl rfl (pageSum_len _) Tryd.isAgg35 Tryd.sizeOf35) ?_
              refine dn_o 12 #[true, true, true, true, true, true, true, true, true, true, true, true, true, true, true, false, false, false, false, false, false, false, false, false, false, false, false, false, false, false] ⟨some 132, _, _, _, _, _⟩ fun Ko hKo => ?_
              refine op_call [_] Tryd.call18 rfl (pagesum_ok h (Sl.cutLH (Sl.head (xs := al) hal (by omega)) (lo := 4608) (hi := 5120) (by omega) (by omega)) (by rw [List.length_drop, List.length_take]; omega)) ?_
              clear h; rintro _ w ⟨rfl, h⟩
              rw [clu_cut al 1 4608 5120 rfl rfl, show pageSum (clu al 1) = pageSum bb from hq2]
              refine hKo _ _ _ (fun _ => h) ?_; clear hKo Ko
              refine dn_p 15 #[true, true, true, true, true, true, true, true, true, true, true, true, true, true, true, true, false, false, false, false, false, false, false, false, false, false, false, false, false, false] ⟨some 135, _, _, _, _, _⟩ rfl (fun w => r_neq_agg (b := false) (eqSum 9998) Tryd.isAgg35 Tryd.sizeOf35 (by kernel_rfl) rfl rfl (by simp [pageSum_len]) (by simp [pageSum_len]) (isB _ 32 (pageSum_len _)) (isB _ 32 (pageSum_len _)) (by simp)) ?_
              refine dn_p 16 #[true, true, true, true, true, true, true, true, true, true, true, true, true, true, true, true, true, false, false, false, false, false, false, false, false, false, false, false, false, false] ⟨some 136, _, _, _, _, _⟩ rfl (fun w => r_pick rfl rfl) ?_
              refine dn_p 17 #[true, true, true, true, true, true, true, true, true, true, true, true, true, true, true, true, true, true, false, false, false, false, false, false, false, false, false, false, false, false] ⟨some 137, _, _, _, _, _⟩ rfl (fun w => r_pick_f rfl rfl) ?_
              refine dn_p 18 #[true, true, true, true, true, true, true, true, true, true, true, true, true, true, true, true, true, true, true, false, false, false, false, false, false, false, false, false, false, false] ⟨some 138, _, _, _, _, _⟩ rfl (fun w => r_move rfl) ?_
              refine dn_p 19 #[true, true, true, true, true, true, true, true, true, true, true, true, true, true, true, true, true, true, true, true, false, false, false, false, false, false, false, false, false, false] ⟨some 139, _, _, _, _, _⟩ rfl (fun w => r_move rfl) ?_
              refine dn_p 20 #[true, true, true, true, true, true, true, true, true, true, true, true, true, true, true, true, true, true, true, true, true, false, false, false, false, false, false, false, false, false] ⟨some 140, _, _, _, _, _⟩ rfl (fun w => r_neq_t  (n := 40) rfl rfl (by first | assumption | omega | (exact side_of) | (simp; done))) ?_
              refine dn_p 21 #[true, true, true, true, true, true, true, true, true, true, true, true, true, true, true, true, true, true, true, true, true, true, false, false, false, false, false, false, false, false] ⟨some 141, _, _, _, _, _⟩ rfl (fun w => r_move rfl) ?_
              refine dn_p 22 #[true, true, true, true, true, true, true, true, true, true, true, true, true, true, true, true, true, true, true, true, true, true, true, false, false, false, false, false, false, false] ⟨some 142, _, _, _, _, _⟩ rfl (fun w => r_move rfl) ?_
              refine dn_p 23 #[true, true, true, true, true, true, true, true, true, true, true, true, true, true, true, true, true, true, true, true, true, true, true, true, false, false, false, false, false, false] ⟨some 143, _, _, _, _, _⟩ rfl (fun w => r_slice_lh (lo := 5120) (hi := 5632) (Sl.head (L := [(g, vs 5 (al.map B ++ junk))]) (xs := al) hal (by omega)) rfl rfl rfl (by omega) (by omega) Tryd.runUnderlying25 Tryd.sizeOf5) ?_
              refine dn_p 25 #[true, true, true, true, true, true, true, true, true, true, true, true, true, true, true, true, true, true, true, true, true, true, true, true, false, true, false, false, false, false] ⟨some 145, _, _, _, _, _⟩ rfl (fun w => r_fieldAddr (off := 1) rfl Tryd.runUnderlying37 rfl Tryd.sizeOf35 rfl rfl) ?_
              refine dn_l 26 #[true, true, true, true, true, true, true, true, true, true, true, true, true, true, true, true, true, true, true, true, true, true, true, true, false, true, true, false, false, false] ⟨some 146, _, _, _, _, _⟩ rfl h (fun w hS => r_load_bRall (pre := [W (2#32 + 1#32)]) hS rfl rfl (nodeSum_len _) Tryd.isAgg35 Tryd.sizeOf35) ?_
              refine dn_o 24 #[true, true, true, true, true, true, true, true, true, true, true, true, true, true, true, true, true, true, true, true, true, true, true, true, true, true, true, false, false, false] ⟨some 144, _, _, _, _, _⟩ fun Ko hKo => ?_
              refine op_call [_] Tryd.call19 rfl (nodesum_ok h (Sl.cutLH (Sl.head (xs := al) hal (by omega)) (lo := 5120) (hi := 5632) (by omega) (by omega)) (by rw [List.length_drop, List.length_take]; omega)) ?_
              clear h; rintro _ w ⟨rfl, h⟩
              rw [clu_cut al 2 5120 5632 rfl rfl, show nodeSum (clu al 2) = nodeSum (padTo 512 (putNode nd1)) from hq3]
              refine hKo _ _ _ (fun _ => h) ?_; clear hKo Ko
              refine dn_p 27 #[true, true, true, true, true, true, true, true, true, true, true, true, true, true, true, true, true, true, true, true, true, true, true, true, true, true, true, true, false, false] ⟨some 147, _, _, _, _, _⟩ rfl (fun w => r_neq_agg (b := false) (eqSum 9998) Tryd.isAgg35 Tryd.sizeOf35 (by kernel_rfl) rfl rfl (by simp [nodeSum_len]) (by simp [nodeSum_len]) (isB _ 32 (nodeSum_len _)) (isB _ 32 (nodeSum_len _)) (by simp)) ?_
              refine dn_p 28 #[true, true, true, true, true, true, true, true, true, true, true, true, true, true, true, true, true, true, true, true, true, true, true, true, true, true, true, true, true, false] ⟨some 148, _, _, _, _, _⟩ rfl (fun w => r_pick rfl rfl) ?_
              refine dn_p 29 #[true, true, true, true, true, true, true, true, true, true, true, true, true, true, true, true, true, true, true, true, true, true, true, true, true, true, true, true, true, true] ⟨some 149, _, _, _, _, _⟩ rfl (fun w => r_pick_f rfl rfl) ?_
              refine dn_done (by kernel_rfl) ?_
              exact hK30 _ _ pfn_of ⟨rfl, h⟩
        · obtain ⟨rfl, hq1⟩ := q1.resolve_left c1
          by_cases c2 : e2 = 40
          · obtain rfl := c2
            by_cases c3 : e3 = 40
            · obtain rfl := c3
              refine cw_drawnH h (h) (fun i => false) (by kernel_rfl) 30 rfl #[false, false, false, false, false, false, false, false, false, false, false, false, false, false, false, false, false, false, false, false, false, false, false, false, false, false, false, false, false, false] rfl ?_
              clear h; rintro w h hS
              refine dn_p 0 #[true, false, false, false, false, false, false, false, false, false, false, false, false, false, false, false, false, false, false, false, false, false, false, false, false, false, false, false, false, false] ⟨some 120, _, _, _, _, _⟩ rfl (fun w => r_move rfl) ?_
              refine dn_p 1 #[true, true, false, false, false, false, false, false, false, false, false, false, false, false, false, false, false, false, false, false, false, false, false, false, false, false, false, false, false, false] ⟨some 121, _, _, _, _, _⟩ rfl (fun w => r_neq_t  (n := 40) rfl rfl (by first | assumption | omega | (exact side_of) | (simp; done))) ?_
              refine dn_p 2 #[true, true, true, false, false, false, false, false, false, false, false, false, false, false, false, false, false, false, false, false, false, false, false, false, false, false, false, false, false, false] ⟨some 122, _, _, _, _, _⟩ rfl (fun w => r_move rfl) ?_
              refine dn_p 3 #[true, true, true, true, false, false, false, false, false, false, false, false, false, false, false, false, false, false, false, false, false, false, false, false, false, false, false, false, false, false] ⟨some 123, _, _, _, _, _⟩ rfl (fun w => r_move rfl) ?_
              refine dn_p 4 #[true, true, true, true, true, false, false, false, false, false, false, false, false, false, false, false, false, false, false, false, false, false, false, false, false, false, false, false, false, false] ⟨some 124, _, _, _, _, _⟩ rfl (fun w => r_neq_f  (n := 0) rfl rfl (by first | assumption | omega | (exact side_of) | (simp; done))) ?_
              refine dn_p 5 #[true, true, true, true, true, true, false, false, false, false, false, false, false, false, false, false, false, false, false, false, false, false, false, false, false, false, false, false, false, false] ⟨some 125, _, _, _, _, _⟩ rfl (fun w => r_pick rfl rfl) ?_
              refine dn_p 6 #[true, true, true, true, true, true, true, false, false, false, false, false, false, false, false, false, false, false, false, false, false, false, false, false, false, false, false, false, false, false] ⟨some 126, _, _, _, _, _⟩ rfl (fun w => r_move rfl) ?_
              refine dn_p 7 #[true, true, true, true, true, true, true, true, false, false, false, false, false, false, false, false, false, false, false, false, false, false, false, false, false, false, false, false, false, false] ⟨some 127, _, _, _, _, _⟩ rfl (fun w => r_move rfl) ?_
              refine dn_p 8 #[true, true, true, true, true, true, true, true, true, false, false, false, false, false, false, false, false, false, false, false, false, false, false, false, false, false, false, false, false, false] ⟨some 128, _, _, _, _, _⟩ rfl (fun w => r_neq_f  (n := 40) rfl rfl (by first | assumption | omega | (exact side_of) | (simp; done))) ?_
              refine dn_p 9 #[true, true, true, true, true, true, true, true, true, true, false, false, false, false, false, false, false, false, false, false, false, false, false, false, false, false, false, false, false, false] ⟨some 129, _, _, _, _, _⟩ rfl (fun w => r_move rfl) ?_
              refine dn_s 10 #[true, true, true, true, true, true, true, true, true, true, true, false, false, false, false, false, false, false, false, false, false, false, false, false, false, false, false, false, false, false] ⟨some 130, _, _, _, _, _⟩ rfl ?_
              refine dn_s 11 #[true, true, true, true, true, true, true, true, true, true, true, true, false, false, false, false, false, false, false, false, false, false, false, false, false, false, false, false, false, false] ⟨some 131, _, _, _, _, _⟩ rfl ?_
              refine dn_s 12 #[true, true, true, true, true, true, true, true, true, true, true, true, true, false, false, false, false, false, false, false, false, false, false, false, false, false, false, false, false, false] ⟨some 132, _, _, _, _, _⟩ rfl ?_
              refine dn_s 13 #[true, true, true, true, true, true, true, true, true, true, true, true, true, true, false, false, false, false, false, false, false, false, false, false, false, false, false, false, false, false] ⟨some 133, _, _, _, _, _⟩ rfl ?_
              refine dn_s 14 #[true, true, true, true, true, true, true, true, true, true, true, true, true, true, true, false, false, false, false, false, false, false, false, false, false, false, false, false, false, false] ⟨some 134, _, _, _, _, _⟩ rfl ?_
              refine dn_s 15 #[true, true, true, true, true, true, true, true, true, true, true, true, true, true, true, true, false, false, false, false, false, false, false, false, false, false, false, false, false, false] ⟨some 135, _, _, _, _, _⟩ rfl ?_
              refine dn_p 16 #[true, true, true, true, true, true, true, true, true, true, true, true, true, true, true, true, true, false, false, false, false, false, false, false, false, false, false, false, false, false] ⟨some 136, _, _, _, _, _⟩ rfl (fun w => r_pick_f rfl rfl) ?_
              refine dn_p 17 #[true, true, true, true, true, true, true, true, true, true, true, true, true, true, true, true, true, true, false, false, false, false, false, false, false, false, false, false, false, false] ⟨some 137, _, _, _, _, _⟩ rfl (fun w => r_pick_f rfl rfl) ?_
              refine dn_p 18 #[true, true, true, true, true, true, true, true, true, true, true, true, true, true, true, true, true, true, true, false, false, false, false, false, false, false, false, false, false, false] ⟨some 138, _, _, _, _, _⟩ rfl (fun w => r_move rfl) ?_
              refine dn_p 19 #[true, true, true, true, true, true, true, true, true, true, true, true, true, true, true, true, true, true, true, true, false, false, false, false, false, false, false, false, false, false] ⟨some 139, _, _, _, _, _⟩ rfl (fun w => r_move rfl) ?_
              refine dn_p 20 #[true, true, true, true, true, true, true, true, true, true, true, true, true, true, true, true, true, true, true, true, true, false, false, false, false, false, false, false, false, false] ⟨some 140, _, _, _, _, _⟩ rfl (fun w => r_neq_f  (n := 40) rfl rfl (by first | assumption | omega | (exact side_of) | (simp; done))) ?_
              refine dn_p 21 #[true, true, true, true, true, true, true, true, true, true, true, true, true, true, true, true, true, true, true, true, true, true, false, false, false, false, false, false, false, false] ⟨some 141, _, _, _, _, _⟩ rfl (fun w => r_move rfl) ?_
              refine dn_s 22 #[true, true, true, true, true, true, true, true, true, true, true, true, true, true, true, true, true, true, true, true, true, true, true, false, false, false, false, false, false, false] ⟨some 142, _, _, _, _, _⟩ rfl ?_
              refine dn_s 23 #[true, true, true, true, true, true, true, true, true, true, true, true, true, true, true, true, true, true, true, true, true, true, true, true, false, false, false, false, false, false] ⟨some 143, _, _, _, _, _⟩ rfl ?_
              refine dn_s 24 #[true, true, true, true, true, true, true, true, true, true, true, true, true, true, true, true, true, true, true, true, true, true, true, true, true, false, false, false, false, false] ⟨some 144, _, _, _, _, _⟩ rfl ?_
              refine dn_s 25 #[true, true, true, true, true, true, true, true, true, true, true, true, true, true, true, true, true, true, true, true, true, true, true, true, true, true, false, false, false, false] ⟨some 145, _, _, _, _, _⟩ rfl ?_
              refine dn_s 26 #[true, true, true, true, true, true, true, true, true, true, true, true, true, true, true, true, true, true, true, true, true, true, true, true, true, true, true, false, false, false] ⟨some 146, _, _, _, _, _⟩ rfl ?_
              refine dn_s 27 #[true, true, true, true, true, true, true, true, true, true, true, true, true, true, true, true, true, true, true, true, true, true, true, true, true, true, true, true, false, false] ⟨some 147, _, _, _, _, _⟩ rfl ?_
              refine dn_p 28 #[true, true, true, true, true, true, true, true, true, true, true, true, true, true, true, true, true, true, true, true, true, true, true, true, true, true, true, true, true, false] ⟨some 148, _, _, _, _, _⟩ rfl (fun w => r_pick_f rfl rfl) ?_
              refine dn_p 29 #[true, true, true, true, true, true, true, true, true, true, true, true, true, true, true, true, true, true, true, true, true, true, true, true, true, true, true, true, true, true] ⟨some 149, _, _, _, _, _⟩ rfl (fun w => r_pick_f rfl rfl) ?_
              refine dn_done (by kernel_rfl) ?_
              exact hK30 _ _ pfn_of ⟨rfl, h⟩
            · obtain ⟨rfl, hq3⟩ := q3.resolve_left c3
              refine cw_drawnH h (h) (fun i => false) (by kernel_rfl) 30 rfl #[false, false, false, false, false, false, false, false, false, false, false, false, false, false, false, false, false, false, false, false, false, false, false, false, false, false, false, false, false, false] rfl ?_
              clear h; rintro w h hS
              refine dn_p 0 #[true, false, false, false, false, false, false, false, false, false, false, false, false, false, false, false, false, false, false, false, false, false, false, false, false, false, false, false, false, false] ⟨some 120, _, _, _, _, _⟩ rfl (fun w => r_move rfl) ?_
              refine dn_p 1 #[true, true, false, false, false, false, false, false, false, false, false, false, false, false, false, false, false, false, false, false, false, false, false, false, false, false, false, false, false, false] ⟨some 121, _, _, _, _, _⟩ rfl (fun w => r_neq_t  (n := 40) rfl rfl (by first | assumption | omega | (exact side_of) | (simp; done))) ?_
              refine dn_p 2 #[true, true, true, false, false, false, false, false, false, false, false, false, false, false, false, false, false, false, false, false, false, false, false, false, false, false, false, false, false, false] ⟨some 122, _, _, _, _, _⟩ rfl (fun w => r_move rfl) ?_
              refine dn_p 3 #[true, true, true, true, false, false, false, false, false, false, false, false, false, false, false, false, false, false, false, false, false, false, false, false, false, false, false, false, false, false] ⟨some 123, _, _, _, _, _⟩ rfl (fun w => r_move rfl) ?_
              refine dn_p 4 #[true, true, true, true, true, false, false, false, false, false, false, false, false, false, false, false, false, false, false, false, false, false, false, false, false, false, false, false, false, false] ⟨some 124, _, _, _, _, _⟩ rfl (fun w => r_neq_f  (n := 0) rfl rfl (by first | assumption | omega | (exact side_of) | (simp; done))) ?_
              refine dn_p 5 #[true, true, true, true, true, true, false, false, false, false, false, false, false, false, false, false, false, false, false, false, false, false, false, false, false, false, false, false, false, false] ⟨some 125, _, _, _, _, _⟩ rfl (fun w => r_pick rfl rfl) ?_
              refine dn_p 6 #[true, true, true, true, true, true, true, false, false, false, false, false, false, false, false, false, false, false, false, false, false, false, false, false, false, false, false, false, false, false] ⟨some 126, _, _, _, _, _⟩ rfl (fun w => r_move rfl) ?_
              refine dn_p 7 #[true, true, true, true, true, true, true, true, false, false, false, false, false, false, false, false, false, false, false, false, false, false, false, false, false, false, false, false, false, false] ⟨some 127, _, _, _, _, _⟩ rfl (fun w => r_move rfl) ?_
              refine dn_p 8 #[true, true, true, true, true, true, true, true, true, false, false, false, false, false, false, false, false, false, false, false, false, false, false, false, false, false, false, false, false, false] ⟨some 128, _, _, _, _, _⟩ rfl (fun w => r_neq_f  (n := 40) rfl rfl (by first | assumption | omega | (exact side_of) | (simp; done))) ?_
              refine dn_p 9 #[true, true, true, true, true, true, true, true, true, true, false, false, false, false, false, false, false, false, false, false, false, false, false, false, false, false, false, false, false, false] ⟨some 129, _, _, _, _, _⟩ rfl (fun w => r_move rfl) ?_
              refine dn_s 10 #[true, true, true, true, true, true, true, true, true, true, true, false, false, false, false, false, false, false, false, false, false, false, false, false, false, false, false, false, false, false] ⟨some 130, _, _, _, _, _⟩ rfl ?_
              refine dn_s 11 #[true, true, true, true, true, true, true, true, true, true, true, true, false, false, false, false, false, false, false, false, false, false, false, false, false, false, false, false, false, false] ⟨some 131, _, _, _, _, _⟩ rfl ?_
              refine dn_s 12 #[true, true, true, true, true, true, true, true, true, true, true, true, true, false, false, false, false, false, false, false, false, false, false, false, false, false, false, false, false, false] ⟨some 132, _, _, _, _, _⟩ rfl ?_
              refine dn_s 13 #[true, true, true, true, true, true, true, true, true, true, true, true, true, true, false, false, false, false, false, false, false, false, false, false, false, false, false, false, false, false] ⟨some 133, _, _, _, _, _⟩ rfl ?_
              refine dn_s 14 #[true, true, true, true, true, true, true, true, true, true, true, true, true, true, true, false, false, false, false, false, false, false, false, false, false, false, false, false, false, false] ⟨some 134, _, _, _, _, _⟩ rfl ?_
              refine dn_s 15 #[true, true, true, true, true, true, true, true, true, true, true, true, true, true, true, true, false, false, false, false, false, false, false, false, false, false, false, false, false, false] ⟨some 135, _, _, _, _, _⟩ rfl ?_
              refine dn_p 16 #[true, true, true, true, true, true, true, true, true, true, true, true, true, true, true, true, true, false, false, false, false, false, false, false, false, false, false, false, false, false] ⟨some 136, _, _, _, _, _⟩ rfl (fun w => r_pick_f rfl rfl) ?_
              refine dn_p 17 #[true, true, true, true, true, true, true, true, true, true, true, true, true, true, true, true, true, true, false, false, false, false, false, false, false, false, false, false, false, false] ⟨some 137, _, _, _, _, _⟩ rfl (fun w => r_pick_f rfl rfl) ?_
              refine dn_p 18 #[true, true, true, true, true, true, true, true, true, true, true, true, true, true, true, true, true, true, true, false, false, false, false, false, false, false, false, false, false, false] ⟨some 138, _, _, _, _, _⟩ rfl (fun w => r_move rfl) ?_
              refine dn_p 19 #[true, true, true, true, true, true, true, true, true, true, true, true, true, true, true, true, true, true, true, true, false, false, false, false, false, false, false, false, false, false] ⟨some 139, _, _, _, _, _⟩ rfl (fun w => r_move rfl) ?_
              refine dn_p 20 #[true, true, true, true, true, true, true, true, true, true, true, true, true, true, true, true, true, true, true, true, true, false, false, false, false, false, false, false, false, false] ⟨some 140, _, _, _, _, _⟩ rfl (fun w => r_neq_t  (n := 40) rfl rfl (by first | assumption | omega | (exact side_of) | (simp; done))) ?_
              refine dn_p 21 #[true, true, true, true, true, true, true, true, true, true, true, true, true, true, true, true, true, true, true, true, true, true, false, false, false, false, false, false, false, false] ⟨some 141, _, _, _, _, _⟩ rfl (fun w => r_move rfl) ?_
              refine dn_p 22 #[true, true, true, true, true, true, true, true, true, true, true, true, true, true, true, true, true, true, true, true, true, true, true, false, false, false, false, false, false, false] ⟨some 142, _, _, _, _, _⟩ rfl (fun w => r_move rfl) ?_
              refine dn_p 23 #[true, true, true, true, true, true, true, true, true, true, true, true, true, true, true, true, true, true, true, true, true, true, true, true, false, false, false, false, false, false] ⟨some 143, _, _, _, _, _⟩ rfl (fun w => r_slice_lh (lo := 5120) (hi := 5632) (Sl.head (L := [(g, vs 5 (al.map B ++ junk))]) (xs := al) hal (by omega)) rfl rfl rfl (by omega) (by omega) Tryd.runUnderlying25 Tryd.sizeOf5) ?_
              refine dn_p 25 #[true, true, true, true, true, true, true, true, true, true, true, true, true, true, true, true, true, true, true, true, true, true, true, true, false, true, false, false, false, false] ⟨some 145, _, _, _, _, _⟩ rfl (fun w => r_fieldAddr (off := 1) rfl Tryd.runUnderlying37 rfl Tryd.sizeOf35 rfl rfl) ?_
              refine dn_l 26 #[true, true, true, true, true, true, true, true, true, true, true, true, true, true, true, true, true, true, true, true, true, true, true, true, false, true, true, false, false, false] ⟨some 146, _, _, _, _, _⟩ rfl h (fun w hS => r_load_bRall (pre := [W (2#32 + 1#32)]) hS rfl rfl (nodeSum_len _) Tryd.isAgg35 Tryd.sizeOf35) ?_
              refine dn_o 24 #[true, true, true, true, true, true, true, true, true, true, true, true, true, true, true, true, true, true, true, true, true, true, true, true, true, true, true, false, false, false] ⟨some 144, _, _, _, _, _⟩ fun Ko hKo => ?_
              refine op_call [_] Tryd.call19 rfl (nodesum_ok h (Sl.cutLH (Sl.head (xs := al) hal (by omega)) (lo := 5120) (hi := 5632) (by omega) (by omega)) (by rw [List.length_drop, List.length_take]; omega)) ?_
              clear h; rintro _ w ⟨rfl, h⟩
              rw [clu_cut al 2 5120 5632 rfl rfl, show nodeSum (clu al 2) = nodeSum (padTo 512 (putNode nd1)) from hq3]
              refine hKo _ _ _ (fun _ => h) ?_; clear hKo Ko
              refine dn_p 27 #[true, true, true, true, true, true, true, true, true, true, true, true, true, true, true, true, true, true, true, true, true, true, true, true, true, true, true, true, false, false] ⟨some 147, _, _, _, _, _⟩ rfl (fun w => r_neq_agg (b := false) (eqSum 9998) Tryd.isAgg35 Tryd.sizeOf35 (by kernel_rfl) rfl rfl (by simp [nodeSum_len]) (by simp [nodeSum_len]) (isB _ 32 (nodeSum_len _)) (isB _ 32 (nodeSum_len _)) (by simp)) ?_
              refine dn_p 28 #[true, true, true, true, true, true, true, true, true, true, true, true, true, true, true, true, true, true, true, true, true, true, true, true, true, true, true, true, true, false] ⟨some 148, _, _, _, _, _⟩ rfl (fun w => r_pick rfl rfl) ?_
              refine dn_p 29 #[true, true, true, true, true, true, true, true, true, true, true, true, true, true, true, true, true, true, true, true, true, true, true, true, true, true, true, true, true, true] ⟨some 149, _, _, _, _, _⟩ rfl (fun w => r_pick_f rfl rfl) ?_
              refine dn_done (by kernel_rfl) ?_
              exact hK30 _ _ pfn_of ⟨rfl, h⟩
          · obtain ⟨rfl, hq2⟩ := q2.resolve_left c2
            by_cases c3 : e3 = 40
            · obtain rfl := c3
              refine cw_drawnH h (h) (fun i => false) (by kernel_rfl) 30 rfl #[false, false, false, false, false, false, false, false, false, false, false, false, false, false, false, false, false, false, false, false, false, false, false, false, false, false, false, false, false, false] rfl ?_
              clear h; rintro w h hS
              refine dn_p 0 #[true, false, false, false, false, false, false, false, false, false, false, false, false, false, false, false, false, false, false, false, false, false, false, false, false, false, false, false, false, false] ⟨some 120, _, _, _, _, _⟩ rfl (fun w => r_move rfl) ?_
              refine dn_p 1 #[true, true, false, false, false, false, false, false, false, false, false, false, false, false, false, false, false, false, false, false, false, false, false, false, false, false, false, false, false, false] ⟨some 121, _, _, _, _, _⟩ rfl (fun w => r_neq_t  (n := 40) rfl rfl (by first | assumption | omega | (exact side_of) | (simp; done))) ?_
              refine dn_p 2 #[true, true, true, false, false, false, false, false, false, false, false, false, false, false, false, false, false, false, false, false, false, false, false, false, false, false, false, false, false, false] ⟨some 122, _, _, _, _, _⟩ rfl (fun w => r_move rfl) ?_
              refine dn_p 3 #[true, true, true, true, false, false, false, false, false, false, false, false, false, false, false, false, false, false, false, false, false, false, false, false, false, false, false, false, false, false] ⟨some 123, _, _, _, _, _⟩ rfl (fun w => r_move rfl) ?_
              refine dn_p 4 #[true, true, true, true, true, false, false, false, false, false, false, false, false, false, false, false, false, false, false, false, false, false, false, false, false, false, false, false, false, false] ⟨some 124, _, _, _, _, _⟩ rfl (fun w => r_neq_f  (n := 0) rfl rfl (by first | assumption | omega | (exact side_of) | (simp; done))) ?_
              refine dn_p 5 #[true, true, true, true, true, true, false, false, false, false, false, false, false, false, false, false, false, false, false, false, false, false, false, false, false, false, false, false, false, false] ⟨some 125, _, _, _, _, _⟩ rfl (fun w => r_pick rfl rfl) ?_
              refine dn_p 6 #[true, true, true, true, true, true, true, false, false, false, false, false, false, false, false, false, false, false, false, false, false, false, false, false, false, false, false, false, false, false] ⟨some 126, _, _, _, _, _⟩ rfl (fun w => r_move rfl) ?_
              refine dn_p 7 #[true, true, true, true, true, true, true, true, false, false, false, false, false, false, false, false, false, false, false, false, false, false, false, false, false, false, false, false, false, false] ⟨some 127, _, _, _, _, _⟩ rfl (fun w => r_move rfl) ?_
              refine dn_p 8 #[true, true, true, true, true, true, true, true, true, false, false, false, false, false, false, false, false, false, false, false, false, false, false, false, false, false, false, false, false, false] ⟨some 128, _, _, _, _, _⟩ rfl (fun w => r_neq_t  (n := 40) rfl rfl (by first | assumption | omega | (exact side_of) | (simp; done))) ?_
              refine dn_p 9 #[true, true, true, true, true, true, true, true, true, true, false, false, false, false, false, false, false, false, false, false, false, false, false, false, false, false, false, false, false, false] ⟨some 129, _, _, _, _, _⟩ rfl (fun w => r_move rfl) ?_
              refine dn_p 10 #[true, true, true, true, true, true, true, true, true, true, true, false, false, false, false, false, false, false, false, false, false, false, false, false, false, false, false, false, false, false] ⟨some 130, _, _, _, _, _⟩ rfl (fun w => r_move rfl) ?_
              refine dn_p 11 #[true, true, true, true, true, true, true, true, true, true, true, true, false, false, false, false, false, false, false, false, false, false, false, false, false, false, false, false, false, false] ⟨some 131, _, _, _, _, _⟩ rfl (fun w => r_slice_lh (lo := 4608) (hi := 5120) (Sl.head (L := [(g, vs 5 (al.map B ++ junk))]) (xs := al) hal (by omega)) rfl rfl rfl (by omega) (by omega) Tryd.runUnderlying25 Tryd.sizeOf5) ?_
              refine dn_p 13 #[true, true, true, true, true, true, true, true, true, true, true, true, false, true, false, false, false, false, false, false, false, false, false, false, false, false, false, false, false, false] ⟨some 133, _, _, _, _, _⟩ rfl (fun w => r_fieldAddr (off := 1) rfl Tryd.runUnderlying37 rfl Tryd.sizeOf35 rfl rfl) ?_
              refine dn_l 14 #[true, true, true, true, true, true, true, true, true, true, true, true, false, true, true, false, false, false, false, false, false, false, false, false, false, false, false, false, false, false] ⟨some 134, _, _, _, _, _⟩ rfl h (fun w hS => r_load_bRall (pre := [W (1#32 + 1#32)]) hS rfl rfl (pageSum_len _) Tryd.isAgg35 Tryd.sizeOf35) ?_
              refine dn_o 12 #[true, true, true, true, true, true, true, true, true, true, true, true, true, true, true, false, false, false, false, false, false, false, false, false, false, false, false, false, false, false] ⟨some 132, _, _, _, _, _⟩ fun Ko hKo => ?_
              refine op_call [_] Tryd.call18 rfl (pagesum_ok h (Sl.cutLH (Sl.head (xs := al) hal (by omega)) (lo := 4608) (hi := 5120) (by omega) (by omega)) (by rw [List.length_drop, List.length_take]; omega)) ?_
              clear h; rintro _ w ⟨rfl, h⟩
              rw [clu_cut al 1 4608 5120 rfl rfl, show pageSum (clu al 1) = pageSum bb from hq2]
              refine hKo _ _ _ (fun _ => h) ?_; clear hKo Ko
              refine dn_p 15 #[true, true, true, true, true, true, true, true, true, true, true, true, true, true, true, true, false, false, false, false, false, false, false, false, false, false, false, false, false, false] ⟨some 135, _, _, _, _, _⟩ rfl (fun w => r_neq_agg (b := false) (eqSum 9998) Tryd.isAgg35 Tryd.sizeOf35 (by kernel_rfl) rfl rfl (by simp [pageSum_len]) (by simp [pageSum_len]) (isB _ 32 (pageSum_len _)) (isB _ 32 (pageSum_len _)) (by simp)) ?_
              refine dn_p 16 #[true, true, true, true, true, true, true, true, true, true, true, true, true, true, true, true, true, false, false, false, false, false, false, false, false, false, false, false, false, false] ⟨some 136, _, _, _, _, _⟩ rfl (fun w => r_pick rfl rfl) ?_
              refine dn_p 17 #[true, true, true, true, true, true, true, true, true, true, true, true, true, true, true, true, true, true, false, false, false, false, false, false, false, false, false, false, false, false] ⟨some 137, _, _, _, _, _⟩ rfl (fun w => r_pick_f rfl rfl) ?_
              refine dn_p 18 #[true, true, true, true, true, true, true, true, true, true, true, true, true, true, true, true, true, true, true, false, false, false, false, false, false, false, false, false, false, false] ⟨some 138, _, _, _, _, _⟩ rfl (fun w => r_move rfl) ?_
              refine dn_p 19 #[true, true, true, true, true, true, true, true, true, true, true, true, true, true, true, true, true, true, true, true, false, false, false, false, false, false, false, false, false, false] ⟨some 139, _, _, _, _, _⟩ rfl (fun w => r_move rfl) ?_
              refine dn_p 20 #[true, true, true, true, true, true, true, true, true, true, true, true, true, true, true, true, true, true, true, true, true, false, false, false, false, false, false, false, false, false] ⟨some 140, _, _, _, _, _⟩ rfl (fun w => r_neq_f  (n := 40) rfl rfl (by first | assumption | omega | (exact side_of) | (simp; done))) ?_
              refine dn_p 21 #[true, true, true, true, true, true, true, true, true, true, true, true, true, true, true, true, true, true, true, true, true, true, false, false, false, false, false, false, false, false] ⟨some 141, _, _, _, _, _⟩ rfl (fun w => r_move rfl) ?_
              refine dn_s 22 #[true, true, true, true, true, true, true, true, true, true, true, true, true, true, true, true, true, true, true, true, true, true, true, false, false, false, false, false, false, false] ⟨some 142, _, _, _, _, _⟩ rfl ?_
              refine dn_s 23 #[true, true, true, true, true, true, true, true, true, true, true, true, true, true, true, true, true, true, true, true, true, true, true, true, false, false, false, false, false, false] ⟨some 143, _, _, _, _, _⟩ rfl ?_
              refine dn_s 24 #[true, true, true, true, true, true, true, true, true, true, true, true, true, true, true, true, true, true, true, true, true, true, true, true, true, false, false, false, false, false] ⟨some 144, _, _, _, _, _⟩ rfl ?_
              refine dn_s 25 #[true, true, true, true, true, true, true, true, true, true, true, true, true, true, true, true, true, true, true, true, true, true, true, true, true, true, false, false, false, false] ⟨some 145, _, _, _, _, _⟩ rfl ?_
              refine dn_s 26 #[true, true, true, true, true, true, true, true, true, true, true, true, true, true, true, true, true, true, true, true, true, true, true, true, true, true, true, false, false, false] ⟨some 146, _, _, _, _, _⟩ rfl ?_
              refine dn_s 27 #[true, true, true, true, true, true, true, true, true, true, true, true, true, true, true, true, true, true, true, true, true, true, true, true, true, true, true, true, false, false] ⟨some 147, _, _, _, _, _⟩ rfl ?_
              refine dn_p 28 #[true, true, true, true, true, true, true, true, true, true, true, true, true, true, true, true, true, true, true, true, true, true, true, true, true, true, true, true, true, false] ⟨some 148, _, _, _, _, _⟩ rfl (fun w => r_pick_f rfl rfl) ?_
              refine dn_p 29 #[true, true, true, true, true, true, true, true, true, true, true, true, true, true, true, true, true, true, true, true, true, true, true, true, true, true, true, true, true, true] ⟨some 149, _, _, _, _, _⟩ rfl (fun w => r_pick_f rfl rfl) ?_
              refine dn_done (by kernel_rfl) ?_
              exact hK30 _ _ pfn_of ⟨rfl, h⟩
            · obtain ⟨rfl, hq3⟩ := q3.resolve_left c3
              refine cw_drawnH h (h) (fun i => false) (by kernel_rfl) 30 rfl #[false, false, false, false, false, false, false, false, false, false, false, false, false, false, false, false, false, false, false, false, false, false, false, false, false, false, false, false, false, false] rfl ?_
              clear h; rintro w h hS
              refine dn_p 0 #[true, false, false, false, false, false, false, false, false, false, false, false, false, false, false, false, false, false, false, false, false, false, false, false, false, false, false, false, false, false] ⟨some 120, _, _, _, _, _⟩ rfl (fun w => r_move rfl) ?_
              refine dn_p 1 #[true, true, false, false, false, false, false, false, false, false, false, false, false, false, false, false, false, false, false, false, false, false, false, false, false, false, false, false, false, false] ⟨some 121, _, _, _, _, _⟩ rfl (fun w => r_neq_t  (n := 40) rfl rfl (by first | assumption | omega | (exact side_of) | (simp; done))) ?_
              refine dn_p 2 #[true, true, true, false, false, false, false, false, false, false, false, false, false, false, false, false, false, false, false, false, false, false, false, false, false, false, false, false, false, false] ⟨some 122, _, _, _, _, _⟩ rfl (fun w => r_move rfl) ?_
              refine dn_p 3 #[true, true, true, true, false, false, false, false, false, false, false, false, false, false, false, false, false, false, false, false, false, false, false, false, false, false, false, false, false, false] ⟨some 123, _, _, _, _, _⟩ rfl (fun w => r_move rfl) ?_
              refine dn_p 4 #[true, true, true, true, true, false, false, false, false, false, false, false, false, false, false, false, false, false, false, false, false, false, false, false, false, false, false, false, false, false] ⟨some 124, _, _, _, _, _⟩ rfl (fun w => r_neq_f  (n := 0) rfl rfl (by first | assumption | omega | (exact side_of) | (simp; done))) ?_
              refine dn_p 5 #[true, true, true, true, true, true, false, false, false, false, false, false, false, false, false, false, false, false, false, false, false, false, false, false, false, false, false, false, false, false] ⟨some 125, _, _, _, _, _⟩ rfl (fun w => r_pick rfl rfl) ?_
              refine dn_p 6 #[true, true, true, true, true, true, true, false, false, false, false, false, false, false, false, false, false, false, false, false, false, false, false, false, false, false, false, false, false, false] ⟨some 126, _, _, _, _, _⟩ rfl (fun w => r_move rfl) ?_
              refine dn_p 7 #[true, true, true, true, true, true, true, true, false, false, false, false, false, false, false, false, false, false, false, false, false, false, false, false, false, false, false, false, false, false] ⟨some 127, _, _, _, _, _⟩ rfl (fun w => r_move rfl) ?_
              refine dn_p 8 #[true, true, true, true, true, true, true, true, true, false, false, false, false, false, false, false, false, false, false, false, false, false, false, false, false, false, false, false, false, false] ⟨some 128, _, _, _, _, _⟩ rfl (fun w => r_neq_t  (n := 40) rfl rfl (by first | assumption | omega | (exact side_of) | (simp; done))) ?_
              refine dn_p 9 #[true, true, true, true, true, true, true, true, true, true, false, false, false, false, false, false, false, false, false, false, false, false, false, false, false, false, false, false, false, false] ⟨some 129, _, _, _, _, _⟩ rfl (fun w => r_move rfl) ?_
              refine dn_p 10 #[true, true, true, true, true, true, true, true, true, true, true, false, false, false, false, false, false, false, false, false, false, false, false, false, false, false, false, false, false, false] ⟨some 130, _, _, _, _, _⟩ rfl (fun w => r_move rfl) ?_
              refine dn_p 11 #[true, true, true, true, true, true, true, true, true, true, true, true, false, false, false, false, false, false, false, false, false, false, false, false, false, false, false, false, false, false] ⟨some 131, _, _, _, _, _⟩ rfl (fun w => r_slice_lh (lo := 4608) (hi := 5120) (Sl.head (L := [(g, vs 5 (al.map B ++ junk))]) (xs := al) hal (by omega)) rfl rfl rfl (by omega) (by omega) Tryd.runUnderlying25 Tryd.sizeOf5) ?_
              refine dn_p 13 #[true, true, true, true, true, true, true, true, true, true, true, true, false, true, false, false, false, false, false, false, false, false, false, false, false, false, false, false, false, false] ⟨some 133, _, _, _, _, _⟩ rfl (fun w => r_fieldAddr (off := 1) rfl Tryd.runUnderlying37 rfl Tryd.sizeOf35 rfl rfl) ?_
              refine dn_l 14 #[true, true, true, true, true, true, true, true, true, true, true, true, false, true, true, false, false, false, false, false, false, false, false, false, false, false, false, false, false, false] ⟨some 134, _, _, _, _, _⟩ rfl h (fun w hS => r_load_bRall (pre := [W (1#32 + 1#32)]) hS rfl rfl (pageSum_len _) Tryd.isAgg35 Tryd.sizeOf35) ?_
              refine dn_o 12 #[true, true, true, true, true, true, true, true, true, true, true, true, true, true, true, false, false, false, false, false, false, false, false, false, false, false, false, false, false, false] ⟨some 132, _, _, _, _, _⟩ fun Ko hKo => ?_
              refine op_call [_] Tryd.call18 rfl (pagesum_ok h (Sl.cutLH (Sl.head (xs := al) hal (by omega)) (lo := 4608) (hi := 5120) (by omega) (by omega)) (by rw [List.length_drop, List.length_take]; omega)) ?_
              clear h; rintro _ w ⟨rfl, h⟩
              rw [clu_cut al 1 4608 5120 rfl rfl, show pageSum (clu al 1) = pageSum bb from hq2]
              refine hKo _ _ _ (fun _ => h) ?_; clear hKo Ko
              refine dn_p 15 #[true, true, true, true, true, true, true, true, true, true, true, true, true, true, true, true, false, false, false, false, false, false, false, false, false, false, false, false, false, false] ⟨some 135, _, _, _, _, _⟩ rfl (fun w => r_neq_agg (b := false) (eqSum 9998) Tryd.isAgg35 Tryd.sizeOf35 (by kernel_rfl) rfl rfl (by simp [pageSum_len]) (by simp [pageSum_len]) (isB _ 32 (pageSum_len _)) (isB _ 32 (pageSum_len _)) (by simp)) ?_
              refine dn_p 16 #[true, true, true, true, true, true, true, true, true, true, true, true, true, true, true, true, true, false, false, false, false, false, false, false, false, false, false, false, false, false] ⟨some 136, _, _, _, _, _⟩ rfl (fun w => r_pick rfl rfl) ?_
              refine dn_p 17 #[true, true, true, true, true, true, true, true, true, true, true, true, true, true, true, true, true, true, false, false, false, false, false, false, false, false, false, false, false, false] ⟨some 137, _, _, _, _, _⟩ rfl (fun w => r_pick_f rfl rfl) ?_
              refine dn_p 18 #[true, true, true, true, true, true, true, true, true, true, true, true, true, true, true, true, true, true, true, false, false, false, false, false, false, false, false, false, false, false] ⟨some 138, _, _, _, _, _⟩ rfl (fun w => r_move rfl) ?_
              refine dn_p 19 #[true, true, true, true, true, true, true, true, true, true, true, true, true, true, true, true, true, true, true, true, false, false, false, false, false, false, false, false, false, false] ⟨some 139, _, _, _, _, _⟩ rfl (fun w => r_move rfl) ?_
              refine dn_p 20 #[true, true, true, true, true, true, true, true, true, true, true, true, true, true, true, true, true, true, true, true, true, false, false, false, false, false, false, false, false, false] ⟨some 140, _, _, _, _, _⟩ rfl (fun w => r_neq_t  (n := 40) rfl rfl (by first | assumption | omega | (exact side_of) | (simp; done))) ?_
              refine dn_p 21 #[true, true, true, true, true, true, true, true, true, true, true, true, true, true, true, true, true, true, true, true, true, true, false, false, false, false, false, false, false, false] ⟨some 141, _, _, _, _, _⟩ rfl (fun w => r_move rfl) ?_
              refine dn_p 22 #[true, true, true, true, true, true, true, true, true, true, true, true, true, true, true, true, true, true, true, true, true, true, true, false, false, false, false, false, false, false] ⟨some 142, _, _, _, _, _⟩ rfl (fun w => r_move rfl) ?_
              refine dn_p 23 #[true, true, true, true, true, true, true, true, true, true, true, true, true, true, true, true, true, true, true, true, true, true, true, true, false, false, false, false, false, false] ⟨some 143, _, _, _, _, _⟩ rfl (fun w => r_slice_lh (lo := 5120) (hi := 5632) (Sl.head (L := [(g, vs 5 (al.map B ++ junk))]) (xs := al) hal (by omega)) rfl rfl rfl (by omega) (by omega) Tryd.runUnderlying25 Tryd.sizeOf5) ?_
              refine dn_p 25 #[true, true, true, true, true, true, true, true, true, true, true, true, true, true, true, true, true, true, true, true, true, true, true, true, false, true, false, false, false, false] ⟨some 145, _, _, _, _, _⟩ rfl (fun w => r_fieldAddr (off := 1) rfl Tryd.runUnderlying37 rfl Tryd.sizeOf35 rfl rfl) ?_
              refine dn_l 26 #[true, true, true, true, true, true, true, true, true, true, true, true, true, true, true, true, true, true, true, true, true, true, true, true, false, true, true, false, false, false] ⟨some 146, _, _, _, _, _⟩ rfl h (fun w hS => r_load_bRall (pre := [W (2#32 + 1#32)]) hS rfl rfl (nodeSum_len _) Tryd.isAgg35 Tryd.sizeOf35) ?_
              refine dn_o 24 #[true, true, true, true, true, true, true, true, true, true, true, true, true, true, true, true, true, true, true, true, true, true, true, true, true, true, true, false, false, false] ⟨some 144, _, _, _, _, _⟩ fun Ko hKo => ?_
              refine op_call [_] Tryd.call19 rfl (nodesum_ok h (Sl.cutLH (Sl.head (xs := al) hal (by omega)) (lo := 5120) (hi := 5632) (by omega) (by omega)) (by rw [List.length_drop, List.length_take]; omega)) ?_
              clear h; rintro _ w ⟨rfl, h⟩
              rw [clu_cut al 2 5120 5632 rfl rfl, show nodeSum (clu al 2) = nodeSum (padTo 512 (putNode nd1)) from hq3]
              refine hKo _ _ _ (fun _ => h) ?_; clear hKo Ko
              refine dn_p 27 #[true, true, true, true, true, true, true, true, true, true, true, true, true, true, true, true, true, true, true, true, true, true, true, true, true, true, true, true, false, false] ⟨some 147, _, _, _, _, _⟩ rfl (fun w => r_neq_agg (b := false) (eqSum 9998) Tryd.isAgg35 Tryd.sizeOf35 (by kernel_rfl) rfl rfl (by simp [nodeSum_len]) (by simp [nodeSum_len]) (isB _ 32 (nodeSum_len _)) (isB _ 32 (nodeSum_len _)) (by simp)) ?_
              refine dn_p 28 #[true, true, true, true, true, true, true, true, true, true, true, true, true, true, true, true, true, true, true, true, true, true, true, true, true, true, true, true, true, false] ⟨some 148, _, _, _, _, _⟩ rfl (fun w => r_pick rfl rfl) ?_
              refine dn_p 29 #[true, true, true, true, true, true, true, true, true, true, true, true, true, true, true, true, true, true, true, true, true, true, true, true, true, true, true, true, true, true] ⟨some 149, _, _, _, _, _⟩ rfl (fun w => r_pick_f rfl rfl) ?_
              refine dn_done (by kernel_rfl) ?_
              exact hK30 _ _ pfn_of ⟨rfl, h⟩
      clear h; rintro f w ⟨e149, h⟩
      simp only [putFn, List.foldl_cons, List.foldl_nil, List.set_cons_zero, List.set_cons_succ, e149]
      clear e149
      refine hK29 _ _ ?_
      clear hK29 K29
      refine wp_cond_false rfl ?_
      refine wp_skip ?_
      refine hK28 _ _ ?_
      clear hK28 K28
      refine cw_seq fun K31 hK31 => ?_
      refine cw_region ?_
      refine wl_p (r_move rfl) ?_
      refine wl_p (r_move rfl) ?_
      refine wl_p (r_slice_h (hi := 4200) (Sl.head (L := [(g, vs 5 (al.map B ++ junk))]) (xs := al) hal (by omega)) rfl rfl (by omega) Tryd.runUnderlying25 Tryd.sizeOf5) ?_
      refine wl_o fun Ko hKo => ?_
      refine op_call [_, _] Tryd.call8 rfl (load_ok hD h (Sl.cutH (Sl.head (xs := al) hal (by omega)) (hi := 4200) (by omega)) (by rw [List.length_take]; omega) (by decide)) ?_
      clear h; rintro _ w ⟨Ld6, hD6, h⟩
      have hal6 : (al.take 4200).length = 4200 := by rw [List.length_take]; omega
      refine hKo _ _ _ ?_; clear hKo Ko
      refine wl_nil ?_
      refine hK31 _ _ ?_
      clear hK31 K31
      refine cw_seq fun K32 hK32 => ?_
      refine cw_region ?_
      refine wl_p (r_move rfl) ?_
      refine wl_p (r_load_all h rfl (by simp [refV, leafSum_len]) Tryd.isAgg37 Tryd.sizeOf37) ?_
      refine wl_o fun Ko hKo => ?_
      refine op_call [_, _] Tryd.call14 rfl (data_ok hD6 h (c := 8) (p := 1) (x := x) (tag := (label key nameTag)) (by decide) (by decide) (by decide) (by decide) (schedule_len _ (label_len _ _)) (schedule_len _ (label_len _ _)) (label_len _ _) ⟨0#32 + 1#32, leafSum (label key nameTag) (0#32 + 1#32) (over (encrypt (schedule (label key nameOne))) (schedule (label key nameTwo)) (BitVec.ofNat 64 (8 + (0#32).toNat * 1)) bb)⟩ (leafSum_len _ _ _) (by rw [hal6]; decide)) ?_
      clear h; rintro _ w ⟨so25, Ls25, rfl, ho25, h⟩
      have h := h.appTail
      rw [cut_data (al.take 4200) (label key nameTag) (schedule (label key nameOne)) (schedule (label key nameTwo)) 0#32 _ (by decide) (by rw [hal6]; decide)]
      clear ho25
      refine hKo _ _ _ ?_; clear hKo Ko
      refine wl_p (r_move rfl) ?_
      refine wl_p (r_extract rfl rfl) ?_
      refine wl_p (r_extract rfl rfl) ?_
      refine wl_p (r_assign rfl) ?_
      refine wl_p (r_assign rfl) ?_
      refine wl_nil ?_
      refine hK32 _ _ ?_
      clear hK32 K32
      refine cw_seq fun K33 hK33 => ?_
      refine cw_region ?_
      refine wl_p (r_move rfl) ?_
      refine wl_p (r_load_all h rfl (by simp [refV, pageSum_len]) Tryd.isAgg37 Tryd.sizeOf37) ?_
      refine wl_o fun Ko hKo => ?_
      refine op_call [_, _] Tryd.call15 rfl (page_ok hD6 h (c := 8) (p := 1) (by decide) (by decide) (by decide) (by decide) ⟨1#32 + 1#32, pageSum bb⟩ (pageSum_len _) (by rw [hal6]; decide)) ?_
      clear h; rintro _ w ⟨so27, Ls27, rfl, ho27, h⟩
      have h := h.appTail
      rw [cut_get (al.take 4200) pageSum 1#32 _ (by decide) (by rw [hal6]; decide)]
      clear ho27
      refine hKo _ _ _ ?_; clear hKo Ko
      refine wl_p (r_move rfl) ?_
      refine wl_p (r_extract rfl rfl) ?_
      refine wl_p (r_extract rfl rfl) ?_
      refine wl_p (r_assign rfl) ?_
      refine wl_p (r_assign rfl) ?_
      refine wl_nil ?_
      refine hK33 _ _ ?_
      clear hK33 K33
      refine cw_seq fun K34 hK34 => ?_
      by_cases c1 : e1 = 40
      · obtain rfl := c1
        refine cw_drawnH h (h) (fun i => false) (by kernel_rfl) 21 rfl #[false, false, false, false, false, false, false, false, false, false, false, false, false, false, false, false, false, false, false, false, false] rfl ?_
        clear h; rintro w h hS
        refine dn_p 0 #[true, false, false, false, false, false, false, false, false, false, false, false, false, false, false, false, false, false, false, false, false] ⟨some 166, _, _, _, _, _⟩ rfl (fun w => r_move rfl) ?_
        refine dn_p 1 #[true, true, false, false, false, false, false, false, false, false, false, false, false, false, false, false, false, false, false, false, false] ⟨some 167, _, _, _, _, _⟩ rfl (fun w => r_eql_t  (n := 40) rfl rfl (by first | assumption | omega | (exact side_of) | (simp; done))) ?_
        refine dn_p 2 #[true, true, true, false, false, false, false, false, false, false, false, false, false, false, false, false, false, false, false, false, false] ⟨some 168, _, _, _, _, _⟩ rfl (fun w => r_move rfl) ?_
        refine dn_p 3 #[true, true, true, true, false, false, false, false, false, false, false, false, false, false, false, false, false, false, false, false, false] ⟨some 169, _, _, _, _, _⟩ rfl (fun w => r_move rfl) ?_
        refine dn_p 4 #[true, true, true, true, true, false, false, false, false, false, false, false, false, false, false, false, false, false, false, false, false] ⟨some 170, _, _, _, _, _⟩ rfl (fun w => r_eql_t  (n := 40) rfl rfl (by first | assumption | omega | (exact side_of) | (simp; done))) ?_
        refine dn_p 5 #[true, true, true, true, true, true, false, false, false, false, false, false, false, false, false, false, false, false, false, false, false] ⟨some 171, _, _, _, _, _⟩ rfl (fun w => r_pick rfl rfl) ?_
        refine dn_p 6 #[true, true, true, true, true, true, true, false, false, false, false, false, false, false, false, false, false, false, false, false, false] ⟨some 172, _, _, _, _, _⟩ rfl (fun w => r_move rfl) ?_
        refine dn_p 7 #[true, true, true, true, true, true, true, true, false, false, false, false, false, false, false, false, false, false, false, false, false] ⟨some 173, _, _, _, _, _⟩ rfl (fun w => r_move rfl) ?_
        refine dn_p 8 #[true, true, true, true, true, true, true, true, true, false, false, false, false, false, false, false, false, false, false, false, false] ⟨some 174, _, _, _, _, _⟩ rfl (fun w => r_eql_t  (n := 40) rfl rfl (by first | assumption | omega | (exact side_of) | (simp; done))) ?_
        refine dn_p 9 #[true, true, true, true, true, true, true, true, true, true, false, false, false, false, false, false, false, false, false, false, false] ⟨some 175, _, _, _, _, _⟩ rfl (fun w => r_move rfl) ?_
        refine dn_s 10 #[true, true, true, true, true, true, true, true, true, true, true, false, false, false, false, false, false, false, false, false, false] ⟨some 176, _, _, _, _, _⟩ rfl ?_
        refine dn_s 11 #[true, true, true, true, true, true, true, true, true, true, true, true, false, false, false, false, false, false, false, false, false] ⟨some 177, _, _, _, _, _⟩ rfl ?_
        refine dn_s 12 #[true, true, true, true, true, true, true, true, true, true, true, true, true, false, false, false, false, false, false, false, false] ⟨some 178, _, _, _, _, _⟩ rfl ?_
        refine dn_s 13 #[true, true, true, true, true, true, true, true, true, true, true, true, true, true, false, false, false, false, false, false, false] ⟨some 179, _, _, _, _, _⟩ rfl ?_
        refine dn_s 14 #[true, true, true, true, true, true, true, true, true, true, true, true, true, true, true, false, false, false, false, false, false] ⟨some 180, _, _, _, _, _⟩ rfl ?_
        refine dn_p 15 #[true, true, true, true, true, true, true, true, true, true, true, true, true, true, true, true, false, false, false, false, false] ⟨some 181, _, _, _, _, _⟩ rfl (fun w => r_pick rfl rfl) ?_
        refine dn_p 16 #[true, true, true, true, true, true, true, true, true, true, true, true, true, true, true, true, true, false, false, false, false] ⟨some 182, _, _, _, _, _⟩ rfl (fun w => r_pick rfl rfl) ?_
        refine dn_p 17 #[true, true, true, true, true, true, true, true, true, true, true, true, true, true, true, true, true, true, false, false, false] ⟨some 183, _, _, _, _, _⟩ rfl (fun w => r_move rfl) ?_
        refine dn_o 18 #[true, true, true, true, true, true, true, true, true, true, true, true, true, true, true, true, true, true, true, false, false] ⟨some 184, _, _, _, _, _⟩ fun Ko hKo => ?_
        refine op_call [] Tryd.call13 rfl (awake_ok h) ?_
        clear h; rintro _ w ⟨rfl, h⟩
        refine hKo _ _ _ (fun _ => h) ?_; clear hKo Ko
        refine dn_p 19 #[true, true, true, true, true, true, true, true, true, true, true, true, true, true, true, true, true, true, true, true, false] ⟨some 185, _, _, _, _, _⟩ rfl (fun w => r_pick rfl rfl) ?_
        refine dn_p 20 #[true, true, true, true, true, true, true, true, true, true, true, true, true, true, true, true, true, true, true, true, true] ⟨some 6, _, _, _, _, _⟩ rfl (fun w => r_assign rfl) ?_
        refine dn_done (by kernel_rfl) ?_
        refine hK34 _ _ ?_
        clear hK34 K34
        refine wp_ret ?_
        refine (hQ _ _ _ (res_tmp rfl rfl) ?_).1
        try simp only [List.getD_cons_zero, List.getD_cons_succ]
        exact ⟨by trivial, h.appTail.tail.tail.tail.tail.tail.tail.tail.tail.tail.tail.tail⟩
      · obtain ⟨rfl, hq1⟩ := q1.resolve_left c1
        refine cw_drawnH h (h) (fun i => false) (by kernel_rfl) 21 rfl #[false, false, false, false, false, false, false, false, false, false, false, false, false, false, false, false, false, false, false, false, false] rfl ?_
        clear h; rintro w h hS
        refine dn_p 0 #[true, false, false, false, false, false, false, false, false, false, false, false, false, false, false, false, false, false, false, false, false] ⟨some 166, _, _, _, _, _⟩ rfl (fun w => r_move rfl) ?_
        refine dn_p 1 #[true, true, false, false, false, false, false, false, false, false, false, false, false, false, false, false, false, false, false, false, false] ⟨some 167, _, _, _, _, _⟩ rfl (fun w => r_eql_t  (n := 40) rfl rfl (by first | assumption | omega | (exact side_of) | (simp; done))) ?_
        refine dn_p 2 #[true, true, true, false, false, false, false, false, false, false, false, false, false, false, false, false, false, false, false, false, false] ⟨some 168, _, _, _, _, _⟩ rfl (fun w => r_move rfl) ?_
        refine dn_p 3 #[true, true, true, true, false, false, false, false, false, false, false, false, false, false, false, false, false, false, false, false, false] ⟨some 169, _, _, _, _, _⟩ rfl (fun w => r_move rfl) ?_
        refine dn_p 4 #[true, true, true, true, true, false, false, false, false, false, false, false, false, false, false, false, false, false, false, false, false] ⟨some 170, _, _, _, _, _⟩ rfl (fun w => r_eql_t  (n := 40) rfl rfl (by first | assumption | omega | (exact side_of) | (simp; done))) ?_
        refine dn_p 5 #[true, true, true, true, true, true, false, false, false, false, false, false, false, false, false, false, false, false, false, false, false] ⟨some 171, _, _, _, _, _⟩ rfl (fun w => r_pick rfl rfl) ?_
        refine dn_p 6 #[true, true, true, true, true, true, true, false, false, false, false, false, false, false, false, false, false, false, false, false, false] ⟨some 172, _, _, _, _, _⟩ rfl (fun w => r_move rfl) ?_
        refine dn_p 7 #[true, true, true, true, true, true, true, true, false, false, false, false, false, false, false, false, false, false, false, false, false] ⟨some 173, _, _, _, _, _⟩ rfl (fun w => r_move rfl) ?_
        refine dn_p 8 #[true, true, true, true, true, true, true, true, true, false, false, false, false, false, false, false, false, false, false, false, false] ⟨some 174, _, _, _, _, _⟩ rfl (fun w => r_eql_f  (n := 40) rfl rfl (by first | assumption | omega | (exact side_of) | (simp; done))) ?_
        refine dn_p 9 #[true, true, true, true, true, true, true, true, true, true, false, false, false, false, false, false, false, false, false, false, false] ⟨some 175, _, _, _, _, _⟩ rfl (fun w => r_move rfl) ?_
        refine dn_l 10 #[true, true, true, true, true, true, true, true, true, true, true, false, false, false, false, false, false, false, false, false, false] ⟨some 176, _, _, _, _, _⟩ rfl h (fun w hS => r_load_allb hS rfl hkl Tryd.isAgg23 Tryd.sizeOf23) ?_
        refine dn_p 11 #[true, true, true, true, true, true, true, true, true, true, true, true, false, false, false, false, false, false, false, false, false] ⟨some 177, _, _, _, _, _⟩ rfl (fun w => r_move rfl) ?_
        refine dn_p 12 #[true, true, true, true, true, true, true, true, true, true, true, true, true, false, false, false, false, false, false, false, false] ⟨some 178, _, _, _, _, _⟩ rfl (fun w => r_slice_lh (lo := 4096) (hi := 4608) (Sl.head (L := [(g, vs 5 (al.map B ++ junk))]) (xs := al) hal (by omega)) rfl rfl rfl (by omega) (by omega) Tryd.runUnderlying25 Tryd.sizeOf5) ?_
        refine dn_l 13 #[true, true, true, true, true, true, true, true, true, true, true, true, true, true, false, false, false, false, false, false, false] ⟨some 179, _, _, _, _, _⟩ rfl h (fun w hS => r_load_all hS rfl (by simp [refV, leafSum_len]) Tryd.isAgg37 Tryd.sizeOf37) ?_
        refine dn_o 14 #[true, true, true, true, true, true, true, true, true, true, true, true, true, true, true, false, false, false, false, false, false] ⟨some 180, _, _, _, _, _⟩ fun Ko hKo => ?_
        refine op_call [_, _, _] Tryd.call20 rfl (same_ok h hkl (Sl.cutLH (Sl.head (xs := al) hal (by omega)) (lo := 4096) (hi := 4608) (by omega) (by omega)) (by rw [List.length_drop, List.length_take]; omega) ⟨0#32 + 1#32, leafSum (label key nameTag) (0#32 + 1#32) (over (encrypt (schedule (label key nameOne))) (schedule (label key nameTwo)) (BitVec.ofNat 64 (8 + (0#32).toNat * 1)) bb)⟩ (leafSum_len _ _ _)) ?_
        clear h; rintro _ w ⟨rfl, h⟩
        rw [clu_cut al 0 4096 4608 rfl rfl, decide_eq_true (show leafSum (label key nameTag) (0#32 + 1#32) (clu al 0) = leafSum (label key nameTag) (0#32 + 1#32) (over (encrypt (schedule (label key nameOne))) (schedule (label key nameTwo)) (BitVec.ofNat 64 (8 + (0#32).toNat * 1)) bb) from hq1)]
        refine hKo _ _ _ (fun _ => h) ?_; clear hKo Ko
        refine dn_p 15 #[true, true, true, true, true, true, true, true, true, true, true, true, true, true, true, true, false, false, false, false, false] ⟨some 181, _, _, _, _, _⟩ rfl (fun w => r_pick_f rfl rfl) ?_
        refine dn_p 16 #[true, true, true, true, true, true, true, true, true, true, true, true, true, true, true, true, true, false, false, false, false] ⟨some 182, _, _, _, _, _⟩ rfl (fun w => r_pick rfl rfl) ?_
        refine dn_p 17 #[true, true, true, true, true, true, true, true, true, true, true, true, true, true, true, true, true, true, false, false, false] ⟨some 183, _, _, _, _, _⟩ rfl (fun w => r_move rfl) ?_
        refine dn_o 18 #[true, true, true, true, true, true, true, true, true, true, true, true, true, true, true, true, true, true, true, false, false] ⟨some 184, _, _, _, _, _⟩ fun Ko hKo => ?_
        refine op_call [] Tryd.call13 rfl (awake_ok h) ?_
        clear h; rintro _ w ⟨rfl, h⟩
        refine hKo _ _ _ (fun _ => h) ?_; clear hKo Ko
        refine dn_p 19 #[true, true, true, true, true, true, true, true, true, true, true, true, true, true, true, true, true, true, true, true, false] ⟨some 185, _, _, _, _, _⟩ rfl (fun w => r_pick rfl rfl) ?_
        refine dn_p 20 #[true, true, true, true, true, true, true, true, true, true, true, true, true, true, true, true, true, true, true, true, true] ⟨some 6, _, _, _, _, _⟩ rfl (fun w => r_assign rfl) ?_
        refine dn_done (by kernel_rfl) ?_
        refine hK34 _ _ ?_
        clear hK34 K34
        refine wp_ret ?_
        refine (hQ _ _ _ (res_tmp rfl rfl) ?_).1
        try simp only [List.getD_cons_zero, List.getD_cons_succ]
        exact ⟨by trivial, h.appTail.tail.tail.tail.tail.tail.tail.tail.tail.tail.tail.tail⟩

end Go.Proofs.YtjdfenlmifhhdaaDoor
