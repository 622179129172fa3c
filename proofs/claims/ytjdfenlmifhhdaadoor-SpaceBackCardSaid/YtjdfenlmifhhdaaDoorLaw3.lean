/-
  Walks, printed by mk.py (a program of this work) out of specs22.py: what the Go functions compute, and that nobody else's memory turns. Condition: none.
-/
import Derived.Test.YtjdfenlmifhhdaaDoorProg
import Derived.Test.YtjdfenlmifhhdaaDoorAuto
import Derived.Test.YtjdfenlmifhhdaaDoorLaw
import Derived.Test.YtjdfenlmifhhdaaDoorPure5
namespace Go.Proofs.YtjdfenlmifhhdaaDoor
open Go.RowKit

attribute [local irreducible] layZ padTo sha hmac leafSum nodeSum pageSum superSum label schedule over encrypt decrypt nodeV putNode be beNum isNought spGet spGetD spGetN spPut spPutD awC awS rootsL fillStep nd7
set_option maxHeartbeats 4000000 in
set_option maxRecDepth 100000 in
theorem back_ok {E : Env} {w : World} {F : List (Nat × Obj)} (h : Has E w F) [m0 : Mem F 0 (ws 157 rootsL)] {key ns : Bytes} (hkl : key.length = 32) (hns : ns.length = 2) {sd : Value} {xs : Bytes} (hd : Sl F sd xs) : Ret Tryd.prog 4 [aggB key, aggB ns, sd] w fun v w' => v = .bool true ∧ Has E w' F := by
  refine ret_of_wp (l := [aggB key, aggB ns, sd, undef, undef, undef, undef, undef, undef, undef, undef, undef, undef, undef, undef, undef, undef, undef, undef, undef, undef, undef, undef, undef, undef, undef, undef, undef, undef, undef, undef, undef, undef, undef, undef, undef, undef, undef, undef, undef, undef, undef, undef, undef, undef, undef, undef, undef, undef, undef, undef, undef, undef, undef, undef, undef, undef, undef, undef, undef, undef, undef, undef, undef, undef, undef, undef, undef, undef, undef, undef, undef, undef, undef, undef, undef, undef, undef, undef, undef, undef, undef, undef, undef, undef, undef, undef, undef, undef, undef, undef, undef, undef, undef, undef, undef, undef, undef, undef, undef, undef, undef, undef, undef, undef, undef, undef, undef, undef, undef, undef, undef, undef, undef, undef, undef, undef, undef, undef, undef, undef, undef, undef, undef, undef, undef, undef, undef, undef, undef, undef, undef, undef, undef, undef, undef, undef, undef, undef, undef, undef, undef, undef, undef, undef, undef]) Tryd.func4 rfl (by simp only [Tryd.ntmps4, List.size_toArray, List.length_cons, List.length_nil, Nat.reduceAdd, Nat.reduceSub, Array.replicate_succ, Array.replicate_zero, List.push_toArray, List.append_toArray, List.nil_append, List.cons_append]) fun Q hQ => ?_
  refine cw_seq fun K1 hK1 => ?_
  refine cw_region ?_
  refine wl_o fun Ko hKo => ?_
  refine op_box h rfl (show Value.cells (aggB key) = (key.map B).toArray from rfl) fun b3 w h => ?_
  refine hKo _ _ _ ?_; clear hKo Ko
  refine wl_o fun Ko hKo => ?_
  refine op_box h rfl (show Value.cells (aggB ns) = (ns.map B).toArray from rfl) fun b4 w h => ?_
  refine hKo _ _ _ ?_; clear hKo Ko
  refine wl_p (r_assign rfl) ?_
  refine wl_nil ?_
  refine hK1 _ _ ?_
  clear hK1 K1
  refine cw_seq fun K2 hK2 => ?_
  refine cw_region ?_
  refine wl_p (r_move rfl) ?_
  refine wl_p (r_move rfl) ?_
  refine wl_p (r_len_sl rfl hd Tryd.runUnderlying25) ?_
  refine wl_p (r_min (r := ((min xs.length 512 : Nat) : Int)) rfl rfl (by omega)) ?_
  refine wl_p (r_slice_h (hi := min xs.length 512) hd rfl rfl (by omega) Tryd.runUnderlying25 Tryd.sizeOf5) ?_
  have hdy := hd.cutH (hi := min xs.length 512) (by omega)
  have hyl : (xs.take (min xs.length 512)).length ≤ 512 := by rw [List.length_take]; omega
  generalize xs.take (min xs.length 512) = ys at hdy hyl
  generalize cutH sd (min xs.length 512) = sy at hdy ⊢
  clear hd
  have hpl : (padTo 512 ys).length = 512 := padTo_512 _ hyl
  refine wl_p (r_assign rfl) ?_
  refine wl_nil ?_
  refine hK2 _ _ ?_
  clear hK2 K2
  refine cw_seq fun K3 hK3 => ?_
  refine cw_region ?_
  refine wl_o fun Ko hKo => ?_
  refine op_buildSliceB [] h rfl rfl Tryd.runUnderlying25 Tryd.sizeOf5 Tryd.zeroValue5 rfl (by decide) fun b30 w h => ?_
  have h := h.tail
  refine hKo _ _ _ ?_; clear hKo Ko
  refine wl_p (r_move rfl) ?_
  refine wl_o fun Ko hKo => ?_
  refine op_appendB (Ls := []) h rfl rfl OwnB.nil ((hdy.mono (fun q hq => List.mem_append_right _ (List.mem_cons_of_mem _ (List.mem_cons_of_mem _ hq))))) rfl Tryd.runUnderlying25 Tryd.typeInfo5 Tryd.sizeOf5 Tryd.zeroValue5 rfl (by simp only [List.length_nil]; show _ * 1 ≤ _; omega) (by simp only [List.length_nil]; omega) fun s32 L32 w ho32 h => ?_
  refine hKo _ _ _ ?_; clear hKo Ko
  refine wl_p (r_move rfl) ?_
  refine wl_p (r_len_sl rfl hdy Tryd.runUnderlying25) ?_
  refine wl_p (r_sub_n (m := 512)  (n := ys.length)  rfl rfl (by omega) (by omega)) ?_
  refine wl_o fun Ko hKo => ?_
  refine op_append_zeros (td := .bool) (m := 512 - ys.length) h rfl rfl ho32 rfl Tryd.runUnderlying25 Tryd.typeInfo5 Tryd.runUnderlying3 Tryd.sizeOf5 Tryd.zeroValue5 rfl rfl (by simp only [List.length_append, List.length_nil]; show _ * 1 ≤ _; omega) (by simp only [List.length_append, List.length_nil]; omega) fun s36 L36 w ho36 h => ?_
  have ho36 : OwnB 5 s36 (padTo 512 ys) L36 := by unfold padTo zeros; simpa [OwnB, B] using ho36
  refine hKo _ _ _ ?_; clear hKo Ko
  refine wl_p (r_assign rfl) ?_
  refine wl_nil ?_
  refine hK3 _ _ ?_
  clear hK3 K3
  refine cw_seq fun K4 hK4 => ?_
  refine cw_drawnH h (h.appTail) (fun i => i == 3) (by kernel_rfl) 5 rfl #[false, false, false, false, false] rfl ?_
  clear h; rintro w h hS
  refine dn_p 1 #[false, true, false, false, false] ⟨some 38, _, _, _, _, _⟩ rfl (fun w => r_buildP (ps := [(0, _), (1, _)]) (cs := [i64 ((8 : Nat) : Int), i64 ((1 : Nat) : Int)]) (pl := [(0, 1), (1, 1)]) (z := [i64 0, i64 0]) rfl (by kernel_rfl) rfl) ?_
  refine dn_l 2 #[false, true, true, false, false] ⟨some 39, _, _, _, _, _⟩ rfl hS (fun w hS => r_load_allb hS rfl hkl Tryd.isAgg23 Tryd.sizeOf23) ?_
  refine dn_o 0 #[true, true, true, false, false] ⟨some 37, _, _, _, _, _⟩ fun Ko hKo => ?_
  refine op_call [] Tryd.call6 rfl (begun_ok h) ?_
  clear h; rintro _ w ⟨d, Ld, rfl, hD, h⟩
  refine hKo _ _ _ (fun _ => h.appTail.appTail) ?_; clear hKo Ko
  refine dn_o 3 #[true, true, true, true, false] ⟨some 40, _, _, _, _, _⟩ fun Ko hKo => ?_
  refine op_call [_, _, _] Tryd.call9 rfl (spnew_ok h (d := d) (c := 8) (p := 1) (key := key) (by decide) (by decide) (by decide) (by decide) hkl super_ne) ?_
  clear h; rintro _ w ⟨s, x, c1, c2, rfl, h⟩
  have h := Has.swapApp (A := [_, _, _, _]) (B := Ld) h
  simp only [List.cons_append, List.nil_append] at h
  refine hKo _ _ _ (fun hT => absurd hT (by decide)) ?_; clear hKo Ko
  refine dn_p 4 #[true, true, true, true, true] ⟨some 8, _, _, _, _, _⟩ rfl (fun w => r_assign rfl) ?_
  refine dn_done (by kernel_rfl) ?_
  refine hK4 _ _ ?_
  clear hK4 K4
  refine cw_seq fun K5 hK5 => ?_
  refine cw_drawnH h (h) (fun i => false) (by kernel_rfl) 10 rfl #[false, false, false, false, false, false, false, false, false, false] rfl ?_
  clear h; rintro w h hS
  refine dn_p 0 #[true, false, false, false, false, false, false, false, false, false] ⟨some 41, _, _, _, _, _⟩ rfl (fun w => r_indexAddr_arr (j := 0) rfl rfl Tryd.runUnderlying24 Tryd.sizeOf5 (by first | rfl | omega) om_of) ?_
  first
    | refine dn_l 1 #[true, true, false, false, false, false, false, false, false, false] ⟨some 42, _, _, _, _, _⟩ rfl hS (fun w hS => r_load_b hS rfl om_of Tryd.isAgg5) ?_
    | refine dn_l 1 #[true, true, false, false, false, false, false, false, false, false] ⟨some 42, _, _, _, _, _⟩ rfl hS (fun w hS => r_load hS rfl rfl Tryd.isAgg5) ?_
  refine dn_p 2 #[true, true, true, false, false, false, false, false, false, false] ⟨some 43, _, _, _, _, _⟩ rfl (fun w => r_rem_B  (q := 20#8) rfl rfl rfl) ?_
  refine dn_p 3 #[true, true, true, true, false, false, false, false, false, false] ⟨some 44, _, _, _, _, _⟩ rfl (fun w => r_conv_BW  rfl Tryd.runUnderlying5 Tryd.runUnderlying34) ?_
  obtain ⟨at_, hat_⟩ : ∃ a, a = (ns.getD 0 0 % 20#8).setWidth 32 := ⟨_, rfl⟩
  rw [← hat_]
  have at_l : at_.toNat < 20 := by rw [hat_, BitVec.toNat_setWidth, BitVec.toNat_umod]; have := Nat.mod_lt (ns.getD 0 0).toNat (show 0 < (20#8).toNat by decide); simp at this ⊢; omega
  clear hat_
  refine dn_p 4 #[true, true, true, true, true, false, false, false, false, false] ⟨some 45, _, _, _, _, _⟩ rfl (fun w => r_indexAddr_arr (j := 1) rfl rfl Tryd.runUnderlying24 Tryd.sizeOf5 (by first | rfl | omega) om_of) ?_
  first
    | refine dn_l 5 #[true, true, true, true, true, true, false, false, false, false] ⟨some 46, _, _, _, _, _⟩ rfl hS (fun w hS => r_load_b hS rfl om_of Tryd.isAgg5) ?_
    | refine dn_l 5 #[true, true, true, true, true, true, false, false, false, false] ⟨some 46, _, _, _, _, _⟩ rfl hS (fun w hS => r_load hS rfl rfl Tryd.isAgg5) ?_
  refine dn_p 6 #[true, true, true, true, true, true, true, false, false, false] ⟨some 47, _, _, _, _, _⟩ rfl (fun w => r_rem_B  (q := 20#8) rfl rfl rfl) ?_
  refine dn_p 7 #[true, true, true, true, true, true, true, true, false, false] ⟨some 48, _, _, _, _, _⟩ rfl (fun w => r_conv_BW  rfl Tryd.runUnderlying5 Tryd.runUnderlying34) ?_
  obtain ⟨oth, hoth⟩ : ∃ a, a = (ns.getD 1 0 % 20#8).setWidth 32 := ⟨_, rfl⟩
  rw [← hoth]
  have othl : oth.toNat < 20 := by rw [hoth, BitVec.toNat_setWidth, BitVec.toNat_umod]; have := Nat.mod_lt (ns.getD 1 0).toNat (show 0 < (20#8).toNat by decide); simp at this ⊢; omega
  clear hoth
  refine dn_p 8 #[true, true, true, true, true, true, true, true, true, false] ⟨some 9, _, _, _, _, _⟩ rfl (fun w => r_assign rfl) ?_
  refine dn_p 9 #[true, true, true, true, true, true, true, true, true, true] ⟨some 10, _, _, _, _, _⟩ rfl (fun w => r_assign rfl) ?_
  refine dn_done (by kernel_rfl) ?_
  refine hK5 _ _ ?_
  clear hK5 K5
  refine cw_seq fun K6 hK6 => ?_
  refine cw_region ?_
  refine wl_p (r_move rfl) ?_
  refine wl_p (r_move rfl) ?_
  refine wl_p (r_move rfl) ?_
  refine wl_o fun Ko hKo => ?_
  refine op_call [_, _, _] Tryd.call12 rfl (putdata_ok hD h (c := 8) (p := 1) (x := x) (tag := (label key nameTag)) (by decide) (by decide) (by decide) (by decide) (schedule_len _ (label_len _ _)) (schedule_len _ (label_len _ _)) (label_len _ _) at_ (xs := padTo 512 ys) (ho36.slm (by intro p hp; simp only [List.mem_append, List.mem_cons, hp, true_or, or_true])) (by decide) (by rw [zeros_len]; decide) (by omega)) ?_
  clear h; rintro _ w ⟨rfl, Ld2, hD2, h⟩
  have e51 := putD1 32768 (zeros 16384) at_.toNat (schedule (label key nameOne)) (schedule (label key nameTwo)) (padTo 512 ys) (by omega) hpl (by rw [zeros_len]; omega) (by rw [zeros_len]; decide)
  simp only [e51, Nat.mul_one] at hD2 ⊢
  clear e51
  have hcl : (over (encrypt (schedule (label key nameOne))) (schedule (label key nameTwo)) (BitVec.ofNat 64 (8 + at_.toNat)) (padTo 512 ys)).length = 512 := by rw [over_all (encrypt (schedule (label key nameOne))) (enc_len (schedule (label key nameOne))) (schedule (label key nameTwo)) (BitVec.ofNat 64 (8 + at_.toNat)) (padTo 512 ys) (N := 1) hpl, hpl]
  have hsl : (layZ (zeros 16384) (4096 + 512 * at_.toNat) (over (encrypt (schedule (label key nameOne))) (schedule (label key nameTwo)) (BitVec.ofNat 64 (8 + at_.toNat)) (padTo 512 ys))).length = 16384 := by rw [layZ_len1 _ _ _ (by rw [hcl, zeros_len]; omega), zeros_len]
  have hclu := clu_lay (zeros 16384) at_.toNat (over (encrypt (schedule (label key nameOne))) (schedule (label key nameTwo)) (BitVec.ofNat 64 (8 + at_.toNat)) (padTo 512 ys)) hcl (by rw [zeros_len]; omega)
  generalize layZ (zeros 16384) (4096 + 512 * at_.toNat) (over (encrypt (schedule (label key nameOne))) (schedule (label key nameTwo)) (BitVec.ofNat 64 (8 + at_.toNat)) (padTo 512 ys)) = seen at hD2 hsl hclu ⊢
  rw [show spRef 0 1 (leafSum (label key nameTag) (at_ + 1#32)) at_ (over (encrypt (schedule (label key nameOne))) (schedule (label key nameTwo)) (BitVec.ofNat 64 (8 + at_.toNat)) (padTo 512 ys)) = ⟨at_ + 1#32, leafSum (label key nameTag) (at_ + 1#32) (over (encrypt (schedule (label key nameOne))) (schedule (label key nameTwo)) (BitVec.ofNat 64 (8 + at_.toNat)) (padTo 512 ys))⟩ by rw [ref1, padTo_all _ _ hcl]]
  refine hKo _ _ _ ?_; clear hKo Ko
  refine wl_p (r_move rfl) ?_
  refine wl_p (r_extract rfl rfl) ?_
  refine wl_p (r_extract rfl rfl) ?_
  refine wl_o fun Ko hKo => ?_
  refine op_alloc (cs := refV rfZ) h Tryd.zeroValue37 rfl fun b11 w h => ?_
  refine hKo _ _ _ ?_; clear hKo Ko
  refine wl_o fun Ko hKo => ?_
  refine op_store_all (cs := refV (⟨at_ + 1#32, leafSum (label key nameTag) (at_ + 1#32) (over (encrypt (schedule (label key nameOne))) (schedule (label key nameTwo)) (BitVec.ofNat 64 (8 + at_.toNat)) (padTo 512 ys))⟩)) h rfl rfl (fun v hv => by rcases List.mem_cons.1 hv with rfl | hv; rfl; exact oneB v hv) (by first | rfl | (rw [refV_len _ (show (Rf.sum ⟨at_ + 1#32, leafSum (label key nameTag) (at_ + 1#32) (over (encrypt (schedule (label key nameOne))) (schedule (label key nameTwo)) (BitVec.ofNat 64 (8 + at_.toNat)) (padTo 512 ys))⟩).length = 32 from leafSum_len _ _ _)]; rfl)) (by intro w; rw [refV_len _ (show (Rf.sum ⟨at_ + 1#32, leafSum (label key nameTag) (at_ + 1#32) (over (encrypt (schedule (label key nameOne))) (schedule (label key nameTwo)) (BitVec.ofNat 64 (8 + at_.toNat)) (padTo 512 ys))⟩).length = 32 from leafSum_len _ _ _)]; exact Tryd.sizeOf37 w) fun w h => ?_
  simp only [List.set_cons_zero, List.set_cons_succ, set_app, set_app0] at h
  have h := h.mid
  refine hKo _ _ _ ?_; clear hKo Ko
  refine wl_p (r_assign rfl) ?_
  refine wl_nil ?_
  refine hK6 _ _ ?_
  clear hK6 K6
  refine cw_seq fun K7 hK7 => ?_
  refine cw_seq fun K8 hK8 => ?_
  refine cw_region ?_
  refine wl_p (r_move rfl) ?_
  refine wl_p (r_eql_nilptr rfl rfl Tryd.runUnderlying30) ?_
  refine wl_p (r_move rfl) ?_
  refine wl_pw (r_move rfl) ?_
  refine wl_pw (r_neq_f  (n := 0) rfl rfl (by first | assumption | omega | (exact side_of) | (simp; done))) ?_
  refine wl_p (r_pick_f rfl rfl) ?_
  refine wl_nil ?_
  refine hK8 _ _ ?_
  clear hK8 K8
  refine wp_cond_false rfl ?_
  refine wp_skip ?_
  refine hK7 _ _ ?_
  clear hK7 K7
  refine cw_seq fun K9 hK9 => ?_
  refine cw_seq fun K10 hK10 => ?_
  refine cw_region ?_
  refine wl_p (r_move rfl) ?_
  refine wl_p (r_move rfl) ?_
  refine wl_p (r_neq_W   rfl rfl) ?_
  refine wl_nil ?_
  refine hK10 _ _ ?_
  clear hK10 K10
  refine cw_cut [6, 13, 14, 65, 66, 67, 68, 69, 70, 71, 72, 73] (fun f w => ∃ seen kk Ld, DevB d 32768 seen (zeros 16384) kk Ld ∧ kk ≤ 2 ∧ seen.length = 16384 ∧ clu seen at_.toNat = (over (encrypt (schedule (label key nameOne))) (schedule (label key nameTwo)) (BitVec.ofNat 64 (8 + at_.toNat)) (padTo 512 ys)) ∧ Has E w (Ld ++ ((b11, vs 37 (refV ⟨at_ + 1#32, leafSum (label key nameTag) (at_ + 1#32) (over (encrypt (schedule (label key nameOne))) (schedule (label key nameTwo)) (BitVec.ofNat 64 (8 + at_.toNat)) (padTo 512 ys))⟩)) :: (s, bsR 68 [ptr d 0, i64 ((8 : Nat) : Int), i64 ((1 : Nat) : Int), ptr x 0] (label key nameTag)) :: (x, vs 86 [ptr c1 0, ptr c2 0]) :: (c2, bs 117 (schedule (label key nameTwo))) :: (c1, bs 117 (schedule (label key nameOne))) :: (L36 ++ ((b4, bs 24 ns) :: (b3, bs 23 key) :: F))))) ?_ ?_
  · intro K11 hK11
    refine wp_cond_split rfl (fun hc => ?_) (fun hc => ?_)
    · have hne := of_decide_eq_true hc; clear hc
      refine cw_seq fun K12 hK12 => ?_
      refine cw_region ?_
      refine wl_p (r_move rfl) ?_
      refine wl_p (r_move rfl) ?_
      refine wl_p (r_move rfl) ?_
      refine wl_o fun Ko hKo => ?_
      refine op_call [_, _, _] Tryd.call10 rfl (putpage_ok hD2 h (c := 8) (p := 1) (by decide) (by decide) (by decide) (by decide) oth (xs := ys) (hdy.mono (by intro q hq; simp only [List.mem_append, List.mem_cons, hq, true_or, or_true])) (by decide) (by rw [hsl]; decide) (by omega)) ?_
      clear h; rintro _ w ⟨rfl, Ld3, hD2, h⟩
      have e51 := put1 32768 seen oth.toNat ys (by omega) hyl (by omega) (by omega)
      simp only [e51, Nat.mul_one] at hD2 ⊢
      clear e51
      have hclu : clu (layZ seen (4096 + 512 * oth.toNat) (padTo 512 ys)) at_.toNat = _ := (clu_other seen oth.toNat at_.toNat _ hpl (by omega) (fun e => hne (BitVec.eq_of_toNat_eq e))).trans hclu
      have hsl : (layZ seen (4096 + 512 * oth.toNat) (padTo 512 ys)).length = 16384 := by rw [layZ_len1 _ _ _ (by omega), hsl]
      refine hKo _ _ _ ?_; clear hKo Ko
      refine wl_p (r_move rfl) ?_
      refine wl_p (r_extract rfl rfl) ?_
      refine wl_p (r_extract rfl rfl) ?_
      refine wl_o fun Ko hKo => ?_
      refine op_alloc (cs := refV rfZ) h Tryd.zeroValue37 rfl fun b13 w h => ?_
      refine hKo _ _ _ ?_; clear hKo Ko
      refine wl_o fun Ko hKo => ?_
      refine op_store_all (cs := refV (⟨oth + 1#32, pageSum (padTo 512 ys)⟩)) h rfl rfl (fun v hv => by rcases List.mem_cons.1 hv with rfl | hv; rfl; exact oneB v hv) (by first | rfl | (rw [refV_len _ (show (Rf.sum ⟨oth + 1#32, pageSum (padTo 512 ys)⟩).length = 32 from pageSum_len _)]; rfl)) (by intro w; rw [refV_len _ (show (Rf.sum ⟨oth + 1#32, pageSum (padTo 512 ys)⟩).length = 32 from pageSum_len _)]; exact Tryd.sizeOf37 w) fun w h => ?_
      simp only [List.set_cons_zero, List.set_cons_succ, set_app, set_app0] at h
      have h := h.tail
      refine hKo _ _ _ ?_; clear hKo Ko
      refine wl_p (r_assign rfl) ?_
      refine wl_nil ?_
      refine hK12 _ _ ?_
      clear hK12 K12
      refine cw_seq fun K13 hK13 => ?_
      refine cw_region ?_
      refine wl_p (r_move rfl) ?_
      refine wl_p (r_neq_f  (n := 0) rfl rfl (by first | assumption | omega | (exact side_of) | (simp; done))) ?_
      refine wl_nil ?_
      refine hK13 _ _ ?_
      clear hK13 K13
      refine wp_cond_false rfl ?_
      refine wp_skip ?_
      exact hK11 _ _ pfn_of ⟨_, _, _, hD2, by omega, hsl, hclu, h⟩
    · have hne := of_decide_eq_false hc; clear hc
      refine wp_skip ?_
      exact hK11 _ _ pfn_of ⟨_, _, _, hD2, by omega, hsl, hclu, h⟩
  · clear h; rintro f w ⟨seen, kk, Ld3, hD3, hkk, hsl, hclu, h⟩
    simp only [putFn, List.foldl_cons, List.foldl_nil, List.set_cons_zero, List.set_cons_succ]
    refine hK9 _ _ ?_
    clear hK9 K9
    refine cw_seq fun K14 hK14 => ?_
    refine cw_region ?_
    refine wl_p (r_move rfl) ?_
    refine wl_p (r_load_all h rfl (by simp [refV, leafSum_len]) Tryd.isAgg37 Tryd.sizeOf37) ?_
    refine wl_o fun Ko hKo => ?_
    refine op_call [_, _] Tryd.call14 rfl (data_ok hD3 h (c := 8) (p := 1) (x := x) (tag := (label key nameTag)) (by decide) (by decide) (by decide) (by decide) (schedule_len _ (label_len _ _)) (schedule_len _ (label_len _ _)) (label_len _ _) ⟨at_ + 1#32, leafSum (label key nameTag) (at_ + 1#32) (over (encrypt (schedule (label key nameOne))) (schedule (label key nameTwo)) (BitVec.ofNat 64 (8 + at_.toNat)) (padTo 512 ys))⟩ (leafSum_len _ _ _) (by rw [hsl]; decide)) ?_
    clear h; rintro _ w ⟨so15, Ls15, rfl, ho15, h⟩
    rw [back_data seen (label key nameTag) (schedule (label key nameOne)) (schedule (label key nameTwo)) at_ (padTo 512 ys) hpl (by omega) (by omega) hclu] at ho15 ⊢
    have h := h.swapApp
    refine hKo _ _ _ ?_; clear hKo Ko
    refine wl_p (r_move rfl) ?_
    refine wl_p (r_extract rfl rfl) ?_
    refine wl_p (r_extract rfl rfl) ?_
    refine wl_p (r_assign rfl) ?_
    refine wl_p (r_assign rfl) ?_
    refine wl_nil ?_
    refine hK14 _ _ ?_
    clear hK14 K14
    refine cw_seq fun K15 hK15 => ?_
    refine cw_region ?_
    refine wl_p (r_move rfl) ?_
    refine wl_p (r_move rfl) ?_
    refine wl_o fun Ko hKo => ?_
    refine op_call [_, _, _] Tryd.call10 rfl (putpage_ok hD3 h (c := 8) (p := 1) (by decide) (by decide) (by decide) (by decide) 20#32 (xs := ys) (hdy.mono (by intro q hq; simp only [List.mem_append, List.mem_cons, hq, true_or, or_true])) (by decide) (by rw [hsl]; decide) (by omega)) ?_
    clear h; rintro _ w ⟨rfl, Ld4, hD4, h⟩
    have e51 := put1 32768 seen (20#32).toNat ys (by decide) hyl (by rw [hsl]; decide) (by omega)
    simp only [e51] at hD4 ⊢
    clear e51
    have hclu4 := clu_lay seen (20#32).toNat (padTo 512 ys) hpl (by rw [hsl]; decide)
    have hsl4 : (layZ seen (4096 + 512 * (20#32).toNat) (padTo 512 ys)).length = 16384 := by rw [layZ_len1 _ _ _ (by rw [hpl, hsl]; decide), hsl]
    generalize layZ seen (4096 + 512 * (20#32).toNat) (padTo 512 ys) = seen4 at hD4 hsl4 hclu4 ⊢
    refine hKo _ _ _ ?_; clear hKo Ko
    refine wl_p (r_move rfl) ?_
    refine wl_p (r_extract rfl rfl) ?_
    refine wl_p (r_extract rfl rfl) ?_
    refine wl_o fun Ko hKo => ?_
    refine op_alloc (cs := refV rfZ) h Tryd.zeroValue37 rfl fun b17 w h => ?_
    refine hKo _ _ _ ?_; clear hKo Ko
    refine wl_o fun Ko hKo => ?_
    refine op_store_all (cs := refV (⟨20#32 + 1#32, pageSum (padTo 512 ys)⟩)) h rfl rfl (fun v hv => by rcases List.mem_cons.1 hv with rfl | hv; rfl; exact oneB v hv) (by first | rfl | (rw [refV_len _ (show (Rf.sum ⟨20#32 + 1#32, pageSum (padTo 512 ys)⟩).length = 32 from pageSum_len _)]; rfl)) (by intro w; rw [refV_len _ (show (Rf.sum ⟨20#32 + 1#32, pageSum (padTo 512 ys)⟩).length = 32 from pageSum_len _)]; exact Tryd.sizeOf37 w) fun w h => ?_
    simp only [List.set_cons_zero, List.set_cons_succ, set_app, set_app0] at h
    have h := h.mid
    refine hKo _ _ _ ?_; clear hKo Ko
    refine wl_p (r_assign rfl) ?_
    refine wl_nil ?_
    refine hK15 _ _ ?_
    clear hK15 K15
    refine cw_seq fun K16 hK16 => ?_
    refine cw_region ?_
    refine wl_p (r_move rfl) ?_
    refine wl_p (r_load_all h rfl (by simp [refV, pageSum_len]) Tryd.isAgg37 Tryd.sizeOf37) ?_
    refine wl_o fun Ko hKo => ?_
    refine op_call [_, _] Tryd.call15 rfl (page_ok hD4 h (c := 8) (p := 1) (by decide) (by decide) (by decide) (by decide) ⟨20#32 + 1#32, pageSum (padTo 512 ys)⟩ (pageSum_len _) (by rw [hsl4]; decide)) ?_
    clear h; rintro _ w ⟨so19, Ls19, rfl, ho19, h⟩
    rw [back_get seen4 pageSum 20#32 (padTo 512 ys) (by decide) (by rw [hsl4]; decide) hclu4] at ho19 ⊢
    have h := h.swapApp
    refine hKo _ _ _ ?_; clear hKo Ko
    refine wl_p (r_move rfl) ?_
    refine wl_p (r_extract rfl rfl) ?_
    refine wl_p (r_extract rfl rfl) ?_
    refine wl_p (r_assign rfl) ?_
    refine wl_p (r_assign rfl) ?_
    refine wl_nil ?_
    refine hK16 _ _ ?_
    clear hK16 K16
    refine cw_seq fun K17 hK17 => ?_
    refine cw_region ?_
    refine wl_p (r_move rfl) ?_
    refine wl_p (r_buildP (ps := [(0, _)]) (cs := refV ⟨7#32, zeros 32⟩) (pl := [(0, 1), (1, 32)]) (z := refV rfZ) rfl (by kernel_rfl) rfl) ?_
    refine wl_p (r_buildP (ps := [(2, _)]) (cs := nodeV nd7) (pl := (List.range 8).map fun i => (i * 33, 33)) (z := nodeV ndZ) rfl (by kernel_rfl) (by kernel_rfl)) ?_
    refine wl_o fun Ko hKo => ?_
    refine op_call [_, _, _] Tryd.call11 rfl (putnode_ok hD4 h (c := 8) (p := 1) (by decide) (by decide) (by decide) (by decide) 21#32 nd7 nd7_sums nd7_8 (by decide) (by rw [hsl4]; decide) (by omega)) ?_
    clear h; rintro _ w ⟨rfl, Ld5, hD5, h⟩
    have e51 := put1 32768 seen4 (21#32).toNat (putNode nd7) (by decide) (by rw [nd7_len]; decide) (by rw [hsl4]; decide) (by omega)
    simp only [e51] at hD5 ⊢
    clear e51
    have hp7 : (padTo 512 (putNode nd7)).length = 512 := padTo_512 _ (by rw [nd7_len]; decide)
    have hclu5 := clu_lay seen4 (21#32).toNat (padTo 512 (putNode nd7)) hp7 (by rw [hsl4]; decide)
    have hsl5 : (layZ seen4 (4096 + 512 * (21#32).toNat) (padTo 512 (putNode nd7))).length = 16384 := by rw [layZ_len1 _ _ _ (by rw [hp7, hsl4]; decide), hsl4]
    generalize layZ seen4 (4096 + 512 * (21#32).toNat) (padTo 512 (putNode nd7)) = seen5 at hD5 hsl5 hclu5 ⊢
    refine hKo _ _ _ ?_; clear hKo Ko
    refine wl_p (r_move rfl) ?_
    refine wl_p (r_extract rfl rfl) ?_
    refine wl_p (r_extract rfl rfl) ?_
    refine wl_o fun Ko hKo => ?_
    refine op_alloc (cs := refV rfZ) h Tryd.zeroValue37 rfl fun b21 w h => ?_
    refine hKo _ _ _ ?_; clear hKo Ko
    refine wl_o fun Ko hKo => ?_
    refine op_store_all (cs := refV (⟨21#32 + 1#32, nodeSum (padTo 512 (putNode nd7))⟩)) h rfl rfl (fun v hv => by rcases List.mem_cons.1 hv with rfl | hv; rfl; exact oneB v hv) (by first | rfl | (rw [refV_len _ (show (Rf.sum ⟨21#32 + 1#32, nodeSum (padTo 512 (putNode nd7))⟩).length = 32 from nodeSum_len _)]; rfl)) (by intro w; rw [refV_len _ (show (Rf.sum ⟨21#32 + 1#32, nodeSum (padTo 512 (putNode nd7))⟩).length = 32 from nodeSum_len _)]; exact Tryd.sizeOf37 w) fun w h => ?_
    simp only [List.set_cons_zero, List.set_cons_succ, set_app, set_app0] at h
    have h := h.mid
    refine hKo _ _ _ ?_; clear hKo Ko
    refine wl_p (r_assign rfl) ?_
    refine wl_nil ?_
    refine hK17 _ _ ?_
    clear hK17 K17
    refine cw_seq fun K18 hK18 => ?_
    refine cw_region ?_
    refine wl_p (r_move rfl) ?_
    refine wl_p (r_load_all h rfl (by simp [refV, nodeSum_len]) Tryd.isAgg37 Tryd.sizeOf37) ?_
    refine wl_o fun Ko hKo => ?_
    refine op_call [_, _] Tryd.call16 rfl (node_ok hD5 h (c := 8) (p := 1) (by decide) (by decide) (by decide) (by decide) ⟨21#32 + 1#32, nodeSum (padTo 512 (putNode nd7))⟩ (nodeSum_len _) (by rw [hsl5]; decide)) ?_
    clear h; rintro _ w ⟨rfl, h⟩
    rw [back_node seen5 21#32 (by decide) (by rw [hsl5]; decide) hclu5]
    refine hKo _ _ _ ?_; clear hKo Ko
    refine wl_p (r_move rfl) ?_
    refine wl_p (r_extract rfl rfl) ?_
    refine wl_p (r_extract rfl rfl) ?_
    refine wl_o fun Ko hKo => ?_
    refine op_alloc (cs := nodeV ndZ) h Tryd.zeroValue43 (by kernel_rfl) fun b23 w h => ?_
    refine hKo _ _ _ ?_; clear hKo Ko
    refine wl_o fun Ko hKo => ?_
    refine op_store_all (cs := nodeV (nd7)) h rfl rfl (nodeV_one _) (by rw [show (nodeV nd7).length = 264 from (nodeV_len _ nd7_sums).trans (by rw [nd7_8])]; exact (nodeV_len _ ndZ_sums).symm) (by intro w; rw [show (nodeV nd7).length = 264 from (nodeV_len _ nd7_sums).trans (by rw [nd7_8])]; exact Tryd.sizeOf43 w) fun w h => ?_
    simp only [List.set_cons_zero, List.set_cons_succ, set_app, set_app0] at h
    refine hKo _ _ _ ?_; clear hKo Ko
    refine wl_p (r_assign rfl) ?_
    refine wl_nil ?_
    refine hK18 _ _ ?_
    clear hK18 K18
    refine cw_seq fun K19 hK19 => ?_
    refine cw_region ?_
    refine wl_p (r_move rfl) ?_
    refine wl_p (r_eql_t  (n := 0) rfl rfl (by first | assumption | omega | (exact side_of) | (simp; done))) ?_
    refine wl_p (r_move rfl) ?_
    refine wl_pw (r_move rfl) ?_
    refine wl_pw (r_eql_t  (n := 0) rfl rfl (by first | assumption | omega | (exact side_of) | (simp; done))) ?_
    refine wl_p (r_pick rfl rfl) ?_
    refine wl_p (r_move rfl) ?_
    refine wl_pw (r_move rfl) ?_
    refine wl_pw (r_eql_t  (n := 0) rfl rfl (by first | assumption | omega | (exact side_of) | (simp; done))) ?_
    refine wl_p (r_pick rfl rfl) ?_
    refine wl_p (r_move rfl) ?_
    refine wl_pw (r_move rfl) ?_
    refine wl_pw (r_eql_t  (n := 0) rfl rfl (by first | assumption | omega | (exact side_of) | (simp; done))) ?_
    refine wl_p (r_pick rfl rfl) ?_
    refine wl_p (r_move rfl) ?_
    refine wl_pw (r_move rfl) ?_
    refine wl_pw (r_eql_t  (n := 0) rfl rfl (by first | assumption | omega | (exact side_of) | (simp; done))) ?_
    refine wl_p (r_pick rfl rfl) ?_
    refine wl_p (r_move rfl) ?_
    refine wl_pw (r_move rfl) ?_
    refine wl_pw (r_conv_str h rfl (xs := padTo 512 ys) (ho15.slm (by intro p hp; simp only [List.mem_append, List.mem_cons, hp, true_or, or_true])) Tryd.runUnderlying25 Tryd.runUnderlying5 Tryd.runUnderlying9) ?_
    refine wl_pw (r_move rfl) ?_
    refine wl_pw (r_conv_str h rfl (xs := padTo 512 ys) (ho36.slm (by intro p hp; simp only [List.mem_append, List.mem_cons, hp, true_or, or_true])) Tryd.runUnderlying25 Tryd.runUnderlying5 Tryd.runUnderlying9) ?_
    refine wl_pw (r_eql_str rfl rfl) ?_
    simp only [decide_true]
    refine wl_p (r_pick rfl rfl) ?_
    refine wl_p (r_move rfl) ?_
    refine wl_pw (r_move rfl) ?_
    refine wl_pw (r_conv_str h rfl (xs := padTo 512 ys) (ho19.slm (by intro p hp; simp only [List.mem_append, List.mem_cons, hp, true_or, or_true])) Tryd.runUnderlying25 Tryd.runUnderlying5 Tryd.runUnderlying9) ?_
    refine wl_pw (r_move rfl) ?_
    refine wl_pw (r_conv_str h rfl (xs := padTo 512 ys) (ho36.slm (by intro p hp; simp only [List.mem_append, List.mem_cons, hp, true_or, or_true])) Tryd.runUnderlying25 Tryd.runUnderlying5 Tryd.runUnderlying9) ?_
    refine wl_pw (r_eql_str rfl rfl) ?_
    simp only [decide_true]
    refine wl_p (r_pick rfl rfl) ?_
    refine wl_p (r_move rfl) ?_
    refine wl_pw (r_load_all h rfl (by simp only [List.size_toArray]; rw [nodeV_len _ nd7_sums, nd7_8]) Tryd.isAgg43 Tryd.sizeOf43) ?_
    refine wl_pw (r_buildP (ps := [(0, _)]) (cs := refV ⟨7#32, zeros 32⟩) (pl := [(0, 1), (1, 32)]) (z := refV rfZ) rfl (by kernel_rfl) rfl) ?_
    refine wl_pw (r_buildP (ps := [(2, _)]) (cs := nodeV nd7) (pl := (List.range 8).map fun i => (i * 33, 33)) (z := nodeV ndZ) rfl (by kernel_rfl) (by kernel_rfl)) ?_
    refine wl_pw (r_eql_agg (b := true) (eqNode 9996) Tryd.isAgg43 Tryd.sizeOf43 (by kernel_rfl) rfl rfl ((nodeV_len _ nd7_sums).trans (by rw [nd7_8])) ((nodeV_len _ nd7_sums).trans (by rw [nd7_8])) (isNode _ nd7_sums nd7_8) (isNode _ nd7_sums nd7_8) (by simp)) ?_
    refine wl_p (r_pick rfl rfl) ?_
    refine wl_p (r_move rfl) ?_
    refine wl_w fun Ko hKo => ?_
    refine op_call [] Tryd.call13 rfl (awake_ok h) ?_
    clear h; rintro _ w ⟨rfl, h⟩
    refine hKo _ _ _ ?_; clear hKo Ko
    refine wl_p (r_pick rfl rfl) ?_
    refine wl_p (r_assign rfl) ?_
    refine wl_nil ?_
    refine hK19 _ _ ?_
    clear hK19 K19
    refine wp_ret ?_
    refine (hQ _ _ _ (res_tmp rfl rfl) ?_).1
    try simp only [List.getD_cons_zero, List.getD_cons_succ]
    exact ⟨by trivial, h.tail.appTail.tail.appTail.tail.appTail.tail.tail.tail.tail.tail.appTail.tail.tail⟩

end Go.Proofs.YtjdfenlmifhhdaaDoor
