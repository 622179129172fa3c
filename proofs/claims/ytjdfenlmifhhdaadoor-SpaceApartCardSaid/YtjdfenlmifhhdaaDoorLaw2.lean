/-
  Walks, printed by mk.py (a program of this work) out of specs21.py: what the Go functions compute, and that nobody else's memory turns. Condition: none.
-/
import Derived.Test.YtjdfenlmifhhdaaDoorProg
import Derived.Test.YtjdfenlmifhhdaaDoorAuto
import Derived.Test.YtjdfenlmifhhdaaDoorLaw
namespace Go.Proofs.YtjdfenlmifhhdaaDoor
open Go.RowKit

attribute [local irreducible] layZ padTo sha hmac leafSum nodeSum pageSum superSum label schedule over encrypt decrypt nodeV putNode be beNum isNought spGet spGetD spGetN spPut spPutD awC awS rootsL fillStep
set_option maxHeartbeats 4000000 in
set_option maxRecDepth 100000 in
theorem apart_ok {E : Env} {w : World} {F : List (Nat × Obj)} (h : Has E w F) [m0 : Mem F 0 (ws 157 rootsL)] {key ns : Bytes} (hkl : key.length = 32) (hns : ns.length = 2) {sd : Value} {xs : Bytes} (hd : Sl F sd xs) : Ret Tryd.prog 3 [aggB key, aggB ns, sd] w fun v w' => v = .bool true ∧ Has E w' F := by
  refine ret_of_wp (l := [aggB key, aggB ns, sd, undef, undef, undef, undef, undef, undef, undef, undef, undef, undef, undef, undef, undef, undef, undef, undef, undef, undef, undef, undef, undef, undef, undef, undef, undef, undef, undef, undef, undef, undef, undef, undef, undef, undef, undef, undef, undef, undef, undef, undef, undef, undef, undef, undef, undef, undef, undef, undef, undef, undef, undef, undef, undef, undef, undef, undef, undef, undef, undef, undef, undef, undef, undef, undef, undef, undef, undef, undef, undef, undef, undef, undef, undef, undef, undef, undef, undef, undef, undef, undef, undef, undef, undef, undef, undef, undef, undef, undef, undef, undef, undef, undef, undef, undef, undef, undef, undef, undef, undef, undef, undef, undef, undef, undef, undef, undef, undef, undef, undef, undef, undef, undef, undef, undef, undef, undef, undef, undef, undef, undef, undef, undef]) Tryd.func3 rfl (by simp only [Tryd.ntmps3, List.size_toArray, List.length_cons, List.length_nil, Nat.reduceAdd, Nat.reduceSub, Array.replicate_succ, Array.replicate_zero, List.push_toArray, List.append_toArray, List.nil_append, List.cons_append]) fun Q hQ => ?_
  refine cw_seq fun K1 hK1 => ?_
  refine cw_region ?_
  refine wl_o fun Ko hKo => ?_
  refine op_box h rfl (show Value.cells (aggB key) = (key.map B).toArray from rfl) fun b3 w h => ?_
  refine hKo _ _ _ ?_; clear hKo Ko
  refine wl_o fun Ko hKo => ?_
  refine op_box h rfl (show Value.cells (aggB ns) = (ns.map B).toArray from rfl) fun b4 w h => ?_
  refine hKo _ _ _ ?_; clear hKo Ko
  refine wl_p (r_assign rfl) ?_
  refine wl_nil ?_
  refine hK1 _ _ ?_
  clear hK1 K1
  refine cw_seq fun K2 hK2 => ?_
  refine cw_region ?_
  refine wl_p (r_move rfl) ?_
  refine wl_p (r_move rfl) ?_
  refine wl_p (r_len_sl rfl hd Tryd.runUnderlying25) ?_
  refine wl_p (r_min (r := ((min xs.length 512 : Nat) : Int)) rfl rfl (by omega)) ?_
  refine wl_p (r_slice_h (hi := min xs.length 512) hd rfl rfl (by omega) Tryd.runUnderlying25 Tryd.sizeOf5) ?_
  have hdy := hd.cutH (hi := min xs.length 512) (by omega)
  have hyl : (xs.take (min xs.length 512)).length ≤ 512 := by rw [List.length_take]; omega
  generalize xs.take (min xs.length 512) = ys at hdy hyl
  generalize cutH sd (min xs.length 512) = sy at hdy ⊢
  clear hd
  refine wl_p (r_assign rfl) ?_
  refine wl_nil ?_
  refine hK2 _ _ ?_
  clear hK2 K2
  refine cw_seq fun K3 hK3 => ?_
  refine cw_region ?_
  refine wl_o fun Ko hKo => ?_
  refine op_call [] Tryd.call6 rfl (begun_ok h) ?_
  clear h; rintro _ w ⟨d, Ld, rfl, hD, h⟩
  refine hKo _ _ _ ?_; clear hKo Ko
  refine wl_p (r_assign rfl) ?_
  refine wl_nil ?_
  refine hK3 _ _ ?_
  clear hK3 K3
  refine cw_seq fun K4 hK4 => ?_
  refine cw_region ?_
  refine wl_p (r_move rfl) ?_
  refine wl_o fun Ko hKo => ?_
  refine op_call [_] Tryd.call7 rfl (bytes_ok hD h (by rw [zeros_len]; decide)) ?_
  clear h; rintro s8 w ⟨L8, ho8, h⟩
  obtain ⟨g, c, junk, rfl, hc, rfl⟩ := own_pos ho8 (by rw [zeros_len]; decide)
  rw [zeros_len] at hc ⊢
  clear ho8
  refine hKo _ _ _ ?_; clear hKo Ko
  refine wl_p (r_assign rfl) ?_
  refine wl_nil ?_
  refine hK4 _ _ ?_
  clear hK4 K4
  refine cw_seq fun K5 hK5 => ?_
  refine cw_seq fun K6 hK6 => ?_
  refine cw_region ?_
  refine wl_p (r_assign rfl) ?_
  refine wl_nil ?_
  refine hK6 _ _ ?_
  clear hK6 K6
  refine wp_block ?_
  refine cw_loopf [9, 24, 25, 26, 27, 28, 29, 30, 31, 32, 33, 34, 35] (fun f w n => ∃ i, i ≤ 16384 ∧ n = 16384 - i ∧ f 9 = i64 (i : Nat) ∧ Has E w ((g, vs 5 ((iter fillStep i (zeros 16384)).map B ++ junk)) :: (Ld ++ ((b4, bs 24 ns) :: (b3, bs 23 key) :: F)))) (16384) ⟨0, by omega, rfl, rfl, h⟩ ?_
  clear h; rintro f w n ⟨i, hi, rfl, e9, h⟩ K7 hK7
  simp only [putFn, List.foldl_cons, List.foldl_nil, List.set_cons_zero, List.set_cons_succ, e9]
  clear e9
  have hfl : (iter fillStep i (zeros 16384)).length = 16384 := by rw [fill_len, zeros_len]
  refine cw_seq fun K8 hK8 => ?_
  refine cw_seq fun K9 hK9 => ?_
  refine cw_region ?_
  refine wl_p (r_move rfl) ?_
  refine wl_p (r_move rfl) ?_
  refine wl_p (r_len_v rfl Tryd.runUnderlying25) ?_
  refine wl_p (r_lss   rfl rfl) ?_
  refine wl_nil ?_
  refine hK9 _ _ ?_
  clear hK9 K9
  refine wp_cond_split rfl (fun hc => ?_) (fun hc => ?_)
  · have hlt := of_decide_eq_true hc; clear hc
    have hlt : i < 16384 := by omega
    refine wp_skip ?_
    refine hK8 _ _ ?_
    clear hK8 K8
    refine cw_seq fun K10 hK10 => ?_
    refine wp_block ?_
    refine cw_region ?_
    refine wl_p (r_move rfl) ?_
    refine wl_p (r_move rfl) ?_
    refine wl_p (r_move rfl) ?_
    refine wl_p (r_rem_n (m := i)  (n := 251)  rfl rfl (by omega)) ?_
    refine wl_p (r_conv_iB (m := i % 251)  rfl Tryd.runUnderlying3 Tryd.runUnderlying5) ?_
    refine wl_p (r_indexAddr_sl (j := i) rfl rfl Tryd.runUnderlying25 Tryd.sizeOf5 (by first | rfl | omega) (by omega)) ?_
    refine wl_o fun Ko hKo => ?_
    refine op_store h rfl rfl rfl (by simp [hfl]; omega) Tryd.sizeOf5 fun w h => ?_
    simp only [List.set_cons_zero, ev_c, ev_t, List.getD_cons_zero, List.getD_cons_succ] at h
    rw [show (List.map B (iter fillStep i (zeros 16384)) ++ junk).set i (B (BitVec.ofNat 8 (i % 251))) = List.map B (iter fillStep (i + 1) (zeros 16384)) ++ junk by rw [List.set_append_left _ _ (by simp [hfl]; omega), setB, fill_succ]] at h
    refine hKo _ _ _ ?_; clear hKo Ko
    refine wl_nil ?_
    refine hK10 _ _ ?_
    clear hK10 K10
    refine cw_region ?_
    refine wl_p (r_move rfl) ?_
    refine wl_p (r_add_n  (n := 1) rfl rfl om_of) ?_
    refine wl_p (r_assign rfl) ?_
    refine wl_nil ?_
    refine hK7 _ _ (16384 - (i + 1)) pfn_of ⟨i + 1, by omega, rfl, rfl, h⟩ (by omega)
  · have hlt := of_decide_eq_false hc; clear hc
    obtain rfl : i = 16384 := by omega
    obtain ⟨all, hall0⟩ : ∃ all, all = iter fillStep 16384 (zeros 16384) := ⟨_, rfl⟩
    rw [← hall0] at h hfl
    have hall := hfl; clear hall0 hfl
    refine wp_exit ?_
    refine hK5 _ _ ?_
    clear hK8 hK7 hK5 K8 K7 K5
    refine cw_seq fun K12 hK12 => ?_
    refine cw_region ?_
    refine wl_p (r_move rfl) ?_
    refine wl_p (r_move rfl) ?_
    have h := h.mid
    refine wl_o fun Ko hKo => ?_
    refine op_call [_, _] Tryd.call8 rfl (load_ok hD h (xs := all) (Sl.head hall (by omega)) (by omega) (by decide)) ?_
    clear h; rintro _ w ⟨Ld2, hD2, h⟩
    refine hKo _ _ _ ?_; clear hKo Ko
    refine wl_nil ?_
    refine hK12 _ _ ?_
    clear hK12 K12
    refine cw_seq fun K13 hK13 => ?_
    refine cw_region ?_
    refine wl_p (r_move rfl) ?_
    refine wl_p (r_buildP (ps := [(0, _), (1, _)]) (cs := [i64 ((8 : Nat) : Int), i64 ((1 : Nat) : Int)]) (pl := [(0, 1), (1, 1)]) (z := [i64 0, i64 0]) rfl (by kernel_rfl) rfl) ?_
    refine wl_p (r_load_allb h rfl hkl Tryd.isAgg23 Tryd.sizeOf23) ?_
    refine wl_o fun Ko hKo => ?_
    refine op_call [_, _, _] Tryd.call9 rfl (spnew_ok h (d := d) (c := 8) (p := 1) (key := key) (by decide) (by decide) (by decide) (by decide) hkl super_ne) ?_
    clear h; rintro _ w ⟨s, x, c1, c2, rfl, h⟩
    have h := Has.swapApp (A := [_, _, _, _]) (B := Ld2) h
    simp only [List.cons_append, List.nil_append] at h
    refine hKo _ _ _ ?_; clear hKo Ko
    refine wl_p (r_assign rfl) ?_
    refine wl_nil ?_
    refine hK13 _ _ ?_
    clear hK13 K13
    refine cw_seq fun K14 hK14 => ?_
    refine cw_region ?_
    refine wl_p (r_indexAddr_arr (j := 0) rfl rfl Tryd.runUnderlying24 Tryd.sizeOf5 (by first | rfl | omega) om_of) ?_
    first
      | refine wl_p (r_load_b h rfl om_of Tryd.isAgg5) ?_
      | refine wl_p (r_load h rfl rfl Tryd.isAgg5) ?_
    refine wl_p (r_rem_B  (q := 20#8) rfl rfl rfl) ?_
    refine wl_p (r_conv_BW  rfl Tryd.runUnderlying5 Tryd.runUnderlying34) ?_
    obtain ⟨at_, hat⟩ : ∃ a, a = (ns.getD 0 0 % 20#8).setWidth 32 := ⟨_, rfl⟩
    rw [← hat]
    have hal : at_.toNat < 20 := by rw [hat, BitVec.toNat_setWidth, BitVec.toNat_umod]; have := Nat.mod_lt (ns.getD 0 0).toNat (show 0 < (20#8).toNat by decide); simp at this ⊢; omega
    clear hat
    refine wl_p (r_assign rfl) ?_
    refine wl_nil ?_
    refine hK14 _ _ ?_
    clear hK14 K14
    refine cw_seq fun K15 hK15 => ?_
    refine cw_region ?_
    refine wl_p (r_move rfl) ?_
    refine wl_p (r_move rfl) ?_
    refine wl_p (r_move rfl) ?_
    refine wl_o fun Ko hKo => ?_
    refine op_call [_, _, _] Tryd.call10 rfl (putpage_ok hD2 h (c := 8) (p := 1) (by decide) (by decide) (by decide) (by decide) at_ (xs := ys) (Rd.cons (Rd.cons (Rd.cons (Rd.cons (Rd.cons (Rd.cons (Rd.cons hdy))))))) (by decide) (by omega) (by decide)) ?_
    clear h; rintro _ w ⟨rfl, Ld3, hD3, h⟩
    have e51 := put1 32768 all at_.toNat ys (by omega) hyl (by omega) (by omega)
    simp only [e51] at hD3 ⊢
    have hap : Apart (layZ all (4096 + 512 * at_.toNat) (padTo 512 ys)) all at_.toNat := (Apart.refl _ _).lay _ (padTo_512 _ hyl) (by omega)
    clear e51
    generalize layZ all (4096 + 512 * at_.toNat) (padTo 512 ys) = seen at hD3 hap ⊢
    refine hKo _ _ _ ?_; clear hKo Ko
    refine wl_p (r_move rfl) ?_
    refine wl_p (r_extract rfl rfl) ?_
    refine wl_p (r_extract rfl rfl) ?_
    refine wl_o fun Ko hKo => ?_
    refine op_alloc (cs := refV rfZ) h Tryd.zeroValue37 rfl fun b12 w h => ?_
    refine hKo _ _ _ ?_; clear hKo Ko
    refine wl_o fun Ko hKo => ?_
    refine op_store_all (cs := refV (⟨at_ + 1#32, pageSum (padTo 512 ys)⟩)) h rfl rfl (fun v hv => by rcases List.mem_cons.1 hv with rfl | hv; rfl; exact oneB v hv) (by first | rfl | (rw [refV_len _ (show (Rf.sum ⟨at_ + 1#32, pageSum (padTo 512 ys)⟩).length = 32 from pageSum_len _)]; rfl)) (by intro w; rw [refV_len _ (show (Rf.sum ⟨at_ + 1#32, pageSum (padTo 512 ys)⟩).length = 32 from pageSum_len _)]; exact Tryd.sizeOf37 w) fun w h => ?_
    simp only [List.set_cons_zero, List.set_cons_succ, set_app, set_app0] at h
    have h := h.tail
    have hkk : 0 + 1 ≤ 1 := by omega
    have hsl : seen.length = 16384 := hap.1.trans hall
    refine hKo _ _ _ ?_; clear hKo Ko
    refine wl_p (r_assign rfl) ?_
    refine wl_nil ?_
    refine hK15 _ _ ?_
    clear hK15 K15
    refine cw_seq fun K16 hK16 => ?_
    refine cw_seq fun K17 hK17 => ?_
    refine cw_region ?_
    refine wl_p (r_indexAddr_arr (j := 1) rfl rfl Tryd.runUnderlying24 Tryd.sizeOf5 (by first | rfl | omega) om_of) ?_
    first
      | refine wl_p (r_load_b h rfl om_of Tryd.isAgg5) ?_
      | refine wl_p (r_load h rfl rfl Tryd.isAgg5) ?_
    refine wl_p (r_rem_B  (q := 3#8) rfl rfl rfl) ?_
    refine wl_p (r_eql_B  (q := 1#8) rfl rfl) ?_
    refine wl_nil ?_
    refine hK17 _ _ ?_
    clear hK17 K17
    refine cw_cut [13, 58, 59, 60, 61, 62, 63, 64] (fun f w => f 13 = i64 0 ∧ ∃ seen kk Ld, DevB d 32768 seen all kk Ld ∧ kk ≤ 2 ∧ Apart seen all at_.toNat ∧ Has E w (Ld ++ ((s, bsR 68 [ptr d 0, i64 ((8 : Nat) : Int), i64 ((1 : Nat) : Int), ptr x 0] (label key nameTag)) :: (x, vs 86 [ptr c1 0, ptr c2 0]) :: (c2, bs 117 (schedule (label key nameTwo))) :: (c1, bs 117 (schedule (label key nameOne))) :: (g, vs 5 (all.map B ++ junk)) :: (b4, bs 24 ns) :: (b3, bs 23 key) :: F))) ?_ ?_
    · intro K18 hK18
      refine wp_cond_split rfl (fun hc => ?_) (fun hc => ?_)
      · have h57 := of_decide_eq_true hc; clear hc
        refine cw_region ?_
        refine wl_p (r_move rfl) ?_
        refine wl_p (r_move rfl) ?_
        refine wl_p (r_buildP (ps := []) (cs := nodeV ndZ) (pl := (List.range 8).map fun i => (i * 33, 33)) (z := nodeV ndZ) rfl (by kernel_rfl) rfl) ?_
        refine wl_o fun Ko hKo => ?_
        refine op_call [_, _, _] Tryd.call11 rfl (putnode_ok hD3 h (c := 8) (p := 1) (by decide) (by decide) (by decide) (by decide) at_ ndZ ndZ_sums rfl (by decide) (by rw [hsl]; decide) (by omega)) ?_
        clear h; rintro _ w ⟨rfl, Ld4, hD3, h⟩
        have hsl : seen.length = 16384 := hap.1.trans hall
        have e51 := put1 32768 seen at_.toNat (putNode ndZ) (by omega) (by rw [ndput_len]; decide) (by omega) (by omega)
        simp only [e51] at hD3 ⊢
        have hap := hap.lay _ (padTo_512 _ (by rw [ndput_len]; decide)) (by omega)
        clear e51
        refine hKo _ _ _ ?_; clear hKo Ko
        refine wl_p (r_move rfl) ?_
        refine wl_p (r_extract rfl rfl) ?_
        refine wl_p (r_extract rfl rfl) ?_
        refine wl_p (r_assign rfl) ?_
        refine wl_nil ?_
        exact hK18 _ _ pfn_of ⟨rfl, _, _, _, hD3, by omega, hap, h⟩
      · have h57 := of_decide_eq_false hc; clear hc
        refine wp_skip ?_
        exact hK18 _ _ pfn_of ⟨rfl, _, _, _, hD3, by omega, hap, h⟩
    · clear h; rintro f w ⟨e13, seen, kk, Ld3, hD3, hkk, hap, h⟩
      simp only [putFn, List.foldl_cons, List.foldl_nil, List.set_cons_zero, List.set_cons_succ, e13]
      clear e13
      have hsl : seen.length = 16384 := hap.1.trans hall
      refine hK16 _ _ ?_
      clear hK16 K16
      refine cw_seq fun K19 hK19 => ?_
      refine cw_seq fun K20 hK20 => ?_
      refine cw_region ?_
      refine wl_p (r_indexAddr_arr (j := 1) rfl rfl Tryd.runUnderlying24 Tryd.sizeOf5 (by first | rfl | omega) om_of) ?_
      first
        | refine wl_p (r_load_b h rfl om_of Tryd.isAgg5) ?_
        | refine wl_p (r_load h rfl rfl Tryd.isAgg5) ?_
      refine wl_p (r_rem_B  (q := 3#8) rfl rfl rfl) ?_
      refine wl_p (r_eql_B  (q := 2#8) rfl rfl) ?_
      refine wl_nil ?_
      refine hK20 _ _ ?_
      clear hK20 K20
      refine cw_cut [13, 69, 70, 71, 72, 73, 74, 75, 76, 77, 78, 79, 80, 81] (fun f w => f 13 = i64 0 ∧ ∃ seen kk Ld, DevB d 32768 seen all kk Ld ∧ kk ≤ 3 ∧ Apart seen all at_.toNat ∧ Has E w (Ld ++ ((s, bsR 68 [ptr d 0, i64 ((8 : Nat) : Int), i64 ((1 : Nat) : Int), ptr x 0] (label key nameTag)) :: (x, vs 86 [ptr c1 0, ptr c2 0]) :: (c2, bs 117 (schedule (label key nameTwo))) :: (c1, bs 117 (schedule (label key nameOne))) :: (g, vs 5 (all.map B ++ junk)) :: (b4, bs 24 ns) :: (b3, bs 23 key) :: F))) ?_ ?_
      · intro K21 hK21
        refine wp_cond_split rfl (fun hc => ?_) (fun hc => ?_)
        · have h68 := of_decide_eq_true hc; clear hc
          refine cw_region ?_
          refine wl_p (r_move rfl) ?_
          refine wl_p (r_move rfl) ?_
          refine wl_o fun Ko hKo => ?_
          refine op_buildSliceB [] h rfl rfl Tryd.runUnderlying25 Tryd.sizeOf5 Tryd.zeroValue5 rfl (by decide) fun b72 w h => ?_
          have h := h.tail
          refine hKo _ _ _ ?_; clear hKo Ko
          refine wl_p (r_move rfl) ?_
          refine wl_o fun Ko hKo => ?_
          refine op_appendB (Ls := []) h rfl rfl OwnB.nil ((hdy.mono (fun q hq => List.mem_append_right _ (List.mem_append_right _ (List.mem_cons_of_mem _ (List.mem_cons_of_mem _ (List.mem_cons_of_mem _ (List.mem_cons_of_mem _ (List.mem_cons_of_mem _ (List.mem_cons_of_mem _ (List.mem_cons_of_mem _ (hq)))))))))))) rfl Tryd.runUnderlying25 Tryd.typeInfo5 Tryd.sizeOf5 Tryd.zeroValue5 rfl (by simp only [List.length_nil]; show _ * 1 ≤ _; omega) (by simp only [List.length_nil]; omega) fun s74 L74 w ho74 h => ?_
          refine hKo _ _ _ ?_; clear hKo Ko
          refine wl_p (r_move rfl) ?_
          refine wl_p (r_len_sl rfl hdy Tryd.runUnderlying25) ?_
          refine wl_p (r_sub_n (m := 512)  (n := ys.length)  rfl rfl (by omega) (by omega)) ?_
          refine wl_o fun Ko hKo => ?_
          refine op_append_zeros (td := .bool) (m := 512 - ys.length) h rfl rfl ho74 rfl Tryd.runUnderlying25 Tryd.typeInfo5 Tryd.runUnderlying3 Tryd.sizeOf5 Tryd.zeroValue5 rfl rfl (by simp only [List.length_append, List.length_nil]; show _ * 1 ≤ _; omega) (by simp only [List.length_append, List.length_nil]; omega) fun s78 L78 w ho78 h => ?_
          have ho78 : OwnB 5 s78 (padTo 512 ys) L78 := by unfold padTo zeros; simpa [OwnB, B] using ho78
          have h := h.swapApp
          refine hKo _ _ _ ?_; clear hKo Ko
          refine wl_o fun Ko hKo => ?_
          refine op_call [_, _, _] Tryd.call12 rfl (putdata_ok hD3 h (c := 8) (p := 1) (x := x) (tag := (label key nameTag)) (by decide) (by decide) (by decide) (by decide) (schedule_len _ (label_len _ _)) (schedule_len _ (label_len _ _)) (label_len _ _) at_ (xs := padTo 512 ys) (ho78.sl _) (by decide) (by rw [hsl]; decide) (by omega)) ?_
          clear h; rintro _ w ⟨rfl, Ld4, hD3, h⟩
          have h := h.midApp
          have hsl : seen.length = 16384 := hap.1.trans hall
          have e51 := putD1 32768 seen at_.toNat (schedule (label key nameOne)) (schedule (label key nameTwo)) (padTo 512 ys) (by omega) (padTo_512 _ hyl) (by omega) (by omega)
          simp only [e51] at hD3 ⊢
          have hap := hap.lay _ (by rw [over_all (encrypt (schedule (label key nameOne))) (enc_len (schedule (label key nameOne))) (schedule (label key nameTwo)) (BitVec.ofNat 64 (8 + at_.toNat * 1)) (padTo 512 ys) (N := 1) (padTo_512 _ hyl), padTo_512 _ hyl]) (by omega)
          clear e51
          refine hKo _ _ _ ?_; clear hKo Ko
          refine wl_p (r_move rfl) ?_
          refine wl_p (r_extract rfl rfl) ?_
          refine wl_p (r_extract rfl rfl) ?_
          refine wl_p (r_assign rfl) ?_
          refine wl_nil ?_
          exact hK21 _ _ pfn_of ⟨rfl, _, _, _, hD3, by omega, hap, h⟩
        · have h68 := of_decide_eq_false hc; clear hc
          refine wp_skip ?_
          exact hK21 _ _ pfn_of ⟨rfl, _, _, _, hD3, by omega, hap, h⟩
      · clear h; rintro f w ⟨e13, seen, kk, Ld3, hD3, hkk, hap, h⟩
        simp only [putFn, List.foldl_cons, List.foldl_nil, List.set_cons_zero, List.set_cons_succ, e13]
        clear e13
        have hsl : seen.length = 16384 := hap.1.trans hall
        refine hK19 _ _ ?_
        clear hK19 K19
        refine cw_seq fun K22 hK22 => ?_
        refine cw_region ?_
        refine wl_p (r_move rfl) ?_
        refine wl_o fun Ko hKo => ?_
        refine op_call [_] Tryd.call7 rfl (bytes_ok hD3 h (by omega)) ?_
        clear h; rintro s14 w ⟨L14, ho14, h⟩
        refine hKo _ _ _ ?_; clear hKo Ko
        refine wl_p (r_assign rfl) ?_
        refine wl_nil ?_
        refine hK22 _ _ ?_
        clear hK22 K22
        refine cw_seq fun K23 hK23 => ?_
        refine cw_seq fun K24 hK24 => ?_
        refine cw_region ?_
        refine wl_p (r_move rfl) ?_
        refine wl_p (r_neq_f  (n := 0) rfl rfl (by first | assumption | omega | (exact side_of) | (simp; done))) ?_
        refine wl_p (r_move rfl) ?_
        refine wl_pw (r_move rfl) ?_
        refine wl_pw (r_len_sl rfl (OwnS.rd0 ho14) Tryd.runUnderlying25) ?_
        rw [hsl]
        refine wl_pw (r_move rfl) ?_
        refine wl_pw (r_len_v rfl Tryd.runUnderlying25) ?_
        refine wl_pw (r_neq_f   rfl rfl (by first | assumption | omega | (exact side_of) | (simp; done))) ?_
        refine wl_p (r_pick_f rfl rfl) ?_
        refine wl_nil ?_
        refine hK24 _ _ ?_
        clear hK24 K24
        refine wp_cond_false rfl ?_
        refine wp_skip ?_
        refine hK23 _ _ ?_
        clear hK23 K23
        refine cw_seq fun K25 hK25 => ?_
        refine cw_seq fun K26 hK26 => ?_
        refine cw_region ?_
        refine wl_p (r_assign rfl) ?_
        refine wl_nil ?_
        refine hK26 _ _ ?_
        clear hK26 K26
        refine wp_block ?_
        refine cw_loopf [6, 15, 93, 94, 95, 96, 97, 98, 99, 100, 101, 102, 103, 104, 105, 106, 107, 108, 109, 110, 111, 112, 113, 114, 115, 116, 117, 118, 119, 120, 121, 122, 123] (fun f w n => ∃ i, i ≤ 16384 ∧ n = 16384 - i ∧ f 15 = i64 (i : Nat) ∧ Has E w (L14 ++ (Ld3 ++ ((s, bsR 68 [ptr d 0, i64 ((8 : Nat) : Int), i64 ((1 : Nat) : Int), ptr x 0] (label key nameTag)) :: (x, vs 86 [ptr c1 0, ptr c2 0]) :: (c2, bs 117 (schedule (label key nameTwo))) :: (c1, bs 117 (schedule (label key nameOne))) :: (g, vs 5 (all.map B ++ junk)) :: (b4, bs 24 ns) :: (b3, bs 23 key) :: F)))) (16384) ⟨0, by omega, rfl, rfl, h⟩ ?_
        clear h; rintro f w n ⟨i, hi, rfl, e15, h⟩ K27 hK27
        simp only [putFn, List.foldl_cons, List.foldl_nil, List.set_cons_zero, List.set_cons_succ, e15]
        clear e15
        refine cw_seq fun K28 hK28 => ?_
        refine cw_seq fun K29 hK29 => ?_
        refine cw_region ?_
        refine wl_p (r_move rfl) ?_
        refine wl_p (r_move rfl) ?_
        refine wl_p (r_len_v rfl Tryd.runUnderlying25) ?_
        refine wl_p (r_lss   rfl rfl) ?_
        refine wl_nil ?_
        refine hK29 _ _ ?_
        clear hK29 K29
        refine wp_cond_split rfl (fun hc => ?_) (fun hc => ?_)
        · have hlt := of_decide_eq_true hc; clear hc
          have hlt : i < 16384 := by omega
          refine wp_skip ?_
          refine hK28 _ _ ?_
          clear hK28 K28
          refine cw_seq fun K30 hK30 => ?_
          refine wp_block ?_
          refine cw_seq fun K31 hK31 => ?_
          by_cases hlo : i < 4096 + 512 * at_.toNat
          · skip
            refine cw_drawnH h (h) (fun i => false) (by kernel_rfl) 25 rfl #[false, false, false, false, false, false, false, false, false, false, false, false, false, false, false, false, false, false, false, false, false, false, false, false, false] rfl ?_
            clear h; rintro w h hS
            refine dn_p 0 #[true, false, false, false, false, false, false, false, false, false, false, false, false, false, false, false, false, false, false, false, false, false, false, false, false] ⟨some 99, _, _, _, _, _⟩ rfl (fun w => r_move rfl) ?_
            refine dn_p 1 #[true, true, false, false, false, false, false, false, false, false, false, false, false, false, false, false, false, false, false, false, false, false, false, false, false] ⟨some 100, _, _, _, _, _⟩ rfl (fun w => r_move rfl) ?_
            refine dn_p 2 #[true, true, true, false, false, false, false, false, false, false, false, false, false, false, false, false, false, false, false, false, false, false, false, false, false] ⟨some 101, _, _, _, _, _⟩ rfl (fun w => r_conv_Wi  rfl Tryd.runUnderlying34 Tryd.runUnderlying3 (by omega)) ?_
            refine dn_p 3 #[true, true, true, true, false, false, false, false, false, false, false, false, false, false, false, false, false, false, false, false, false, false, false, false, false] ⟨some 102, _, _, _, _, _⟩ rfl (fun w => r_mul_n (m := 512)  (n := at_.toNat)  rfl rfl (by omega)) ?_
            refine dn_p 4 #[true, true, true, true, true, false, false, false, false, false, false, false, false, false, false, false, false, false, false, false, false, false, false, false, false] ⟨some 103, _, _, _, _, _⟩ rfl (fun w => r_add_n (m := 4096)  (n := 512 * at_.toNat)  rfl rfl (by omega)) ?_
            refine dn_p 5 #[true, true, true, true, true, true, false, false, false, false, false, false, false, false, false, false, false, false, false, false, false, false, false, false, false] ⟨some 104, _, _, _, _, _⟩ rfl (fun w => r_lss_t   rfl rfl (by omega)) ?_
            refine dn_p 6 #[true, true, true, true, true, true, true, false, false, false, false, false, false, false, false, false, false, false, false, false, false, false, false, false, false] ⟨some 105, _, _, _, _, _⟩ rfl (fun w => r_move rfl) ?_
            refine dn_s 7 #[true, true, true, true, true, true, true, true, false, false, false, false, false, false, false, false, false, false, false, false, false, false, false, false, false] ⟨some 106, _, _, _, _, _⟩ rfl ?_
            refine dn_s 8 #[true, true, true, true, true, true, true, true, true, false, false, false, false, false, false, false, false, false, false, false, false, false, false, false, false] ⟨some 107, _, _, _, _, _⟩ rfl ?_
            refine dn_s 9 #[true, true, true, true, true, true, true, true, true, true, false, false, false, false, false, false, false, false, false, false, false, false, false, false, false] ⟨some 108, _, _, _, _, _⟩ rfl ?_
            refine dn_s 10 #[true, true, true, true, true, true, true, true, true, true, true, false, false, false, false, false, false, false, false, false, false, false, false, false, false] ⟨some 109, _, _, _, _, _⟩ rfl ?_
            refine dn_s 11 #[true, true, true, true, true, true, true, true, true, true, true, true, false, false, false, false, false, false, false, false, false, false, false, false, false] ⟨some 110, _, _, _, _, _⟩ rfl ?_
            refine dn_s 12 #[true, true, true, true, true, true, true, true, true, true, true, true, true, false, false, false, false, false, false, false, false, false, false, false, false] ⟨some 111, _, _, _, _, _⟩ rfl ?_
            refine dn_p 13 #[true, true, true, true, true, true, true, true, true, true, true, true, true, true, false, false, false, false, false, false, false, false, false, false, false] ⟨some 112, _, _, _, _, _⟩ rfl (fun w => r_pick rfl rfl) ?_
            refine dn_p 14 #[true, true, true, true, true, true, true, true, true, true, true, true, true, true, true, false, false, false, false, false, false, false, false, false, false] ⟨some 113, _, _, _, _, _⟩ rfl (fun w => r_move rfl) ?_
            refine dn_p 15 #[true, true, true, true, true, true, true, true, true, true, true, true, true, true, true, true, false, false, false, false, false, false, false, false, false] ⟨some 114, _, _, _, _, _⟩ rfl (fun w => r_move rfl) ?_
            refine dn_p 16 #[true, true, true, true, true, true, true, true, true, true, true, true, true, true, true, true, true, false, false, false, false, false, false, false, false] ⟨some 115, _, _, _, _, _⟩ rfl (fun w => r_move rfl) ?_
            refine dn_p 17 #[true, true, true, true, true, true, true, true, true, true, true, true, true, true, true, true, true, true, false, false, false, false, false, false, false] ⟨some 116, _, _, _, _, _⟩ rfl (fun w => r_elem (j := i) (OwnS.rd0 ho14) rfl rfl (by first | rfl | omega) (by omega) Tryd.runUnderlying25 Tryd.sizeOf5) ?_
            refine dn_l 18 #[true, true, true, true, true, true, true, true, true, true, true, true, true, true, true, true, true, true, true, false, false, false, false, false, false] ⟨some 117, _, _, _, _, _⟩ rfl hS (fun w hS => r_load_elemb hS (ho14.slm (by intro p hp; simp only [List.mem_append, List.mem_cons, hp, true_or, or_true])) rfl (by omega) Tryd.isAgg5) ?_
            refine dn_p 19 #[true, true, true, true, true, true, true, true, true, true, true, true, true, true, true, true, true, true, true, true, false, false, false, false, false] ⟨some 118, _, _, _, _, _⟩ rfl (fun w => r_move rfl) ?_
            refine dn_p 20 #[true, true, true, true, true, true, true, true, true, true, true, true, true, true, true, true, true, true, true, true, true, false, false, false, false] ⟨some 119, _, _, _, _, _⟩ rfl (fun w => r_move rfl) ?_
            refine dn_p 21 #[true, true, true, true, true, true, true, true, true, true, true, true, true, true, true, true, true, true, true, true, true, true, false, false, false] ⟨some 120, _, _, _, _, _⟩ rfl (fun w => r_elem (j := i) (Sl.head (L := [(g, vs 5 (all.map B ++ junk))]) (xs := all) hall (by omega)) rfl rfl (by first | rfl | omega) (by omega) Tryd.runUnderlying25 Tryd.sizeOf5) ?_
            refine dn_l 22 #[true, true, true, true, true, true, true, true, true, true, true, true, true, true, true, true, true, true, true, true, true, true, true, false, false] ⟨some 121, _, _, _, _, _⟩ rfl hS (fun w hS => r_load_elemb hS (Sl.head (xs := all) hall (by omega)) rfl (by omega) Tryd.isAgg5) ?_
            refine dn_p 23 #[true, true, true, true, true, true, true, true, true, true, true, true, true, true, true, true, true, true, true, true, true, true, true, true, false] ⟨some 122, _, _, _, _, _⟩ rfl (fun w => r_neq_B_f   rfl rfl (by exact fun q => q (hap.2 i (by omega)))) ?_
            refine dn_p 24 #[true, true, true, true, true, true, true, true, true, true, true, true, true, true, true, true, true, true, true, true, true, true, true, true, true] ⟨some 123, _, _, _, _, _⟩ rfl (fun w => r_pick rfl rfl) ?_
            refine dn_done (by kernel_rfl) ?_
            refine hK31 _ _ ?_
            clear hK31 K31
            refine wp_cond_false rfl ?_
            refine wp_skip ?_
            refine hK30 _ _ ?_
            clear hK30 K30
            refine cw_region ?_
            refine wl_p (r_move rfl) ?_
            refine wl_p (r_add_n  (n := 1) rfl rfl om_of) ?_
            refine wl_p (r_assign rfl) ?_
            refine wl_nil ?_
            refine hK27 _ _ (16384 - (i + 1)) pfn_of ⟨i + 1, by omega, rfl, rfl, h⟩ (by omega)
          · skip
            by_cases hhi : 4608 + 512 * at_.toNat ≤ i
            · skip
              refine cw_drawnH h (h) (fun i => false) (by kernel_rfl) 25 rfl #[false, false, false, false, false, false, false, false, false, false, false, false, false, false, false, false, false, false, false, false, false, false, false, false, false] rfl ?_
              clear h; rintro w h hS
              refine dn_p 0 #[true, false, false, false, false, false, false, false, false, false, false, false, false, false, false, false, false, false, false, false, false, false, false, false, false] ⟨some 99, _, _, _, _, _⟩ rfl (fun w => r_move rfl) ?_
              refine dn_p 1 #[true, true, false, false, false, false, false, false, false, false, false, false, false, false, false, false, false, false, false, false, false, false, false, false, false] ⟨some 100, _, _, _, _, _⟩ rfl (fun w => r_move rfl) ?_
              refine dn_p 2 #[true, true, true, false, false, false, false, false, false, false, false, false, false, false, false, false, false, false, false, false, false, false, false, false, false] ⟨some 101, _, _, _, _, _⟩ rfl (fun w => r_conv_Wi  rfl Tryd.runUnderlying34 Tryd.runUnderlying3 (by omega)) ?_
              refine dn_p 3 #[true, true, true, true, false, false, false, false, false, false, false, false, false, false, false, false, false, false, false, false, false, false, false, false, false] ⟨some 102, _, _, _, _, _⟩ rfl (fun w => r_mul_n (m := 512)  (n := at_.toNat)  rfl rfl (by omega)) ?_
              refine dn_p 4 #[true, true, true, true, true, false, false, false, false, false, false, false, false, false, false, false, false, false, false, false, false, false, false, false, false] ⟨some 103, _, _, _, _, _⟩ rfl (fun w => r_add_n (m := 4096)  (n := 512 * at_.toNat)  rfl rfl (by omega)) ?_
              refine dn_p 5 #[true, true, true, true, true, true, false, false, false, false, false, false, false, false, false, false, false, false, false, false, false, false, false, false, false] ⟨some 104, _, _, _, _, _⟩ rfl (fun w => r_lss_f   rfl rfl (by omega)) ?_
              refine dn_p 6 #[true, true, true, true, true, true, true, false, false, false, false, false, false, false, false, false, false, false, false, false, false, false, false, false, false] ⟨some 105, _, _, _, _, _⟩ rfl (fun w => r_move rfl) ?_
              refine dn_p 7 #[true, true, true, true, true, true, true, true, false, false, false, false, false, false, false, false, false, false, false, false, false, false, false, false, false] ⟨some 106, _, _, _, _, _⟩ rfl (fun w => r_move rfl) ?_
              refine dn_p 8 #[true, true, true, true, true, true, true, true, true, false, false, false, false, false, false, false, false, false, false, false, false, false, false, false, false] ⟨some 107, _, _, _, _, _⟩ rfl (fun w => r_move rfl) ?_
              refine dn_p 9 #[true, true, true, true, true, true, true, true, true, true, false, false, false, false, false, false, false, false, false, false, false, false, false, false, false] ⟨some 108, _, _, _, _, _⟩ rfl (fun w => r_conv_Wi  rfl Tryd.runUnderlying34 Tryd.runUnderlying3 (by omega)) ?_
              refine dn_p 10 #[true, true, true, true, true, true, true, true, true, true, true, false, false, false, false, false, false, false, false, false, false, false, false, false, false] ⟨some 109, _, _, _, _, _⟩ rfl (fun w => r_mul_n (m := 512)  (n := at_.toNat)  rfl rfl (by omega)) ?_
              refine dn_p 11 #[true, true, true, true, true, true, true, true, true, true, true, true, false, false, false, false, false, false, false, false, false, false, false, false, false] ⟨some 110, _, _, _, _, _⟩ rfl (fun w => r_add_n (m := 4608)  (n := 512 * at_.toNat)  rfl rfl (by omega)) ?_
              refine dn_p 12 #[true, true, true, true, true, true, true, true, true, true, true, true, true, false, false, false, false, false, false, false, false, false, false, false, false] ⟨some 111, _, _, _, _, _⟩ rfl (fun w => r_geq_t   rfl rfl (by omega)) ?_
              refine dn_p 13 #[true, true, true, true, true, true, true, true, true, true, true, true, true, true, false, false, false, false, false, false, false, false, false, false, false] ⟨some 112, _, _, _, _, _⟩ rfl (fun w => r_pick_f rfl rfl) ?_
              refine dn_p 14 #[true, true, true, true, true, true, true, true, true, true, true, true, true, true, true, false, false, false, false, false, false, false, false, false, false] ⟨some 113, _, _, _, _, _⟩ rfl (fun w => r_move rfl) ?_
              refine dn_p 15 #[true, true, true, true, true, true, true, true, true, true, true, true, true, true, true, true, false, false, false, false, false, false, false, false, false] ⟨some 114, _, _, _, _, _⟩ rfl (fun w => r_move rfl) ?_
              refine dn_p 16 #[true, true, true, true, true, true, true, true, true, true, true, true, true, true, true, true, true, false, false, false, false, false, false, false, false] ⟨some 115, _, _, _, _, _⟩ rfl (fun w => r_move rfl) ?_
              refine dn_p 17 #[true, true, true, true, true, true, true, true, true, true, true, true, true, true, true, true, true, true, false, false, false, false, false, false, false] ⟨some 116, _, _, _, _, _⟩ rfl (fun w => r_elem (j := i) (OwnS.rd0 ho14) rfl rfl (by first | rfl | omega) (by omega) Tryd.runUnderlying25 Tryd.sizeOf5) ?_
              refine dn_l 18 #[true, true, true, true, true, true, true, true, true, true, true, true, true, true, true, true, true, true, true, false, false, false, false, false, false] ⟨some 117, _, _, _, _, _⟩ rfl hS (fun w hS => r_load_elemb hS (ho14.slm (by intro p hp; simp only [List.mem_append, List.mem_cons, hp, true_or, or_true])) rfl (by omega) Tryd.isAgg5) ?_
              refine dn_p 19 #[true, true, true, true, true, true, true, true, true, true, true, true, true, true, true, true, true, true, true, true, false, false, false, false, false] ⟨some 118, _, _, _, _, _⟩ rfl (fun w => r_move rfl) ?_
              refine dn_p 20 #[true, true, true, true, true, true, true, true, true, true, true, true, true, true, true, true, true, true, true, true, true, false, false, false, false] ⟨some 119, _, _, _, _, _⟩ rfl (fun w => r_move rfl) ?_
              refine dn_p 21 #[true, true, true, true, true, true, true, true, true, true, true, true, true, true, true, true, true, true, true, true, true, true, false, false, false] ⟨some 120, _, _, _, _, _⟩ rfl (fun w => r_elem (j := i) (Sl.head (L := [(g, vs 5 (all.map B ++ junk))]) (xs := all) hall (by omega)) rfl rfl (by first | rfl | omega) (by omega) Tryd.runUnderlying25 Tryd.sizeOf5) ?_
              refine dn_l 22 #[true, true, true, true, true, true, true, true, true, true, true, true, true, true, true, true, true, true, true, true, true, true, true, false, false] ⟨some 121, _, _, _, _, _⟩ rfl hS (fun w hS => r_load_elemb hS (Sl.head (xs := all) hall (by omega)) rfl (by omega) Tryd.isAgg5) ?_
              refine dn_p 23 #[true, true, true, true, true, true, true, true, true, true, true, true, true, true, true, true, true, true, true, true, true, true, true, true, false] ⟨some 122, _, _, _, _, _⟩ rfl (fun w => r_neq_B_f   rfl rfl (by exact fun q => q (hap.2 i (by omega)))) ?_
              refine dn_p 24 #[true, true, true, true, true, true, true, true, true, true, true, true, true, true, true, true, true, true, true, true, true, true, true, true, true] ⟨some 123, _, _, _, _, _⟩ rfl (fun w => r_pick rfl rfl) ?_
              refine dn_done (by kernel_rfl) ?_
              refine hK31 _ _ ?_
              clear hK31 K31
              refine wp_cond_false rfl ?_
              refine wp_skip ?_
              refine hK30 _ _ ?_
              clear hK30 K30
              refine cw_region ?_
              refine wl_p (r_move rfl) ?_
              refine wl_p (r_add_n  (n := 1) rfl rfl om_of) ?_
              refine wl_p (r_assign rfl) ?_
              refine wl_nil ?_
              refine hK27 _ _ (16384 - (i + 1)) pfn_of ⟨i + 1, by omega, rfl, rfl, h⟩ (by omega)
            · skip
              refine cw_drawnH h (h) (fun i => false) (by kernel_rfl) 25 rfl #[false, false, false, false, false, false, false, false, false, false, false, false, false, false, false, false, false, false, false, false, false, false, false, false, false] rfl ?_
              clear h; rintro w h hS
              refine dn_p 0 #[true, false, false, false, false, false, false, false, false, false, false, false, false, false, false, false, false, false, false, false, false, false, false, false, false] ⟨some 99, _, _, _, _, _⟩ rfl (fun w => r_move rfl) ?_
              refine dn_p 1 #[true, true, false, false, false, false, false, false, false, false, false, false, false, false, false, false, false, false, false, false, false, false, false, false, false] ⟨some 100, _, _, _, _, _⟩ rfl (fun w => r_move rfl) ?_
              refine dn_p 2 #[true, true, true, false, false, false, false, false, false, false, false, false, false, false, false, false, false, false, false, false, false, false, false, false, false] ⟨some 101, _, _, _, _, _⟩ rfl (fun w => r_conv_Wi  rfl Tryd.runUnderlying34 Tryd.runUnderlying3 (by omega)) ?_
              refine dn_p 3 #[true, true, true, true, false, false, false, false, false, false, false, false, false, false, false, false, false, false, false, false, false, false, false, false, false] ⟨some 102, _, _, _, _, _⟩ rfl (fun w => r_mul_n (m := 512)  (n := at_.toNat)  rfl rfl (by omega)) ?_
              refine dn_p 4 #[true, true, true, true, true, false, false, false, false, false, false, false, false, false, false, false, false, false, false, false, false, false, false, false, false] ⟨some 103, _, _, _, _, _⟩ rfl (fun w => r_add_n (m := 4096)  (n := 512 * at_.toNat)  rfl rfl (by omega)) ?_
              refine dn_p 5 #[true, true, true, true, true, true, false, false, false, false, false, false, false, false, false, false, false, false, false, false, false, false, false, false, false] ⟨some 104, _, _, _, _, _⟩ rfl (fun w => r_lss_f   rfl rfl (by omega)) ?_
              refine dn_p 6 #[true, true, true, true, true, true, true, false, false, false, false, false, false, false, false, false, false, false, false, false, false, false, false, false, false] ⟨some 105, _, _, _, _, _⟩ rfl (fun w => r_move rfl) ?_
              refine dn_p 7 #[true, true, true, true, true, true, true, true, false, false, false, false, false, false, false, false, false, false, false, false, false, false, false, false, false] ⟨some 106, _, _, _, _, _⟩ rfl (fun w => r_move rfl) ?_
              refine dn_p 8 #[true, true, true, true, true, true, true, true, true, false, false, false, false, false, false, false, false, false, false, false, false, false, false, false, false] ⟨some 107, _, _, _, _, _⟩ rfl (fun w => r_move rfl) ?_
              refine dn_p 9 #[true, true, true, true, true, true, true, true, true, true, false, false, false, false, false, false, false, false, false, false, false, false, false, false, false] ⟨some 108, _, _, _, _, _⟩ rfl (fun w => r_conv_Wi  rfl Tryd.runUnderlying34 Tryd.runUnderlying3 (by omega)) ?_
              refine dn_p 10 #[true, true, true, true, true, true, true, true, true, true, true, false, false, false, false, false, false, false, false, false, false, false, false, false, false] ⟨some 109, _, _, _, _, _⟩ rfl (fun w => r_mul_n (m := 512)  (n := at_.toNat)  rfl rfl (by omega)) ?_
              refine dn_p 11 #[true, true, true, true, true, true, true, true, true, true, true, true, false, false, false, false, false, false, false, false, false, false, false, false, false] ⟨some 110, _, _, _, _, _⟩ rfl (fun w => r_add_n (m := 4608)  (n := 512 * at_.toNat)  rfl rfl (by omega)) ?_
              refine dn_p 12 #[true, true, true, true, true, true, true, true, true, true, true, true, true, false, false, false, false, false, false, false, false, false, false, false, false] ⟨some 111, _, _, _, _, _⟩ rfl (fun w => r_geq_f   rfl rfl (by omega)) ?_
              refine dn_p 13 #[true, true, true, true, true, true, true, true, true, true, true, true, true, true, false, false, false, false, false, false, false, false, false, false, false] ⟨some 112, _, _, _, _, _⟩ rfl (fun w => r_pick_f rfl rfl) ?_
              refine dn_p 14 #[true, true, true, true, true, true, true, true, true, true, true, true, true, true, true, false, false, false, false, false, false, false, false, false, false] ⟨some 113, _, _, _, _, _⟩ rfl (fun w => r_move rfl) ?_
              refine dn_s 15 #[true, true, true, true, true, true, true, true, true, true, true, true, true, true, true, true, false, false, false, false, false, false, false, false, false] ⟨some 114, _, _, _, _, _⟩ rfl ?_
              refine dn_s 16 #[true, true, true, true, true, true, true, true, true, true, true, true, true, true, true, true, true, false, false, false, false, false, false, false, false] ⟨some 115, _, _, _, _, _⟩ rfl ?_
              refine dn_s 17 #[true, true, true, true, true, true, true, true, true, true, true, true, true, true, true, true, true, true, false, false, false, false, false, false, false] ⟨some 116, _, _, _, _, _⟩ rfl ?_
              refine dn_s 18 #[true, true, true, true, true, true, true, true, true, true, true, true, true, true, true, true, true, true, true, false, false, false, false, false, false] ⟨some 117, _, _, _, _, _⟩ rfl ?_
              refine dn_s 19 #[true, true, true, true, true, true, true, true, true, true, true, true, true, true, true, true, true, true, true, true, false, false, false, false, false] ⟨some 118, _, _, _, _, _⟩ rfl ?_
              refine dn_s 20 #[true, true, true, true, true, true, true, true, true, true, true, true, true, true, true, true, true, true, true, true, true, false, false, false, false] ⟨some 119, _, _, _, _, _⟩ rfl ?_
              refine dn_s 21 #[true, true, true, true, true, true, true, true, true, true, true, true, true, true, true, true, true, true, true, true, true, true, false, false, false] ⟨some 120, _, _, _, _, _⟩ rfl ?_
              refine dn_s 22 #[true, true, true, true, true, true, true, true, true, true, true, true, true, true, true, true, true, true, true, true, true, true, true, false, false] ⟨some 121, _, _, _, _, _⟩ rfl ?_
              refine dn_s 23 #[true, true, true, true, true, true, true, true, true, true, true, true, true, true, true, true, true, true, true, true, true, true, true, true, false] ⟨some 122, _, _, _, _, _⟩ rfl ?_
              refine dn_p 24 #[true, true, true, true, true, true, true, true, true, true, true, true, true, true, true, true, true, true, true, true, true, true, true, true, true] ⟨some 123, _, _, _, _, _⟩ rfl (fun w => r_pick_f rfl rfl) ?_
              refine dn_done (by kernel_rfl) ?_
              refine hK31 _ _ ?_
              clear hK31 K31
              refine wp_cond_false rfl ?_
              refine wp_skip ?_
              refine hK30 _ _ ?_
              clear hK30 K30
              refine cw_region ?_
              refine wl_p (r_move rfl) ?_
              refine wl_p (r_add_n  (n := 1) rfl rfl om_of) ?_
              refine wl_p (r_assign rfl) ?_
              refine wl_nil ?_
              refine hK27 _ _ (16384 - (i + 1)) pfn_of ⟨i + 1, by omega, rfl, rfl, h⟩ (by omega)
        · have hlt := of_decide_eq_false hc; clear hc
          refine wp_exit ?_
          refine hK25 _ _ ?_
          clear hK28 hK27 hK25 K28 K27 K25
          refine cw_seq fun K35 hK35 => ?_
          refine cw_region ?_
          refine wl_o fun Ko hKo => ?_
          refine op_call [] Tryd.call13 rfl (awake_ok h) ?_
          clear h; rintro _ w ⟨rfl, h⟩
          refine hKo _ _ _ ?_; clear hKo Ko
          refine wl_p (r_assign rfl) ?_
          refine wl_nil ?_
          refine hK35 _ _ ?_
          clear hK35 K35
          refine wp_ret ?_
          refine (hQ _ _ _ (res_tmp rfl rfl) ?_).1
          try simp only [List.getD_cons_zero, List.getD_cons_succ]
          exact ⟨by trivial, h.appTail.appTail.tail.tail.tail.tail.tail.tail.tail⟩

end Go.Proofs.YtjdfenlmifhhdaaDoor
