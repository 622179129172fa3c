/-
  Walks, printed by mk.py (a program of this work) out of specs18.py: what the Go functions compute, and that nobody else's memory turns. Condition: none.
-/
import Derived.Test.YtjdfenlmifhhdaaDoorProg
import Derived.Test.YtjdfenlmifhhdaaDoorAuto
import Derived.Test.YtjdfenlmifhhdaaDoorSpc
namespace Go.Proofs.YtjdfenlmifhhdaaDoor
open Go.RowKit

attribute [local irreducible] layZ padTo sha hmac leafSum nodeSum pageSum superSum label schedule over encrypt decrypt nodeV putNode be beNum isNought
set_option maxHeartbeats 2000000 in
set_option maxRecDepth 100000 in
theorem spget_ok {E : Env} {w : World} {F : List (Nat × Obj)} {s x d c p : Nat} {tag : Bytes} {Ld : List (Nat × Obj)} {most : Nat} {seen safe : Bytes} {kk : Nat} (hD : DevB d most seen safe kk Ld) (h : Has E w (Ld ++ F)) [ms : Mem F s (bsR 68 [ptr d 0, i64 c, i64 p, ptr x 0] tag)] (hc1 : 1 ≤ c) (hc2 : c ≤ 64) (hp1 : 1 ≤ p) (hp2 : p ≤ 2) (r : Rf) (hr : r.sum.length = 32) {g : FuncId} {caps : List Value} (φ : Bytes → Bytes) (hφ : ∀ xs, (φ xs).length = 32) (hcall : ∀ args w, (callFunc g args).run Tryd.prog w = .ok (.enter g args) w) (hsum : ∀ {w : World} {L : List (Nat × Obj)}, (∀ q ∈ F, q ∈ L) → Has E w L → ∀ {sd : Value} {xs : Bytes}, Sl L sd xs → xs.length ≤ 65536 → Ret Tryd.prog g (sd :: caps) w fun v w' => v = aggB (φ xs) ∧ Has E w' L) (hsl : seen.length ≤ 16777216) : Ret Tryd.prog 32 [ptr s 0, aggV (refV r), .func (.func g) #[] caps.toArray] w fun v w' => ∃ so Ls, v = .tuple #[so, i64 (((spGet seen p φ r).1 : Nat) : Int)] ∧ OwnB 5 so (spGet seen p φ r).2 Ls ∧ Has E w' (Ls ++ (Ld ++ F)) := by
  refine ret_of_wp (l := [ptr s 0, aggV (refV r), .func (.func g) #[] caps.toArray, undef, undef, undef, undef, undef, undef, undef, undef, undef, undef, undef, undef, undef, undef, undef, undef, undef, undef, undef, undef, undef, undef, undef, undef, undef, undef, undef, undef, undef, undef, undef, undef, undef, undef, undef, undef, undef, undef, undef, undef, undef, undef, undef, undef, undef, undef, undef, undef, undef, undef, undef]) Tryd.func32 rfl (by simp only [Tryd.ntmps32, List.size_toArray, List.length_cons, List.length_nil, Nat.reduceAdd, Nat.reduceSub, Array.replicate_succ, Array.replicate_zero, List.push_toArray, List.append_toArray, List.nil_append, List.cons_append]) fun Q hQ => ?_
  refine cw_seq fun K1 hK1 => ?_
  refine cw_region ?_
  refine wl_o fun Ko hKo => ?_
  refine op_box h rfl (show Value.cells (aggV (refV r)) = (refV r).toArray from rfl) fun b4 w h => ?_
  refine hKo _ _ _ ?_; clear hKo Ko
  have h : Has E w ((b4, bsR 37 [W r.at_] r.sum) :: _) := h
  refine wl_p (r_assign rfl) ?_
  refine wl_p (r_assign rfl) ?_
  refine wl_nil ?_
  refine hK1 _ _ ?_
  clear hK1 K1
  refine cw_seq fun K2 hK2 => ?_
  refine wp_block ?_
  refine cw_seq fun K3 hK3 => ?_
  refine cw_region ?_
  refine wl_p (r_move rfl) ?_
  refine wl_p (r_eql_nilptr rfl rfl Tryd.runUnderlying30) ?_
  refine wl_p (r_assign rfl) ?_
  refine wl_nil ?_
  refine hK3 _ _ ?_
  clear hK3 K3
  refine wp_cond_false rfl ?_
  refine cw_seq fun K4 hK4 => ?_
  by_cases h0 : r.at_ = 0#32
  · skip
    refine cw_region ?_
    refine wl_p (r_fieldAddr (off := 0) rfl Tryd.runUnderlying37 rfl Tryd.sizeOf34 rfl rfl) ?_
    refine wl_p (r_load_pre h rfl rfl Tryd.isAgg34) ?_
    refine wl_p (r_eql_W_t  (q := 0#32) rfl rfl (by first | assumption | omega | (exact side_of) | (simp; done))) ?_
    refine wl_p (r_move rfl) ?_
    refine wl_s ?_
    refine wl_s ?_
    refine wl_s ?_
    refine wl_p (r_pick rfl rfl) ?_
    refine wl_p (r_assign rfl) ?_
    refine wl_nil ?_
    refine hK4 _ _ ?_
    clear hK4 K4
    refine wp_cond_true rfl ?_
    refine cw_seq fun K5 hK5 => ?_
    refine cw_region ?_
    refine wl_p (r_assign rfl) ?_
    refine wl_p (r_assign rfl) ?_
    refine wl_nil ?_
    refine hK5 _ _ ?_
    clear hK5 K5
    refine wp_ret ?_
    refine (hQ _ _ _ (res_tmp2 rfl rfl rfl) ?_).1
    try simp only [List.getD_cons_zero, List.getD_cons_succ]
    have e : spGet seen p φ r = (2, []) := by unfold spGet; rw [if_pos (Or.inl h0)]
    rw [e]
    exact ⟨_, [], rfl, OwnB.nil, h.tail⟩
  · skip
    refine cw_region ?_
    refine wl_p (r_fieldAddr (off := 0) rfl Tryd.runUnderlying37 rfl Tryd.sizeOf34 rfl rfl) ?_
    refine wl_p (r_load_pre h rfl rfl Tryd.isAgg34) ?_
    refine wl_p (r_eql_W_f  (q := 0#32) rfl rfl (by first | assumption | omega | (exact side_of) | (simp; done))) ?_
    refine wl_p (r_move rfl) ?_
    refine wl_pw (r_fieldAddr (off := 0) rfl Tryd.runUnderlying37 rfl Tryd.sizeOf34 rfl rfl) ?_
    refine wl_pw (r_load_pre h rfl rfl Tryd.isAgg34) ?_
    refine wl_pw (r_gtr   rfl rfl) ?_
    refine wl_p (r_pick_f rfl rfl) ?_
    refine wl_p (r_assign rfl) ?_
    refine wl_nil ?_
    refine hK4 _ _ ?_
    clear hK4 K4
    refine wp_cond_split rfl (fun hc => ?_) (fun hc => ?_)
    · have hbig := of_decide_eq_true hc; clear hc
      have hbig : 65536 < r.at_.toNat := by omega
      refine cw_seq fun K6 hK6 => ?_
      refine cw_region ?_
      refine wl_p (r_assign rfl) ?_
      refine wl_p (r_assign rfl) ?_
      refine wl_nil ?_
      refine hK6 _ _ ?_
      clear hK6 K6
      refine wp_ret ?_
      refine (hQ _ _ _ (res_tmp2 rfl rfl rfl) ?_).1
      try simp only [List.getD_cons_zero, List.getD_cons_succ]
      have e : spGet seen p φ r = (2, []) := by unfold spGet; rw [if_pos (Or.inr hbig)]
      rw [e]
      exact ⟨_, [], rfl, OwnB.nil, h.tail⟩
    · have hbig := of_decide_eq_false hc; clear hc
      have hbig : ¬ 65536 < r.at_.toNat := by omega
      have hn1 : (r.at_ - 1#32).toNat = r.at_.toNat - 1 := by rw [BitVec.toNat_sub]; have := r.at_.isLt; have h1 : r.at_.toNat ≠ 0 := fun e => h0 (BitVec.eq_of_toNat_eq (by simpa using e)); simp; omega
      have hmul : (r.at_.toNat - 1) * p ≤ (r.at_.toNat - 1) * 2 := Nat.mul_le_mul_left _ hp2
      have h := Has.swapApp (A := [_]) (B := Ld) h
      simp only [List.cons_append, List.nil_append] at h
      refine wp_skip ?_
      refine hK2 _ _ ?_
      clear hK2 K2
      refine cw_seq fun K7 hK7 => ?_
      refine cw_drawnH h (h.appTail) (fun i => false) (by kernel_rfl) 20 rfl #[false, false, false, false, false, false, false, false, false, false, false, false, false, false, false, false, false, false, false, false] rfl ?_
      clear h; rintro w h hS
      refine dn_p 0 #[true, false, false, false, false, false, false, false, false, false, false, false, false, false, false, false, false, false, false, false] ⟨some 24, _, _, _, _, _⟩ rfl (fun w => r_move rfl) ?_
      refine dn_p 1 #[true, true, false, false, false, false, false, false, false, false, false, false, false, false, false, false, false, false, false, false] ⟨some 25, _, _, _, _, _⟩ rfl (fun w => r_nilCheck rfl) ?_
      refine dn_p 2 #[true, true, true, false, false, false, false, false, false, false, false, false, false, false, false, false, false, false, false, false] ⟨some 26, _, _, _, _, _⟩ rfl (fun w => r_fieldAddr (off := 0) rfl Tryd.runUnderlying68 rfl Tryd.sizeOf26 rfl rfl) ?_
      refine dn_l 3 #[true, true, true, true, false, false, false, false, false, false, false, false, false, false, false, false, false, false, false, false] ⟨some 27, _, _, _, _, _⟩ rfl hS (fun w hS => r_load_pre hS rfl rfl Tryd.isAgg26) ?_
      refine dn_p 4 #[true, true, true, true, true, false, false, false, false, false, false, false, false, false, false, false, false, false, false, false] ⟨some 28, _, _, _, _, _⟩ rfl (fun w => r_move rfl) ?_
      refine dn_p 5 #[true, true, true, true, true, true, false, false, false, false, false, false, false, false, false, false, false, false, false, false] ⟨some 29, _, _, _, _, _⟩ rfl (fun w => r_nilCheck rfl) ?_
      refine dn_p 6 #[true, true, true, true, true, true, true, false, false, false, false, false, false, false, false, false, false, false, false, false] ⟨some 30, _, _, _, _, _⟩ rfl (fun w => r_fieldAddr (off := 1) rfl Tryd.runUnderlying68 rfl Tryd.sizeOf33 rfl rfl) ?_
      refine dn_l 7 #[true, true, true, true, true, true, true, true, false, false, false, false, false, false, false, false, false, false, false, false] ⟨some 31, _, _, _, _, _⟩ rfl hS (fun w hS => r_load_preseg hS rfl [i64 c, i64 p] rfl (by simp) Tryd.isAgg33 Tryd.sizeOf33) ?_
      refine dn_p 8 #[true, true, true, true, true, true, true, true, true, false, false, false, false, false, false, false, false, false, false, false] ⟨some 32, _, _, _, _, _⟩ rfl (fun w => r_fieldAddr (off := 0) rfl Tryd.runUnderlying37 rfl Tryd.sizeOf34 rfl rfl) ?_
      refine dn_l 9 #[true, true, true, true, true, true, true, true, true, true, false, false, false, false, false, false, false, false, false, false] ⟨some 33, _, _, _, _, _⟩ rfl hS (fun w hS => r_load_pre hS rfl rfl Tryd.isAgg34) ?_
      refine dn_p 10 #[true, true, true, true, true, true, true, true, true, true, true, false, false, false, false, false, false, false, false, false] ⟨some 34, _, _, _, _, _⟩ rfl (fun w => r_sub_W  (q := 1#32) rfl rfl) ?_
      refine dn_p 12 #[true, true, true, true, true, true, true, true, true, true, true, false, true, false, false, false, false, false, false, false] ⟨some 36, _, _, _, _, _⟩ rfl (fun w => r_move rfl) ?_
      refine dn_o 11 #[true, true, true, true, true, true, true, true, true, true, true, true, true, false, false, false, false, false, false, false] ⟨some 35, _, _, _, _, _⟩ fun Ko hKo => ?_
      refine op_call [_, _] Tryd.call44 rfl (place_ok h hc1 hc2 hp1 hp2 (r.at_ - 1#32) (by rw [hn1]; omega)) ?_
      clear h; rintro _ w ⟨rfl, h⟩
      simp only [hn1]
      refine hKo _ _ _ (fun _ => h.appTail) ?_; clear hKo Ko
      refine dn_o 13 #[true, true, true, true, true, true, true, true, true, true, true, true, true, true, false, false, false, false, false, false] ⟨some 37, _, _, _, _, _⟩ fun Ko hKo => ?_
      refine op_call [_] Tryd.call28 rfl (size_ok h hp2) ?_
      clear h; rintro _ w ⟨rfl, h⟩
      refine hKo _ _ _ (fun _ => h.appTail) ?_; clear hKo Ko
      refine dn_o 14 #[true, true, true, true, true, true, true, true, true, true, true, true, true, true, true, false, false, false, false, false] ⟨some 38, _, _, _, _, _⟩ fun Ko hKo => ?_
      refine op_call [_, _, _] Tryd.call51 rfl (readdev_all hD h (512 * (8 + (r.at_.toNat - 1) * p)) (512 * p) (by omega) (by omega)) ?_
      clear h; rintro _ w ⟨s38, L38, rfl, ho38, h⟩
      obtain ⟨e, he⟩ : ∃ e, e = rdErr seen.length (512 * (8 + (r.at_.toNat - 1) * p)) (512 * p) := ⟨_, rfl⟩
      simp only [← he]
      unfold rdErr at he
      obtain ⟨bb, hbb⟩ : ∃ bb, bb = List.take (512 * p) (List.drop (512 * (8 + (r.at_.toNat - 1) * p)) seen) := ⟨_, rfl⟩
      rw [← hbb] at ho38
      have hg : spGet seen p φ r = if 512 * (8 + (r.at_.toNat - 1) * p) + 512 * p ≤ seen.length then if φ bb = r.sum then (0, bb) else (40, []) else (40, []) := by
        unfold spGet place
        rw [if_neg (by intro q; rcases q with q | q; exact h0 q; exact hbig q), ← hbb]
      refine hKo _ _ _ (fun _ => h.appTail.appTail) ?_; clear hKo Ko
      refine dn_p 15 #[true, true, true, true, true, true, true, true, true, true, true, true, true, true, true, true, false, false, false, false] ⟨some 23, _, _, _, _, _⟩ rfl (fun w => r_move rfl) ?_
      refine dn_p 16 #[true, true, true, true, true, true, true, true, true, true, true, true, true, true, true, true, true, false, false, false] ⟨some 39, _, _, _, _, _⟩ rfl (fun w => r_extract rfl rfl) ?_
      refine dn_p 17 #[true, true, true, true, true, true, true, true, true, true, true, true, true, true, true, true, true, true, false, false] ⟨some 40, _, _, _, _, _⟩ rfl (fun w => r_extract rfl rfl) ?_
      refine dn_p 18 #[true, true, true, true, true, true, true, true, true, true, true, true, true, true, true, true, true, true, true, false] ⟨some 8, _, _, _, _, _⟩ rfl (fun w => r_assign rfl) ?_
      refine dn_p 19 #[true, true, true, true, true, true, true, true, true, true, true, true, true, true, true, true, true, true, true, true] ⟨some 9, _, _, _, _, _⟩ rfl (fun w => r_assign rfl) ?_
      refine dn_done (by kernel_rfl) ?_
      refine hK7 _ _ ?_
      clear hK7 K7
      refine cw_seq fun K8 hK8 => ?_
      refine cw_seq fun K9 hK9 => ?_
      refine cw_region ?_
      refine wl_p (r_move rfl) ?_
      refine wl_p (r_neq  (n := 0) rfl rfl) ?_
      refine wl_nil ?_
      refine hK9 _ _ ?_
      clear hK9 K9
      refine wp_cond_split rfl (fun hc => ?_) (fun hc => ?_)
      · have hne := of_decide_eq_true hc; clear hc
        have hout : ¬ 512 * (8 + (r.at_.toNat - 1) * p) + 512 * p ≤ seen.length := fun q => by rw [if_pos q] at he; omega
        rw [if_neg hout] at he hg
        subst he
        refine cw_seq fun K10 hK10 => ?_
        refine cw_region ?_
        refine wl_p (r_move rfl) ?_
        refine wl_o fun Ko hKo => ?_
        refine op_call [_] Tryd.call45 rfl (told_ok 43) ?_
        rintro _ w ⟨rfl, rfl⟩
        refine hKo _ _ _ ?_; clear hKo Ko
        refine wl_p (r_assign rfl) ?_
        refine wl_p (r_assign rfl) ?_
        refine wl_nil ?_
        refine hK10 _ _ ?_
        clear hK10 K10
        refine wp_ret ?_
        refine (hQ _ _ _ (res_tmp2 rfl rfl rfl) ?_).1
        try simp only [List.getD_cons_zero, List.getD_cons_succ]
        rw [hg]
        exact ⟨_, [], rfl, OwnB.nil, (h.appTail).midTail⟩
      · have hne := of_decide_eq_false hc; clear hc
        have hin : 512 * (8 + (r.at_.toNat - 1) * p) + 512 * p ≤ seen.length := by
          refine Classical.not_not.1 fun q => ?_
          rw [if_neg q] at he; omega
        rw [if_pos hin] at hg ho38
        have hbl : bb.length = 512 * p := by rw [hbb, List.length_take, List.length_drop]; omega
        refine wp_skip ?_
        refine hK8 _ _ ?_
        clear hK8 K8
        refine cw_seq fun K11 hK11 => ?_
        refine cw_seq fun K12 hK12 => ?_
        refine cw_region ?_
        refine wl_p (r_move rfl) ?_
        refine wl_p (r_move rfl) ?_
        refine wl_o fun Ko hKo => ?_
        refine op_callv (_ :: caps) rfl hcall rfl (hsum (by intro q hq; simp only [List.mem_append, List.mem_cons, hq, true_or, or_true]) h (ho38.slm (by intro p hp; simp only [List.mem_append, List.mem_cons, hp, true_or, or_true])) (by omega)) ?_
        clear h; rintro _ w ⟨rfl, h⟩
        have hφl := hφ bb
        refine hKo _ _ _ ?_; clear hKo Ko
        refine wl_o fun Ko hKo => ?_
        refine op_allocB 32 h Tryd.zeroValue35 rfl fun b10 w h => ?_
        refine hKo _ _ _ ?_; clear hKo Ko
        refine wl_o fun Ko hKo => ?_
        refine op_store_ball h rfl rfl (by exact hφl) len_of Tryd.sizeOf35 fun w h => ?_
        have h := h.nm
        refine hKo _ _ _ ?_; clear hKo Ko
        refine wl_nil ?_
        refine hK12 _ _ ?_
        clear hK12 K12
        refine cw_seq fun K13 hK13 => ?_
        refine cw_drawn0 h (by kernel_rfl) 5 rfl #[false, false, false, false, false] rfl ?_
        clear h; rintro w h
        refine dn_p 0 #[true, false, false, false, false] ⟨some 48, _, _, _, _, _⟩ rfl (fun w => r_slice_arr rfl Tryd.runUnderlying35 Tryd.sizeOf5 (by omega)) ?_
        refine dn_p 1 #[true, true, false, false, false] ⟨some 49, _, _, _, _, _⟩ rfl (fun w => r_fieldAddr (off := 1) rfl Tryd.runUnderlying37 rfl Tryd.sizeOf35 rfl rfl) ?_
        refine dn_p 2 #[true, true, true, false, false] ⟨some 50, _, _, _, _, _⟩ rfl (fun w => r_slice_arr rfl Tryd.runUnderlying35 Tryd.sizeOf5 (by omega)) ?_
        refine dn_o 3 #[true, true, true, true, false] ⟨some 51, _, _, _, _, _⟩ fun Ko hKo => ?_
        refine op_call [_, _] Tryd.call52 rfl (equal_ok h (Sl.all (t := φ bb) (by omega) hφl) (Sl.mkR (pre := [W r.at_]) rfl hr (by omega)) (by rw [hφl, hr]) (by omega)) ?_
        clear h; rintro _ w ⟨rfl, h⟩
        refine hKo _ _ _ (fun _ => trivial) ?_; clear hKo Ko
        refine dn_p 4 #[true, true, true, true, true] ⟨some 52, _, _, _, _, _⟩ rfl (fun w => r_not rfl) ?_
        refine dn_done (by kernel_rfl) ?_
        refine hK13 _ _ ?_
        clear hK13 K13
        refine wp_cond_split rfl (fun hc => ?_) (fun hc => ?_)
        · have hq := (show ¬ φ bb = r.sum from of_decide_eq_false (by simpa using hc)); clear hc
          refine cw_seq fun K14 hK14 => ?_
          refine cw_region ?_
          refine wl_p (r_assign rfl) ?_
          refine wl_p (r_assign rfl) ?_
          refine wl_nil ?_
          refine hK14 _ _ ?_
          clear hK14 K14
          refine wp_ret ?_
          refine (hQ _ _ _ (res_tmp2 rfl rfl rfl) ?_).1
          try simp only [List.getD_cons_zero, List.getD_cons_succ]
          rw [if_neg hq] at hg; rw [hg]
          exact ⟨_, [], rfl, OwnB.nil, h.tail.appTail.midTail⟩
        · have hq := (show φ bb = r.sum from of_decide_eq_true (by simpa using hc)); clear hc
          refine wp_skip ?_
          refine hK11 _ _ ?_
          clear hK11 K11
          refine cw_seq fun K15 hK15 => ?_
          refine cw_region ?_
          refine wl_p (r_move rfl) ?_
          refine wl_p (r_assign rfl) ?_
          refine wl_p (r_assign rfl) ?_
          refine wl_nil ?_
          refine hK15 _ _ ?_
          clear hK15 K15
          refine wp_ret ?_
          refine (hQ _ _ _ (res_tmp2 rfl rfl rfl) ?_).1
          try simp only [List.getD_cons_zero, List.getD_cons_succ]
          rw [if_pos hq] at hg; rw [hg]
          exact ⟨s38, L38, rfl, ho38, h.tail.midTail2⟩

set_option maxHeartbeats 1000000 in
set_option maxRecDepth 100000 in
theorem putpage_ok {E : Env} {w : World} {F : List (Nat × Obj)} {s x d c p : Nat} {tag : Bytes} {Ld : List (Nat × Obj)} {most : Nat} {seen safe : Bytes} {kk : Nat} (hD : DevB d most seen safe kk Ld) (h : Has E w (Ld ++ F)) [ms : Mem F s (bsR 68 [ptr d 0, i64 c, i64 p, ptr x 0] tag)] (hc1 : 1 ≤ c) (hc2 : c ≤ 64) (hp1 : 1 ≤ p) (hp2 : p ≤ 2) (n : BitVec 32) {sd : Value} {xs : Bytes} (hd : Sl F sd xs) [m0 : Mem F 0 (ws 157 rootsL)] (hm : most ≤ 16777216) (hsl : seen.length ≤ 16777216) (hkk : kk ≤ 1073741824) : Ret Tryd.prog 10 [ptr s 0, W n, sd] w fun v w' => v = .tuple #[aggV (refV (spRef (spPut most seen p n.toNat xs).1 p pageSum n xs)), i64 (((spPut most seen p n.toNat xs).1 : Nat) : Int)] ∧ ∃ Ld', DevB d most (spPut most seen p n.toNat xs).2 safe (kk + p) Ld' ∧ Has E w' (Ld' ++ F) := by
  have hrl := spRef_len (spPut most seen p n.toNat xs).1 p pageSum pageSum_len n xs
  refine ret_of_wp (l := [ptr s 0, W n, sd, undef, undef, undef, undef, undef, undef, undef, undef, undef, undef, undef, undef, undef, undef]) Tryd.func10 rfl (by simp only [Tryd.ntmps10, List.size_toArray, List.length_cons, List.length_nil, Nat.reduceAdd, Nat.reduceSub, Array.replicate_succ, Array.replicate_zero, List.push_toArray, List.append_toArray, List.nil_append, List.cons_append]) fun Q hQ => ?_
  refine cw_seq fun K1 hK1 => ?_
  refine cw_region ?_
  refine wl_o fun Ko hKo => ?_
  refine op_alloc (cs := refV rfZ) h Tryd.zeroValue37 rfl fun b6 w h => ?_
  refine hKo _ _ _ ?_; clear hKo Ko
  refine wl_p (r_assign rfl) ?_
  refine wl_nil ?_
  refine hK1 _ _ ?_
  clear hK1 K1
  refine cw_seq fun K2 hK2 => ?_
  refine cw_seq fun K3 hK3 => ?_
  refine cw_region ?_
  refine wl_p (r_move rfl) ?_
  refine wl_p (r_eql_nilptr rfl rfl Tryd.runUnderlying30) ?_
  refine wl_nil ?_
  refine hK3 _ _ ?_
  clear hK3 K3
  refine wp_cond_false rfl ?_
  refine wp_skip ?_
  refine hK2 _ _ ?_
  clear hK2 K2
  refine cw_seq fun K4 hK4 => ?_
  refine cw_region ?_
  refine wl_p (r_move rfl) ?_
  refine wl_p (r_move rfl) ?_
  refine wl_p (r_move rfl) ?_
  have h := Has.swapApp (A := [_]) (B := Ld) h
  simp only [List.cons_append, List.nil_append] at h
  refine wl_o fun Ko hKo => ?_
  refine op_call [_, _, _, _] Tryd.call26 rfl (spput_ok hD h hc1 hc2 hp1 hp2 n hd.cons (caps := []) pageSum pageSum_len Tryd.call18 (fun hL h _ _ hd hx => by haveI i0 : Mem _ 0 (ws 157 rootsL) := ⟨hL _ Mem.mem⟩; exact pagesum_ok h hd hx) hm hsl hkk) ?_
  clear h; rintro _ w ⟨rfl, Ld2, hD2, h⟩
  refine hKo _ _ _ ?_; clear hKo Ko
  refine wl_p (r_extract rfl rfl) ?_
  refine wl_p (r_extract rfl rfl) ?_
  refine wl_o fun Ko hKo => ?_
  refine op_store_all (cs := refV (spRef (spPut most seen p n.toNat xs).1 p pageSum n xs)) h rfl rfl (fun v hv => by rcases List.mem_cons.1 hv with rfl | hv; rfl; exact oneB v hv) (by first | rfl | (rw [refV_len _ hrl]; rfl)) (by intro w; rw [refV_len _ hrl]; exact Tryd.sizeOf37 w) fun w h => ?_
  simp only [List.set_cons_zero, List.set_cons_succ, set_app, set_app0] at h
  refine hKo _ _ _ ?_; clear hKo Ko
  refine wl_p (r_assign rfl) ?_
  refine wl_nil ?_
  refine hK4 _ _ ?_
  clear hK4 K4
  refine wp_ret ?_
  refine (hQ _ _ _ (res_cell2 h rfl rfl (by simp only [List.size_toArray]; exact refV_len _ hrl) Tryd.isAgg37 Tryd.sizeOf37 rfl) ?_).1
  exact ⟨rfl, Ld2, hD2, h.midTail⟩

set_option maxHeartbeats 1000000 in
set_option maxRecDepth 100000 in
theorem putnode_ok {E : Env} {w : World} {F : List (Nat × Obj)} {s x d c p : Nat} {tag : Bytes} {Ld : List (Nat × Obj)} {most : Nat} {seen safe : Bytes} {kk : Nat} (hD : DevB d most seen safe kk Ld) (h : Has E w (Ld ++ F)) [ms : Mem F s (bsR 68 [ptr d 0, i64 c, i64 p, ptr x 0] tag)] (hc1 : 1 ≤ c) (hc2 : c ≤ 64) (hp1 : 1 ≤ p) (hp2 : p ≤ 2) (n : BitVec 32) (nd : List Rf) (hs : sums nd) (hn : nd.length = 8) [m0 : Mem F 0 (ws 157 rootsL)] (hm : most ≤ 16777216) (hsl : seen.length ≤ 16777216) (hkk : kk ≤ 1073741824) : Ret Tryd.prog 11 [ptr s 0, W n, aggV (nodeV nd)] w fun v w' => v = .tuple #[aggV (refV (spRef (spPut most seen p n.toNat (putNode nd)).1 p nodeSum n (putNode nd))), i64 (((spPut most seen p n.toNat (putNode nd)).1 : Nat) : Int)] ∧ ∃ Ld', DevB d most (spPut most seen p n.toNat (putNode nd)).2 safe (kk + p) Ld' ∧ Has E w' (Ld' ++ F) := by
  have hrl := spRef_len (spPut most seen p n.toNat (putNode nd)).1 p nodeSum nodeSum_len n (putNode nd)
  have hnl : (nodeV nd).length = 264 := by rw [nodeV_len nd hs, hn]
  refine ret_of_wp (l := [ptr s 0, W n, aggV (nodeV nd), undef, undef, undef, undef, undef, undef, undef, undef, undef, undef, undef, undef, undef, undef, undef]) Tryd.func11 rfl (by simp only [Tryd.ntmps11, List.size_toArray, List.length_cons, List.length_nil, Nat.reduceAdd, Nat.reduceSub, Array.replicate_succ, Array.replicate_zero, List.push_toArray, List.append_toArray, List.nil_append, List.cons_append]) fun Q hQ => ?_
  refine cw_seq fun K1 hK1 => ?_
  refine cw_region ?_
  refine wl_o fun Ko hKo => ?_
  refine op_box h rfl (show Value.cells (aggV (nodeV nd)) = (nodeV nd).toArray from rfl) fun b5 w h => ?_
  refine hKo _ _ _ ?_; clear hKo Ko
  refine wl_o fun Ko hKo => ?_
  refine op_alloc (cs := refV rfZ) h Tryd.zeroValue37 rfl fun b6 w h => ?_
  refine hKo _ _ _ ?_; clear hKo Ko
  refine wl_p (r_assign rfl) ?_
  refine wl_nil ?_
  refine hK1 _ _ ?_
  clear hK1 K1
  refine cw_seq fun K2 hK2 => ?_
  refine cw_seq fun K3 hK3 => ?_
  refine cw_region ?_
  refine wl_p (r_move rfl) ?_
  refine wl_p (r_eql_nilptr rfl rfl Tryd.runUnderlying30) ?_
  refine wl_nil ?_
  refine hK3 _ _ ?_
  clear hK3 K3
  refine wp_cond_false rfl ?_
  refine wp_skip ?_
  refine hK2 _ _ ?_
  clear hK2 K2
  refine cw_seq fun K4 hK4 => ?_
  refine cw_region ?_
  refine wl_p (r_move rfl) ?_
  refine wl_p (r_move rfl) ?_
  refine wl_p (r_load_all h rfl (by simp [hnl]) Tryd.isAgg43 Tryd.sizeOf43) ?_
  refine wl_o fun Ko hKo => ?_
  refine op_call [_] Tryd.call27 rfl (nodeput_ok h nd hs hn) ?_
  clear h; rintro s14 w ⟨L14, ho14, h⟩
  have h := Has.swapApp (A := L14 ++ [_, _]) (B := Ld) (R := F) (by simpa only [List.append_assoc, List.cons_append, List.nil_append] using h)
  simp only [List.append_assoc, List.cons_append, List.nil_append] at h
  refine hKo _ _ _ ?_; clear hKo Ko
  refine wl_o fun Ko hKo => ?_
  refine op_call [_, _, _, _] Tryd.call26 rfl (spput_ok hD h hc1 hc2 hp1 hp2 n (ho14.sl _) (caps := []) nodeSum nodeSum_len Tryd.call19 (fun hL h _ _ hd hx => by haveI i0 : Mem _ 0 (ws 157 rootsL) := ⟨hL _ Mem.mem⟩; exact nodesum_ok h hd hx) hm hsl hkk) ?_
  clear h; rintro _ w ⟨rfl, Ld2, hD2, h⟩
  refine hKo _ _ _ ?_; clear hKo Ko
  refine wl_p (r_extract rfl rfl) ?_
  refine wl_p (r_extract rfl rfl) ?_
  refine wl_o fun Ko hKo => ?_
  refine op_store_all (cs := refV (spRef (spPut most seen p n.toNat (putNode nd)).1 p nodeSum n (putNode nd))) h rfl rfl (fun v hv => by rcases List.mem_cons.1 hv with rfl | hv; rfl; exact oneB v hv) (by first | rfl | (rw [refV_len _ hrl]; rfl)) (by intro w; rw [refV_len _ hrl]; exact Tryd.sizeOf37 w) fun w h => ?_
  simp only [List.set_cons_zero, List.set_cons_succ, set_app, set_app0] at h
  refine hKo _ _ _ ?_; clear hKo Ko
  refine wl_p (r_assign rfl) ?_
  refine wl_nil ?_
  refine hK4 _ _ ?_
  clear hK4 K4
  refine wp_ret ?_
  refine (hQ _ _ _ (res_cell2 h rfl rfl (by simp only [List.size_toArray]; exact refV_len _ hrl) Tryd.isAgg37 Tryd.sizeOf37 rfl) ?_).1
  exact ⟨rfl, Ld2, hD2, (h.midApp).midTail.midTail⟩

theorem over_length (f : Bytes → Bytes) (hf : ∀ x : Bytes, x.length = 16 → (f x).length = 16) (keys : Bytes) (sector : BitVec 64) (data : Bytes) {N : Nat} (hn : data.length = 512 * N) : (over f keys sector data).length = data.length := by
  have := over_len f hf keys sector data N (by omega)
  rw [over, hn, Nat.mul_div_cancel_left _ (by decide), this]

set_option maxHeartbeats 2000000 in
set_option maxRecDepth 100000 in
theorem putdata_ok {E : Env} {w : World} {F : List (Nat × Obj)} {s x d c p : Nat} {tag : Bytes} {Ld : List (Nat × Obj)} {most : Nat} {seen safe : Bytes} {kk : Nat} (hD : DevB d most seen safe kk Ld) (h : Has E w (Ld ++ F)) [ms : Mem F s (bsR 68 [ptr d 0, i64 c, i64 p, ptr x 0] tag)] (hc1 : 1 ≤ c) (hc2 : c ≤ 64) (hp1 : 1 ≤ p) (hp2 : p ≤ 2) {c1 c2 : Nat} {keys gk : Bytes} [mx : Mem F x (vs 86 [ptr c1 0, ptr c2 0])] [mk : Mem F c2 (bs 117 keys)] (hk : keys.length = 240) [mg : Mem F c1 (bs 117 gk)] (hg : gk.length = 240) (ht : tag.length = 32) (n : BitVec 32) {sd : Value} {xs : Bytes} (hd : Sl F sd xs) [m0 : Mem F 0 (ws 157 rootsL)] (hm : most ≤ 16777216) (hsl : seen.length ≤ 16777216) (hkk : kk ≤ 1073741824) : Ret Tryd.prog 12 [ptr s 0, W n, sd] w fun v w' => v = .tuple #[aggV (refV (spRef (spPutD most seen p n.toNat gk keys xs).1 p (leafSum tag (n + 1#32)) n (over (encrypt gk) keys (BitVec.ofNat 64 (8 + n.toNat * p)) xs))), i64 (((spPutD most seen p n.toNat gk keys xs).1 : Nat) : Int)] ∧ ∃ Ld', DevB d most (spPutD most seen p n.toNat gk keys xs).2 safe (kk + p) Ld' ∧ Has E w' (Ld' ++ F) := by
  have hφ : ∀ ys, (leafSum tag (n + 1#32) ys).length = 32 := leafSum_len _ _
  have hrl := spRef_len (spPutD most seen p n.toNat gk keys xs).1 p (leafSum tag (n + 1#32)) hφ n (over (encrypt gk) keys (BitVec.ofNat 64 (8 + n.toNat * p)) xs)
  refine ret_of_wp (l := [ptr s 0, W n, sd, undef, undef, undef, undef, undef, undef, undef, undef, undef, undef, undef, undef, undef, undef, undef, undef, undef, undef, undef, undef, undef, undef, undef, undef, undef, undef, undef, undef, undef, undef, undef, undef, undef, undef, undef, undef, undef, undef, undef, undef, undef, undef, undef, undef, undef, undef, undef, undef]) Tryd.func12 rfl (by simp only [Tryd.ntmps12, List.size_toArray, List.length_cons, List.length_nil, Nat.reduceAdd, Nat.reduceSub, Array.replicate_succ, Array.replicate_zero, List.push_toArray, List.append_toArray, List.nil_append, List.cons_append]) fun Q hQ => ?_
  refine cw_seq fun K1 hK1 => ?_
  refine cw_region ?_
  refine wl_o fun Ko hKo => ?_
  refine op_alloc (cs := refV rfZ) h Tryd.zeroValue37 rfl fun b6 w h => ?_
  refine hKo _ _ _ ?_; clear hKo Ko
  refine wl_p (r_assign rfl) ?_
  refine wl_nil ?_
  refine hK1 _ _ ?_
  clear hK1 K1
  refine cw_seq fun K2 hK2 => ?_
  refine wp_block ?_
  refine cw_seq fun K3 hK3 => ?_
  refine cw_region ?_
  refine wl_p (r_move rfl) ?_
  refine wl_p (r_eql_nilptr rfl rfl Tryd.runUnderlying30) ?_
  refine wl_p (r_assign rfl) ?_
  refine wl_nil ?_
  refine hK3 _ _ ?_
  clear hK3 K3
  refine wp_cond_false rfl ?_
  refine cw_seq fun K4 hK4 => ?_
  by_cases hn : 65535 < n.toNat
  · skip
    refine cw_region ?_
    refine wl_p (r_move rfl) ?_
    refine wl_p (r_gtr_t   rfl rfl (by omega)) ?_
    refine wl_p (r_move rfl) ?_
    refine wl_s ?_
    refine wl_s ?_
    refine wl_s ?_
    refine wl_s ?_
    refine wl_s ?_
    refine wl_p (r_pick rfl rfl) ?_
    refine wl_p (r_assign rfl) ?_
    refine wl_nil ?_
    refine hK4 _ _ ?_
    clear hK4 K4
    refine wp_cond_true rfl ?_
    refine cw_seq fun K5 hK5 => ?_
    refine cw_region ?_
    refine wl_p (r_buildP (ps := []) (cs := refV rfZ) (pl := [(0, 1), (1, 32)]) (z := refV rfZ) rfl (by kernel_rfl) rfl) ?_
    refine wl_o fun Ko hKo => ?_
    refine op_store_all (cs := refV (rfZ)) h rfl rfl (fun v hv => by rcases List.mem_cons.1 hv with rfl | hv; rfl; exact oneB v hv) (by first | rfl | (rw [refV_len _ (show rfZ.sum.length = 32 from rfl)]; rfl)) (by intro w; rw [refV_len _ (show rfZ.sum.length = 32 from rfl)]; exact Tryd.sizeOf37 w) fun w h => ?_
    simp only [List.set_cons_zero, List.set_cons_succ, set_app, set_app0] at h
    refine hKo _ _ _ ?_; clear hKo Ko
    refine wl_p (r_assign rfl) ?_
    refine wl_nil ?_
    refine hK5 _ _ ?_
    clear hK5 K5
    refine wp_ret ?_
    refine (hQ _ _ _ (res_cell2 h rfl rfl (by simp only [List.size_toArray]; first | exact refV_len _ hrl | exact refV_len rfZ rfl) Tryd.isAgg37 Tryd.sizeOf37 rfl) ?_).1
    have e : spPutD most seen p n.toNat gk keys xs = (2, seen) := by unfold spPutD; rw [if_pos (Or.inl hn)]
    rw [e]
    exact ⟨rfl, Ld, hD.mono (by omega), h.tail⟩
  · skip
    refine cw_region ?_
    refine wl_p (r_move rfl) ?_
    refine wl_p (r_gtr_f   rfl rfl (by omega)) ?_
    refine wl_p (r_move rfl) ?_
    refine wl_pw (r_move rfl) ?_
    refine wl_pw (r_len_sl rfl hd Tryd.runUnderlying25) ?_
    refine wl_pw (r_move rfl) ?_
    refine wl_w fun Ko hKo => ?_
    refine op_call [_] Tryd.call28 rfl (size_ok h hp2) ?_
    clear h; rintro _ w ⟨rfl, h⟩
    refine hKo _ _ _ ?_; clear hKo Ko
    refine wl_pw (r_neq   rfl rfl) ?_
    refine wl_p (r_pick_f rfl rfl) ?_
    refine wl_p (r_assign rfl) ?_
    refine wl_nil ?_
    refine hK4 _ _ ?_
    clear hK4 K4
    refine wp_cond_split rfl (fun hc => ?_) (fun hc => ?_)
    · have hlen := of_decide_eq_true hc; clear hc
      have hlen : xs.length ≠ 512 * p := by omega
      refine cw_seq fun K6 hK6 => ?_
      refine cw_region ?_
      refine wl_p (r_buildP (ps := []) (cs := refV rfZ) (pl := [(0, 1), (1, 32)]) (z := refV rfZ) rfl (by kernel_rfl) rfl) ?_
      refine wl_o fun Ko hKo => ?_
      refine op_store_all (cs := refV (rfZ)) h rfl rfl (fun v hv => by rcases List.mem_cons.1 hv with rfl | hv; rfl; exact oneB v hv) (by first | rfl | (rw [refV_len _ (show rfZ.sum.length = 32 from rfl)]; rfl)) (by intro w; rw [refV_len _ (show rfZ.sum.length = 32 from rfl)]; exact Tryd.sizeOf37 w) fun w h => ?_
      simp only [List.set_cons_zero, List.set_cons_succ, set_app, set_app0] at h
      refine hKo _ _ _ ?_; clear hKo Ko
      refine wl_p (r_assign rfl) ?_
      refine wl_nil ?_
      refine hK6 _ _ ?_
      clear hK6 K6
      refine wp_ret ?_
      refine (hQ _ _ _ (res_cell2 h rfl rfl (by simp only [List.size_toArray]; first | exact refV_len _ hrl | exact refV_len rfZ rfl) Tryd.isAgg37 Tryd.sizeOf37 rfl) ?_).1
      have e : spPutD most seen p n.toNat gk keys xs = (2, seen) := by unfold spPutD; rw [if_pos (Or.inr hlen)]
      rw [e]
      exact ⟨rfl, Ld, hD.mono (by omega), h.tail⟩
    · have hlen := of_decide_eq_false hc; clear hc
      have hlen : xs.length = 512 * p := by omega
      have hcl := over_length (encrypt gk) (fun x hx => encrypt_len gk x hx) keys (BitVec.ofNat 64 (8 + n.toNat * p)) xs hlen
      obtain ⟨cx, hcx⟩ : ∃ cx, cx = (over (encrypt gk) keys (BitVec.ofNat 64 (8 + n.toNat * p)) xs) := ⟨_, rfl⟩
      rw [← hcx] at hrl hcl
      have hsp : spPutD most seen p n.toNat gk keys xs = spPut most seen p n.toNat cx := by unfold spPutD; rw [if_neg (by intro q; rcases q with q | q; exact hn q; exact q hlen), ← hcx]
      rw [hsp] at hrl
      refine wp_skip ?_
      refine hK2 _ _ ?_
      clear hK2 K2
      refine cw_seq fun K7 hK7 => ?_
      refine cw_drawnH h ((h.only s)) (fun i => false) (by kernel_rfl) 14 rfl #[false, false, false, false, false, false, false, false, false, false, false, false, false, false] rfl ?_
      clear h; rintro w h hS
      refine dn_p 0 #[true, false, false, false, false, false, false, false, false, false, false, false, false, false] ⟨some 26, _, _, _, _, _⟩ rfl (fun w => r_move rfl) ?_
      refine dn_p 1 #[true, true, false, false, false, false, false, false, false, false, false, false, false, false] ⟨some 27, _, _, _, _, _⟩ rfl (fun w => r_nilCheck rfl) ?_
      refine dn_p 2 #[true, true, true, false, false, false, false, false, false, false, false, false, false, false] ⟨some 28, _, _, _, _, _⟩ rfl (fun w => r_fieldAddr (off := 3) rfl Tryd.runUnderlying68 rfl Tryd.sizeOf64 rfl rfl) ?_
      refine dn_l 3 #[true, true, true, true, false, false, false, false, false, false, false, false, false, false] ⟨some 29, _, _, _, _, _⟩ rfl hS (fun w hS => r_load_pre hS rfl rfl Tryd.isAgg64) ?_
      refine dn_p 4 #[true, true, true, true, true, false, false, false, false, false, false, false, false, false] ⟨some 30, _, _, _, _, _⟩ rfl (fun w => r_move rfl) ?_
      refine dn_p 5 #[true, true, true, true, true, true, false, false, false, false, false, false, false, false] ⟨some 31, _, _, _, _, _⟩ rfl (fun w => r_move rfl) ?_
      refine dn_p 7 #[true, true, true, true, true, true, false, true, false, false, false, false, false, false] ⟨some 33, _, _, _, _, _⟩ rfl (fun w => r_move rfl) ?_
      refine dn_o 6 #[true, true, true, true, true, true, true, true, false, false, false, false, false, false] ⟨some 32, _, _, _, _, _⟩ fun Ko hKo => ?_
      refine op_call [_, _] Tryd.call30 rfl (sector_ok h hc1 hc2 hp1 hp2 n (by omega)) ?_
      clear h; rintro _ w ⟨rfl, h⟩
      refine hKo _ _ _ (fun _ => (h.only s)) ?_; clear hKo Ko
      refine dn_o 8 #[true, true, true, true, true, true, true, true, true, false, false, false, false, false] ⟨some 34, _, _, _, _, _⟩ fun Ko hKo => ?_
      refine op_call [_, _, _] Tryd.call29 rfl (seal_ok h (c1 := c1) (c2 := c2) (keys := keys) (gk := gk) hk hg (BitVec.ofNat 64 (8 + n.toNat * p)) (Rd.cons (Rd.app _ hd)) hlen (by omega)) ?_
      clear h; rintro _ w ⟨s34, L34, rfl, ho34, h⟩
      rw [← hcx] at ho34
      have h34 := (OwnS.rd0 ho34).one
      refine hKo _ _ _ (fun _ => (h.only s)) ?_; clear hKo Ko
      refine dn_p 9 #[true, true, true, true, true, true, true, true, true, true, false, false, false, false] ⟨some 25, _, _, _, _, _⟩ rfl (fun w => r_move rfl) ?_
      refine dn_p 10 #[true, true, true, true, true, true, true, true, true, true, true, false, false, false] ⟨some 35, _, _, _, _, _⟩ rfl (fun w => r_extract rfl rfl) ?_
      refine dn_p 11 #[true, true, true, true, true, true, true, true, true, true, true, true, false, false] ⟨some 36, _, _, _, _, _⟩ rfl (fun w => r_extract rfl rfl) ?_
      refine dn_p 12 #[true, true, true, true, true, true, true, true, true, true, true, true, true, false] ⟨some 8, _, _, _, _, _⟩ rfl (fun w => r_assign rfl) ?_
      refine dn_p 13 #[true, true, true, true, true, true, true, true, true, true, true, true, true, true] ⟨some 9, _, _, _, _, _⟩ rfl (fun w => r_assign rfl) ?_
      refine dn_done (by kernel_rfl) ?_
      refine hK7 _ _ ?_
      clear hK7 K7
      refine cw_seq fun K8 hK8 => ?_
      refine cw_seq fun K9 hK9 => ?_
      refine cw_region ?_
      refine wl_p (r_move rfl) ?_
      refine wl_p (r_neq_f  (n := 0) rfl rfl (by first | assumption | omega | (exact side_of) | (simp; done))) ?_
      refine wl_nil ?_
      refine hK9 _ _ ?_
      clear hK9 K9
      refine wp_cond_false rfl ?_
      refine wp_skip ?_
      refine hK8 _ _ ?_
      clear hK8 K8
      refine cw_seq fun K10 hK10 => ?_
      refine cw_region ?_
      refine wl_p (r_move rfl) ?_
      refine wl_p (r_move rfl) ?_
      refine wl_p (r_move rfl) ?_
      refine wl_p (r_move rfl) ?_
      refine wl_p (r_move rfl) ?_
      refine wl_p (r_add_W  (q := 1#32) rfl rfl) ?_
      refine wl_o fun Ko hKo => ?_
      refine op_call [_, _] Tryd.call31 rfl (leaf_ok h (n + 1#32)) ?_
      clear h; rintro _ w ⟨q2, q3, rfl, h⟩
      have h := Has.swapApp (A := [_, _] ++ (L34 ++ [_])) (B := Ld) (R := F) (by simpa only [List.append_assoc, List.cons_append, List.nil_append] using h)
      simp only [List.append_assoc, List.cons_append, List.nil_append] at h
      refine hKo _ _ _ ?_; clear hKo Ko
      refine wl_o fun Ko hKo => ?_
      refine op_call [_, _, _, _] Tryd.call26 rfl (spput_ok hD h hc1 hc2 hp1 hp2 n (Rd.cons (Rd.cons (ho34.sl _))) (caps := [ptr q2 0, ptr q3 0]) (leafSum tag (n + 1#32)) hφ Tryd.call50 (fun hL h _ _ hd hx => by haveI i0 : Mem _ 0 (ws 157 rootsL) := ⟨hL _ Mem.mem⟩; haveI i1 : Mem _ s (bsR 68 [ptr d 0, i64 c, i64 p, ptr x 0] tag) := ⟨hL _ (Mem.mem (o := bsR 68 [ptr d 0, i64 c, i64 p, ptr x 0] tag))⟩; haveI i2 : Mem _ q3 (vs 34 [W (n + 1#32)]) := ⟨hL _ Mem.mem⟩; haveI i3 : Mem _ q2 (vs 30 [ptr s 0]) := ⟨hL _ Mem.mem⟩; exact leaf1_ok h ht hd hx) hm hsl hkk) ?_
      clear h; rintro _ w ⟨rfl, Ld2, hD2, h⟩
      refine hKo _ _ _ ?_; clear hKo Ko
      refine wl_p (r_extract rfl rfl) ?_
      refine wl_p (r_extract rfl rfl) ?_
      refine wl_o fun Ko hKo => ?_
      refine op_store_all (cs := refV (spRef (spPut most seen p n.toNat cx).1 p (leafSum tag (n + 1#32)) n cx)) h rfl rfl (fun v hv => by rcases List.mem_cons.1 hv with rfl | hv; rfl; exact oneB v hv) (by first | rfl | (rw [refV_len _ hrl]; rfl)) (by intro w; rw [refV_len _ hrl]; exact Tryd.sizeOf37 w) fun w h => ?_
      simp only [List.set_cons_zero, List.set_cons_succ, set_app, set_app0] at h
      refine hKo _ _ _ ?_; clear hKo Ko
      refine wl_p (r_assign rfl) ?_
      refine wl_nil ?_
      refine hK10 _ _ ?_
      clear hK10 K10
      refine wp_ret ?_
      refine (hQ _ _ _ (res_cell2 h rfl rfl (by simp only [List.size_toArray]; first | exact refV_len _ hrl | exact refV_len rfZ rfl) Tryd.isAgg37 Tryd.sizeOf37 rfl) ?_).1
      rw [hsp, ← hcx]
      exact ⟨rfl, Ld2, hD2, h.midTail.midTail.midApp.midTail⟩

end Go.Proofs.YtjdfenlmifhhdaaDoor
