/-
  Walks, printed by mk.py (a program of this work) out of specs19.py: what the Go functions compute, and that nobody else's memory turns. Condition: none.
-/
import Derived.Test.YtjdfenlmifhhdaaDoorProg
import Derived.Test.YtjdfenlmifhhdaaDoorAuto
import Derived.Test.YtjdfenlmifhhdaaDoorSpc2
namespace Go.Proofs.YtjdfenlmifhhdaaDoor
open Go.RowKit

attribute [local irreducible] layZ padTo sha hmac leafSum nodeSum pageSum superSum label schedule over encrypt decrypt nodeV putNode be beNum isNought spGet
set_option maxHeartbeats 1000000 in
set_option maxRecDepth 100000 in
theorem page_ok {E : Env} {w : World} {F : List (Nat × Obj)} {s x d c p : Nat} {tag : Bytes} {Ld : List (Nat × Obj)} {most : Nat} {seen safe : Bytes} {kk : Nat} (hD : DevB d most seen safe kk Ld) (h : Has E w (Ld ++ F)) [ms : Mem F s (bsR 68 [ptr d 0, i64 c, i64 p, ptr x 0] tag)] (hc1 : 1 ≤ c) (hc2 : c ≤ 64) (hp1 : 1 ≤ p) (hp2 : p ≤ 2) (r : Rf) (hr : r.sum.length = 32) [m0 : Mem F 0 (ws 157 rootsL)] (hsl : seen.length ≤ 16777216) : Ret Tryd.prog 15 [ptr s 0, aggV (refV r)] w fun v w' => ∃ so Ls, v = .tuple #[so, i64 (((spGet seen p pageSum r).1 : Nat) : Int)] ∧ OwnB 5 so (spGet seen p pageSum r).2 Ls ∧ Has E w' (Ls ++ (Ld ++ F)) := by
  refine ret_of_wp (l := [ptr s 0, aggV (refV r), undef, undef, undef, undef, undef, undef, undef, undef, undef]) Tryd.func15 rfl (by simp only [Tryd.ntmps15, List.size_toArray, List.length_cons, List.length_nil, Nat.reduceAdd, Nat.reduceSub, Array.replicate_succ, Array.replicate_zero, List.push_toArray, List.append_toArray, List.nil_append, List.cons_append]) fun Q hQ => ?_
  refine cw_seq fun K1 hK1 => ?_
  refine cw_region ?_
  refine wl_o fun Ko hKo => ?_
  refine op_box h rfl (show Value.cells (aggV (refV r)) = (refV r).toArray from rfl) fun b3 w h => ?_
  refine hKo _ _ _ ?_; clear hKo Ko
  refine wl_p (r_assign rfl) ?_
  refine wl_p (r_assign rfl) ?_
  refine wl_nil ?_
  refine hK1 _ _ ?_
  clear hK1 K1
  refine cw_seq fun K2 hK2 => ?_
  refine cw_region ?_
  refine wl_p (r_move rfl) ?_
  refine wl_p (r_load_all h rfl (by simp [refV, hr]) Tryd.isAgg37 Tryd.sizeOf37) ?_
  have h := Has.swapApp (A := [_]) (B := Ld) h
  simp only [List.cons_append, List.nil_append] at h
  refine wl_o fun Ko hKo => ?_
  refine op_call [_, _, _] Tryd.call32 rfl (spget_ok hD h hc1 hc2 hp1 hp2 r hr (caps := []) pageSum pageSum_len Tryd.call18 (fun hL h _ _ hd hx => by haveI i0 : Mem _ 0 (ws 157 rootsL) := ⟨hL _ Mem.mem⟩; exact pagesum_ok h hd hx) hsl) ?_
  clear h; rintro _ w ⟨so, Ls, rfl, ho, h⟩
  refine hKo _ _ _ ?_; clear hKo Ko
  refine wl_p (r_extract rfl rfl) ?_
  refine wl_p (r_extract rfl rfl) ?_
  refine wl_p (r_assign rfl) ?_
  refine wl_p (r_assign rfl) ?_
  refine wl_nil ?_
  refine hK2 _ _ ?_
  clear hK2 K2
  refine wp_ret ?_
  refine (hQ _ _ _ (res_tmp2 rfl rfl rfl) ?_).1
  try simp only [List.getD_cons_zero, List.getD_cons_succ]
  exact ⟨so, Ls, rfl, ho, h.midTail2⟩

set_option maxHeartbeats 2000000 in
set_option maxRecDepth 100000 in
theorem data_ok {E : Env} {w : World} {F : List (Nat × Obj)} {s x d c p : Nat} {tag : Bytes} {Ld : List (Nat × Obj)} {most : Nat} {seen safe : Bytes} {kk : Nat} (hD : DevB d most seen safe kk Ld) (h : Has E w (Ld ++ F)) [ms : Mem F s (bsR 68 [ptr d 0, i64 c, i64 p, ptr x 0] tag)] (hc1 : 1 ≤ c) (hc2 : c ≤ 64) (hp1 : 1 ≤ p) (hp2 : p ≤ 2) {c1 c2 : Nat} {keys gk : Bytes} [mx : Mem F x (vs 86 [ptr c1 0, ptr c2 0])] [mk : Mem F c2 (bs 117 keys)] (hk : keys.length = 240) [mg : Mem F c1 (bs 117 gk)] (hg : gk.length = 240) (ht : tag.length = 32) (r : Rf) (hr : r.sum.length = 32) [m0 : Mem F 0 (ws 157 rootsL)] (hsl : seen.length ≤ 16777216) : Ret Tryd.prog 14 [ptr s 0, aggV (refV r)] w fun v w' => ∃ so Ls, v = .tuple #[so, i64 (((spGetD seen p tag gk keys r).1 : Nat) : Int)] ∧ OwnB 5 so (spGetD seen p tag gk keys r).2 Ls ∧ Has E w' (Ls ++ (Ld ++ F)) := by
  refine ret_of_wp (l := [ptr s 0, aggV (refV r), undef, undef, undef, undef, undef, undef, undef, undef, undef, undef, undef, undef, undef, undef, undef, undef, undef, undef, undef, undef, undef, undef, undef, undef, undef, undef, undef, undef, undef, undef, undef, undef, undef, undef]) Tryd.func14 rfl (by simp only [Tryd.ntmps14, List.size_toArray, List.length_cons, List.length_nil, Nat.reduceAdd, Nat.reduceSub, Array.replicate_succ, Array.replicate_zero, List.push_toArray, List.append_toArray, List.nil_append, List.cons_append]) fun Q hQ => ?_
  refine cw_seq fun K1 hK1 => ?_
  refine cw_region ?_
  refine wl_o fun Ko hKo => ?_
  refine op_box h rfl (show Value.cells (aggV (refV r)) = (refV r).toArray from rfl) fun b3 w h => ?_
  refine hKo _ _ _ ?_; clear hKo Ko
  have h : Has E w ((b3, bsR 37 [W r.at_] r.sum) :: _) := h
  refine wl_p (r_assign rfl) ?_
  refine wl_p (r_assign rfl) ?_
  refine wl_nil ?_
  refine hK1 _ _ ?_
  clear hK1 K1
  refine cw_seq fun K2 hK2 => ?_
  refine cw_seq fun K3 hK3 => ?_
  refine cw_region ?_
  refine wl_p (r_move rfl) ?_
  refine wl_p (r_eql_nilptr rfl rfl Tryd.runUnderlying30) ?_
  refine wl_nil ?_
  refine hK3 _ _ ?_
  clear hK3 K3
  refine wp_cond_false rfl ?_
  refine wp_skip ?_
  refine hK2 _ _ ?_
  clear hK2 K2
  refine cw_seq fun K4 hK4 => ?_
  have hS3 : ∀ {w : World} {A2 : List (Nat × Obj)} {y z : Nat × Obj}, Has E w (A2 ++ (Ld ++ (y :: z :: (b3, bsR 37 [W r.at_] r.sum) :: F))) → Has E w ((b3, bsR 37 [W r.at_] r.sum) :: (Ld ++ F)) := fun {w A2 y z} h => (Has.swapApp (A := Ld) (B := [_]) (R := F) (h.appTail.sub (List.Sublist.append_left ((List.sublist_cons_self _ _).trans (List.sublist_cons_self _ _)) _)))
  refine cw_drawnH h (h) (fun i => false) (by kernel_rfl) 12 rfl #[false, false, false, false, false, false, false, false, false, false, false, false] rfl ?_
  clear h; rintro w h hS
  refine dn_p 0 #[true, false, false, false, false, false, false, false, false, false, false, false] ⟨some 11, _, _, _, _, _⟩ rfl (fun w => r_move rfl) ?_
  refine dn_l 1 #[true, true, false, false, false, false, false, false, false, false, false, false] ⟨some 12, _, _, _, _, _⟩ rfl hS (fun w hS => r_load_all hS rfl (by simp [hr]) Tryd.isAgg37 Tryd.sizeOf37) ?_
  refine dn_p 2 #[true, true, true, false, false, false, false, false, false, false, false, false] ⟨some 13, _, _, _, _, _⟩ rfl (fun w => r_move rfl) ?_
  refine dn_p 3 #[true, true, true, true, false, false, false, false, false, false, false, false] ⟨some 14, _, _, _, _, _⟩ rfl (fun w => r_fieldAddr (off := 0) rfl Tryd.runUnderlying37 rfl Tryd.sizeOf34 rfl rfl) ?_
  refine dn_l 4 #[true, true, true, true, true, false, false, false, false, false, false, false] ⟨some 15, _, _, _, _, _⟩ rfl hS (fun w hS => r_load_pre hS rfl rfl Tryd.isAgg34) ?_
  refine dn_o 5 #[true, true, true, true, true, true, false, false, false, false, false, false] ⟨some 16, _, _, _, _, _⟩ fun Ko hKo => ?_
  refine op_call [_, _] Tryd.call31 rfl (leaf_ok h r.at_) ?_
  clear h; rintro _ w ⟨q2, q3, rfl, h⟩
  refine hKo _ _ _ (fun _ => h.tail.tail) ?_; clear hKo Ko
  have h := Has.swapApp (A := [_, _, _]) (B := Ld) h
  simp only [List.cons_append, List.nil_append] at h
  have hφ : ∀ ys, (leafSum tag r.at_ ys).length = 32 := leafSum_len _ _
  refine dn_o 6 #[true, true, true, true, true, true, true, false, false, false, false, false] ⟨some 17, _, _, _, _, _⟩ fun Ko hKo => ?_
  refine op_call [_, _, _] Tryd.call32 rfl (spget_ok hD h hc1 hc2 hp1 hp2 r hr (caps := [ptr q2 0, ptr q3 0]) (leafSum tag r.at_) hφ Tryd.call50 (fun hL h _ _ hd hx => by haveI i0 : Mem _ 0 (ws 157 rootsL) := ⟨hL _ Mem.mem⟩; haveI i1 : Mem _ s (bsR 68 [ptr d 0, i64 c, i64 p, ptr x 0] tag) := ⟨hL _ (Mem.mem (o := bsR 68 [ptr d 0, i64 c, i64 p, ptr x 0] tag))⟩; haveI i2 : Mem _ q3 (vs 34 [W r.at_]) := ⟨hL _ Mem.mem⟩; haveI i3 : Mem _ q2 (vs 30 [ptr s 0]) := ⟨hL _ Mem.mem⟩; exact leaf1_ok h ht hd hx) hsl) ?_
  clear h; rintro _ w ⟨so, Ls, rfl, ho, h⟩
  obtain ⟨g, hg0⟩ : ∃ g, g = spGet seen p (leafSum tag r.at_) r := ⟨_, rfl⟩
  simp only [← hg0] at ho ⊢
  have hsp : spGetD seen p tag gk keys r = if g.1 = 0 then (0, over (decrypt gk) keys (BitVec.ofNat 64 (8 + (r.at_.toNat - 1) * p)) g.2) else (g.1, []) := by unfold spGetD; rw [← hg0]
  refine hKo _ _ _ (fun _ => hS3 h) ?_; clear hKo Ko
  refine dn_p 7 #[true, true, true, true, true, true, true, true, false, false, false, false] ⟨some 10, _, _, _, _, _⟩ rfl (fun w => r_move rfl) ?_
  refine dn_p 8 #[true, true, true, true, true, true, true, true, true, false, false, false] ⟨some 18, _, _, _, _, _⟩ rfl (fun w => r_extract rfl rfl) ?_
  refine dn_p 9 #[true, true, true, true, true, true, true, true, true, true, false, false] ⟨some 19, _, _, _, _, _⟩ rfl (fun w => r_extract rfl rfl) ?_
  refine dn_p 10 #[true, true, true, true, true, true, true, true, true, true, true, false] ⟨some 6, _, _, _, _, _⟩ rfl (fun w => r_assign rfl) ?_
  refine dn_p 11 #[true, true, true, true, true, true, true, true, true, true, true, true] ⟨some 7, _, _, _, _, _⟩ rfl (fun w => r_assign rfl) ?_
  refine dn_done (by kernel_rfl) ?_
  refine hK4 _ _ ?_
  clear hK4 K4
  refine cw_seq fun K5 hK5 => ?_
  refine cw_seq fun K6 hK6 => ?_
  refine cw_region ?_
  refine wl_p (r_move rfl) ?_
  refine wl_p (r_neq  (n := 0) rfl rfl) ?_
  refine wl_nil ?_
  refine hK6 _ _ ?_
  clear hK6 K6
  refine wp_cond_split rfl (fun hc => ?_) (fun hc => ?_)
  · have hne := of_decide_eq_true hc; clear hc
    have hne : ¬ g.1 = 0 := by omega
    rw [if_neg hne] at hsp
    refine cw_seq fun K7 hK7 => ?_
    refine cw_region ?_
    refine wl_p (r_move rfl) ?_
    refine wl_p (r_assign rfl) ?_
    refine wl_p (r_assign rfl) ?_
    refine wl_nil ?_
    refine hK7 _ _ ?_
    clear hK7 K7
    refine wp_ret ?_
    refine (hQ _ _ _ (res_tmp2 rfl rfl rfl) ?_).1
    try simp only [List.getD_cons_zero, List.getD_cons_succ]
    rw [hsp]
    exact ⟨_, [], rfl, OwnB.nil, (show Has E w (Ld ++ F) from Has.sub h.appTail (List.Sublist.append_left ((List.sublist_cons_self _ _).trans ((List.sublist_cons_self _ _).trans (List.sublist_cons_self _ _))) _))⟩
  · have hne := of_decide_eq_false hc; clear hc
    have hne : g.1 = 0 := by omega
    rw [if_pos hne] at hsp
    have hgg : g.2.length = 512 * p ∧ r.at_ ≠ 0#32 ∧ r.at_.toNat ≤ 65536 := by
      rw [hg0] at hne ⊢
      unfold spGet at hne ⊢
      by_cases q1 : r.at_ = 0#32 ∨ 65536 < r.at_.toNat
      · rw [if_pos q1] at hne; exact absurd hne (by decide)
      · rw [if_neg q1] at hne ⊢
        by_cases q2 : place p (r.at_.toNat - 1) + 512 * p ≤ seen.length
        · rw [if_pos q2] at hne ⊢
          by_cases q3 : leafSum tag r.at_ ((seen.drop (place p (r.at_.toNat - 1))).take (512 * p)) = r.sum
          · rw [if_pos q3] at ⊢
            exact ⟨by rw [List.length_take, List.length_drop]; omega, fun e => q1 (Or.inl e), by have : ¬ 65536 < r.at_.toNat := fun e => q1 (Or.inr e); omega⟩
          · rw [if_neg q3] at hne; exact absurd hne (by decide)
        · rw [if_neg q2] at hne; exact absurd hne (by decide)
    obtain ⟨hgl, h0, hbig⟩ := hgg
    have hn1 : (r.at_ - 1#32).toNat = r.at_.toNat - 1 := by rw [BitVec.toNat_sub]; have := r.at_.isLt; have h1 : r.at_.toNat ≠ 0 := fun e => h0 (BitVec.eq_of_toNat_eq (by simpa using e)); simp; omega
    have hso : Sl F so g.2 ∨ True := Or.inr trivial
    refine wp_skip ?_
    refine hK5 _ _ ?_
    clear hK5 K5
    refine cw_seq fun K8 hK8 => ?_
    refine cw_drawnH h (h) (fun i => false) (by kernel_rfl) 15 rfl #[false, false, false, false, false, false, false, false, false, false, false, false, false, false, false] rfl ?_
    clear h; rintro w h hS
    refine dn_p 0 #[true, false, false, false, false, false, false, false, false, false, false, false, false, false, false] ⟨some 23, _, _, _, _, _⟩ rfl (fun w => r_move rfl) ?_
    refine dn_p 1 #[true, true, false, false, false, false, false, false, false, false, false, false, false, false, false] ⟨some 24, _, _, _, _, _⟩ rfl (fun w => r_nilCheck rfl) ?_
    refine dn_p 2 #[true, true, true, false, false, false, false, false, false, false, false, false, false, false, false] ⟨some 25, _, _, _, _, _⟩ rfl (fun w => r_fieldAddr (off := 3) rfl Tryd.runUnderlying68 rfl Tryd.sizeOf64 rfl rfl) ?_
    refine dn_l 3 #[true, true, true, true, false, false, false, false, false, false, false, false, false, false, false] ⟨some 26, _, _, _, _, _⟩ rfl hS (fun w hS => r_load_pre hS rfl rfl Tryd.isAgg64) ?_
    refine dn_p 4 #[true, true, true, true, true, false, false, false, false, false, false, false, false, false, false] ⟨some 27, _, _, _, _, _⟩ rfl (fun w => r_move rfl) ?_
    refine dn_p 5 #[true, true, true, true, true, true, false, false, false, false, false, false, false, false, false] ⟨some 28, _, _, _, _, _⟩ rfl (fun w => r_fieldAddr (off := 0) rfl Tryd.runUnderlying37 rfl Tryd.sizeOf34 rfl rfl) ?_
    refine dn_l 6 #[true, true, true, true, true, true, true, false, false, false, false, false, false, false, false] ⟨some 29, _, _, _, _, _⟩ rfl hS (fun w hS => r_load_pre hS rfl rfl Tryd.isAgg34) ?_
    refine dn_p 7 #[true, true, true, true, true, true, true, true, false, false, false, false, false, false, false] ⟨some 30, _, _, _, _, _⟩ rfl (fun w => r_sub_W  (q := 1#32) rfl rfl) ?_
    refine dn_p 9 #[true, true, true, true, true, true, true, true, false, true, false, false, false, false, false] ⟨some 32, _, _, _, _, _⟩ rfl (fun w => r_move rfl) ?_
    refine dn_o 8 #[true, true, true, true, true, true, true, true, true, true, false, false, false, false, false] ⟨some 31, _, _, _, _, _⟩ fun Ko hKo => ?_
    refine op_call [_, _] Tryd.call30 rfl (sector_ok h hc1 hc2 hp1 hp2 (r.at_ - 1#32) (by rw [hn1]; omega)) ?_
    clear h; rintro _ w ⟨rfl, h⟩
    simp only [hn1]
    refine hKo _ _ _ (fun _ => h) ?_; clear hKo Ko
    refine dn_o 10 #[true, true, true, true, true, true, true, true, true, true, true, false, false, false, false] ⟨some 33, _, _, _, _, _⟩ fun Ko hKo => ?_
    refine op_call [_, _, _] Tryd.call33 rfl (open_ok h (c1 := c1) (c2 := c2) (keys := keys) (gk := gk) hk hg (BitVec.ofNat 64 (8 + (r.at_.toNat - 1) * p)) (ho.sl _) hgl (by omega)) ?_
    clear h; rintro _ w ⟨s33, L33, rfl, ho33, h⟩
    refine hKo _ _ _ (fun _ => h.appTail) ?_; clear hKo Ko
    refine dn_p 11 #[true, true, true, true, true, true, true, true, true, true, true, true, false, false, false] ⟨some 34, _, _, _, _, _⟩ rfl (fun w => r_extract rfl rfl) ?_
    refine dn_p 12 #[true, true, true, true, true, true, true, true, true, true, true, true, true, false, false] ⟨some 35, _, _, _, _, _⟩ rfl (fun w => r_extract rfl rfl) ?_
    refine dn_p 13 #[true, true, true, true, true, true, true, true, true, true, true, true, true, true, false] ⟨some 4, _, _, _, _, _⟩ rfl (fun w => r_assign rfl) ?_
    refine dn_p 14 #[true, true, true, true, true, true, true, true, true, true, true, true, true, true, true] ⟨some 5, _, _, _, _, _⟩ rfl (fun w => r_assign rfl) ?_
    refine dn_done (by kernel_rfl) ?_
    refine hK8 _ _ ?_
    clear hK8 K8
    refine wp_ret ?_
    refine (hQ _ _ _ (res_tmp2 rfl rfl rfl) ?_).1
    try simp only [List.getD_cons_zero, List.getD_cons_succ]
    rw [hsp]
    exact ⟨s33, L33, rfl, ho33, Has.sub h.midApp (List.Sublist.append_left (List.Sublist.append_left ((List.sublist_cons_self _ _).trans ((List.sublist_cons_self _ _).trans (List.sublist_cons_self _ _))) _) _)⟩

set_option maxHeartbeats 2000000 in
set_option maxRecDepth 100000 in
theorem node_ok {E : Env} {w : World} {F : List (Nat × Obj)} {s x d c p : Nat} {tag : Bytes} {Ld : List (Nat × Obj)} {most : Nat} {seen safe : Bytes} {kk : Nat} (hD : DevB d most seen safe kk Ld) (h : Has E w (Ld ++ F)) [ms : Mem F s (bsR 68 [ptr d 0, i64 c, i64 p, ptr x 0] tag)] (hc1 : 1 ≤ c) (hc2 : c ≤ 64) (hp1 : 1 ≤ p) (hp2 : p ≤ 2) (r : Rf) (hr : r.sum.length = 32) [m0 : Mem F 0 (ws 157 rootsL)] (hsl : seen.length ≤ 16777216) : Ret Tryd.prog 16 [ptr s 0, aggV (refV r)] w fun v w' => v = .tuple #[aggV (nodeV (spGetN seen p r).2), i64 (((spGetN seen p r).1 : Nat) : Int)] ∧ Has E w' (Ld ++ F) := by
  refine ret_of_wp (l := [ptr s 0, aggV (refV r), undef, undef, undef, undef, undef, undef, undef, undef, undef, undef, undef, undef, undef, undef, undef, undef, undef, undef, undef, undef, undef, undef, undef, undef, undef, undef, undef, undef, undef, undef, undef, undef, undef, undef, undef, undef, undef, undef, undef]) Tryd.func16 rfl (by simp only [Tryd.ntmps16, List.size_toArray, List.length_cons, List.length_nil, Nat.reduceAdd, Nat.reduceSub, Array.replicate_succ, Array.replicate_zero, List.push_toArray, List.append_toArray, List.nil_append, List.cons_append]) fun Q hQ => ?_
  refine cw_seq fun K1 hK1 => ?_
  refine cw_region ?_
  refine wl_o fun Ko hKo => ?_
  refine op_box h rfl (show Value.cells (aggV (refV r)) = (refV r).toArray from rfl) fun b3 w h => ?_
  refine hKo _ _ _ ?_; clear hKo Ko
  refine wl_o fun Ko hKo => ?_
  refine op_alloc (cs := nodeV ndZ) h Tryd.zeroValue43 (by kernel_rfl) fun b4 w h => ?_
  refine hKo _ _ _ ?_; clear hKo Ko
  refine wl_p (r_assign rfl) ?_
  refine wl_nil ?_
  refine hK1 _ _ ?_
  clear hK1 K1
  refine cw_seq fun K2 hK2 => ?_
  refine cw_region ?_
  refine wl_p (r_move rfl) ?_
  refine wl_p (r_load_all h rfl (by simp [refV, hr]) Tryd.isAgg37 Tryd.sizeOf37) ?_
  have h := Has.swapApp (A := [_, _]) (B := Ld) h
  simp only [List.cons_append, List.nil_append] at h
  refine wl_o fun Ko hKo => ?_
  refine op_call [_, _, _] Tryd.call32 rfl (spget_ok hD h hc1 hc2 hp1 hp2 r hr (caps := []) nodeSum nodeSum_len Tryd.call19 (fun hL h _ _ hd hx => by haveI i0 : Mem _ 0 (ws 157 rootsL) := ⟨hL _ Mem.mem⟩; exact nodesum_ok h hd hx) hsl) ?_
  clear h; rintro _ w ⟨so, Ls, rfl, ho, h⟩
  obtain ⟨g, hg0⟩ : ∃ g, g = spGet seen p nodeSum r := ⟨_, rfl⟩
  simp only [← hg0] at ho ⊢
  have hsp : spGetN seen p r = if g.1 = 0 then if getOk (g.2.take 288) ∧ isNought (g.2.drop 288) = true then (0, getNode (g.2.take 288)) else (40, ndZ) else (g.1, ndZ) := by unfold spGetN; rw [← hg0]
  have h := (Has.sub (L' := Ls ++ (Ld ++ ((b4, _) :: F))) h (List.Sublist.append_left (List.Sublist.append_left (List.Sublist.cons_cons _ (List.sublist_cons_self _ _)) _) _))
  have h := Has.swapApp (A := Ls ++ Ld) (B := [_]) (R := F) (by simpa only [List.append_assoc, List.cons_append, List.nil_append] using h)
  simp only [List.append_assoc, List.cons_append, List.nil_append] at h
  refine hKo _ _ _ ?_; clear hKo Ko
  refine wl_p (r_move rfl) ?_
  refine wl_p (r_extract rfl rfl) ?_
  refine wl_p (r_extract rfl rfl) ?_
  refine wl_p (r_assign rfl) ?_
  refine wl_p (r_assign rfl) ?_
  refine wl_nil ?_
  refine hK2 _ _ ?_
  clear hK2 K2
  refine cw_seq fun K3 hK3 => ?_
  refine cw_seq fun K4 hK4 => ?_
  refine cw_region ?_
  refine wl_p (r_move rfl) ?_
  refine wl_p (r_neq  (n := 0) rfl rfl) ?_
  refine wl_nil ?_
  refine hK4 _ _ ?_
  clear hK4 K4
  refine wp_cond_split rfl (fun hc => ?_) (fun hc => ?_)
  · have hne := of_decide_eq_true hc; clear hc
    have hne : ¬ g.1 = 0 := by omega
    rw [if_neg hne] at hsp
    refine cw_seq fun K5 hK5 => ?_
    refine cw_region ?_
    refine wl_p (r_buildP (ps := []) (cs := nodeV ndZ) (pl := (List.range 8).map fun i => (i * 33, 33)) (z := nodeV ndZ) rfl (by kernel_rfl) rfl) ?_
    refine wl_p (r_move rfl) ?_
    refine wl_o fun Ko hKo => ?_
    refine op_store_all (cs := nodeV (ndZ)) h rfl rfl (nodeV_one _) (by first | rfl | (rw [hgl]; exact (nodeV_len _ ndZ_sums).symm)) (by intro w; rw [show (nodeV (ndZ)).length = 264 by exact (nodeV_len _ ndZ_sums)]; exact Tryd.sizeOf43 w) fun w h => ?_
    simp only [List.set_cons_zero, List.set_cons_succ, set_app, set_app0] at h
    refine hKo _ _ _ ?_; clear hKo Ko
    refine wl_p (r_assign rfl) ?_
    refine wl_nil ?_
    refine hK5 _ _ ?_
    clear hK5 K5
    refine wp_ret ?_
    refine (hQ _ _ _ (res_cell2 h rfl rfl (by simp only [List.size_toArray]; first | exact hgl | exact nodeV_len _ ndZ_sums) Tryd.isAgg43 Tryd.sizeOf43 rfl) ?_).1
    rw [hsp]
    exact ⟨rfl, h.tail.appTail⟩
  · have hne := of_decide_eq_false hc; clear hc
    have hne : g.1 = 0 := by omega
    rw [if_pos hne] at hsp
    have hgg : g.2.length = 512 * p := by
      rw [hg0] at hne ⊢
      unfold spGet at hne ⊢
      by_cases q1 : r.at_ = 0#32 ∨ 65536 < r.at_.toNat
      · rw [if_pos q1] at hne; exact absurd hne (by decide)
      · rw [if_neg q1] at hne ⊢
        by_cases q2 : place p (r.at_.toNat - 1) + 512 * p ≤ seen.length
        · rw [if_pos q2] at hne ⊢
          by_cases q3 : nodeSum ((seen.drop (place p (r.at_.toNat - 1))).take (512 * p)) = r.sum
          · rw [if_pos q3] at ⊢
            rw [List.length_take, List.length_drop]; omega
          · rw [if_neg q3] at hne; exact absurd hne (by decide)
        · rw [if_neg q2] at hne; exact absurd hne (by decide)
    have hx2 : (g.2.take 288).length = 288 := by rw [List.length_take]; omega
    have hgs : sums (getNode (g.2.take 288)) := getN_sums _ hx2 8 (by omega)
    have hgl : (nodeV (getNode (g.2.take 288))).length = 264 := by rw [nodeV_len _ hgs]; rfl
    refine wp_skip ?_
    refine hK3 _ _ ?_
    clear hK3 K3
    refine cw_seq fun K6 hK6 => ?_
    refine cw_region ?_
    refine wl_p (r_buildP (ps := []) (cs := nodeV ndZ) (pl := (List.range 8).map fun i => (i * 33, 33)) (z := nodeV ndZ) rfl (by kernel_rfl) rfl) ?_
    refine wl_o fun Ko hKo => ?_
    refine op_call [_] Tryd.call27 rfl (nodeput_ok h ndZ ndZ_sums rfl) ?_
    clear h; rintro s21 w ⟨L21, ho21, h⟩
    have h21 := putNode_len ndZ ndZ_sums
    refine hKo _ _ _ ?_; clear hKo Ko
    refine wl_p (r_len_sl rfl (ho21.sl F) Tryd.runUnderlying25) ?_
    rw [show ((putNode ndZ).length : Int) = ((288 : Nat) : Int) by rw [h21]; rfl]
    have h := h.appTail
    have hso : Sl ((b4, vs 43 (nodeV ndZ)) :: (Ls ++ (Ld ++ F))) so g.2 := (ho.slm (by intro p hp; simp only [List.mem_append, List.mem_cons, hp, true_or, or_true]))
    refine wl_p (r_assign rfl) ?_
    refine wl_nil ?_
    refine hK6 _ _ ?_
    clear hK6 K6
    refine cw_seq fun K7 hK7 => ?_
    by_cases hok : getOk (g.2.take 288)
    · skip
      refine cw_region ?_
      refine wl_p (r_move rfl) ?_
      refine wl_p (r_move rfl) ?_
      refine wl_p (r_slice_h (hi := 288) hso rfl rfl (by omega) Tryd.runUnderlying25 Tryd.sizeOf5) ?_
      refine wl_o fun Ko hKo => ?_
      refine op_call [_] Tryd.call34 rfl (nodeget h (Sl.cutH hso (hi := 288) (by omega)) hx2) ?_
      clear h; rintro v27 w ⟨hv27, h⟩
      obtain rfl : v27 = .tuple #[aggV (nodeV (getNode (g.2.take 288))), i64 0] := by rcases hv27 with ⟨_, e⟩ | ⟨hn, _⟩; exact e; exact absurd hok hn
      refine hKo _ _ _ ?_; clear hKo Ko
      refine wl_p (r_move rfl) ?_
      refine wl_p (r_extract rfl rfl) ?_
      refine wl_p (r_extract rfl rfl) ?_
      refine wl_o fun Ko hKo => ?_
      refine op_alloc (cs := nodeV ndZ) h Tryd.zeroValue43 (by kernel_rfl) fun b9 w h => ?_
      refine hKo _ _ _ ?_; clear hKo Ko
      refine wl_o fun Ko hKo => ?_
      refine op_store_all (cs := nodeV (getNode (g.2.take 288))) h rfl rfl (nodeV_one _) (by first | rfl | (rw [hgl]; exact (nodeV_len _ ndZ_sums).symm)) (by intro w; rw [show (nodeV (getNode (g.2.take 288))).length = 264 by exact hgl]; exact Tryd.sizeOf43 w) fun w h => ?_
      simp only [List.set_cons_zero, List.set_cons_succ, set_app, set_app0] at h
      refine hKo _ _ _ ?_; clear hKo Ko
      refine wl_p (r_assign rfl) ?_
      refine wl_nil ?_
      refine hK7 _ _ ?_
      clear hK7 K7
      refine cw_seq fun K8 hK8 => ?_
      refine cw_seq fun K9 hK9 => ?_
      refine cw_region ?_
      refine wl_p (r_move rfl) ?_
      refine wl_p (r_neq_f  (n := 0) rfl rfl (by first | assumption | omega | (exact side_of) | (simp; done))) ?_
      refine wl_p (r_move rfl) ?_
      refine wl_pw (r_move rfl) ?_
      refine wl_pw (r_move rfl) ?_
      refine wl_pw (r_slice_l (lo := 288) hso rfl rfl (by omega) Tryd.runUnderlying25 Tryd.sizeOf5) ?_
      refine wl_w fun Ko hKo => ?_
      refine op_call [_] Tryd.call35 rfl (nought_ok h (Sl.cutL hso.cons (lo := 288) (by omega)) (by rw [List.length_drop]; omega)) ?_
      clear h; rintro _ w ⟨rfl, h⟩
      refine hKo _ _ _ ?_; clear hKo Ko
      refine wl_pw (r_not rfl) ?_
      refine wl_p (r_pick_f rfl rfl) ?_
      refine wl_nil ?_
      refine hK9 _ _ ?_
      clear hK9 K9
      refine wp_cond_split rfl (fun hc => ?_) (fun hc => ?_)
      · have hno := (show ¬ isNought (g.2.drop 288) = true from by simpa using hc); clear hc
        refine cw_seq fun K10 hK10 => ?_
        refine cw_region ?_
        refine wl_p (r_buildP (ps := []) (cs := nodeV ndZ) (pl := (List.range 8).map fun i => (i * 33, 33)) (z := nodeV ndZ) rfl (by kernel_rfl) rfl) ?_
        refine wl_o fun Ko hKo => ?_
        refine op_store_all (cs := nodeV (ndZ)) h rfl rfl (nodeV_one _) (by first | rfl | (rw [hgl]; exact (nodeV_len _ ndZ_sums).symm)) (by intro w; rw [show (nodeV (ndZ)).length = 264 by exact (nodeV_len _ ndZ_sums)]; exact Tryd.sizeOf43 w) fun w h => ?_
        simp only [List.set_cons_zero, List.set_cons_succ, set_app, set_app0] at h
        refine hKo _ _ _ ?_; clear hKo Ko
        refine wl_p (r_assign rfl) ?_
        refine wl_nil ?_
        refine hK10 _ _ ?_
        clear hK10 K10
        refine wp_ret ?_
        refine (hQ _ _ _ (res_cell2 h rfl rfl (by simp only [List.size_toArray]; first | exact hgl | exact nodeV_len _ ndZ_sums) Tryd.isAgg43 Tryd.sizeOf43 rfl) ?_).1
        rw [if_neg (fun q => hno q.2)] at hsp; rw [hsp]
        exact ⟨rfl, h.tail.tail.appTail⟩
      · have hno := (show isNought (g.2.drop 288) = true from by simpa using hc); clear hc
        refine wp_skip ?_
        refine hK8 _ _ ?_
        clear hK8 K8
        refine cw_seq fun K11 hK11 => ?_
        refine cw_region ?_
        refine wl_p (r_load_all h rfl (by simp only [List.size_toArray]; exact hgl) Tryd.isAgg43 Tryd.sizeOf43) ?_
        refine wl_o fun Ko hKo => ?_
        refine op_store_all (cs := nodeV (getNode (g.2.take 288))) h rfl rfl (nodeV_one _) (by first | rfl | (rw [hgl]; exact (nodeV_len _ ndZ_sums).symm)) (by intro w; rw [show (nodeV (getNode (g.2.take 288))).length = 264 by exact hgl]; exact Tryd.sizeOf43 w) fun w h => ?_
        simp only [List.set_cons_zero, List.set_cons_succ, set_app, set_app0] at h
        refine hKo _ _ _ ?_; clear hKo Ko
        refine wl_p (r_assign rfl) ?_
        refine wl_nil ?_
        refine hK11 _ _ ?_
        clear hK11 K11
        refine wp_ret ?_
        refine (hQ _ _ _ (res_cell2 h rfl rfl (by simp only [List.size_toArray]; first | exact hgl | exact nodeV_len _ ndZ_sums) Tryd.isAgg43 Tryd.sizeOf43 rfl) ?_).1
        rw [if_pos ⟨hok, hno⟩] at hsp; rw [hsp]
        exact ⟨rfl, h.tail.tail.appTail⟩
    · skip
      refine cw_region ?_
      refine wl_p (r_move rfl) ?_
      refine wl_p (r_move rfl) ?_
      refine wl_p (r_slice_h (hi := 288) hso rfl rfl (by omega) Tryd.runUnderlying25 Tryd.sizeOf5) ?_
      refine wl_o fun Ko hKo => ?_
      refine op_call [_] Tryd.call34 rfl (nodeget h (Sl.cutH hso (hi := 288) (by omega)) hx2) ?_
      clear h; rintro v27 w ⟨hv27, h⟩
      obtain rfl : v27 = .tuple #[aggV (nodeV ndZ), i64 4] := by rcases hv27 with ⟨hn, _⟩ | ⟨_, e⟩; exact absurd hn hok; exact e
      refine hKo _ _ _ ?_; clear hKo Ko
      refine wl_p (r_move rfl) ?_
      refine wl_p (r_extract rfl rfl) ?_
      refine wl_p (r_extract rfl rfl) ?_
      refine wl_o fun Ko hKo => ?_
      refine op_alloc (cs := nodeV ndZ) h Tryd.zeroValue43 (by kernel_rfl) fun b9 w h => ?_
      refine hKo _ _ _ ?_; clear hKo Ko
      refine wl_o fun Ko hKo => ?_
      refine op_store_all (cs := nodeV (ndZ)) h rfl rfl (nodeV_one _) (by first | rfl | (rw [hgl]; exact (nodeV_len _ ndZ_sums).symm)) (by intro w; rw [show (nodeV (ndZ)).length = 264 by exact (nodeV_len _ ndZ_sums)]; exact Tryd.sizeOf43 w) fun w h => ?_
      simp only [List.set_cons_zero, List.set_cons_succ, set_app, set_app0] at h
      refine hKo _ _ _ ?_; clear hKo Ko
      refine wl_p (r_assign rfl) ?_
      refine wl_nil ?_
      refine hK7 _ _ ?_
      clear hK7 K7
      refine cw_seq fun K12 hK12 => ?_
      refine cw_seq fun K13 hK13 => ?_
      refine cw_region ?_
      refine wl_p (r_move rfl) ?_
      refine wl_p (r_neq_t  (n := 0) rfl rfl (by first | assumption | omega | (exact side_of) | (simp; done))) ?_
      refine wl_p (r_move rfl) ?_
      refine wl_s ?_
      refine wl_s ?_
      refine wl_s ?_
      refine wl_s ?_
      refine wl_s ?_
      refine wl_p (r_pick rfl rfl) ?_
      refine wl_nil ?_
      refine hK13 _ _ ?_
      clear hK13 K13
      refine wp_cond_true rfl ?_
      refine cw_seq fun K14 hK14 => ?_
      refine cw_region ?_
      refine wl_p (r_buildP (ps := []) (cs := nodeV ndZ) (pl := (List.range 8).map fun i => (i * 33, 33)) (z := nodeV ndZ) rfl (by kernel_rfl) rfl) ?_
      refine wl_o fun Ko hKo => ?_
      refine op_store_all (cs := nodeV (ndZ)) h rfl rfl (nodeV_one _) (by first | rfl | (rw [hgl]; exact (nodeV_len _ ndZ_sums).symm)) (by intro w; rw [show (nodeV (ndZ)).length = 264 by exact (nodeV_len _ ndZ_sums)]; exact Tryd.sizeOf43 w) fun w h => ?_
      simp only [List.set_cons_zero, List.set_cons_succ, set_app, set_app0] at h
      refine hKo _ _ _ ?_; clear hKo Ko
      refine wl_p (r_assign rfl) ?_
      refine wl_nil ?_
      refine hK14 _ _ ?_
      clear hK14 K14
      refine wp_ret ?_
      refine (hQ _ _ _ (res_cell2 h rfl rfl (by simp only [List.size_toArray]; first | exact hgl | exact nodeV_len _ ndZ_sums) Tryd.isAgg43 Tryd.sizeOf43 rfl) ?_).1
      rw [if_neg (fun q => hok q.1)] at hsp; rw [hsp]
      exact ⟨rfl, h.tail.tail.appTail⟩

set_option maxHeartbeats 2000000 in
set_option maxRecDepth 100000 in
theorem spnew_ok {E : Env} {w : World} {F : List (Nat × Obj)} {d c p : Nat} {key : Bytes} (h : Has E w F) (hc1 : 1 ≤ c) (hc2 : c ≤ 64) (hp1 : 1 ≤ p) (hp2 : p ≤ 2) (hkl : key.length = 32) (hz : superSum c p ≠ zeros 32) [m0 : Mem F 0 (ws 157 rootsL)] : Ret Tryd.prog 9 [ptr d 0, aggV [i64 c, i64 p], aggB key] w fun v w' => ∃ s x c1 c2, v = ptr s 0 ∧ Has E w' ((s, bsR 68 [ptr d 0, i64 c, i64 p, ptr x 0] (label key nameTag)) :: (x, vs 86 [ptr c1 0, ptr c2 0]) :: (c2, bs 117 (schedule (label key nameTwo))) :: (c1, bs 117 (schedule (label key nameOne))) :: F) := by
  refine ret_of_wp (l := [ptr d 0, aggV [i64 c, i64 p], aggB key, undef, undef, undef, undef, undef, undef, undef, undef, undef, undef, undef, undef, undef, undef, undef, undef, undef, undef, undef, undef, undef, undef, undef]) Tryd.func9 rfl (by simp only [Tryd.ntmps9, List.size_toArray, List.length_cons, List.length_nil, Nat.reduceAdd, Nat.reduceSub, Array.replicate_succ, Array.replicate_zero, List.push_toArray, List.append_toArray, List.nil_append, List.cons_append]) fun Q hQ => ?_
  refine cw_seq fun K1 hK1 => ?_
  refine cw_region ?_
  refine wl_o fun Ko hKo => ?_
  refine op_box h rfl (show Value.cells (aggV [i64 c, i64 p]) = [i64 c, i64 p].toArray from rfl) fun b4 w h => ?_
  refine hKo _ _ _ ?_; clear hKo Ko
  refine wl_o fun Ko hKo => ?_
  refine op_box h rfl (show Value.cells (aggB key) = (key.map B).toArray from rfl) fun b5 w h => ?_
  refine hKo _ _ _ ?_; clear hKo Ko
  refine wl_p (r_assign rfl) ?_
  refine wl_nil ?_
  refine hK1 _ _ ?_
  clear hK1 K1
  refine cw_seq fun K2 hK2 => ?_
  refine cw_seq fun K3 hK3 => ?_
  refine cw_region ?_
  refine wl_p (r_move rfl) ?_
  refine wl_p (r_eql_nilptr rfl rfl Tryd.runUnderlying26) ?_
  refine wl_p (r_move rfl) ?_
  refine wl_pw (r_load_all (n := 2) h rfl rfl Tryd.isAgg33 Tryd.sizeOf33) ?_
  refine wl_w fun Ko hKo => ?_
  refine op_call [_] Tryd.call23 rfl (supersum_ok h hc1 hc2 hp1 hp2) ?_
  clear h; rintro _ w ⟨rfl, h⟩
  refine hKo _ _ _ ?_; clear hKo Ko
  refine wl_pw (r_buildP (ps := []) (cs := (List.replicate 32 0#8).map B) (pl := (List.range 32).map fun i => (i * 1, 1)) (z := (List.replicate 32 0#8).map B) rfl (by kernel_rfl) rfl) ?_
  refine wl_pw (r_eql_agg (b := false) (eqSum 9998) Tryd.isAgg35 Tryd.sizeOf35 (by kernel_rfl) rfl rfl (by simp [superSum_len]) (by simp) (isB _ 32 (superSum_len c p)) (isB (List.replicate 32 0) 32 rfl) (by simp only [Bool.false_eq_true, false_iff]; intro e; exact hz (mapB_inj.1 e))) ?_
  refine wl_p (r_pick_f rfl rfl) ?_
  refine wl_nil ?_
  refine hK3 _ _ ?_
  clear hK3 K3
  refine wp_cond_false rfl ?_
  refine wp_skip ?_
  refine hK2 _ _ ?_
  clear hK2 K2
  refine cw_seq fun K4 hK4 => ?_
  refine cw_drawnH h ((Has.appHead (A := [_, _]) h)) (fun i => false) (by kernel_rfl) 12 rfl #[false, false, false, false, false, false, false, false, false, false, false, false] rfl ?_
  clear h; rintro w h hS
  refine dn_p 0 #[true, false, false, false, false, false, false, false, false, false, false, false] ⟨some 15, _, _, _, _, _⟩ rfl (fun w => r_move rfl) ?_
  refine dn_l 1 #[true, true, false, false, false, false, false, false, false, false, false, false] ⟨some 16, _, _, _, _, _⟩ rfl hS (fun w hS => r_load_all (n := 2) hS rfl rfl Tryd.isAgg33 Tryd.sizeOf33) ?_
  refine dn_l 2 #[true, true, true, false, false, false, false, false, false, false, false, false] ⟨some 17, _, _, _, _, _⟩ rfl hS (fun w hS => r_load_allb hS rfl hkl Tryd.isAgg23 Tryd.sizeOf23) ?_
  refine dn_l 4 #[true, true, true, false, true, false, false, false, false, false, false, false] ⟨some 19, _, _, _, _, _⟩ rfl hS (fun w hS => r_load_allb hS rfl hkl Tryd.isAgg23 Tryd.sizeOf23) ?_
  refine dn_l 7 #[true, true, true, false, true, false, false, true, false, false, false, false] ⟨some 22, _, _, _, _, _⟩ rfl hS (fun w hS => r_load_allb hS rfl hkl Tryd.isAgg23 Tryd.sizeOf23) ?_
  refine dn_o 3 #[true, true, true, true, true, false, false, true, false, false, false, false] ⟨some 18, _, _, _, _, _⟩ fun Ko hKo => ?_
  refine op_call [_, _] Tryd.call25 rfl (label_ok h hkl (name := nameOne) rfl rfl (by decide)) ?_
  clear h; rintro _ w ⟨rfl, h⟩
  refine hKo _ _ _ (fun _ => (Has.appHead (A := [_, _]) h)) ?_; clear hKo Ko
  refine dn_o 5 #[true, true, true, true, true, true, false, true, false, false, false, false] ⟨some 20, _, _, _, _, _⟩ fun Ko hKo => ?_
  refine op_call [_, _] Tryd.call25 rfl (label_ok h hkl (name := nameTwo) rfl rfl (by decide)) ?_
  clear h; rintro _ w ⟨rfl, h⟩
  refine hKo _ _ _ (fun _ => (Has.appHead (A := [_, _]) h)) ?_; clear hKo Ko
  refine dn_o 6 #[true, true, true, true, true, true, true, true, false, false, false, false] ⟨some 21, _, _, _, _, _⟩ fun Ko hKo => ?_
  refine op_call [_, _] Tryd.call24 rfl (xtsnew_ok h _ _ (label_len _ _) (label_len _ _)) ?_
  clear h; rintro _ w ⟨x, c1, c2, rfl, h⟩
  refine hKo _ _ _ (fun _ => (Has.appHead (A := [_, _]) h.tail.tail.tail)) ?_; clear hKo Ko
  refine dn_o 8 #[true, true, true, true, true, true, true, true, true, false, false, false] ⟨some 23, _, _, _, _, _⟩ fun Ko hKo => ?_
  refine op_call [_, _] Tryd.call25 rfl (label_ok h hkl (name := nameTag) rfl rfl (by decide)) ?_
  clear h; rintro _ w ⟨rfl, h⟩
  refine hKo _ _ _ (fun _ => (Has.appHead (A := [_, _]) h.tail.tail.tail)) ?_; clear hKo Ko
  refine dn_p 9 #[true, true, true, true, true, true, true, true, true, true, false, false] ⟨some 24, _, _, _, _, _⟩ rfl (fun w => r_buildP (ps := [(0, _), (1, _), (2, _), (3, _)]) (cs := [ptr d 0, i64 c, i64 p, ptr x 0] ++ (label key nameTag).map B) (pl := [(0, 1), (1, 2), (3, 1), (4, 32)]) (z := [.pointer none, i64 0, i64 0, .pointer none] ++ (List.replicate 32 0#8).map B) rfl (by kernel_rfl) (build_space (ptr d 0) (i64 c) (i64 p) (ptr x 0) rfl rfl _ (label_len _ _))) ?_
  refine dn_o 10 #[true, true, true, true, true, true, true, true, true, true, true, false] ⟨some 25, _, _, _, _, _⟩ fun Ko hKo => ?_
  refine op_box h rfl (show Value.cells (aggV ([ptr d 0, i64 c, i64 p, ptr x 0] ++ (label key nameTag).map B)) = ([ptr d 0, i64 c, i64 p, ptr x 0] ++ (label key nameTag).map B).toArray from rfl) fun b25 w h => ?_
  refine hKo _ _ _ (fun _ => (Has.appHead (A := [_, _]) h.tail.tail.tail.tail)) ?_; clear hKo Ko
  refine dn_p 11 #[true, true, true, true, true, true, true, true, true, true, true, true] ⟨some 6, _, _, _, _, _⟩ rfl (fun w => r_assign rfl) ?_
  refine dn_done (by kernel_rfl) ?_
  refine hK4 _ _ ?_
  clear hK4 K4
  refine wp_ret ?_
  refine (hQ _ _ _ (res_tmp rfl rfl) ?_).1
  try simp only [List.getD_cons_zero, List.getD_cons_succ]
  exact ⟨_, x, c1, c2, rfl, h.sub (.cons_cons _ (.cons_cons _ (.cons_cons _ (.cons_cons _ (.cons _ (.cons _ (List.Sublist.refl _)))))))⟩

end Go.Proofs.YtjdfenlmifhhdaaDoor
