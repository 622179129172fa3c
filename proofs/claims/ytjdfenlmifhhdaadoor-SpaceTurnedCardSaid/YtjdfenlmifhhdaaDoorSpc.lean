/-
  Walks, printed by mk.py (a program of this work) out of specs17.py: what the Go functions compute, and that nobody else's memory turns. Condition: none.
-/
import Derived.Test.YtjdfenlmifhhdaaDoorProg
import Derived.Test.YtjdfenlmifhhdaaDoorAuto
import Derived.Test.YtjdfenlmifhhdaaDoorDev3
import Derived.Test.YtjdfenlmifhhdaaDoorNode
import Derived.Test.YtjdfenlmifhhdaaDoorXts2
namespace Go.Proofs.YtjdfenlmifhhdaaDoor
open Go.RowKit

attribute [local irreducible] layZ padTo sha hmac leafSum nodeSum pageSum superSum label schedule over encrypt decrypt nodeV putNode be beNum
set_option maxHeartbeats 1000000 in
set_option maxRecDepth 100000 in
theorem size_ok {E : Env} {w : World} {F : List (Nat × Obj)} {s x d c p : Nat} {tag : Bytes} (h : Has E w F) [ms : Mem F s (bsR 68 [ptr d 0, i64 c, i64 p, ptr x 0] tag)] (hp2 : p ≤ 2) : Ret Tryd.prog 28 [ptr s 0] w fun v w' => v = i64 ((512 * p : Nat) : Int) ∧ Has E w' F := by
  refine ret_of_wp (l := [ptr s 0, undef, undef, undef, undef, undef, undef, undef, undef]) Tryd.func28 rfl (by simp only [Tryd.ntmps28, List.size_toArray, List.length_cons, List.length_nil, Nat.reduceAdd, Nat.reduceSub, Array.replicate_succ, Array.replicate_zero, List.push_toArray, List.append_toArray, List.nil_append, List.cons_append]) fun Q hQ => ?_
  refine cw_seq fun K1 hK1 => ?_
  refine cw_region ?_
  refine wl_p (r_assign rfl) ?_
  refine wl_nil ?_
  refine hK1 _ _ ?_
  clear hK1 K1
  refine cw_seq fun K2 hK2 => ?_
  refine cw_region ?_
  refine wl_p (r_move rfl) ?_
  refine wl_p (r_nilCheck rfl) ?_
  refine wl_p (r_fieldAddr (off := 1) rfl Tryd.runUnderlying68 rfl Tryd.sizeOf33 rfl rfl) ?_
  refine wl_p (r_fieldAddr (off := 1) rfl Tryd.runUnderlying33 rfl Tryd.sizeOf3 rfl rfl) ?_
  refine wl_p (r_load_pre h rfl rfl Tryd.isAgg3) ?_
  refine wl_p (r_mul_n (m := p)  (n := 512)  rfl rfl (by omega)) ?_
  refine wl_p (r_assign rfl) ?_
  refine wl_nil ?_
  refine hK2 _ _ ?_
  clear hK2 K2
  refine wp_ret ?_
  refine (hQ _ _ _ (res_tmp rfl rfl) ?_).1
  try simp only [List.getD_cons_zero, List.getD_cons_succ]
  exact ⟨by rw [Nat.mul_comm 512], h⟩

set_option maxHeartbeats 1000000 in
set_option maxRecDepth 100000 in
theorem sector_ok {E : Env} {w : World} {F : List (Nat × Obj)} {s x d c p : Nat} {tag : Bytes} (h : Has E w F) [ms : Mem F s (bsR 68 [ptr d 0, i64 c, i64 p, ptr x 0] tag)] (hc1 : 1 ≤ c) (hc2 : c ≤ 64) (hp1 : 1 ≤ p) (hp2 : p ≤ 2) (n : BitVec 32) (hn : n.toNat ≤ 65535) : Ret Tryd.prog 30 [ptr s 0, W n] w fun v w' => v = D (BitVec.ofNat 64 (8 + n.toNat * p)) ∧ Has E w' F := by
  have hmul : n.toNat * p ≤ n.toNat * 2 := Nat.mul_le_mul_left _ hp2
  refine ret_of_wp (l := [ptr s 0, W n, undef, undef, undef, undef, undef, undef, undef, undef, undef, undef, undef]) Tryd.func30 rfl (by simp only [Tryd.ntmps30, List.size_toArray, List.length_cons, List.length_nil, Nat.reduceAdd, Nat.reduceSub, Array.replicate_succ, Array.replicate_zero, List.push_toArray, List.append_toArray, List.nil_append, List.cons_append]) fun Q hQ => ?_
  refine cw_seq fun K1 hK1 => ?_
  refine cw_region ?_
  refine wl_p (r_assign rfl) ?_
  refine wl_nil ?_
  refine hK1 _ _ ?_
  clear hK1 K1
  refine cw_seq fun K2 hK2 => ?_
  refine cw_region ?_
  refine wl_p (r_move rfl) ?_
  refine wl_p (r_nilCheck rfl) ?_
  refine wl_p (r_fieldAddr (off := 1) rfl Tryd.runUnderlying68 rfl Tryd.sizeOf33 rfl rfl) ?_
  refine wl_p (r_load_preseg h rfl [i64 c, i64 p] rfl (by simp) Tryd.isAgg33 Tryd.sizeOf33) ?_
  refine wl_p (r_move rfl) ?_
  refine wl_o fun Ko hKo => ?_
  refine op_call [_, _] Tryd.call44 rfl (place_ok h hc1 hc2 hp1 hp2 n hn) ?_
  clear h; rintro _ w ⟨rfl, h⟩
  refine hKo _ _ _ ?_; clear hKo Ko
  refine wl_p (r_quo_n (m := 512 * (8 + n.toNat * p))  (n := 512)  rfl rfl (by omega) (by omega)) ?_
  rw [Nat.mul_div_cancel_left _ (by decide)]
  refine wl_p (r_conv_iD (m := 8 + n.toNat * p)  rfl Tryd.runUnderlying3 Tryd.runUnderlying73) ?_
  refine wl_p (r_assign rfl) ?_
  refine wl_nil ?_
  refine hK2 _ _ ?_
  clear hK2 K2
  refine wp_ret ?_
  refine (hQ _ _ _ (res_tmp rfl rfl) ?_).1
  try simp only [List.getD_cons_zero, List.getD_cons_succ]
  exact ⟨by trivial, h⟩

set_option maxHeartbeats 1000000 in
set_option maxRecDepth 100000 in
theorem told_ok {w : World} (e : Nat) : Ret Tryd.prog 45 [i64 e] w fun v w' => v = i64 ((if e = 43 then 40 else e : Nat) : Int) ∧ w' = w := by
  refine ret_of_wp (l := [i64 e, undef, undef, undef, undef, undef]) Tryd.func45 rfl (by simp only [Tryd.ntmps45, List.size_toArray, List.length_cons, List.length_nil, Nat.reduceAdd, Nat.reduceSub, Array.replicate_succ, Array.replicate_zero, List.push_toArray, List.append_toArray, List.nil_append, List.cons_append]) fun Q hQ => ?_
  refine cw_seq fun K1 hK1 => ?_
  refine cw_region ?_
  refine wl_p (r_assign rfl) ?_
  refine wl_nil ?_
  refine hK1 _ _ ?_
  clear hK1 K1
  refine cw_seq fun K2 hK2 => ?_
  refine cw_seq fun K3 hK3 => ?_
  refine cw_region ?_
  refine wl_p (r_move rfl) ?_
  refine wl_p (r_eql  (n := 43) rfl rfl) ?_
  refine wl_nil ?_
  refine hK3 _ _ ?_
  clear hK3 K3
  refine wp_cond_split rfl (fun hc => ?_) (fun hc => ?_)
  · have he := of_decide_eq_true hc; clear hc
    have he : e = 43 := by omega
    refine cw_seq fun K4 hK4 => ?_
    refine cw_region ?_
    refine wl_p (r_assign rfl) ?_
    refine wl_nil ?_
    refine hK4 _ _ ?_
    clear hK4 K4
    refine wp_ret ?_
    refine (hQ _ _ _ (res_tmp rfl rfl) ?_).1
    try simp only [List.getD_cons_zero, List.getD_cons_succ]
    exact ⟨by rw [if_pos he]; rfl, by trivial⟩
  · have he := of_decide_eq_false hc; clear hc
    have he : ¬ e = 43 := by omega
    refine wp_skip ?_
    refine hK2 _ _ ?_
    clear hK2 K2
    refine cw_seq fun K5 hK5 => ?_
    refine cw_region ?_
    refine wl_p (r_move rfl) ?_
    refine wl_p (r_assign rfl) ?_
    refine wl_nil ?_
    refine hK5 _ _ ?_
    clear hK5 K5
    refine wp_ret ?_
    refine (hQ _ _ _ (res_tmp rfl rfl) ?_).1
    try simp only [List.getD_cons_zero, List.getD_cons_succ]
    exact ⟨by rw [if_neg he], by trivial⟩

set_option maxHeartbeats 1000000 in
set_option maxRecDepth 100000 in
theorem leaf_ok {E : Env} {w : World} {F : List (Nat × Obj)} {s : Nat} (h : Has E w F) (at_ : BitVec 32) : Ret Tryd.prog 31 [ptr s 0, W at_] w fun v w' => ∃ q2 q3, v = .func (.func 50) #[] [ptr q2 0, ptr q3 0].toArray ∧ Has E w' ((q3, vs 34 [W at_]) :: (q2, vs 30 [ptr s 0]) :: F) := by
  refine ret_of_wp (l := [ptr s 0, W at_, undef, undef, undef, undef]) Tryd.func31 rfl (by simp only [Tryd.ntmps31, List.size_toArray, List.length_cons, List.length_nil, Nat.reduceAdd, Nat.reduceSub, Array.replicate_succ, Array.replicate_zero, List.push_toArray, List.append_toArray, List.nil_append, List.cons_append]) fun Q hQ => ?_
  refine cw_seq fun K1 hK1 => ?_
  refine cw_region ?_
  refine wl_o fun Ko hKo => ?_
  refine op_box h rfl rfl fun b2 w h => ?_
  refine hKo _ _ _ ?_; clear hKo Ko
  refine wl_o fun Ko hKo => ?_
  refine op_box h rfl rfl fun b3 w h => ?_
  refine hKo _ _ _ ?_; clear hKo Ko
  refine wl_p (r_assign rfl) ?_
  refine wl_nil ?_
  refine hK1 _ _ ?_
  clear hK1 K1
  refine cw_seq fun K2 hK2 => ?_
  refine cw_region ?_
  refine wl_p (r_makeFuncL (f1 := []) (c1 := [ptr b2 0, ptr b3 0]) rfl rfl) ?_
  refine wl_p (r_assign rfl) ?_
  refine wl_nil ?_
  refine hK2 _ _ ?_
  clear hK2 K2
  refine wp_ret ?_
  refine (hQ _ _ _ (res_tmp rfl rfl) ?_).1
  try simp only [List.getD_cons_zero, List.getD_cons_succ]
  exact ⟨b2, b3, rfl, h⟩

set_option maxHeartbeats 1000000 in
set_option maxRecDepth 100000 in
theorem leaf1_ok {E : Env} {w : World} {F : List (Nat × Obj)} {s x d c p : Nat} {tag : Bytes} (h : Has E w F) [ms : Mem F s (bsR 68 [ptr d 0, i64 c, i64 p, ptr x 0] tag)] {q2 q3 : Nat} {at_ : BitVec 32} [m3 : Mem F q3 (vs 34 [W at_])] [m2 : Mem F q2 (vs 30 [ptr s 0])] (ht : tag.length = 32) {sd : Value} {xs : Bytes} (hd : Sl F sd xs) (hx : xs.length ≤ 65536) [m0 : Mem F 0 (ws 157 rootsL)] : Ret Tryd.prog 50 [sd, ptr q2 0, ptr q3 0] w fun v w' => v = aggB (leafSum tag at_ xs) ∧ Has E w' F := by
  refine ret_of_wp (l := [sd, ptr q2 0, ptr q3 0, undef, undef, undef, undef, undef, undef, undef, undef, undef]) Tryd.func50 rfl (by simp only [Tryd.ntmps50, List.size_toArray, List.length_cons, List.length_nil, Nat.reduceAdd, Nat.reduceSub, Array.replicate_succ, Array.replicate_zero, List.push_toArray, List.append_toArray, List.nil_append, List.cons_append]) fun Q hQ => ?_
  refine cw_seq fun K1 hK1 => ?_
  refine cw_region ?_
  refine wl_o fun Ko hKo => ?_
  refine op_allocB 32 h Tryd.zeroValue35 rfl fun b4 w h => ?_
  refine hKo _ _ _ ?_; clear hKo Ko
  refine wl_nil ?_
  refine hK1 _ _ ?_
  clear hK1 K1
  refine cw_seq fun K2 hK2 => ?_
  refine cw_drawnH h (h.tail) (fun i => i == 7) (by kernel_rfl) 8 rfl #[false, false, false, false, false, false, false, false] rfl ?_
  clear h; rintro w h hS
  refine dn_l 0 #[true, false, false, false, false, false, false, false] ⟨some 5, _, _, _, _, _⟩ rfl hS (fun w hS => r_load (v := ptr s 0) hS rfl rfl Tryd.isAgg30) ?_
  refine dn_p 1 #[true, true, false, false, false, false, false, false] ⟨some 6, _, _, _, _, _⟩ rfl (fun w => r_nilCheck rfl) ?_
  refine dn_p 2 #[true, true, true, false, false, false, false, false] ⟨some 7, _, _, _, _, _⟩ rfl (fun w => r_fieldAddr (off := 4) rfl Tryd.runUnderlying68 rfl Tryd.sizeOf23 rfl rfl) ?_
  refine dn_l 3 #[true, true, true, true, false, false, false, false] ⟨some 8, _, _, _, _, _⟩ rfl hS (fun w hS => r_load_bRall hS rfl rfl ht Tryd.isAgg23 Tryd.sizeOf23) ?_
  refine dn_l 4 #[true, true, true, true, true, false, false, false] ⟨some 9, _, _, _, _, _⟩ rfl hS (fun w hS => r_load (v := W at_) hS rfl rfl Tryd.isAgg34) ?_
  refine dn_p 5 #[true, true, true, true, true, true, false, false] ⟨some 10, _, _, _, _, _⟩ rfl (fun w => r_move rfl) ?_
  refine dn_o 6 #[true, true, true, true, true, true, true, false] ⟨some 11, _, _, _, _, _⟩ fun Ko hKo => ?_
  refine op_call [_, _, _] Tryd.call38 rfl (leafsum_ok h ht at_ hd.cons hx) ?_
  clear h; rintro _ w ⟨rfl, h⟩
  refine hKo _ _ _ (fun _ => h.tail) ?_; clear hKo Ko
  refine dn_o 7 #[true, true, true, true, true, true, true, true] ⟨none, _, _, _, _, _⟩ fun Ko hKo => ?_
  refine op_store_ball h rfl rfl (by exact leafSum_len _ _ _) len_of Tryd.sizeOf35 fun w h => ?_
  have h := h.nm
  refine hKo _ _ _ (fun hT => absurd hT (by decide)) ?_; clear hKo Ko
  refine dn_done (by kernel_rfl) ?_
  refine hK2 _ _ ?_
  clear hK2 K2
  refine wp_ret ?_
  refine (hQ _ _ _ (res_cell h rfl rfl (by simp [leafSum_len]) Tryd.isAgg35 Tryd.sizeOf35) ?_).1
  exact ⟨rfl, h.tail⟩

set_option maxHeartbeats 2000000 in
set_option maxRecDepth 100000 in
theorem spput_ok {E : Env} {w : World} {F : List (Nat × Obj)} {s x d c p : Nat} {tag : Bytes} {Ld : List (Nat × Obj)} {most : Nat} {seen safe : Bytes} {kk : Nat} (hD : DevB d most seen safe kk Ld) (h : Has E w (Ld ++ F)) [ms : Mem F s (bsR 68 [ptr d 0, i64 c, i64 p, ptr x 0] tag)] (hc1 : 1 ≤ c) (hc2 : c ≤ 64) (hp1 : 1 ≤ p) (hp2 : p ≤ 2) (n : BitVec 32) {sd : Value} {xs : Bytes} (hd : Sl F sd xs) {g : FuncId} {caps : List Value} (φ : Bytes → Bytes) (hφ : ∀ xs, (φ xs).length = 32) (hcall : ∀ args w, (callFunc g args).run Tryd.prog w = .ok (.enter g args) w) (hsum : ∀ {w : World} {L : List (Nat × Obj)}, (∀ q ∈ F, q ∈ L) → Has E w L → ∀ {sd : Value} {xs : Bytes}, Sl L sd xs → xs.length ≤ 65536 → Ret Tryd.prog g (sd :: caps) w fun v w' => v = aggB (φ xs) ∧ Has E w' L) (hm : most ≤ 16777216) (hsl : seen.length ≤ 16777216) (hkk : kk ≤ 1073741824) : Ret Tryd.prog 26 [ptr s 0, W n, sd, .func (.func g) #[] caps.toArray] w fun v w' => v = .tuple #[aggV (refV (spRef (spPut most seen p n.toNat xs).1 p φ n xs)), i64 (((spPut most seen p n.toNat xs).1 : Nat) : Int)] ∧ ∃ Ld', DevB d most (spPut most seen p n.toNat xs).2 safe (kk + p) Ld' ∧ Has E w' (Ld' ++ F) := by
  have hmul : n.toNat * p ≤ n.toNat * 2 := Nat.mul_le_mul_left _ hp2
  refine ret_of_wp (l := [ptr s 0, W n, sd, .func (.func g) #[] caps.toArray, undef, undef, undef, undef, undef, undef, undef, undef, undef, undef, undef, undef, undef, undef, undef, undef, undef, undef, undef, undef, undef, undef, undef, undef, undef, undef, undef, undef, undef, undef, undef, undef, undef, undef, undef, undef, undef, undef, undef, undef, undef, undef, undef, undef]) Tryd.func26 rfl (by simp only [Tryd.ntmps26, List.size_toArray, List.length_cons, List.length_nil, Nat.reduceAdd, Nat.reduceSub, Array.replicate_succ, Array.replicate_zero, List.push_toArray, List.append_toArray, List.nil_append, List.cons_append]) fun Q hQ => ?_
  refine cw_seq fun K1 hK1 => ?_
  refine cw_region ?_
  refine wl_o fun Ko hKo => ?_
  refine op_alloc (cs := refV rfZ) h Tryd.zeroValue37 rfl fun b8 w h => ?_
  refine hKo _ _ _ ?_; clear hKo Ko
  refine wl_p (r_assign rfl) ?_
  refine wl_nil ?_
  refine hK1 _ _ ?_
  clear hK1 K1
  refine cw_seq fun K2 hK2 => ?_
  refine cw_seq fun K3 hK3 => ?_
  refine cw_region ?_
  refine wl_p (r_move rfl) ?_
  refine wl_p (r_gtr   rfl rfl) ?_
  refine wl_nil ?_
  refine hK3 _ _ ?_
  clear hK3 K3
  refine wp_cond_split rfl (fun hc => ?_) (fun hc => ?_)
  · have hn := of_decide_eq_true hc; clear hc
    have hn : 65535 < n.toNat := by omega
    refine cw_seq fun K4 hK4 => ?_
    refine cw_region ?_
    refine wl_p (r_buildP (ps := []) (cs := refV rfZ) (pl := [(0, 1), (1, 32)]) (z := refV rfZ) rfl (by kernel_rfl) rfl) ?_
    refine wl_o fun Ko hKo => ?_
    refine op_store_all (cs := refV (rfZ)) h rfl rfl (fun v hv => by rcases List.mem_cons.1 hv with rfl | hv; rfl; exact oneB v hv) (by first | rfl | (rw [refV_len _ (show rfZ.sum.length = 32 from rfl)]; rfl)) (by intro w; rw [refV_len _ (show rfZ.sum.length = 32 from rfl)]; exact Tryd.sizeOf37 w) fun w h => ?_
    simp only [List.set_cons_zero, List.set_cons_succ, set_app, set_app0] at h
    refine hKo _ _ _ ?_; clear hKo Ko
    refine wl_p (r_assign rfl) ?_
    refine wl_nil ?_
    refine hK4 _ _ ?_
    clear hK4 K4
    refine wp_ret ?_
    refine (hQ _ _ _ (res_cell2 h rfl rfl (by simp only [List.size_toArray]; first | (rw [refV_len _ hrl]) | exact refV_len rfZ rfl) Tryd.isAgg37 Tryd.sizeOf37 rfl) ?_).1
    have e : spPut most seen p n.toNat xs = (2, seen) := by unfold spPut; rw [if_pos hn]
    rw [e]
    exact ⟨rfl, Ld, hD.mono (by omega), h.tail⟩
  · have hn := of_decide_eq_false hc; clear hc
    have hn : ¬ 65535 < n.toNat := by omega
    refine wp_skip ?_
    refine hK2 _ _ ?_
    clear hK2 K2
    refine cw_seq fun K5 hK5 => ?_
    by_cases hlong : 512 * p < xs.length
    · skip
      refine cw_region ?_
      refine wl_p (r_move rfl) ?_
      refine wl_p (r_move rfl) ?_
      refine wl_o fun Ko hKo => ?_
      refine op_call [_] Tryd.call28 rfl (size_ok h hp2) ?_
      clear h; rintro _ w ⟨rfl, h⟩
      refine hKo _ _ _ ?_; clear hKo Ko
      refine wl_o fun Ko hKo => ?_
      refine op_call [_, _] Tryd.call42 rfl (pad_long h (Rd.cons (Rd.app _ hd)) (512 * p) (by omega) hlong) ?_
      clear h; rintro _ w ⟨rfl, h⟩
      refine hKo _ _ _ ?_; clear hKo Ko
      refine wl_p (r_move rfl) ?_
      refine wl_p (r_extract rfl rfl) ?_
      refine wl_p (r_extract rfl rfl) ?_
      refine wl_p (r_assign rfl) ?_
      refine wl_p (r_assign rfl) ?_
      refine wl_nil ?_
      refine hK5 _ _ ?_
      clear hK5 K5
      refine cw_seq fun K6 hK6 => ?_
      refine cw_seq fun K7 hK7 => ?_
      refine cw_region ?_
      refine wl_p (r_move rfl) ?_
      refine wl_p (r_neq_t  (n := 0) rfl rfl (by first | assumption | omega | (exact side_of) | (simp; done))) ?_
      refine wl_nil ?_
      refine hK7 _ _ ?_
      clear hK7 K7
      refine wp_cond_true rfl ?_
      refine cw_seq fun K8 hK8 => ?_
      refine cw_region ?_
      refine wl_p (r_buildP (ps := []) (cs := refV rfZ) (pl := [(0, 1), (1, 32)]) (z := refV rfZ) rfl (by kernel_rfl) rfl) ?_
      refine wl_o fun Ko hKo => ?_
      refine op_store_all (cs := refV (rfZ)) h rfl rfl (fun v hv => by rcases List.mem_cons.1 hv with rfl | hv; rfl; exact oneB v hv) (by first | rfl | (rw [refV_len _ (show rfZ.sum.length = 32 from rfl)]; rfl)) (by intro w; rw [refV_len _ (show rfZ.sum.length = 32 from rfl)]; exact Tryd.sizeOf37 w) fun w h => ?_
      simp only [List.set_cons_zero, List.set_cons_succ, set_app, set_app0] at h
      refine hKo _ _ _ ?_; clear hKo Ko
      refine wl_p (r_assign rfl) ?_
      refine wl_nil ?_
      refine hK8 _ _ ?_
      clear hK8 K8
      refine wp_ret ?_
      refine (hQ _ _ _ (res_cell2 h rfl rfl (by simp only [List.size_toArray]; first | (rw [refV_len _ hrl]) | exact refV_len rfZ rfl) Tryd.isAgg37 Tryd.sizeOf37 rfl) ?_).1
      have e : spPut most seen p n.toNat xs = (2, seen) := by unfold spPut; rw [if_neg hn, if_pos hlong]
      rw [e]
      exact ⟨rfl, Ld, hD.mono (by omega), h.tail⟩
    · skip
      refine cw_region ?_
      refine wl_p (r_move rfl) ?_
      refine wl_p (r_move rfl) ?_
      refine wl_o fun Ko hKo => ?_
      refine op_call [_] Tryd.call28 rfl (size_ok h hp2) ?_
      clear h; rintro _ w ⟨rfl, h⟩
      refine hKo _ _ _ ?_; clear hKo Ko
      refine wl_o fun Ko hKo => ?_
      refine op_call [_, _] Tryd.call42 rfl (pad_ok h (Rd.cons (Rd.app _ hd)) (512 * p) (by omega) (by omega)) ?_
      clear h; rintro _ w ⟨s19, L19, rfl, ho19, h⟩
      have h19 := (OwnS.rd0 ho19).one
      obtain ⟨ys, hys⟩ : ∃ ys, ys = padTo (512 * p) xs := ⟨_, rfl⟩
      rw [← hys] at ho19
      have hyl : ys.length = 512 * p := by rw [hys, padTo_len _ _ (by omega)]
      have h := Has.swapApp (A := L19 ++ [_]) (B := Ld) (R := F) (by simpa only [List.append_assoc, List.cons_append, List.nil_append] using h)
      simp only [List.append_assoc, List.cons_append, List.nil_append] at h
      refine hKo _ _ _ ?_; clear hKo Ko
      refine wl_p (r_move rfl) ?_
      refine wl_p (r_extract rfl rfl) ?_
      refine wl_p (r_extract rfl rfl) ?_
      refine wl_p (r_assign rfl) ?_
      refine wl_p (r_assign rfl) ?_
      refine wl_nil ?_
      refine hK5 _ _ ?_
      clear hK5 K5
      refine cw_seq fun K9 hK9 => ?_
      refine cw_seq fun K10 hK10 => ?_
      refine cw_region ?_
      refine wl_p (r_move rfl) ?_
      refine wl_p (r_neq_f  (n := 0) rfl rfl (by first | assumption | omega | (exact side_of) | (simp; done))) ?_
      refine wl_nil ?_
      refine hK10 _ _ ?_
      clear hK10 K10
      refine wp_cond_false rfl ?_
      refine wp_skip ?_
      refine hK9 _ _ ?_
      clear hK9 K9
      refine cw_seq fun K11 hK11 => ?_
      refine cw_seq fun K12 hK12 => ?_
      refine cw_drawnH h ((h.only s)) (fun i => false) (by kernel_rfl) 13 rfl #[false, false, false, false, false, false, false, false, false, false, false, false, false] rfl ?_
      clear h; rintro w h hS
      refine dn_p 0 #[true, false, false, false, false, false, false, false, false, false, false, false, false] ⟨some 25, _, _, _, _, _⟩ rfl (fun w => r_move rfl) ?_
      refine dn_p 1 #[true, true, false, false, false, false, false, false, false, false, false, false, false] ⟨some 26, _, _, _, _, _⟩ rfl (fun w => r_nilCheck rfl) ?_
      refine dn_p 2 #[true, true, true, false, false, false, false, false, false, false, false, false, false] ⟨some 27, _, _, _, _, _⟩ rfl (fun w => r_fieldAddr (off := 0) rfl Tryd.runUnderlying68 rfl Tryd.sizeOf26 rfl rfl) ?_
      refine dn_l 3 #[true, true, true, true, false, false, false, false, false, false, false, false, false] ⟨some 28, _, _, _, _, _⟩ rfl hS (fun w hS => r_load_pre hS rfl rfl Tryd.isAgg26) ?_
      refine dn_p 4 #[true, true, true, true, true, false, false, false, false, false, false, false, false] ⟨some 29, _, _, _, _, _⟩ rfl (fun w => r_move rfl) ?_
      refine dn_p 5 #[true, true, true, true, true, true, false, false, false, false, false, false, false] ⟨some 30, _, _, _, _, _⟩ rfl (fun w => r_nilCheck rfl) ?_
      refine dn_p 6 #[true, true, true, true, true, true, true, false, false, false, false, false, false] ⟨some 31, _, _, _, _, _⟩ rfl (fun w => r_fieldAddr (off := 1) rfl Tryd.runUnderlying68 rfl Tryd.sizeOf33 rfl rfl) ?_
      refine dn_l 7 #[true, true, true, true, true, true, true, true, false, false, false, false, false] ⟨some 32, _, _, _, _, _⟩ rfl hS (fun w hS => r_load_preseg hS rfl [i64 c, i64 p] rfl (by simp) Tryd.isAgg33 Tryd.sizeOf33) ?_
      refine dn_p 8 #[true, true, true, true, true, true, true, true, true, false, false, false, false] ⟨some 33, _, _, _, _, _⟩ rfl (fun w => r_move rfl) ?_
      refine dn_p 10 #[true, true, true, true, true, true, true, true, true, false, true, false, false] ⟨some 35, _, _, _, _, _⟩ rfl (fun w => r_move rfl) ?_
      refine dn_o 9 #[true, true, true, true, true, true, true, true, true, true, true, false, false] ⟨some 34, _, _, _, _, _⟩ fun Ko hKo => ?_
      refine op_call [_, _] Tryd.call44 rfl (place_ok h hc1 hc2 hp1 hp2 n (by omega)) ?_
      clear h; rintro _ w ⟨rfl, h⟩
      refine hKo _ _ _ (fun _ => (h.only s)) ?_; clear hKo Ko
      refine dn_o 11 #[true, true, true, true, true, true, true, true, true, true, true, true, false] ⟨some 36, _, _, _, _, _⟩ fun Ko hKo => ?_
      refine op_call [_, _, _] Tryd.call43 rfl (write_all hD h (ho19.sl _) (8 + n.toNat * p) hm hsl (by omega) hyl hp1 (by omega) hkk) ?_
      clear h; rintro _ w ⟨rfl, Ld2, hD2, h⟩
      rw [hyl] at hD2
      obtain ⟨e, he⟩ : ∃ e, e = wrErr most seen.length (512 * (8 + n.toNat * p)) (512 * p) := ⟨_, rfl⟩
      simp only [hyl, ← he] at hD2 ⊢
      refine hKo _ _ _ (fun _ => (h.only s)) ?_; clear hKo Ko
      refine dn_p 12 #[true, true, true, true, true, true, true, true, true, true, true, true, true] ⟨some 11, _, _, _, _, _⟩ rfl (fun w => r_assign rfl) ?_
      refine dn_done (by kernel_rfl) ?_
      refine hK12 _ _ ?_
      clear hK12 K12
      refine cw_seq fun K13 hK13 => ?_
      refine cw_region ?_
      refine wl_p (r_move rfl) ?_
      refine wl_p (r_neq  (n := 0) rfl rfl) ?_
      refine wl_nil ?_
      refine hK13 _ _ ?_
      clear hK13 K13
      refine wp_cond_split rfl (fun hc => ?_) (fun hc => ?_)
      · have hne := of_decide_eq_true hc; clear hc
        have hne : e ≠ 0 := by omega
        refine cw_seq fun K14 hK14 => ?_
        refine cw_region ?_
        refine wl_p (r_buildP (ps := []) (cs := refV rfZ) (pl := [(0, 1), (1, 32)]) (z := refV rfZ) rfl (by kernel_rfl) rfl) ?_
        refine wl_p (r_move rfl) ?_
        refine wl_o fun Ko hKo => ?_
        refine op_call [_] Tryd.call45 rfl (told_ok e) ?_
        rintro _ w ⟨rfl, rfl⟩
        refine hKo _ _ _ ?_; clear hKo Ko
        refine wl_o fun Ko hKo => ?_
        refine op_store_all (cs := refV (rfZ)) h rfl rfl (fun v hv => by rcases List.mem_cons.1 hv with rfl | hv; rfl; exact oneB v hv) (by first | rfl | (rw [refV_len _ (show rfZ.sum.length = 32 from rfl)]; rfl)) (by intro w; rw [refV_len _ (show rfZ.sum.length = 32 from rfl)]; exact Tryd.sizeOf37 w) fun w h => ?_
        simp only [List.set_cons_zero, List.set_cons_succ, set_app, set_app0] at h
        refine hKo _ _ _ ?_; clear hKo Ko
        refine wl_p (r_assign rfl) ?_
        refine wl_nil ?_
        refine hK14 _ _ ?_
        clear hK14 K14
        refine wp_ret ?_
        refine (hQ _ _ _ (res_cell2 h rfl rfl (by simp only [List.size_toArray]; first | (rw [refV_len _ hrl]) | exact refV_len rfZ rfl) Tryd.isAgg37 Tryd.sizeOf37 rfl) ?_).1
        rw [if_neg hne] at hD2
        have e1 : spPut most seen p n.toNat xs = (if e = 43 then 40 else e, seen) := by
          unfold spPut; rw [if_neg hn, if_neg hlong]
          unfold wrErr at he
          unfold place
          by_cases q1 : seen.length < 512 * (8 + n.toNat * p)
          · rw [if_pos q1] at he ⊢; subst he; rfl
          · rw [if_neg q1] at he ⊢
            by_cases q2 : 512 * p + 512 * (8 + n.toNat * p) > most
            · rw [if_pos q2] at he; rw [if_pos (by omega)]; subst he; rfl
            · rw [if_neg q2] at he; exact absurd he hne
        rw [e1]
        refine ⟨?_, Ld2, hD2, h.midApp.midTail⟩
        have e2 : ¬ (if e = 43 then 40 else e) = 0 := by split <;> omega
        simp only [spRef, e2, if_false]
        rfl
      · have hne := of_decide_eq_false hc; clear hc
        have hne : e = 0 := by omega
        subst hne
        rw [if_pos rfl] at hD2
        refine wp_skip ?_
        refine hK11 _ _ ?_
        clear hK11 K11
        refine cw_seq fun K15 hK15 => ?_
        refine cw_region ?_
        refine wl_p (r_move rfl) ?_
        refine wl_p (r_add_W  (q := 1#32) rfl rfl) ?_
        refine wl_p (r_move rfl) ?_
        refine wl_p (r_move rfl) ?_
        refine wl_o fun Ko hKo => ?_
        refine op_callv (_ :: caps) rfl hcall rfl (hsum (by intro q hq; simp only [List.mem_append, List.mem_cons, hq, true_or, or_true]) h (ho19.slm (by intro p hp; simp only [List.mem_append, List.mem_cons, hp, true_or, or_true])) (by omega)) ?_
        clear h; rintro _ w ⟨rfl, h⟩
        have hrl : (Rf.mk (n + 1#32) (φ ys)).sum.length = 32 := hφ ys
        refine hKo _ _ _ ?_; clear hKo Ko
        refine wl_p (r_buildP (ps := [(0, _), (1, _)]) (cs := refV ⟨n + 1#32, φ ys⟩) (pl := [(0, 1), (1, 32)]) (z := refV rfZ) rfl (by kernel_rfl) (build_ref _ _ (hφ ys))) ?_
        refine wl_o fun Ko hKo => ?_
        refine op_store_all (cs := refV (⟨n + 1#32, φ ys⟩)) h rfl rfl (fun v hv => by rcases List.mem_cons.1 hv with rfl | hv; rfl; exact oneB v hv) (by first | rfl | (rw [refV_len _ hrl]; rfl)) (by intro w; rw [refV_len _ hrl]; exact Tryd.sizeOf37 w) fun w h => ?_
        simp only [List.set_cons_zero, List.set_cons_succ, set_app, set_app0] at h
        refine hKo _ _ _ ?_; clear hKo Ko
        refine wl_p (r_assign rfl) ?_
        refine wl_nil ?_
        refine hK15 _ _ ?_
        clear hK15 K15
        refine wp_ret ?_
        refine (hQ _ _ _ (res_cell2 h rfl rfl (by simp only [List.size_toArray]; first | (rw [refV_len _ hrl]) | exact refV_len rfZ rfl) Tryd.isAgg37 Tryd.sizeOf37 rfl) ?_).1
        have e1 : spPut most seen p n.toNat xs = (0, layZ seen (512 * (8 + n.toNat * p)) ys) := by
          unfold spPut; rw [if_neg hn, if_neg hlong]
          unfold wrErr at he
          unfold place
          by_cases q1 : seen.length < 512 * (8 + n.toNat * p)
          · rw [if_pos q1] at he; cases he
          · rw [if_neg q1] at he ⊢
            by_cases q2 : 512 * p + 512 * (8 + n.toNat * p) > most
            · rw [if_pos q2] at he; cases he
            · rw [if_neg (by omega), hys]
        rw [e1]
        refine ⟨?_, Ld2, hD2, h.midApp.midTail⟩
        simp only [spRef, if_true, hys]
        rfl

end Go.Proofs.YtjdfenlmifhhdaaDoor
