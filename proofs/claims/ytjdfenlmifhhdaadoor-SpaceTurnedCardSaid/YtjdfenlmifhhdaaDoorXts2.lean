/-
  Walks, printed by mk.py (a program of this work) out of specs5.py: what the Go functions compute, and that nobody else's memory turns. Condition: none.
-/
import Derived.Test.YtjdfenlmifhhdaaDoorProg
import Derived.Test.YtjdfenlmifhhdaaDoorAuto
import Derived.Test.YtjdfenlmifhhdaaDoorXts
namespace Go.Proofs.YtjdfenlmifhhdaaDoor
open Go.RowKit

attribute [local irreducible] twice xor16 encrypt decrypt schedule xtsFirst over
set_option maxHeartbeats 1000000 in
set_option maxRecDepth 100000 in
theorem over_ok {E : Env} {w : World} {F : List (Nat × Obj)} (h : Has E w F) {p c1 c2 : Nat} {keys : Bytes} [mx : Mem F p (vs 86 [ptr c1 0, ptr c2 0])] [mk : Mem F c2 (bs 117 keys)] (hk : keys.length = 240) {g : FuncId} {cc : Nat} {gk : Bytes} [mg : Mem F cc (bs 117 gk)] (φ : Bytes → Bytes) (hcall : ∀ args w, (callFunc g args).run Tryd.prog w = .ok (.enter g args) w) (hf : ∀ {E : Env} {w : World} {L : List (Nat × Obj)} [Mem L cc (bs 117 gk)] (_ : Has E w L) (x : Bytes), x.length = 16 → Ret Tryd.prog g [ptr cc 0, aggB x] w fun v w' => v = aggB (φ x) ∧ Has E w' L) (hfl : ∀ x : Bytes, x.length = 16 → (φ x).length = 16) (sector : BitVec 64) {sd : Value} {data : Bytes} (hd : Sl F sd data) {N : Nat} (hn : data.length = 512 * N) (hN : N ≤ 128) : Ret Tryd.prog 48 [ptr p 0, D sector, sd, .func (.func g) #[ptr cc 0] #[]] w fun v w' => ∃ so Ls, v = .tuple #[so, i64 0] ∧ OwnB 5 so (over φ keys sector data) Ls ∧ Has E w' (Ls ++ F) := by
  refine ret_of_wp (l := [ptr p 0, D sector, sd, .func (.func g) #[ptr cc 0] #[], undef, undef, undef, undef, undef, undef, undef, undef, undef, undef, undef, undef, undef, undef, undef, undef, undef, undef, undef, undef, undef, undef, undef, undef, undef, undef, undef, undef, undef, undef, undef, undef, undef, undef, undef, undef, undef, undef, undef, undef, undef, undef, undef, undef, undef, undef, undef, undef, undef, undef, undef, undef, undef, undef, undef]) Tryd.func48 rfl (by simp only [Tryd.ntmps48, List.size_toArray, List.length_cons, List.length_nil, Nat.reduceAdd, Nat.reduceSub, Array.replicate_succ, Array.replicate_zero, List.push_toArray, List.append_toArray, List.nil_append, List.cons_append]) fun Q hQ => ?_
  refine cw_seq fun K1 hK1 => ?_
  refine cw_region ?_
  refine wl_p (r_assign rfl) ?_
  refine wl_p (r_assign rfl) ?_
  refine wl_nil ?_
  refine hK1 _ _ ?_
  clear hK1 K1
  refine cw_seq fun K2 hK2 => ?_
  refine cw_seq fun K3 hK3 => ?_
  refine cw_region ?_
  refine wl_p (r_move rfl) ?_
  refine wl_p (r_len_sl rfl hd Tryd.runUnderlying25) ?_
  refine wl_p (r_rem_n (m := data.length)  (n := 512)  rfl rfl om_of) ?_
  refine wl_p (r_neq_f  (n := 0) rfl rfl (by omega)) ?_
  refine wl_p (r_move rfl) ?_
  refine wl_pw (r_move rfl) ?_
  refine wl_pw (r_len_sl rfl hd Tryd.runUnderlying25) ?_
  refine wl_pw (r_gtr_f  (n := 65536) rfl rfl (by omega)) ?_
  refine wl_p (r_pick_f rfl rfl) ?_
  refine wl_nil ?_
  refine hK3 _ _ ?_
  clear hK3 K3
  refine wp_cond_false rfl ?_
  refine wp_skip ?_
  refine hK2 _ _ ?_
  clear hK2 K2
  refine cw_seq fun K4 hK4 => ?_
  refine cw_region ?_
  refine wl_p (r_move rfl) ?_
  refine wl_p (r_len_sl rfl hd Tryd.runUnderlying25) ?_
  refine wl_o fun Ko hKo => ?_
  refine op_makeB (p := 0) (q := data.length) h rfl rfl (by omega) Tryd.runUnderlying25 Tryd.typeInfo5 (by show _ * 1 ≤ _; first | omega | (exact side_of)) (by omega) Tryd.sizeOf5 Tryd.zeroValue5 fun b25 w h => ?_
  refine hKo _ _ _ ?_; clear hKo Ko
  refine wl_p (r_assign rfl) ?_
  refine wl_nil ?_
  refine hK4 _ _ ?_
  clear hK4 K4
  refine cw_seq fun K5 hK5 => ?_
  refine wp_block ?_
  refine cw_loopf [1, 2, 10, 11, 12, 13, 26, 27, 28, 29, 30, 31, 32, 33, 34, 35, 36, 37, 38, 39, 40, 41, 42, 43, 44, 45, 46, 47, 48, 49, 50, 51, 52, 53, 54, 55, 56, 57] (fun f w n => ∃ (i : Nat) (si so : Value) (Ls : List (Nat × Obj)), i ≤ N ∧ f 1 = D (sector + BitVec.ofNat 64 i) ∧ f 2 = si ∧ Sl F si (data.drop (512 * i)) ∧ f 10 = so ∧ OwnB 5 so (iter (overStep φ keys sector data) i []) Ls ∧ Has E w (Ls ++ F) ∧ n = N - i) (N) ⟨0, _, _, _, by omega, by rw [show (BitVec.ofNat 64 0) = 0#64 from rfl, BitVec.add_zero]; rfl, rfl, hd, rfl, OwnB.new, h, rfl⟩ ?_
  clear h; rintro f w n ⟨i, si, so, Ls, hi, e1, e2, hsi, e10, ho, h, rfl⟩ K6 hK6
  simp only [putFn, List.foldl_cons, List.foldl_nil, List.set_cons_zero, List.set_cons_succ, e1, e2, e10]
  clear e1 e2 e10
  have hdl : (data.drop (512 * i)).length = 512 * (N - i) := by rw [List.length_drop, hn, Nat.mul_sub]
  have hol := over_len φ hfl keys sector data i (by omega)
  have hsucc := iter_succ (overStep φ keys sector data) i []
  obtain ⟨out, hout⟩ : ∃ out, out = iter (overStep φ keys sector data) i [] := ⟨_, rfl⟩
  rw [← hout] at ho hol hsucc
  refine cw_seq fun K7 hK7 => ?_
  refine cw_seq fun K8 hK8 => ?_
  refine cw_region ?_
  refine wl_p (r_move rfl) ?_
  refine wl_p (r_len_sl rfl hsi Tryd.runUnderlying25) ?_
  refine wl_p (r_gtr  (n := 0) rfl rfl) ?_
  refine wl_nil ?_
  refine hK8 _ _ ?_
  clear hK8 K8
  refine wp_cond_split rfl (fun hc => ?_) (fun hc => ?_)
  · have hlt := of_decide_eq_true hc; clear hc
    have hiN : i < N := by omega
    refine wp_skip ?_
    refine hK7 _ _ ?_
    clear hK7 K7
    refine cw_seq fun K9 hK9 => ?_
    refine wp_block ?_
    refine cw_seq fun K10 hK10 => ?_
    refine cw_region ?_
    refine wl_p (r_move rfl) ?_
    refine wl_p (r_move rfl) ?_
    refine wl_o fun Ko hKo => ?_
    refine op_call [_, _] Tryd.call76 rfl (xtsfirst_ok h (keys := keys) (c1 := c1) hk _) ?_
    clear h; rintro _ w ⟨rfl, h⟩
    refine hKo _ _ _ ?_; clear hKo Ko
    obtain ⟨t₀, ht0⟩ : ∃ t₀, t₀ = xtsFirst keys (sector + BitVec.ofNat 64 i) := ⟨_, rfl⟩
    simp only [← ht0]
    have htl : t₀.length = 16 := by rw [ht0, xtsFirst_len]
    refine wl_o fun Ko hKo => ?_
    refine op_allocB 16 h Tryd.zeroValue113 rfl fun b11 w h => ?_
    refine hKo _ _ _ ?_; clear hKo Ko
    refine wl_o fun Ko hKo => ?_
    refine op_store_ball h rfl rfl len_of len_of Tryd.sizeOf113 fun w h => ?_
    have h := h.nm
    refine hKo _ _ _ ?_; clear hKo Ko
    refine wl_nil ?_
    have h := h.mid
    refine hK10 _ _ ?_
    clear hK10 K10
    refine cw_seq fun K11 hK11 => ?_
    refine cw_region ?_
    refine wl_p (r_move rfl) ?_
    refine wl_p (r_add_D  (q := 1#64) rfl rfl) ?_
    refine wl_p (r_assign rfl) ?_
    refine wl_nil ?_
    refine hK11 _ _ ?_
    clear hK11 K11
    refine cw_seq fun K12 hK12 => ?_
    refine cw_region ?_
    refine wl_p (r_move rfl) ?_
    refine wl_p (r_slice_hm (hi := 512) (mx := 512) hsi rfl rfl rfl (by omega) (by omega) Tryd.runUnderlying25 Tryd.sizeOf5) ?_
    refine wl_p (r_assign rfl) ?_
    refine wl_nil ?_
    have hsu := Sl.cutHM hsi (hi := 512) (mx := 512) (by omega) (by omega)
    obtain ⟨su, hsue⟩ : ∃ su, su = cutHM si 512 512 := ⟨_, rfl⟩
    obtain ⟨u, hu⟩ : ∃ u, u = (data.drop (512 * i)).take 512 := ⟨_, rfl⟩
    simp only [← hsue, ← hu] at hsu ⊢
    have hul : u.length = 512 := by rw [hu, List.length_take, hdl]; omega
    refine hK12 _ _ ?_
    clear hK12 K12
    refine wp_block ?_
    refine cw_loopf [10, 12, 13, 38, 39, 40, 41, 42, 43, 44, 45, 46, 47, 48, 49, 50, 51, 52, 53, 54, 55, 56, 57] (fun f w n => ∃ (j : Nat) (sv so : Value) (Ls : List (Nat × Obj)), j ≤ 32 ∧ f 12 = sv ∧ Sl F sv (u.drop (16 * j)) ∧ f 10 = so ∧ OwnB 5 so (iter (unitStep φ u) j (out, t₀)).1 Ls ∧ Has E w (Ls ++ (b11, bs 113 (iter (unitStep φ u) j (out, t₀)).2) :: F) ∧ n = 32 - j) (32) ⟨0, _, _, _, by omega, rfl, hsu, rfl, ho, h, rfl⟩ ?_
    clear h; rintro f w n ⟨j, sv, so, Ls, hj, e12, hsv, e10, ho, h, rfl⟩ K13 hK13
    simp only [putFn, List.foldl_cons, List.foldl_nil, List.set_cons_zero, List.set_cons_succ, e12, e10]
    clear e12 e10
    have hul2 := unit_len φ hfl u (out, t₀) htl j (by omega)
    obtain ⟨hq2, hq1⟩ := hul2
    have hsucc2 := iter_succ (unitStep φ u) j (out, t₀)
    obtain ⟨q, hq⟩ : ∃ q, q = iter (unitStep φ u) j (out, t₀) := ⟨_, rfl⟩
    rw [← hq] at ho h hq2 hq1 hsucc2
    simp only at hq1
    have hdu : (u.drop (16 * j)).length = 16 * (32 - j) := by rw [List.length_drop, hul]; omega
    refine cw_seq fun K14 hK14 => ?_
    refine cw_seq fun K15 hK15 => ?_
    refine cw_region ?_
    refine wl_p (r_move rfl) ?_
    refine wl_p (r_len_sl rfl hsv Tryd.runUnderlying25) ?_
    refine wl_p (r_gtr  (n := 0) rfl rfl) ?_
    refine wl_nil ?_
    refine hK15 _ _ ?_
    clear hK15 K15
    refine wp_cond_split rfl (fun hc => ?_) (fun hc => ?_)
    · have hlt2 := of_decide_eq_true hc; clear hc
      have hj32 : j < 32 := by omega
      have hbl : ((u.drop (16 * j)).take 16).length = 16 := by rw [List.length_take, hdu]; omega
      refine wp_skip ?_
      refine hK14 _ _ ?_
      clear hK14 K14
      refine cw_seq fun K16 hK16 => ?_
      refine wp_block ?_
      refine cw_seq fun K17 hK17 => ?_
      refine cw_cut [13, 43, 44, 45, 46, 47, 48, 49, 50, 51, 52] (fun f w => ∃ b13, f 13 = ptr b13 0 ∧ Has E w ((b13, bs 113 (xor16 (φ (xor16 ((u.drop (16 * j)).take 16) q.2)) q.2)) :: (Ls ++ (b11, bs 113 q.2) :: F))) ?_ ?_
      · intro K18 hK18
        refine cw_drawnH h (h) (fun i => i == 11) (by kernel_rfl) 12 rfl #[false, false, false, false, false, false, false, false, false, false, false, false] rfl ?_
        clear h; rintro w h hS
        refine dn_p 0 #[true, false, false, false, false, false, false, false, false, false, false, false] ⟨some 43, _, _, _, _, _⟩ rfl (fun w => r_move rfl) ?_
        refine dn_p 1 #[true, true, false, false, false, false, false, false, false, false, false, false] ⟨some 44, _, _, _, _, _⟩ rfl (fun w => r_move rfl) ?_
        refine dn_p 2 #[true, true, true, false, false, false, false, false, false, false, false, false] ⟨some 45, _, _, _, _, _⟩ rfl (fun w => r_slice_h (hi := 16) hsv rfl rfl (by omega) Tryd.runUnderlying25 Tryd.sizeOf5) ?_
        refine dn_p 3 #[true, true, true, true, false, false, false, false, false, false, false, false] ⟨some 46, _, _, _, _, _⟩ rfl (fun w => r_arrayPtr_s (Sl.cutH hsv (hi := 16) (by omega)) rfl Tryd.runUnderlying113 (by rw [hbl]; omega)) ?_
        refine dn_l 4 #[true, true, true, true, true, false, false, false, false, false, false, false] ⟨some 47, _, _, _, _, _⟩ rfl (by first | exact h | exact h.tail | exact h.tail.tail | exact hS) (fun w hS => r_load_ptr hS ((Sl.cutH hsv (hi := 16) (by omega)).cons.app _) rfl (by decide) (by rw [hbl]; omega) Tryd.isAgg113 Tryd.sizeOf113) ?_
        simp only [List.take_take, Nat.min_self]
        refine dn_l 5 #[true, true, true, true, true, true, false, false, false, false, false, false] ⟨some 48, _, _, _, _, _⟩ rfl (by first | exact h | exact h.tail | exact h.tail.tail | exact hS) (fun w hS => r_load_allb hS rfl len_of Tryd.isAgg113 Tryd.sizeOf113) ?_
        refine dn_l 8 #[true, true, true, true, true, true, false, false, true, false, false, false] ⟨some 51, _, _, _, _, _⟩ rfl (by first | exact h | exact h.tail | exact h.tail.tail | exact hS) (fun w hS => r_load_allb hS rfl len_of Tryd.isAgg113 Tryd.sizeOf113) ?_
        refine dn_ops (rs := [6, 10]) (by kernel_rfl) (by decide) ?_
        refine all_cons ?_ (all_cons ?_ (all_nil))
        · refine dn_1 6 #[true, true, true, true, true, true, true, false, true, false, false, false] ⟨some 49, _, _, _, _, _⟩ fun Ko hKo => ?_
          refine op_call [_, _] Tryd.call77 rfl (xor_ok h ((u.drop (16 * j)).take 16) q.2 hbl hq2) ?_
          clear h; rintro _ w ⟨rfl, h⟩
          refine hKo _ _ _ (fun _ => (by first | exact h | exact h.tail | exact h.tail.tail | exact hS)) ?_; clear hKo Ko
          refine dn_ops (rs := [7, 10]) (by kernel_rfl) (by decide) ?_
          refine all_cons ?_ (all_cons ?_ (all_nil))
          · refine dn_1 7 #[true, true, true, true, true, true, true, true, true, false, false, false] ⟨some 50, _, _, _, _, _⟩ fun Ko hKo => ?_
            refine op_callv [_, _] rfl hcall rfl (hf h _ (by rw [xor16_len, hbl])) ?_
            clear h; rintro _ w ⟨rfl, h⟩
            refine hKo _ _ _ (fun _ => (by first | exact h | exact h.tail | exact h.tail.tail | exact hS)) ?_; clear hKo Ko
            refine dn_ops (rs := [9, 10]) (by kernel_rfl) (by decide) ?_
            refine all_cons ?_ (all_cons ?_ (all_nil))
            · refine dn_1 9 #[true, true, true, true, true, true, true, true, true, true, false, false] ⟨some 52, _, _, _, _, _⟩ fun Ko hKo => ?_
              refine op_call [_, _] Tryd.call77 rfl (xor_ok h _ q.2 (hfl _ (by rw [xor16_len, hbl])) hq2) ?_
              clear h; rintro _ w ⟨rfl, h⟩
              refine hKo _ _ _ (fun _ => (by first | exact h | exact h.tail | exact h.tail.tail | exact hS)) ?_; clear hKo Ko
              refine dn_o 10 #[true, true, true, true, true, true, true, true, true, true, true, false] ⟨some 13, _, _, _, _, _⟩ fun Ko hKo => ?_
              refine op_allocB 16 h Tryd.zeroValue113 rfl fun b13 w h => ?_
              refine hKo _ _ _ (fun _ => (by first | exact h | exact h.tail | exact h.tail.tail | exact hS)) ?_; clear hKo Ko
              refine dn_o 11 #[true, true, true, true, true, true, true, true, true, true, true, true] ⟨none, _, _, _, _, _⟩ fun Ko hKo => ?_
              refine op_store_ball h rfl rfl (by rw [xor16_len]; exact hfl _ (by rw [xor16_len, hbl])) len_of Tryd.sizeOf113 fun w h => ?_
              have h := h.nm
              refine hKo _ _ _ (fun hT => absurd hT (by decide)) ?_; clear hKo Ko
              refine dn_done (by kernel_rfl) ?_
              exact hK18 _ _ pfn_of ⟨b13, rfl, h⟩
            · refine dn_1 10 #[true, true, true, true, true, true, true, true, true, false, true, false] ⟨some 13, _, _, _, _, _⟩ fun Ko hKo => ?_
              refine op_allocB 16 h Tryd.zeroValue113 rfl fun b13 w h => ?_
              refine hKo _ _ _ (fun _ => (by first | exact h | exact h.tail | exact h.tail.tail | exact hS)) ?_; clear hKo Ko
              refine dn_o 9 #[true, true, true, true, true, true, true, true, true, true, true, false] ⟨some 52, _, _, _, _, _⟩ fun Ko hKo => ?_
              refine op_call [_, _] Tryd.call77 rfl (xor_ok h _ q.2 (hfl _ (by rw [xor16_len, hbl])) hq2) ?_
              clear h; rintro _ w ⟨rfl, h⟩
              refine hKo _ _ _ (fun _ => (by first | exact h | exact h.tail | exact h.tail.tail | exact hS)) ?_; clear hKo Ko
              refine dn_o 11 #[true, true, true, true, true, true, true, true, true, true, true, true] ⟨none, _, _, _, _, _⟩ fun Ko hKo => ?_
              refine op_store_ball h rfl rfl (by rw [xor16_len]; exact hfl _ (by rw [xor16_len, hbl])) len_of Tryd.sizeOf113 fun w h => ?_
              have h := h.nm
              refine hKo _ _ _ (fun hT => absurd hT (by decide)) ?_; clear hKo Ko
              refine dn_done (by kernel_rfl) ?_
              exact hK18 _ _ pfn_of ⟨b13, rfl, h⟩
          · refine dn_1 10 #[true, true, true, true, true, true, true, false, true, false, true, false] ⟨some 13, _, _, _, _, _⟩ fun Ko hKo => ?_
            refine op_allocB 16 h Tryd.zeroValue113 rfl fun b13 w h => ?_
            refine hKo _ _ _ (fun _ => (by first | exact h | exact h.tail | exact h.tail.tail | exact hS)) ?_; clear hKo Ko
            refine dn_o 7 #[true, true, true, true, true, true, true, true, true, false, true, false] ⟨some 50, _, _, _, _, _⟩ fun Ko hKo => ?_
            refine op_callv [_, _] rfl hcall rfl (hf h _ (by rw [xor16_len, hbl])) ?_
            clear h; rintro _ w ⟨rfl, h⟩
            refine hKo _ _ _ (fun _ => (by first | exact h | exact h.tail | exact h.tail.tail | exact hS)) ?_; clear hKo Ko
            refine dn_o 9 #[true, true, true, true, true, true, true, true, true, true, true, false] ⟨some 52, _, _, _, _, _⟩ fun Ko hKo => ?_
            refine op_call [_, _] Tryd.call77 rfl (xor_ok h _ q.2 (hfl _ (by rw [xor16_len, hbl])) hq2) ?_
            clear h; rintro _ w ⟨rfl, h⟩
            refine hKo _ _ _ (fun _ => (by first | exact h | exact h.tail | exact h.tail.tail | exact hS)) ?_; clear hKo Ko
            refine dn_o 11 #[true, true, true, true, true, true, true, true, true, true, true, true] ⟨none, _, _, _, _, _⟩ fun Ko hKo => ?_
            refine op_store_ball h rfl rfl (by rw [xor16_len]; exact hfl _ (by rw [xor16_len, hbl])) len_of Tryd.sizeOf113 fun w h => ?_
            have h := h.nm
            refine hKo _ _ _ (fun hT => absurd hT (by decide)) ?_; clear hKo Ko
            refine dn_done (by kernel_rfl) ?_
            exact hK18 _ _ pfn_of ⟨b13, rfl, h⟩
        · refine dn_1 10 #[true, true, true, true, true, true, false, false, true, false, true, false] ⟨some 13, _, _, _, _, _⟩ fun Ko hKo => ?_
          refine op_allocB 16 h Tryd.zeroValue113 rfl fun b13 w h => ?_
          refine hKo _ _ _ (fun _ => (by first | exact h | exact h.tail | exact h.tail.tail | exact hS)) ?_; clear hKo Ko
          refine dn_o 6 #[true, true, true, true, true, true, true, false, true, false, true, false] ⟨some 49, _, _, _, _, _⟩ fun Ko hKo => ?_
          refine op_call [_, _] Tryd.call77 rfl (xor_ok h ((u.drop (16 * j)).take 16) q.2 hbl hq2) ?_
          clear h; rintro _ w ⟨rfl, h⟩
          refine hKo _ _ _ (fun _ => (by first | exact h | exact h.tail | exact h.tail.tail | exact hS)) ?_; clear hKo Ko
          refine dn_o 7 #[true, true, true, true, true, true, true, true, true, false, true, false] ⟨some 50, _, _, _, _, _⟩ fun Ko hKo => ?_
          refine op_callv [_, _] rfl hcall rfl (hf h _ (by rw [xor16_len, hbl])) ?_
          clear h; rintro _ w ⟨rfl, h⟩
          refine hKo _ _ _ (fun _ => (by first | exact h | exact h.tail | exact h.tail.tail | exact hS)) ?_; clear hKo Ko
          refine dn_o 9 #[true, true, true, true, true, true, true, true, true, true, true, false] ⟨some 52, _, _, _, _, _⟩ fun Ko hKo => ?_
          refine op_call [_, _] Tryd.call77 rfl (xor_ok h _ q.2 (hfl _ (by rw [xor16_len, hbl])) hq2) ?_
          clear h; rintro _ w ⟨rfl, h⟩
          refine hKo _ _ _ (fun _ => (by first | exact h | exact h.tail | exact h.tail.tail | exact hS)) ?_; clear hKo Ko
          refine dn_o 11 #[true, true, true, true, true, true, true, true, true, true, true, true] ⟨none, _, _, _, _, _⟩ fun Ko hKo => ?_
          refine op_store_ball h rfl rfl (by rw [xor16_len]; exact hfl _ (by rw [xor16_len, hbl])) len_of Tryd.sizeOf113 fun w h => ?_
          have h := h.nm
          refine hKo _ _ _ (fun hT => absurd hT (by decide)) ?_; clear hKo Ko
          refine dn_done (by kernel_rfl) ?_
          exact hK18 _ _ pfn_of ⟨b13, rfl, h⟩
      clear h; rintro f w ⟨b13, e13, h⟩
      simp only [putFn, List.foldl_cons, List.foldl_nil, List.set_cons_zero, List.set_cons_succ, e13]
      clear e13
      have hxl : (xor16 (φ (xor16 ((u.drop (16 * j)).take 16) q.2)) q.2).length = 16 := by rw [xor16_len, hfl _ (by rw [xor16_len, hbl])]
      have h := h.mid
      refine hK17 _ _ ?_
      clear hK17 K17
      refine cw_seq fun K19 hK19 => ?_
      refine cw_region ?_
      refine wl_p (r_move rfl) ?_
      refine wl_p (r_slice_arr rfl Tryd.runUnderlying113 Tryd.sizeOf5 (by omega)) ?_
      refine wl_o fun Ko hKo => ?_
      refine op_appendB h rfl rfl ho (Rd.app _ (Sl.all (t := xor16 (φ (xor16 ((u.drop (16 * j)).take 16) q.2)) q.2) (Nat.le_refl _) hxl)) rfl Tryd.runUnderlying25 Tryd.typeInfo5 Tryd.sizeOf5 Tryd.zeroValue5 rfl (by show _ * 1 ≤ _; omega) (by omega) fun s55 L55 w ho55 h => ?_
      have h := h.midTail
      refine hKo _ _ _ ?_; clear hKo Ko
      refine wl_p (r_assign rfl) ?_
      refine wl_nil ?_
      refine hK19 _ _ ?_
      clear hK19 K19
      refine cw_region ?_
      refine wl_p (r_load_allb h rfl len_of Tryd.isAgg113 Tryd.sizeOf113) ?_
      refine wl_o fun Ko hKo => ?_
      refine op_call [_] Tryd.call78 rfl (twice_ok h _ hq2) ?_
      clear h; rintro _ w ⟨rfl, h⟩
      refine hKo _ _ _ ?_; clear hKo Ko
      refine wl_o fun Ko hKo => ?_
      refine op_store_ball h rfl rfl (by rw [twice_len]; exact hq2) len_of Tryd.sizeOf113 fun w h => ?_
      have h := h.nm
      refine hKo _ _ _ ?_; clear hKo Ko
      refine wl_nil ?_
      refine hK16 _ _ ?_
      clear hK16 K16
      refine cw_region ?_
      refine wl_p (r_move rfl) ?_
      refine wl_p (r_slice_l (lo := 16) hsv rfl rfl (by omega) Tryd.runUnderlying25 Tryd.sizeOf5) ?_
      refine wl_p (r_assign rfl) ?_
      refine wl_nil ?_
      refine hK13 _ _ (32 - (j + 1)) pfn_of ⟨j + 1, _, s55, L55, by omega, rfl, ?hs2_20, rfl, ?ho2_20, ?hh2_20, rfl⟩ (by omega)
      case hs2_20 => have := Sl.cutL hsv (lo := 16) (by omega); rw [List.drop_drop] at this; exact this
      case ho2_20 => rw [hsucc2]; exact ho55
      case hh2_20 => rw [hsucc2]; exact h
    · have hlt2 := of_decide_eq_false hc; clear hc
      have hj32 : j = 32 := by omega
      refine wp_exit ?_
      refine hK9 _ _ ?_
      clear hK14 hK13 hK9 K14 K13 K9
      refine cw_region ?_
      refine wl_p (r_move rfl) ?_
      refine wl_p (r_slice_l (lo := 512) hsi rfl rfl (by omega) Tryd.runUnderlying25 Tryd.sizeOf5) ?_
      refine wl_p (r_assign rfl) ?_
      refine wl_nil ?_
      refine hK6 _ _ (N - (i + 1)) pfn_of ⟨i + 1, _, _, _, by omega, ?e1_21, rfl, ?hs_21, rfl, ?ho_21, h.midTail, rfl⟩ (by omega)
      case e1_21 => simp only [List.getD_cons_zero, List.getD_cons_succ]; rw [add_ofNat_succ]
      case hs_21 => have := Sl.cutL hsi (lo := 512) (by omega); rw [List.drop_drop] at this; exact this
      case ho_21 => rw [hsucc, overStep, ← hu, ← ht0]; rw [hq, hj32] at ho; exact ho
  · have hlt := of_decide_eq_false hc; clear hc
    have hiN : i = N := by omega
    refine wp_exit ?_
    refine hK5 _ _ ?_
    clear hK7 hK6 hK5 K7 K6 K5
    refine cw_seq fun K22 hK22 => ?_
    refine cw_region ?_
    refine wl_p (r_move rfl) ?_
    refine wl_p (r_assign rfl) ?_
    refine wl_p (r_assign rfl) ?_
    refine wl_nil ?_
    refine hK22 _ _ ?_
    clear hK22 K22
    refine wp_ret ?_
    refine (hQ _ _ _ (res_tmp2 rfl rfl rfl) ?_).1
    try simp only [List.getD_cons_zero, List.getD_cons_succ]
    exact ⟨_, _, rfl, by rw [over, hn, Nat.mul_div_cancel_left _ (by decide), ← hiN, ← hout]; exact ho, h⟩

set_option maxHeartbeats 1000000 in
set_option maxRecDepth 100000 in
theorem seal_ok {E : Env} {w : World} {F : List (Nat × Obj)} (h : Has E w F) {p c1 c2 : Nat} {keys gk : Bytes} [mx : Mem F p (vs 86 [ptr c1 0, ptr c2 0])] [mk : Mem F c2 (bs 117 keys)] (hk : keys.length = 240) [mg : Mem F c1 (bs 117 gk)] (hg : gk.length = 240) (sector : BitVec 64) {sd : Value} {data : Bytes} (hd : Sl F sd data) {N : Nat} (hn : data.length = 512 * N) (hN : N ≤ 128) : Ret Tryd.prog 29 [ptr p 0, D sector, sd] w fun v w' => ∃ so Ls, v = .tuple #[so, i64 0] ∧ OwnB 5 so (over (encrypt gk) keys sector data) Ls ∧ Has E w' (Ls ++ F) := by
  refine ret_of_wp (l := [ptr p 0, D sector, sd, undef, undef, undef, undef, undef, undef, undef, undef, undef, undef, undef, undef, undef, undef, undef, undef, undef, undef]) Tryd.func29 rfl (by simp only [Tryd.ntmps29, List.size_toArray, List.length_cons, List.length_nil, Nat.reduceAdd, Nat.reduceSub, Array.replicate_succ, Array.replicate_zero, List.push_toArray, List.append_toArray, List.nil_append, List.cons_append]) fun Q hQ => ?_
  refine cw_seq fun K1 hK1 => ?_
  refine cw_region ?_
  refine wl_p (r_assign rfl) ?_
  refine wl_p (r_assign rfl) ?_
  refine wl_nil ?_
  refine hK1 _ _ ?_
  clear hK1 K1
  refine cw_seq fun K2 hK2 => ?_
  refine cw_seq fun K3 hK3 => ?_
  refine cw_region ?_
  refine wl_p (r_move rfl) ?_
  refine wl_p (r_eql_nilptr rfl rfl Tryd.runUnderlying64) ?_
  refine wl_nil ?_
  refine hK3 _ _ ?_
  clear hK3 K3
  refine wp_cond_false rfl ?_
  refine wp_skip ?_
  refine hK2 _ _ ?_
  clear hK2 K2
  refine cw_seq fun K4 hK4 => ?_
  refine cw_region ?_
  refine wl_p (r_move rfl) ?_
  refine wl_p (r_move rfl) ?_
  refine wl_p (r_move rfl) ?_
  refine wl_p (r_move rfl) ?_
  refine wl_p (r_nilCheck rfl) ?_
  refine wl_p (r_fieldAddr (off := 0) rfl Tryd.runUnderlying86 rfl Tryd.sizeOf83 rfl rfl) ?_
  refine wl_p (r_load (v := ptr c1 0) h rfl rfl Tryd.isAgg83) ?_
  refine wl_p (r_makeFuncL (f1 := [ptr c1 0]) (c1 := []) rfl rfl) ?_
  refine wl_o fun Ko hKo => ?_
  refine op_call [_, _, _, _] Tryd.call48 rfl (over_ok h (c1 := c1) (keys := keys) hk (gk := gk) (encrypt gk) Tryd.call49 (fun h x hx => encrypt_ok h hg x hx) (fun x hx => encrypt_len gk x hx) sector hd hn hN) ?_
  clear h; rintro _ w ⟨so, Ls, rfl, ho, h⟩
  refine hKo _ _ _ ?_; clear hKo Ko
  refine wl_p (r_extract rfl rfl) ?_
  refine wl_p (r_extract rfl rfl) ?_
  refine wl_p (r_assign rfl) ?_
  refine wl_p (r_assign rfl) ?_
  refine wl_nil ?_
  refine hK4 _ _ ?_
  clear hK4 K4
  refine wp_ret ?_
  refine (hQ _ _ _ (res_tmp2 rfl rfl rfl) ?_).1
  try simp only [List.getD_cons_zero, List.getD_cons_succ]
  exact ⟨so, Ls, rfl, ho, h⟩

set_option maxHeartbeats 1000000 in
set_option maxRecDepth 100000 in
theorem open_ok {E : Env} {w : World} {F : List (Nat × Obj)} (h : Has E w F) {p c1 c2 : Nat} {keys gk : Bytes} [mx : Mem F p (vs 86 [ptr c1 0, ptr c2 0])] [mk : Mem F c2 (bs 117 keys)] (hk : keys.length = 240) [mg : Mem F c1 (bs 117 gk)] (hg : gk.length = 240) (sector : BitVec 64) {sd : Value} {data : Bytes} (hd : Sl F sd data) {N : Nat} (hn : data.length = 512 * N) (hN : N ≤ 128) : Ret Tryd.prog 33 [ptr p 0, D sector, sd] w fun v w' => ∃ so Ls, v = .tuple #[so, i64 0] ∧ OwnB 5 so (over (decrypt gk) keys sector data) Ls ∧ Has E w' (Ls ++ F) := by
  refine ret_of_wp (l := [ptr p 0, D sector, sd, undef, undef, undef, undef, undef, undef, undef, undef, undef, undef, undef, undef, undef, undef, undef, undef, undef, undef]) Tryd.func33 rfl (by simp only [Tryd.ntmps33, List.size_toArray, List.length_cons, List.length_nil, Nat.reduceAdd, Nat.reduceSub, Array.replicate_succ, Array.replicate_zero, List.push_toArray, List.append_toArray, List.nil_append, List.cons_append]) fun Q hQ => ?_
  refine cw_seq fun K1 hK1 => ?_
  refine cw_region ?_
  refine wl_p (r_assign rfl) ?_
  refine wl_p (r_assign rfl) ?_
  refine wl_nil ?_
  refine hK1 _ _ ?_
  clear hK1 K1
  refine cw_seq fun K2 hK2 => ?_
  refine cw_seq fun K3 hK3 => ?_
  refine cw_region ?_
  refine wl_p (r_move rfl) ?_
  refine wl_p (r_eql_nilptr rfl rfl Tryd.runUnderlying64) ?_
  refine wl_nil ?_
  refine hK3 _ _ ?_
  clear hK3 K3
  refine wp_cond_false rfl ?_
  refine wp_skip ?_
  refine hK2 _ _ ?_
  clear hK2 K2
  refine cw_seq fun K4 hK4 => ?_
  refine cw_region ?_
  refine wl_p (r_move rfl) ?_
  refine wl_p (r_move rfl) ?_
  refine wl_p (r_move rfl) ?_
  refine wl_p (r_move rfl) ?_
  refine wl_p (r_nilCheck rfl) ?_
  refine wl_p (r_fieldAddr (off := 0) rfl Tryd.runUnderlying86 rfl Tryd.sizeOf83 rfl rfl) ?_
  refine wl_p (r_load (v := ptr c1 0) h rfl rfl Tryd.isAgg83) ?_
  refine wl_p (r_makeFuncL (f1 := [ptr c1 0]) (c1 := []) rfl rfl) ?_
  refine wl_o fun Ko hKo => ?_
  refine op_call [_, _, _, _] Tryd.call48 rfl (over_ok h (c1 := c1) (keys := keys) hk (gk := gk) (decrypt gk) Tryd.call53 (fun h x hx => decrypt_ok h hg x hx) (fun x hx => decrypt_len gk x hx) sector hd hn hN) ?_
  clear h; rintro _ w ⟨so, Ls, rfl, ho, h⟩
  refine hKo _ _ _ ?_; clear hKo Ko
  refine wl_p (r_extract rfl rfl) ?_
  refine wl_p (r_extract rfl rfl) ?_
  refine wl_p (r_assign rfl) ?_
  refine wl_p (r_assign rfl) ?_
  refine wl_nil ?_
  refine hK4 _ _ ?_
  clear hK4 K4
  refine wp_ret ?_
  refine (hQ _ _ _ (res_tmp2 rfl rfl rfl) ?_).1
  try simp only [List.getD_cons_zero, List.getD_cons_succ]
  exact ⟨so, Ls, rfl, ho, h⟩

end Go.Proofs.YtjdfenlmifhhdaaDoor
