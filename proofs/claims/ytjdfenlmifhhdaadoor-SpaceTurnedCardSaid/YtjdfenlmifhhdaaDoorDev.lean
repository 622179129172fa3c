/-
  Walks, printed by mk.py (a program of this work) out of specs13.py: what the Go functions compute, and that nobody else's memory turns. Condition: none.
-/
import Derived.Test.YtjdfenlmifhhdaaDoorProg
import Derived.Test.YtjdfenlmifhhdaaDoorAuto
import Derived.Test.YtjdfenlmifhhdaaDoorSup
import Derived.Test.YtjdfenlmifhhdaaDoorRng
import Derived.Test.YtjdfenlmifhhdaaDoorOct3
namespace Go.Proofs.YtjdfenlmifhhdaaDoor
open Go.RowKit

attribute [local irreducible] layZ
/-- A device that is up, no fail told: what is seen, what is safe, at most k loose writes; Ld are its blocks. -/
def DevB (d most : Nat) (seen safe : Bytes) (k : Nat) (Ld : List (Nat × Obj)) : Prop :=
  ∃ (s1 s2 s3 : Value) (n3 : Nat) (l3 : List Value) (st : Int) (L1 L2 L3 : List (Nat × Obj)), OwnB 5 s1 seen L1 ∧ OwnB 5 s2 safe L2 ∧ OwnS 124 514 s3 n3 l3 L3 ∧ n3 ≤ k ∧
    Ld = (d, vs 62 [i64 (most : Nat), s1, s2, s3, i64 st, .bool false, .pointer none]) :: (L1 ++ (L2 ++ L3))
theorem DevB.mono {d most : Nat} {seen safe : Bytes} {k k' : Nat} {Ld : List (Nat × Obj)} (h : DevB d most seen safe k Ld) (hk : k ≤ k') : DevB d most seen safe k' Ld := by
  obtain ⟨s1, s2, s3, n3, l3, st, L1, L2, L3, ho1, ho2, ho3, hn3, e⟩ := h
  exact ⟨s1, s2, s3, n3, l3, st, L1, L2, L3, ho1, ho2, ho3, by omega, e⟩

set_option maxHeartbeats 1000000 in
set_option maxRecDepth 100000 in
theorem devnew_ok {E : Env} {w : World} {F : List (Nat × Obj)} (h : Has E w F) (most : Nat) (hm : most ≤ 16777216) : Ret Tryd.prog 21 [i64 most] w fun v w' => ∃ d Ld, v = ptr d 0 ∧ DevB d most [] [] 0 Ld ∧ Has E w' (Ld ++ F) := by
  refine ret_of_wp (l := [i64 most, undef, undef, undef, undef, undef, undef, undef]) Tryd.func21 rfl (by simp only [Tryd.ntmps21, List.size_toArray, List.length_cons, List.length_nil, Nat.reduceAdd, Nat.reduceSub, Array.replicate_succ, Array.replicate_zero, List.push_toArray, List.append_toArray, List.nil_append, List.cons_append]) fun Q hQ => ?_
  refine cw_seq fun K1 hK1 => ?_
  refine cw_region ?_
  refine wl_p (r_assign rfl) ?_
  refine wl_nil ?_
  refine hK1 _ _ ?_
  clear hK1 K1
  refine cw_seq fun K2 hK2 => ?_
  refine cw_region ?_
  refine wl_p (r_move rfl) ?_
  refine wl_p (r_min (r := (most : Int)) rfl rfl (by omega)) ?_
  refine wl_p (r_max (r := (most : Int)) rfl rfl (by omega)) ?_
  refine wl_p (r_buildP (ps := [(0, _)]) (pl := [(0, 1), (1, 1), (2, 1), (3, 1), (4, 1), (5, 1), (6, 1)]) (z := [(Value.int IntKind.i64 0), (Value.slice none 0 0), (Value.slice none 0 0), (Value.slice none 0 0), (Value.int IntKind.i64 0), (Value.bool false), (Value.pointer none)]) rfl (by kernel_rfl) ((show fillL _ _ [(0, i64 most)] = some [i64 (most : Nat), .slice none 0 0, .slice none 0 0, .slice none 0 0, i64 0, .bool false, .pointer none] from rfl))) ?_
  refine wl_o fun Ko hKo => ?_
  refine op_box h rfl rfl fun b7 w h => ?_
  refine hKo _ _ _ ?_; clear hKo Ko
  refine wl_p (r_assign rfl) ?_
  refine wl_nil ?_
  refine hK2 _ _ ?_
  clear hK2 K2
  refine wp_ret ?_
  refine (hQ _ _ _ (res_tmp rfl rfl) ?_).1
  try simp only [List.getD_cons_zero, List.getD_cons_succ]
  exact ⟨_, _, rfl, ⟨_, _, _, 0, [], 0, [], [], [], OwnB.nil, OwnB.nil, OwnS.nil, Nat.le_refl _, rfl⟩, by simpa using h⟩

set_option maxHeartbeats 1000000 in
set_option maxRecDepth 100000 in
theorem up_ok {E : Env} {w : World} {F Ld : List (Nat × Obj)} {d most : Nat} {seen safe : Bytes} {kk : Nat} (hD : DevB d most seen safe kk Ld) (h : Has E w (Ld ++ F)) : Ret Tryd.prog 70 [ptr d 0] w fun v w' => v = i64 0 ∧ Has E w' (Ld ++ F) := by
  obtain ⟨s1, s2, s3, n3, l3, st, L1, L2, L3, ho1, ho2, ho3, hn3, rfl⟩ := hD
  simp only [List.cons_append, List.append_assoc] at h
  refine ret_of_wp (l := [ptr d 0, undef, undef, undef, undef, undef, undef, undef, undef, undef, undef]) Tryd.func70 rfl (by simp only [Tryd.ntmps70, List.size_toArray, List.length_cons, List.length_nil, Nat.reduceAdd, Nat.reduceSub, Array.replicate_succ, Array.replicate_zero, List.push_toArray, List.append_toArray, List.nil_append, List.cons_append]) fun Q hQ => ?_
  refine cw_seq fun K1 hK1 => ?_
  refine cw_region ?_
  refine wl_p (r_assign rfl) ?_
  refine wl_nil ?_
  refine hK1 _ _ ?_
  clear hK1 K1
  refine cw_seq fun K2 hK2 => ?_
  refine wp_block ?_
  refine cw_seq fun K3 hK3 => ?_
  refine cw_region ?_
  refine wl_p (r_move rfl) ?_
  refine wl_p (r_eql_nilptr rfl rfl Tryd.runUnderlying26) ?_
  refine wl_p (r_assign rfl) ?_
  refine wl_nil ?_
  refine hK3 _ _ ?_
  clear hK3 K3
  refine wp_cond_false rfl ?_
  refine cw_seq fun K4 hK4 => ?_
  refine cw_region ?_
  refine wl_p (r_move rfl) ?_
  refine wl_p (r_nilCheck rfl) ?_
  refine wl_p (r_fieldAddr (off := 5) rfl Tryd.runUnderlying62 rfl Tryd.sizeOf4 rfl rfl) ?_
  refine wl_p (r_load h rfl rfl Tryd.isAgg4) ?_
  refine wl_p (r_assign rfl) ?_
  refine wl_nil ?_
  refine hK4 _ _ ?_
  clear hK4 K4
  refine wp_cond_false rfl ?_
  refine wp_skip ?_
  refine hK2 _ _ ?_
  clear hK2 K2
  refine cw_seq fun K5 hK5 => ?_
  refine cw_region ?_
  refine wl_p (r_assign rfl) ?_
  refine wl_nil ?_
  refine hK5 _ _ ?_
  clear hK5 K5
  refine wp_ret ?_
  refine (hQ _ _ _ (res_tmp rfl rfl) ?_).1
  try simp only [List.getD_cons_zero, List.getD_cons_succ]
  exact ⟨by trivial, by simpa using h⟩

set_option maxHeartbeats 1000000 in
set_option maxRecDepth 100000 in
theorem bytes_ok {E : Env} {w : World} {F Ld : List (Nat × Obj)} {d most : Nat} {seen safe : Bytes} {kk : Nat} (hD : DevB d most seen safe kk Ld) (h : Has E w (Ld ++ F)) (hx : seen.length ≤ 1099511627776) : Ret Tryd.prog 7 [ptr d 0] w fun v w' => ∃ Ls, OwnB 5 v seen Ls ∧ Has E w' (Ls ++ (Ld ++ F)) := by
  obtain ⟨s1, s2, s3, n3, l3, st, L1, L2, L3, ho1, ho2, ho3, hn3, rfl⟩ := hD
  simp only [List.cons_append, List.append_assoc] at h
  refine ret_of_wp (l := [ptr d 0, undef, undef, undef, undef, undef, undef, undef, undef, undef]) Tryd.func7 rfl (by simp only [Tryd.ntmps7, List.size_toArray, List.length_cons, List.length_nil, Nat.reduceAdd, Nat.reduceSub, Array.replicate_succ, Array.replicate_zero, List.push_toArray, List.append_toArray, List.nil_append, List.cons_append]) fun Q hQ => ?_
  refine cw_seq fun K1 hK1 => ?_
  refine cw_region ?_
  refine wl_p (r_assign rfl) ?_
  refine wl_nil ?_
  refine hK1 _ _ ?_
  clear hK1 K1
  refine cw_seq fun K2 hK2 => ?_
  refine cw_seq fun K3 hK3 => ?_
  refine cw_region ?_
  refine wl_p (r_move rfl) ?_
  refine wl_p (r_eql_nilptr rfl rfl Tryd.runUnderlying26) ?_
  refine wl_nil ?_
  refine hK3 _ _ ?_
  clear hK3 K3
  refine wp_cond_false rfl ?_
  refine wp_skip ?_
  refine hK2 _ _ ?_
  clear hK2 K2
  refine cw_seq fun K4 hK4 => ?_
  refine cw_region ?_
  refine wl_p (r_move rfl) ?_
  refine wl_p (r_nilCheck rfl) ?_
  refine wl_p (r_fieldAddr (off := 1) rfl Tryd.runUnderlying62 rfl Tryd.sizeOf25 rfl rfl) ?_
  refine wl_p (r_load h rfl rfl Tryd.isAgg25) ?_
  refine wl_o fun Ko hKo => ?_
  refine op_call [_] Tryd.call22 rfl (clone_ok h (Rd.cons (ho1.sl _)) hx) ?_
  clear h; rintro s9 w ⟨L9, ho9, h⟩
  refine hKo _ _ _ ?_; clear hKo Ko
  refine wl_p (r_assign rfl) ?_
  refine wl_nil ?_
  refine hK4 _ _ ?_
  clear hK4 K4
  refine wp_ret ?_
  refine (hQ _ _ _ (res_tmp rfl rfl) ?_).1
  try simp only [List.getD_cons_zero, List.getD_cons_succ]
  exact ⟨L9, ho9, by simpa using h⟩

set_option maxHeartbeats 1000000 in
set_option maxRecDepth 100000 in
theorem load_ok {E : Env} {w : World} {F Ld : List (Nat × Obj)} {d most : Nat} {seen safe : Bytes} {kk : Nat} (hD : DevB d most seen safe kk Ld) (h : Has E w (Ld ++ F)) {sd : Value} {xs : Bytes} (hd : Sl F sd xs) (hx : xs.length ≤ most) (hm : most ≤ 16777216) : Ret Tryd.prog 8 [ptr d 0, sd] w fun v w' => ∃ Ld', DevB d most xs xs 0 Ld' ∧ Has E w' (Ld' ++ F) := by
  obtain ⟨s1, s2, s3, n3, l3, st, L1, L2, L3, ho1, ho2, ho3, hn3, rfl⟩ := hD
  simp only [List.cons_append, List.append_assoc] at h
  refine ret_of_wp (l := [ptr d 0, sd, undef, undef, undef, undef, undef, undef, undef, undef, undef, undef, undef, undef, undef, undef, undef, undef, undef, undef, undef, undef, undef, undef, undef, undef, undef, undef]) Tryd.func8 rfl (by simp only [Tryd.ntmps8, List.size_toArray, List.length_cons, List.length_nil, Nat.reduceAdd, Nat.reduceSub, Array.replicate_succ, Array.replicate_zero, List.push_toArray, List.append_toArray, List.nil_append, List.cons_append]) fun Q hQ => ?_
  refine cw_seq fun K1 hK1 => ?_
  refine cw_seq fun K2 hK2 => ?_
  refine cw_region ?_
  refine wl_p (r_move rfl) ?_
  refine wl_p (r_eql_nilptr rfl rfl Tryd.runUnderlying26) ?_
  refine wl_p (r_move rfl) ?_
  refine wl_pw (r_move rfl) ?_
  refine wl_pw (r_len_sl rfl hd Tryd.runUnderlying25) ?_
  refine wl_pw (r_move rfl) ?_
  refine wl_pw (r_nilCheck rfl) ?_
  refine wl_pw (r_fieldAddr (off := 0) rfl Tryd.runUnderlying62 rfl Tryd.sizeOf3 rfl rfl) ?_
  refine wl_pw (r_load (v := i64 most) h rfl rfl Tryd.isAgg3) ?_
  refine wl_pw (r_gtr_f   rfl rfl (by omega)) ?_
  refine wl_p (r_pick_f rfl rfl) ?_
  refine wl_nil ?_
  refine hK2 _ _ ?_
  clear hK2 K2
  refine wp_cond_false rfl ?_
  refine wp_skip ?_
  refine hK1 _ _ ?_
  clear hK1 K1
  refine cw_region ?_
  refine wl_p (r_move rfl) ?_
  refine wl_p (r_move rfl) ?_
  refine wl_p (r_move rfl) ?_
  refine wl_p (r_move rfl) ?_
  refine wl_o fun Ko hKo => ?_
  refine op_call [_] Tryd.call22 rfl (clone_ok h (Rd.cons (Rd.app _ (Rd.app _ (Rd.app _ hd)))) (by omega)) ?_
  clear h; rintro s19 w ⟨L19, ho19, h⟩
  have h19 := (OwnS.rd0 ho19).one
  refine hKo _ _ _ ?_; clear hKo Ko
  refine wl_p (r_move rfl) ?_
  refine wl_o fun Ko hKo => ?_
  refine op_call [_] Tryd.call22 rfl (clone_ok h (Rd.app _ (Rd.cons (Rd.app _ (Rd.app _ (Rd.app _ hd))))) (by omega)) ?_
  clear h; rintro s21 w ⟨L21, ho21, h⟩
  have h21 := (OwnS.rd0 ho21).one
  refine hKo _ _ _ ?_; clear hKo Ko
  refine wl_p (r_nilCheck rfl) ?_
  refine wl_p (r_fieldAddr (off := 1) rfl Tryd.runUnderlying62 rfl Tryd.sizeOf25 rfl rfl) ?_
  refine wl_o fun Ko hKo => ?_
  refine op_store h rfl rfl h19 (by first | (simp; done) | (exact side_of)) Tryd.sizeOf25 fun w h => ?_
  have h := h.nm
  have h := h.nv
  refine hKo _ _ _ ?_; clear hKo Ko
  refine wl_p (r_nilCheck rfl) ?_
  refine wl_p (r_fieldAddr (off := 2) rfl Tryd.runUnderlying62 rfl Tryd.sizeOf25 rfl rfl) ?_
  refine wl_o fun Ko hKo => ?_
  refine op_store h rfl rfl h21 (by first | (simp; done) | (exact side_of)) Tryd.sizeOf25 fun w h => ?_
  have h := h.nm
  have h := h.nv
  refine hKo _ _ _ ?_; clear hKo Ko
  refine wl_p (r_nilCheck rfl) ?_
  refine wl_p (r_fieldAddr (off := 3) rfl Tryd.runUnderlying62 rfl Tryd.sizeOf59 rfl rfl) ?_
  refine wl_o fun Ko hKo => ?_
  refine op_store h rfl rfl rfl (by first | (simp; done) | (exact side_of)) Tryd.sizeOf59 fun w h => ?_
  have h := h.nm
  have h := h.nv
  refine hKo _ _ _ ?_; clear hKo Ko
  refine wl_nil ?_
  refine (hQ _ _ _ (res_none rfl) ?_).2
  have h2 := (h.sub (List.Sublist.append_left (List.Sublist.append_left (List.Sublist.cons_cons _ ((List.sublist_append_right L3 F).trans ((List.sublist_append_right L2 _).trans (List.sublist_append_right L1 _)))) _) _)).swapApp.unassoc.unmid
  exact ⟨_, ⟨s19, s21, _, 0, [], _, L19, L21, [], ho19, ho21, OwnS.nil, Nat.le_refl _, rfl⟩, by simpa using h2⟩

set_option maxHeartbeats 1000000 in
set_option maxRecDepth 100000 in
theorem lay_ok {E : Env} {w : World} {Ls F : List (Nat × Obj)} {s sd : Value} {xs ys : Bytes} (ho : OwnB 5 s xs Ls) (h : Has E w (Ls ++ F)) (hd : Sl F sd ys) (at_ : Nat) (hb1 : xs.length ≤ 1099511627776) (hb2 : at_ + ys.length ≤ 1099511627776) : Ret Tryd.prog 36 [s, i64 at_, sd] w fun v w' => ∃ Ls', OwnB 5 v (layZ xs at_ ys) Ls' ∧ Has E w' (Ls' ++ F) := by
  have hg := layZ_grow (s := xs) (at_ := at_) (b := ys)
  have hf := layZ_fits (s := xs) (at_ := at_) (b := ys)
  have hsl : Sl (Ls ++ F) s xs := ho.sl F
  refine ret_of_wp (l := [s, i64 at_, sd, undef, undef, undef, undef, undef, undef, undef, undef, undef, undef, undef, undef, undef, undef, undef, undef, undef, undef, undef, undef, undef, undef, undef, undef, undef, undef, undef, undef, undef]) Tryd.func36 rfl (by simp only [Tryd.ntmps36, List.size_toArray, List.length_cons, List.length_nil, Nat.reduceAdd, Nat.reduceSub, Array.replicate_succ, Array.replicate_zero, List.push_toArray, List.append_toArray, List.nil_append, List.cons_append]) fun Q hQ => ?_
  refine cw_seq fun K1 hK1 => ?_
  refine cw_region ?_
  refine wl_p (r_assign rfl) ?_
  refine wl_nil ?_
  refine hK1 _ _ ?_
  clear hK1 K1
  refine cw_seq fun K2 hK2 => ?_
  refine cw_seq fun K3 hK3 => ?_
  refine cw_region ?_
  refine wl_p (r_move rfl) ?_
  refine wl_p (r_len_sl rfl hd Tryd.runUnderlying25) ?_
  refine wl_p (r_eql  (n := 0) rfl rfl) ?_
  refine wl_nil ?_
  refine hK3 _ _ ?_
  clear hK3 K3
  refine wp_cond_split rfl (fun hc => ?_) (fun hc => ?_)
  · have h0 := of_decide_eq_true hc; clear hc
    have h0 : ys.length = 0 := by omega
    refine cw_seq fun K4 hK4 => ?_
    refine cw_region ?_
    refine wl_p (r_move rfl) ?_
    refine wl_p (r_assign rfl) ?_
    refine wl_nil ?_
    refine hK4 _ _ ?_
    clear hK4 K4
    refine wp_ret ?_
    refine (hQ _ _ _ (res_tmp rfl rfl) ?_).1
    try simp only [List.getD_cons_zero, List.getD_cons_succ]
    exact ⟨Ls, by rw [layZ_nil _ _ _ h0]; exact ho, h⟩
  · have h0 := of_decide_eq_false hc; clear hc
    have h0 : ¬ ys.length = 0 := by omega
    replace hg := hg h0
    replace hf := hf h0
    refine wp_skip ?_
    refine hK2 _ _ ?_
    clear hK2 K2
    refine cw_seq fun K5 hK5 => ?_
    refine cw_seq fun K6 hK6 => ?_
    refine cw_region ?_
    refine wl_p (r_move rfl) ?_
    refine wl_p (r_move rfl) ?_
    refine wl_p (r_len_sl rfl hd Tryd.runUnderlying25) ?_
    refine wl_p (r_add_n (m := at_)  (n := ys.length)  rfl rfl (by omega)) ?_
    refine wl_p (r_assign rfl) ?_
    refine wl_nil ?_
    refine hK6 _ _ ?_
    clear hK6 K6
    refine cw_seq fun K7 hK7 => ?_
    refine cw_region ?_
    refine wl_p (r_move rfl) ?_
    refine wl_p (r_move rfl) ?_
    refine wl_p (r_len_sl rfl hsl Tryd.runUnderlying25) ?_
    refine wl_p (r_gtr   rfl rfl) ?_
    refine wl_nil ?_
    refine hK7 _ _ ?_
    clear hK7 K7
    refine wp_cond_split rfl (fun hc => ?_) (fun hc => ?_)
    · have hgt := of_decide_eq_true hc; clear hc
      have hgt : xs.length < at_ + ys.length := by omega
      have hzl : (xs ++ List.replicate (at_ + ys.length - xs.length) (0 : BitVec 8)).length = at_ + ys.length := by rw [List.length_append, List.length_replicate]; omega
      refine cw_region ?_
      refine wl_p (r_move rfl) ?_
      refine wl_p (r_move rfl) ?_
      refine wl_p (r_move rfl) ?_
      refine wl_p (r_len_sl rfl hsl Tryd.runUnderlying25) ?_
      refine wl_p (r_sub_n (m := at_ + ys.length)  (n := xs.length)  rfl rfl (by omega) (by omega)) ?_
      refine wl_o fun Ko hKo => ?_
      refine op_appendBz (m := at_ + ys.length - xs.length) h rfl rfl ho rfl Tryd.runUnderlying25 Tryd.typeInfo5 Tryd.runUnderlying3 Tryd.sizeOf5 Tryd.zeroValue5 (by show _ * 1 ≤ _; omega) (by omega) fun s25 L25 w ho25 h => ?_
      refine hKo _ _ _ ?_; clear hKo Ko
      refine wl_p (r_assign rfl) ?_
      refine wl_nil ?_
      refine hK5 _ _ ?_
      clear hK5 K5
      refine cw_seq fun K8 hK8 => ?_
      refine cw_region ?_
      refine wl_p (r_move rfl) ?_
      refine wl_p (r_move rfl) ?_
      refine wl_p (r_slice_l (lo := at_) (ho25.sl F) rfl rfl (by rw [hzl]; omega) Tryd.runUnderlying25 Tryd.sizeOf5) ?_
      refine wl_p (r_move rfl) ?_
      refine wl_o fun Ko hKo => ?_
      refine op_copyOwn (lo := at_) h ho25 rfl rfl (Rd.app _ hd) Tryd.runUnderlying25 Tryd.sizeOf5 (by rw [hzl]; omega) (by rw [hzl]; omega) fun L30 w ho30 h => ?_
      rw [hg] at ho30
      refine hKo _ _ _ ?_; clear hKo Ko
      refine wl_nil ?_
      refine hK8 _ _ ?_
      clear hK8 K8
      refine cw_seq fun K9 hK9 => ?_
      refine cw_region ?_
      refine wl_p (r_move rfl) ?_
      refine wl_p (r_assign rfl) ?_
      refine wl_nil ?_
      refine hK9 _ _ ?_
      clear hK9 K9
      refine wp_ret ?_
      refine (hQ _ _ _ (res_tmp rfl rfl) ?_).1
      try simp only [List.getD_cons_zero, List.getD_cons_succ]
      exact ⟨L30, ho30, h⟩
    · have hgt := of_decide_eq_false hc; clear hc
      have hgt : at_ + ys.length ≤ xs.length := by omega
      replace hf := hf hgt
      refine wp_skip ?_
      refine hK5 _ _ ?_
      clear hK5 K5
      refine cw_seq fun K10 hK10 => ?_
      refine cw_region ?_
      refine wl_p (r_move rfl) ?_
      refine wl_p (r_move rfl) ?_
      refine wl_p (r_slice_l (lo := at_) (ho.sl F) rfl rfl (by rw [show xs.length = xs.length from rfl]; omega) Tryd.runUnderlying25 Tryd.sizeOf5) ?_
      refine wl_p (r_move rfl) ?_
      refine wl_o fun Ko hKo => ?_
      refine op_copyOwn (lo := at_) h ho rfl rfl (Rd.app _ hd) Tryd.runUnderlying25 Tryd.sizeOf5 (by rw [show xs.length = xs.length from rfl]; omega) (by rw [show xs.length = xs.length from rfl]; omega) fun L30 w ho30 h => ?_
      rw [hf] at ho30
      refine hKo _ _ _ ?_; clear hKo Ko
      refine wl_nil ?_
      refine hK10 _ _ ?_
      clear hK10 K10
      refine cw_seq fun K11 hK11 => ?_
      refine cw_region ?_
      refine wl_p (r_move rfl) ?_
      refine wl_p (r_assign rfl) ?_
      refine wl_nil ?_
      refine hK11 _ _ ?_
      clear hK11 K11
      refine wp_ret ?_
      refine (hQ _ _ _ (res_tmp rfl rfl) ?_).1
      try simp only [List.getD_cons_zero, List.getD_cons_succ]
      exact ⟨L30, ho30, h⟩

set_option maxHeartbeats 1000000 in
set_option maxRecDepth 100000 in
theorem readdev_ok {E : Env} {w : World} {F Ld : List (Nat × Obj)} {d most : Nat} {seen safe : Bytes} {kk : Nat} (hD : DevB d most seen safe kk Ld) (h : Has E w (Ld ++ F)) (at_ n : Nat) (hb : at_ + n ≤ 1099511627776) (hx : seen.length ≤ 1099511627776) (hin : at_ + n ≤ seen.length) : Ret Tryd.prog 51 [ptr d 0, i64 at_, i64 n] w fun v w' => ∃ so Ls, v = .tuple #[so, i64 0] ∧ OwnB 5 so ((seen.drop at_).take n) Ls ∧ Has E w' (Ls ++ (Ld ++ F)) := by
  obtain ⟨s1, s2, s3, n3, l3, st, L1, L2, L3, ho1, ho2, ho3, hn3, rfl⟩ := hD
  simp only [List.cons_append, List.append_assoc] at h
  refine ret_of_wp (l := [ptr d 0, i64 at_, i64 n, undef, undef, undef, undef, undef, undef, undef, undef, undef, undef, undef, undef, undef, undef, undef, undef, undef, undef, undef, undef, undef, undef, undef, undef, undef, undef, undef, undef, undef, undef, undef, undef, undef, undef, undef, undef, undef, undef, undef, undef, undef, undef, undef, undef, undef, undef, undef, undef, undef]) Tryd.func51 rfl (by simp only [Tryd.ntmps51, List.size_toArray, List.length_cons, List.length_nil, Nat.reduceAdd, Nat.reduceSub, Array.replicate_succ, Array.replicate_zero, List.push_toArray, List.append_toArray, List.nil_append, List.cons_append]) fun Q hQ => ?_
  refine cw_seq fun K1 hK1 => ?_
  refine cw_region ?_
  refine wl_p (r_assign rfl) ?_
  refine wl_p (r_assign rfl) ?_
  refine wl_nil ?_
  refine hK1 _ _ ?_
  clear hK1 K1
  refine cw_seq fun K2 hK2 => ?_
  refine cw_seq fun K3 hK3 => ?_
  refine cw_region ?_
  refine wl_p (r_move rfl) ?_
  refine wl_o fun Ko hKo => ?_
  refine op_call [_] Tryd.call70 rfl (up_ok ⟨s1, s2, s3, n3, l3, st, L1, L2, L3, ho1, ho2, ho3, hn3, rfl⟩ (F := F) (by simpa using h)) ?_
  clear h; rintro _ w ⟨rfl, h⟩
  simp only [List.cons_append, List.append_assoc] at h
  refine hKo _ _ _ ?_; clear hKo Ko
  refine wl_p (r_assign rfl) ?_
  refine wl_nil ?_
  refine hK3 _ _ ?_
  clear hK3 K3
  refine wp_block ?_
  refine cw_seq fun K4 hK4 => ?_
  refine cw_region ?_
  refine wl_p (r_move rfl) ?_
  refine wl_p (r_neq_f  (n := 0) rfl rfl (by first | assumption | omega | (exact side_of) | (simp; done))) ?_
  refine wl_p (r_assign rfl) ?_
  refine wl_nil ?_
  refine hK4 _ _ ?_
  clear hK4 K4
  refine wp_cond_false rfl ?_
  refine cw_seq fun K5 hK5 => ?_
  refine cw_region ?_
  refine wl_p (r_move rfl) ?_
  refine wl_p (r_lss_f  (n := 0) rfl rfl (by omega)) ?_
  refine wl_p (r_move rfl) ?_
  refine wl_pw (r_move rfl) ?_
  refine wl_pw (r_lss_f  (n := 0) rfl rfl (by omega)) ?_
  refine wl_p (r_pick_f rfl rfl) ?_
  refine wl_p (r_move rfl) ?_
  refine wl_pw (r_move rfl) ?_
  refine wl_pw (r_move rfl) ?_
  refine wl_pw (r_nilCheck rfl) ?_
  refine wl_pw (r_fieldAddr (off := 1) rfl Tryd.runUnderlying62 rfl Tryd.sizeOf25 rfl rfl) ?_
  refine wl_pw (r_load (v := s1) h rfl rfl Tryd.isAgg25) ?_
  refine wl_pw (r_len_sl rfl (ho1.sl F) Tryd.runUnderlying25) ?_
  refine wl_pw (r_gtr_f   rfl rfl (by omega)) ?_
  refine wl_p (r_pick_f rfl rfl) ?_
  refine wl_p (r_move rfl) ?_
  refine wl_pw (r_move rfl) ?_
  refine wl_pw (r_move rfl) ?_
  refine wl_pw (r_nilCheck rfl) ?_
  refine wl_pw (r_fieldAddr (off := 1) rfl Tryd.runUnderlying62 rfl Tryd.sizeOf25 rfl rfl) ?_
  refine wl_pw (r_load (v := s1) h rfl rfl Tryd.isAgg25) ?_
  refine wl_pw (r_len_sl rfl (ho1.sl F) Tryd.runUnderlying25) ?_
  refine wl_pw (r_move rfl) ?_
  refine wl_pw (r_sub_i (r := ((seen.length - at_ : Nat) : Int)) rfl rfl (by omega) (by omega) (by omega)) ?_
  refine wl_pw (r_gtr_f   rfl rfl (by omega)) ?_
  refine wl_p (r_pick_f rfl rfl) ?_
  refine wl_p (r_assign rfl) ?_
  refine wl_nil ?_
  refine hK5 _ _ ?_
  clear hK5 K5
  refine wp_cond_false rfl ?_
  refine wp_skip ?_
  refine hK2 _ _ ?_
  clear hK2 K2
  refine cw_seq fun K6 hK6 => ?_
  refine cw_region ?_
  refine wl_p (r_move rfl) ?_
  refine wl_p (r_nilCheck rfl) ?_
  refine wl_p (r_fieldAddr (off := 1) rfl Tryd.runUnderlying62 rfl Tryd.sizeOf25 rfl rfl) ?_
  refine wl_p (r_load (v := s1) h rfl rfl Tryd.isAgg25) ?_
  refine wl_p (r_move rfl) ?_
  refine wl_p (r_move rfl) ?_
  refine wl_p (r_move rfl) ?_
  refine wl_p (r_add_n (m := at_)  (n := n)  rfl rfl (by omega)) ?_
  refine wl_p (r_slice_lh (lo := at_) (hi := at_ + n) (ho1.sl F) rfl rfl rfl (by omega) (by omega) Tryd.runUnderlying25 Tryd.sizeOf5) ?_
  refine wl_o fun Ko hKo => ?_
  refine op_call [_] Tryd.call22 rfl (clone_ok h (xs := (seen.take (at_ + n)).drop at_) (Sl.cutLH (Rd.cons (ho1.sl (L2 ++ (L3 ++ F)))) (by omega) hin) (by simp; omega)) ?_
  clear h; rintro s51 w ⟨L51, ho51, h⟩
  refine hKo _ _ _ ?_; clear hKo Ko
  refine wl_p (r_assign rfl) ?_
  refine wl_p (r_assign rfl) ?_
  refine wl_nil ?_
  refine hK6 _ _ ?_
  clear hK6 K6
  refine wp_ret ?_
  refine (hQ _ _ _ (res_tmp2 rfl rfl rfl) ?_).1
  try simp only [List.getD_cons_zero, List.getD_cons_succ]
  refine ⟨s51, L51, rfl, ?_, by simpa using h⟩
  rw [List.drop_take, Nat.add_sub_cancel_left] at ho51; exact ho51

set_option maxHeartbeats 1000000 in
set_option maxRecDepth 100000 in
theorem readout_ok {E : Env} {w : World} {F Ld : List (Nat × Obj)} {d most : Nat} {seen safe : Bytes} {kk : Nat} (hD : DevB d most seen safe kk Ld) (h : Has E w (Ld ++ F)) (at_ n : Nat) (hb : at_ + n ≤ 1099511627776) (hx : seen.length ≤ 1099511627776) (hout : seen.length < at_) : Ret Tryd.prog 51 [ptr d 0, i64 at_, i64 n] w fun v w' => v = .tuple #[.slice none 0 0, i64 43] ∧ Has E w' (Ld ++ F) := by
  obtain ⟨s1, s2, s3, n3, l3, st, L1, L2, L3, ho1, ho2, ho3, hn3, rfl⟩ := hD
  simp only [List.cons_append, List.append_assoc] at h
  refine ret_of_wp (l := [ptr d 0, i64 at_, i64 n, undef, undef, undef, undef, undef, undef, undef, undef, undef, undef, undef, undef, undef, undef, undef, undef, undef, undef, undef, undef, undef, undef, undef, undef, undef, undef, undef, undef, undef, undef, undef, undef, undef, undef, undef, undef, undef, undef, undef, undef, undef, undef, undef, undef, undef, undef, undef, undef, undef]) Tryd.func51 rfl (by simp only [Tryd.ntmps51, List.size_toArray, List.length_cons, List.length_nil, Nat.reduceAdd, Nat.reduceSub, Array.replicate_succ, Array.replicate_zero, List.push_toArray, List.append_toArray, List.nil_append, List.cons_append]) fun Q hQ => ?_
  refine cw_seq fun K1 hK1 => ?_
  refine cw_region ?_
  refine wl_p (r_assign rfl) ?_
  refine wl_p (r_assign rfl) ?_
  refine wl_nil ?_
  refine hK1 _ _ ?_
  clear hK1 K1
  refine cw_seq fun K2 hK2 => ?_
  refine cw_seq fun K3 hK3 => ?_
  refine cw_region ?_
  refine wl_p (r_move rfl) ?_
  refine wl_o fun Ko hKo => ?_
  refine op_call [_] Tryd.call70 rfl (up_ok ⟨s1, s2, s3, n3, l3, st, L1, L2, L3, ho1, ho2, ho3, hn3, rfl⟩ (F := F) (by simpa using h)) ?_
  clear h; rintro _ w ⟨rfl, h⟩
  simp only [List.cons_append, List.append_assoc] at h
  refine hKo _ _ _ ?_; clear hKo Ko
  refine wl_p (r_assign rfl) ?_
  refine wl_nil ?_
  refine hK3 _ _ ?_
  clear hK3 K3
  refine wp_block ?_
  refine cw_seq fun K4 hK4 => ?_
  refine cw_region ?_
  refine wl_p (r_move rfl) ?_
  refine wl_p (r_neq_f  (n := 0) rfl rfl (by first | assumption | omega | (exact side_of) | (simp; done))) ?_
  refine wl_p (r_assign rfl) ?_
  refine wl_nil ?_
  refine hK4 _ _ ?_
  clear hK4 K4
  refine wp_cond_false rfl ?_
  refine cw_seq fun K5 hK5 => ?_
  refine cw_region ?_
  refine wl_p (r_move rfl) ?_
  refine wl_p (r_lss_f  (n := 0) rfl rfl (by omega)) ?_
  refine wl_p (r_move rfl) ?_
  refine wl_pw (r_move rfl) ?_
  refine wl_pw (r_lss_f  (n := 0) rfl rfl (by omega)) ?_
  refine wl_p (r_pick_f rfl rfl) ?_
  refine wl_p (r_move rfl) ?_
  refine wl_pw (r_move rfl) ?_
  refine wl_pw (r_move rfl) ?_
  refine wl_pw (r_nilCheck rfl) ?_
  refine wl_pw (r_fieldAddr (off := 1) rfl Tryd.runUnderlying62 rfl Tryd.sizeOf25 rfl rfl) ?_
  refine wl_pw (r_load (v := s1) h rfl rfl Tryd.isAgg25) ?_
  refine wl_pw (r_len_sl rfl (ho1.sl F) Tryd.runUnderlying25) ?_
  refine wl_pw (r_gtr_t   rfl rfl (by omega)) ?_
  refine wl_p (r_pick_f rfl rfl) ?_
  refine wl_p (r_move rfl) ?_
  refine wl_s ?_
  refine wl_s ?_
  refine wl_s ?_
  refine wl_s ?_
  refine wl_s ?_
  refine wl_s ?_
  refine wl_s ?_
  refine wl_s ?_
  refine wl_s ?_
  refine wl_p (r_pick rfl rfl) ?_
  refine wl_p (r_assign rfl) ?_
  refine wl_nil ?_
  refine hK5 _ _ ?_
  clear hK5 K5
  refine wp_cond_true rfl ?_
  refine cw_seq fun K6 hK6 => ?_
  refine cw_region ?_
  refine wl_p (r_assign rfl) ?_
  refine wl_p (r_assign rfl) ?_
  refine wl_nil ?_
  refine hK6 _ _ ?_
  clear hK6 K6
  refine wp_ret ?_
  refine (hQ _ _ _ (res_tmp2 rfl rfl rfl) ?_).1
  try simp only [List.getD_cons_zero, List.getD_cons_succ]
  exact ⟨by trivial, by simpa using h⟩

set_option maxHeartbeats 1000000 in
set_option maxRecDepth 100000 in
theorem readpart_ok {E : Env} {w : World} {F Ld : List (Nat × Obj)} {d most : Nat} {seen safe : Bytes} {kk : Nat} (hD : DevB d most seen safe kk Ld) (h : Has E w (Ld ++ F)) (at_ n : Nat) (hb : at_ + n ≤ 1099511627776) (hx : seen.length ≤ 1099511627776) (hin : at_ ≤ seen.length) (hout : seen.length < at_ + n) : Ret Tryd.prog 51 [ptr d 0, i64 at_, i64 n] w fun v w' => v = .tuple #[.slice none 0 0, i64 43] ∧ Has E w' (Ld ++ F) := by
  obtain ⟨s1, s2, s3, n3, l3, st, L1, L2, L3, ho1, ho2, ho3, hn3, rfl⟩ := hD
  simp only [List.cons_append, List.append_assoc] at h
  refine ret_of_wp (l := [ptr d 0, i64 at_, i64 n, undef, undef, undef, undef, undef, undef, undef, undef, undef, undef, undef, undef, undef, undef, undef, undef, undef, undef, undef, undef, undef, undef, undef, undef, undef, undef, undef, undef, undef, undef, undef, undef, undef, undef, undef, undef, undef, undef, undef, undef, undef, undef, undef, undef, undef, undef, undef, undef, undef]) Tryd.func51 rfl (by simp only [Tryd.ntmps51, List.size_toArray, List.length_cons, List.length_nil, Nat.reduceAdd, Nat.reduceSub, Array.replicate_succ, Array.replicate_zero, List.push_toArray, List.append_toArray, List.nil_append, List.cons_append]) fun Q hQ => ?_
  refine cw_seq fun K1 hK1 => ?_
  refine cw_region ?_
  refine wl_p (r_assign rfl) ?_
  refine wl_p (r_assign rfl) ?_
  refine wl_nil ?_
  refine hK1 _ _ ?_
  clear hK1 K1
  refine cw_seq fun K2 hK2 => ?_
  refine cw_seq fun K3 hK3 => ?_
  refine cw_region ?_
  refine wl_p (r_move rfl) ?_
  refine wl_o fun Ko hKo => ?_
  refine op_call [_] Tryd.call70 rfl (up_ok ⟨s1, s2, s3, n3, l3, st, L1, L2, L3, ho1, ho2, ho3, hn3, rfl⟩ (F := F) (by simpa using h)) ?_
  clear h; rintro _ w ⟨rfl, h⟩
  simp only [List.cons_append, List.append_assoc] at h
  refine hKo _ _ _ ?_; clear hKo Ko
  refine wl_p (r_assign rfl) ?_
  refine wl_nil ?_
  refine hK3 _ _ ?_
  clear hK3 K3
  refine wp_block ?_
  refine cw_seq fun K4 hK4 => ?_
  refine cw_region ?_
  refine wl_p (r_move rfl) ?_
  refine wl_p (r_neq_f  (n := 0) rfl rfl (by first | assumption | omega | (exact side_of) | (simp; done))) ?_
  refine wl_p (r_assign rfl) ?_
  refine wl_nil ?_
  refine hK4 _ _ ?_
  clear hK4 K4
  refine wp_cond_false rfl ?_
  refine cw_seq fun K5 hK5 => ?_
  refine cw_region ?_
  refine wl_p (r_move rfl) ?_
  refine wl_p (r_lss_f  (n := 0) rfl rfl (by omega)) ?_
  refine wl_p (r_move rfl) ?_
  refine wl_pw (r_move rfl) ?_
  refine wl_pw (r_lss_f  (n := 0) rfl rfl (by omega)) ?_
  refine wl_p (r_pick_f rfl rfl) ?_
  refine wl_p (r_move rfl) ?_
  refine wl_pw (r_move rfl) ?_
  refine wl_pw (r_move rfl) ?_
  refine wl_pw (r_nilCheck rfl) ?_
  refine wl_pw (r_fieldAddr (off := 1) rfl Tryd.runUnderlying62 rfl Tryd.sizeOf25 rfl rfl) ?_
  refine wl_pw (r_load (v := s1) h rfl rfl Tryd.isAgg25) ?_
  refine wl_pw (r_len_sl rfl (ho1.sl F) Tryd.runUnderlying25) ?_
  refine wl_pw (r_gtr_f   rfl rfl (by omega)) ?_
  refine wl_p (r_pick_f rfl rfl) ?_
  refine wl_p (r_move rfl) ?_
  refine wl_pw (r_move rfl) ?_
  refine wl_pw (r_move rfl) ?_
  refine wl_pw (r_nilCheck rfl) ?_
  refine wl_pw (r_fieldAddr (off := 1) rfl Tryd.runUnderlying62 rfl Tryd.sizeOf25 rfl rfl) ?_
  refine wl_pw (r_load (v := s1) h rfl rfl Tryd.isAgg25) ?_
  refine wl_pw (r_len_sl rfl (ho1.sl F) Tryd.runUnderlying25) ?_
  refine wl_pw (r_move rfl) ?_
  refine wl_pw (r_sub_i (r := ((seen.length - at_ : Nat) : Int)) rfl rfl (by omega) (by omega) (by omega)) ?_
  refine wl_pw (r_gtr_t   rfl rfl (by omega)) ?_
  refine wl_p (r_pick_f rfl rfl) ?_
  refine wl_p (r_assign rfl) ?_
  refine wl_nil ?_
  refine hK5 _ _ ?_
  clear hK5 K5
  refine wp_cond_true rfl ?_
  refine cw_seq fun K6 hK6 => ?_
  refine cw_region ?_
  refine wl_p (r_assign rfl) ?_
  refine wl_p (r_assign rfl) ?_
  refine wl_nil ?_
  refine hK6 _ _ ?_
  clear hK6 K6
  refine wp_ret ?_
  refine (hQ _ _ _ (res_tmp2 rfl rfl rfl) ?_).1
  try simp only [List.getD_cons_zero, List.getD_cons_succ]
  exact ⟨by trivial, by simpa using h⟩

end Go.Proofs.YtjdfenlmifhhdaaDoor
