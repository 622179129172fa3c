/-
  Walks, printed by mk.py (a program of this work) out of specs15.py: what the Go functions compute, and that nobody else's memory turns. Condition: none.
-/
import Derived.Test.YtjdfenlmifhhdaaDoorProg
import Derived.Test.YtjdfenlmifhhdaaDoorAuto
import Derived.Test.YtjdfenlmifhhdaaDoorDev2
namespace Go.Proofs.YtjdfenlmifhhdaaDoor
open Go.RowKit

attribute [local irreducible] layZ
set_option maxHeartbeats 2000000 in
set_option maxRecDepth 100000 in
theorem write_ok {E : Env} {w : World} {F Ld : List (Nat × Obj)} {d most : Nat} {seen safe : Bytes} {kk : Nat} (hD : DevB d most seen safe kk Ld) (h : Has E w (Ld ++ F)) {sd : Value} {xs : Bytes} (hd : Sl F sd xs) (A : Nat) (hm : most ≤ 16777216) (hx : xs.length ≤ 65536) (hsl : seen.length ≤ 16777216) (hA : A ≤ 262144) {N : Nat} (hN : xs.length = 512 * N) (hN1 : 1 ≤ N) (hN2 : N ≤ 128) (hin : 512 * A ≤ seen.length) (hfull : 512 * A + xs.length ≤ most) (hkk : kk ≤ 1073741824) : Ret Tryd.prog 43 [ptr d 0, i64 ((512 * A : Nat) : Int), sd] w fun v w' => v = i64 0 ∧ ∃ Ld', DevB d most (layZ seen (512 * A) xs) safe (kk + N) Ld' ∧ Has E w' (Ld' ++ F) := by
  refine ret_of_wp (l := [ptr d 0, i64 ((512 * A : Nat) : Int), sd, undef, undef, undef, undef, undef, undef, undef, undef, undef, undef, undef, undef, undef, undef, undef, undef, undef, undef, undef, undef, undef, undef, undef, undef, undef, undef, undef, undef, undef, undef, undef, undef, undef, undef, undef, undef]) Tryd.func43 rfl (by simp only [Tryd.ntmps43, List.size_toArray, List.length_cons, List.length_nil, Nat.reduceAdd, Nat.reduceSub, Array.replicate_succ, Array.replicate_zero, List.push_toArray, List.append_toArray, List.nil_append, List.cons_append]) fun Q hQ => ?_
  refine cw_seq fun K1 hK1 => ?_
  refine cw_region ?_
  refine wl_o fun Ko hKo => ?_
  refine op_box h rfl (show Value.cells (ptr d 0) = [ptr d 0].toArray from rfl) fun b3 w h => ?_
  refine hKo _ _ _ ?_; clear hKo Ko
  refine wl_o fun Ko hKo => ?_
  refine op_box h rfl (show Value.cells (i64 ((512 * A : Nat) : Int)) = [i64 ((512 * A : Nat) : Int)].toArray from rfl) fun b4 w h => ?_
  refine hKo _ _ _ ?_; clear hKo Ko
  refine wl_o fun Ko hKo => ?_
  refine op_box h rfl (show Value.cells sd = [sd].toArray from one_cells hd.one) fun b5 w h => ?_
  refine hKo _ _ _ ?_; clear hKo Ko
  refine wl_p (r_assign rfl) ?_
  refine wl_nil ?_
  refine hK1 _ _ ?_
  clear hK1 K1
  refine cw_seq fun K2 hK2 => ?_
  refine cw_seq fun K3 hK3 => ?_
  refine cw_region ?_
  refine wl_p (r_load (v := ptr d 0) h rfl rfl Tryd.isAgg26) ?_
  have h := Has.swapApp (A := [_, _, _]) (B := Ld) h
  simp only [List.cons_append, List.nil_append] at h
  refine wl_o fun Ko hKo => ?_
  refine op_call [_] Tryd.call70 rfl (up_ok hD h) ?_
  clear h; rintro _ w ⟨rfl, h⟩
  obtain ⟨s1, s2, s3, n3, l3, st, L1, L2, L3, ho1, ho2, ho3, hn3, rfl⟩ := hD
  simp only [List.cons_append, List.append_assoc] at h
  refine hKo _ _ _ ?_; clear hKo Ko
  refine wl_p (r_assign rfl) ?_
  refine wl_nil ?_
  refine hK3 _ _ ?_
  clear hK3 K3
  refine wp_block ?_
  refine cw_seq fun K4 hK4 => ?_
  refine cw_region ?_
  refine wl_p (r_move rfl) ?_
  refine wl_p (r_neq_f  (n := 0) rfl rfl (by first | assumption | omega | (exact side_of) | (simp; done))) ?_
  refine wl_p (r_assign rfl) ?_
  refine wl_nil ?_
  refine hK4 _ _ ?_
  clear hK4 K4
  refine wp_cond_false rfl ?_
  refine cw_seq fun K5 hK5 => ?_
  refine cw_drawnH h (h) (fun i => false) (by kernel_rfl) 12 rfl #[false, false, false, false, false, false, false, false, false, false, false, false] rfl ?_
  clear h; rintro w h hS
  refine dn_l 0 #[true, false, false, false, false, false, false, false, false, false, false, false] ⟨some 15, _, _, _, _, _⟩ rfl (by first | exact h | exact h.tail | exact h.tail.tail | exact hS) (fun w hS => r_load (v := i64 ((512 * A : Nat) : Int)) hS rfl rfl Tryd.isAgg3) ?_
  refine dn_p 1 #[true, true, false, false, false, false, false, false, false, false, false, false] ⟨some 16, _, _, _, _, _⟩ rfl (fun w => r_lss_f  (n := 0) rfl rfl (by omega)) ?_
  refine dn_p 2 #[true, true, true, false, false, false, false, false, false, false, false, false] ⟨some 17, _, _, _, _, _⟩ rfl (fun w => r_move rfl) ?_
  refine dn_l 3 #[true, true, true, true, false, false, false, false, false, false, false, false] ⟨some 18, _, _, _, _, _⟩ rfl (by first | exact h | exact h.tail | exact h.tail.tail | exact hS) (fun w hS => r_load (v := i64 ((512 * A : Nat) : Int)) hS rfl rfl Tryd.isAgg3) ?_
  refine dn_l 4 #[true, true, true, true, true, false, false, false, false, false, false, false] ⟨some 19, _, _, _, _, _⟩ rfl (by first | exact h | exact h.tail | exact h.tail.tail | exact hS) (fun w hS => r_load (v := ptr d 0) hS rfl rfl Tryd.isAgg26) ?_
  refine dn_p 5 #[true, true, true, true, true, true, false, false, false, false, false, false] ⟨some 20, _, _, _, _, _⟩ rfl (fun w => r_nilCheck rfl) ?_
  refine dn_p 6 #[true, true, true, true, true, true, true, false, false, false, false, false] ⟨some 21, _, _, _, _, _⟩ rfl (fun w => r_fieldAddr (off := 1) rfl Tryd.runUnderlying62 rfl Tryd.sizeOf25 rfl rfl) ?_
  refine dn_l 7 #[true, true, true, true, true, true, true, true, false, false, false, false] ⟨some 22, _, _, _, _, _⟩ rfl (by first | exact h | exact h.tail | exact h.tail.tail | exact hS) (fun w hS => r_load (v := s1) hS rfl rfl Tryd.isAgg25) ?_
  refine dn_p 8 #[true, true, true, true, true, true, true, true, true, false, false, false] ⟨some 23, _, _, _, _, _⟩ rfl (fun w => r_len_sl rfl (ho1.sl F) Tryd.runUnderlying25) ?_
  refine dn_p 9 #[true, true, true, true, true, true, true, true, true, true, false, false] ⟨some 24, _, _, _, _, _⟩ rfl (fun w => r_gtr_f   rfl rfl (by omega)) ?_
  refine dn_p 10 #[true, true, true, true, true, true, true, true, true, true, true, false] ⟨some 25, _, _, _, _, _⟩ rfl (fun w => r_pick_f rfl rfl) ?_
  refine dn_p 11 #[true, true, true, true, true, true, true, true, true, true, true, true] ⟨some 14, _, _, _, _, _⟩ rfl (fun w => r_assign rfl) ?_
  refine dn_done (by kernel_rfl) ?_
  refine hK5 _ _ ?_
  clear hK5 K5
  refine wp_cond_false rfl ?_
  refine cw_seq fun K6 hK6 => ?_
  refine cw_drawnH h (h) (fun i => false) (by kernel_rfl) 10 rfl #[false, false, false, false, false, false, false, false, false, false] rfl ?_
  clear h; rintro w h hS
  refine dn_l 0 #[true, false, false, false, false, false, false, false, false, false] ⟨some 27, _, _, _, _, _⟩ rfl (by first | exact h | exact h.tail | exact h.tail.tail | exact hS) (fun w hS => r_load (v := sd) hS rfl rfl Tryd.isAgg25) ?_
  refine dn_p 1 #[true, true, false, false, false, false, false, false, false, false] ⟨some 28, _, _, _, _, _⟩ rfl (fun w => r_len_sl rfl hd Tryd.runUnderlying25) ?_
  refine dn_l 2 #[true, true, true, false, false, false, false, false, false, false] ⟨some 29, _, _, _, _, _⟩ rfl (by first | exact h | exact h.tail | exact h.tail.tail | exact hS) (fun w hS => r_load (v := ptr d 0) hS rfl rfl Tryd.isAgg26) ?_
  refine dn_p 3 #[true, true, true, true, false, false, false, false, false, false] ⟨some 30, _, _, _, _, _⟩ rfl (fun w => r_nilCheck rfl) ?_
  refine dn_p 4 #[true, true, true, true, true, false, false, false, false, false] ⟨some 31, _, _, _, _, _⟩ rfl (fun w => r_fieldAddr (off := 0) rfl Tryd.runUnderlying62 rfl Tryd.sizeOf3 rfl rfl) ?_
  refine dn_l 5 #[true, true, true, true, true, true, false, false, false, false] ⟨some 32, _, _, _, _, _⟩ rfl (by first | exact h | exact h.tail | exact h.tail.tail | exact hS) (fun w hS => r_load (v := i64 most) hS rfl rfl Tryd.isAgg3) ?_
  refine dn_l 6 #[true, true, true, true, true, true, true, false, false, false] ⟨some 33, _, _, _, _, _⟩ rfl (by first | exact h | exact h.tail | exact h.tail.tail | exact hS) (fun w hS => r_load (v := i64 ((512 * A : Nat) : Int)) hS rfl rfl Tryd.isAgg3) ?_
  refine dn_p 7 #[true, true, true, true, true, true, true, true, false, false] ⟨some 34, _, _, _, _, _⟩ rfl (fun w => r_sub_i (r := (most : Int) - (512 * A : Nat)) rfl rfl rfl (by omega) (by omega)) ?_
  refine dn_p 8 #[true, true, true, true, true, true, true, true, true, false] ⟨some 35, _, _, _, _, _⟩ rfl (fun w => r_gtr_f   rfl rfl (by omega)) ?_
  refine dn_p 9 #[true, true, true, true, true, true, true, true, true, true] ⟨some 26, _, _, _, _, _⟩ rfl (fun w => r_assign rfl) ?_
  refine dn_done (by kernel_rfl) ?_
  refine hK6 _ _ ?_
  clear hK6 K6
  refine wp_cond_false rfl ?_
  refine wp_skip ?_
  refine hK2 _ _ ?_
  clear hK2 K2
  refine cw_seq fun K7 hK7 => ?_
  refine cw_region ?_
  refine wl_p (r_load (v := ptr d 0) h rfl rfl Tryd.isAgg26) ?_
  refine wl_p (r_makeFuncL (f1 := []) (c1 := [ptr b3 0, ptr b4 0, ptr b5 0]) rfl rfl) ?_
  have h := Has.bring (A := L1) (B := L2) (C := L3) (D := [_, _, _]) (F := F) h
  simp only [List.cons_append, List.nil_append] at h
  refine wl_o fun Ko hKo => ?_
  refine op_call [_, _] Tryd.call71 rfl (step_ok h (caps := [ptr b3 0, ptr b4 0, ptr b5 0]) Tryd.call72 (fun st w h => write1_ok h ho1 ho3 hd hN hN1 hN2 hin hsl (Nat.le_trans hn3 hkk))) ?_
  clear h; rintro _ w ⟨rfl, _, s1, s3, st, n4, l3, L1, L3, ho1, ho3, hn3b, h⟩
  have h := Has.dropB (D := [_, _, _]) h
  refine hKo _ _ _ ?_; clear hKo Ko
  refine wl_p (r_assign rfl) ?_
  refine wl_nil ?_
  refine hK7 _ _ ?_
  clear hK7 K7
  refine wp_ret ?_
  refine (hQ _ _ _ (res_tmp rfl rfl) ?_).1
  try simp only [List.getD_cons_zero, List.getD_cons_succ]
  exact ⟨by trivial, _, ⟨s1, s2, s3, n4, l3, _, L1, L2, L3, ho1, ho2, ho3, by omega, rfl⟩, by simpa using h⟩

set_option maxHeartbeats 1000000 in
set_option maxRecDepth 100000 in
theorem write_range {E : Env} {w : World} {F Ld : List (Nat × Obj)} {d most : Nat} {seen safe : Bytes} {kk : Nat} (hD : DevB d most seen safe kk Ld) (h : Has E w (Ld ++ F)) {sd : Value} {xs : Bytes} (hd : Sl F sd xs) (A : Nat) (hm : most ≤ 16777216) (hx : xs.length ≤ 65536) (hsl : seen.length ≤ 16777216) (hA : A ≤ 262144) (hout : seen.length < 512 * A) : Ret Tryd.prog 43 [ptr d 0, i64 ((512 * A : Nat) : Int), sd] w fun v w' => v = i64 43 ∧ ∃ Ld', DevB d most seen safe kk Ld' ∧ Has E w' (Ld' ++ F) := by
  refine ret_of_wp (l := [ptr d 0, i64 ((512 * A : Nat) : Int), sd, undef, undef, undef, undef, undef, undef, undef, undef, undef, undef, undef, undef, undef, undef, undef, undef, undef, undef, undef, undef, undef, undef, undef, undef, undef, undef, undef, undef, undef, undef, undef, undef, undef, undef, undef, undef]) Tryd.func43 rfl (by simp only [Tryd.ntmps43, List.size_toArray, List.length_cons, List.length_nil, Nat.reduceAdd, Nat.reduceSub, Array.replicate_succ, Array.replicate_zero, List.push_toArray, List.append_toArray, List.nil_append, List.cons_append]) fun Q hQ => ?_
  refine cw_seq fun K1 hK1 => ?_
  refine cw_region ?_
  refine wl_o fun Ko hKo => ?_
  refine op_box h rfl (show Value.cells (ptr d 0) = [ptr d 0].toArray from rfl) fun b3 w h => ?_
  refine hKo _ _ _ ?_; clear hKo Ko
  refine wl_o fun Ko hKo => ?_
  refine op_box h rfl (show Value.cells (i64 ((512 * A : Nat) : Int)) = [i64 ((512 * A : Nat) : Int)].toArray from rfl) fun b4 w h => ?_
  refine hKo _ _ _ ?_; clear hKo Ko
  refine wl_o fun Ko hKo => ?_
  refine op_box h rfl (show Value.cells sd = [sd].toArray from one_cells hd.one) fun b5 w h => ?_
  refine hKo _ _ _ ?_; clear hKo Ko
  refine wl_p (r_assign rfl) ?_
  refine wl_nil ?_
  refine hK1 _ _ ?_
  clear hK1 K1
  refine cw_seq fun K2 hK2 => ?_
  refine cw_seq fun K3 hK3 => ?_
  refine cw_region ?_
  refine wl_p (r_load (v := ptr d 0) h rfl rfl Tryd.isAgg26) ?_
  have h := Has.swapApp (A := [_, _, _]) (B := Ld) h
  simp only [List.cons_append, List.nil_append] at h
  refine wl_o fun Ko hKo => ?_
  refine op_call [_] Tryd.call70 rfl (up_ok hD h) ?_
  clear h; rintro _ w ⟨rfl, h⟩
  obtain ⟨s1, s2, s3, n3, l3, st, L1, L2, L3, ho1, ho2, ho3, hn3, rfl⟩ := hD
  simp only [List.cons_append, List.append_assoc] at h
  refine hKo _ _ _ ?_; clear hKo Ko
  refine wl_p (r_assign rfl) ?_
  refine wl_nil ?_
  refine hK3 _ _ ?_
  clear hK3 K3
  refine wp_block ?_
  refine cw_seq fun K4 hK4 => ?_
  refine cw_region ?_
  refine wl_p (r_move rfl) ?_
  refine wl_p (r_neq_f  (n := 0) rfl rfl (by first | assumption | omega | (exact side_of) | (simp; done))) ?_
  refine wl_p (r_assign rfl) ?_
  refine wl_nil ?_
  refine hK4 _ _ ?_
  clear hK4 K4
  refine wp_cond_false rfl ?_
  refine cw_seq fun K5 hK5 => ?_
  refine cw_drawnH h (h) (fun i => false) (by kernel_rfl) 12 rfl #[false, false, false, false, false, false, false, false, false, false, false, false] rfl ?_
  clear h; rintro w h hS
  refine dn_l 0 #[true, false, false, false, false, false, false, false, false, false, false, false] ⟨some 15, _, _, _, _, _⟩ rfl (by first | exact h | exact h.tail | exact h.tail.tail | exact hS) (fun w hS => r_load (v := i64 ((512 * A : Nat) : Int)) hS rfl rfl Tryd.isAgg3) ?_
  refine dn_p 1 #[true, true, false, false, false, false, false, false, false, false, false, false] ⟨some 16, _, _, _, _, _⟩ rfl (fun w => r_lss_f  (n := 0) rfl rfl (by omega)) ?_
  refine dn_p 2 #[true, true, true, false, false, false, false, false, false, false, false, false] ⟨some 17, _, _, _, _, _⟩ rfl (fun w => r_move rfl) ?_
  refine dn_l 3 #[true, true, true, true, false, false, false, false, false, false, false, false] ⟨some 18, _, _, _, _, _⟩ rfl (by first | exact h | exact h.tail | exact h.tail.tail | exact hS) (fun w hS => r_load (v := i64 ((512 * A : Nat) : Int)) hS rfl rfl Tryd.isAgg3) ?_
  refine dn_l 4 #[true, true, true, true, true, false, false, false, false, false, false, false] ⟨some 19, _, _, _, _, _⟩ rfl (by first | exact h | exact h.tail | exact h.tail.tail | exact hS) (fun w hS => r_load (v := ptr d 0) hS rfl rfl Tryd.isAgg26) ?_
  refine dn_p 5 #[true, true, true, true, true, true, false, false, false, false, false, false] ⟨some 20, _, _, _, _, _⟩ rfl (fun w => r_nilCheck rfl) ?_
  refine dn_p 6 #[true, true, true, true, true, true, true, false, false, false, false, false] ⟨some 21, _, _, _, _, _⟩ rfl (fun w => r_fieldAddr (off := 1) rfl Tryd.runUnderlying62 rfl Tryd.sizeOf25 rfl rfl) ?_
  refine dn_l 7 #[true, true, true, true, true, true, true, true, false, false, false, false] ⟨some 22, _, _, _, _, _⟩ rfl (by first | exact h | exact h.tail | exact h.tail.tail | exact hS) (fun w hS => r_load (v := s1) hS rfl rfl Tryd.isAgg25) ?_
  refine dn_p 8 #[true, true, true, true, true, true, true, true, true, false, false, false] ⟨some 23, _, _, _, _, _⟩ rfl (fun w => r_len_sl rfl (ho1.sl F) Tryd.runUnderlying25) ?_
  refine dn_p 9 #[true, true, true, true, true, true, true, true, true, true, false, false] ⟨some 24, _, _, _, _, _⟩ rfl (fun w => r_gtr_t   rfl rfl (by omega)) ?_
  refine dn_p 10 #[true, true, true, true, true, true, true, true, true, true, true, false] ⟨some 25, _, _, _, _, _⟩ rfl (fun w => r_pick_f rfl rfl) ?_
  refine dn_p 11 #[true, true, true, true, true, true, true, true, true, true, true, true] ⟨some 14, _, _, _, _, _⟩ rfl (fun w => r_assign rfl) ?_
  refine dn_done (by kernel_rfl) ?_
  refine hK5 _ _ ?_
  clear hK5 K5
  refine wp_cond_true rfl ?_
  refine cw_seq fun K6 hK6 => ?_
  refine cw_region ?_
  refine wl_p (r_assign rfl) ?_
  refine wl_nil ?_
  refine hK6 _ _ ?_
  clear hK6 K6
  refine wp_ret ?_
  refine (hQ _ _ _ (res_tmp rfl rfl) ?_).1
  try simp only [List.getD_cons_zero, List.getD_cons_succ]
  have h := Has.drop4 (A := L1) (B := L2) (C := L3) (D := [_, _, _]) (F := F) h
  exact ⟨by trivial, _, ⟨s1, s2, s3, n3, l3, _, L1, L2, L3, ho1, ho2, ho3, hn3, rfl⟩, by simpa using h⟩

set_option maxHeartbeats 1000000 in
set_option maxRecDepth 100000 in
theorem write_full {E : Env} {w : World} {F Ld : List (Nat × Obj)} {d most : Nat} {seen safe : Bytes} {kk : Nat} (hD : DevB d most seen safe kk Ld) (h : Has E w (Ld ++ F)) {sd : Value} {xs : Bytes} (hd : Sl F sd xs) (A : Nat) (hm : most ≤ 16777216) (hx : xs.length ≤ 65536) (hsl : seen.length ≤ 16777216) (hA : A ≤ 262144) (hin : 512 * A ≤ seen.length) (hfull : most < 512 * A + xs.length) : Ret Tryd.prog 43 [ptr d 0, i64 ((512 * A : Nat) : Int), sd] w fun v w' => v = i64 21 ∧ ∃ Ld', DevB d most seen safe kk Ld' ∧ Has E w' (Ld' ++ F) := by
  refine ret_of_wp (l := [ptr d 0, i64 ((512 * A : Nat) : Int), sd, undef, undef, undef, undef, undef, undef, undef, undef, undef, undef, undef, undef, undef, undef, undef, undef, undef, undef, undef, undef, undef, undef, undef, undef, undef, undef, undef, undef, undef, undef, undef, undef, undef, undef, undef, undef]) Tryd.func43 rfl (by simp only [Tryd.ntmps43, List.size_toArray, List.length_cons, List.length_nil, Nat.reduceAdd, Nat.reduceSub, Array.replicate_succ, Array.replicate_zero, List.push_toArray, List.append_toArray, List.nil_append, List.cons_append]) fun Q hQ => ?_
  refine cw_seq fun K1 hK1 => ?_
  refine cw_region ?_
  refine wl_o fun Ko hKo => ?_
  refine op_box h rfl (show Value.cells (ptr d 0) = [ptr d 0].toArray from rfl) fun b3 w h => ?_
  refine hKo _ _ _ ?_; clear hKo Ko
  refine wl_o fun Ko hKo => ?_
  refine op_box h rfl (show Value.cells (i64 ((512 * A : Nat) : Int)) = [i64 ((512 * A : Nat) : Int)].toArray from rfl) fun b4 w h => ?_
  refine hKo _ _ _ ?_; clear hKo Ko
  refine wl_o fun Ko hKo => ?_
  refine op_box h rfl (show Value.cells sd = [sd].toArray from one_cells hd.one) fun b5 w h => ?_
  refine hKo _ _ _ ?_; clear hKo Ko
  refine wl_p (r_assign rfl) ?_
  refine wl_nil ?_
  refine hK1 _ _ ?_
  clear hK1 K1
  refine cw_seq fun K2 hK2 => ?_
  refine cw_seq fun K3 hK3 => ?_
  refine cw_region ?_
  refine wl_p (r_load (v := ptr d 0) h rfl rfl Tryd.isAgg26) ?_
  have h := Has.swapApp (A := [_, _, _]) (B := Ld) h
  simp only [List.cons_append, List.nil_append] at h
  refine wl_o fun Ko hKo => ?_
  refine op_call [_] Tryd.call70 rfl (up_ok hD h) ?_
  clear h; rintro _ w ⟨rfl, h⟩
  obtain ⟨s1, s2, s3, n3, l3, st, L1, L2, L3, ho1, ho2, ho3, hn3, rfl⟩ := hD
  simp only [List.cons_append, List.append_assoc] at h
  refine hKo _ _ _ ?_; clear hKo Ko
  refine wl_p (r_assign rfl) ?_
  refine wl_nil ?_
  refine hK3 _ _ ?_
  clear hK3 K3
  refine wp_block ?_
  refine cw_seq fun K4 hK4 => ?_
  refine cw_region ?_
  refine wl_p (r_move rfl) ?_
  refine wl_p (r_neq_f  (n := 0) rfl rfl (by first | assumption | omega | (exact side_of) | (simp; done))) ?_
  refine wl_p (r_assign rfl) ?_
  refine wl_nil ?_
  refine hK4 _ _ ?_
  clear hK4 K4
  refine wp_cond_false rfl ?_
  refine cw_seq fun K5 hK5 => ?_
  refine cw_drawnH h (h) (fun i => false) (by kernel_rfl) 12 rfl #[false, false, false, false, false, false, false, false, false, false, false, false] rfl ?_
  clear h; rintro w h hS
  refine dn_l 0 #[true, false, false, false, false, false, false, false, false, false, false, false] ⟨some 15, _, _, _, _, _⟩ rfl (by first | exact h | exact h.tail | exact h.tail.tail | exact hS) (fun w hS => r_load (v := i64 ((512 * A : Nat) : Int)) hS rfl rfl Tryd.isAgg3) ?_
  refine dn_p 1 #[true, true, false, false, false, false, false, false, false, false, false, false] ⟨some 16, _, _, _, _, _⟩ rfl (fun w => r_lss_f  (n := 0) rfl rfl (by omega)) ?_
  refine dn_p 2 #[true, true, true, false, false, false, false, false, false, false, false, false] ⟨some 17, _, _, _, _, _⟩ rfl (fun w => r_move rfl) ?_
  refine dn_l 3 #[true, true, true, true, false, false, false, false, false, false, false, false] ⟨some 18, _, _, _, _, _⟩ rfl (by first | exact h | exact h.tail | exact h.tail.tail | exact hS) (fun w hS => r_load (v := i64 ((512 * A : Nat) : Int)) hS rfl rfl Tryd.isAgg3) ?_
  refine dn_l 4 #[true, true, true, true, true, false, false, false, false, false, false, false] ⟨some 19, _, _, _, _, _⟩ rfl (by first | exact h | exact h.tail | exact h.tail.tail | exact hS) (fun w hS => r_load (v := ptr d 0) hS rfl rfl Tryd.isAgg26) ?_
  refine dn_p 5 #[true, true, true, true, true, true, false, false, false, false, false, false] ⟨some 20, _, _, _, _, _⟩ rfl (fun w => r_nilCheck rfl) ?_
  refine dn_p 6 #[true, true, true, true, true, true, true, false, false, false, false, false] ⟨some 21, _, _, _, _, _⟩ rfl (fun w => r_fieldAddr (off := 1) rfl Tryd.runUnderlying62 rfl Tryd.sizeOf25 rfl rfl) ?_
  refine dn_l 7 #[true, true, true, true, true, true, true, true, false, false, false, false] ⟨some 22, _, _, _, _, _⟩ rfl (by first | exact h | exact h.tail | exact h.tail.tail | exact hS) (fun w hS => r_load (v := s1) hS rfl rfl Tryd.isAgg25) ?_
  refine dn_p 8 #[true, true, true, true, true, true, true, true, true, false, false, false] ⟨some 23, _, _, _, _, _⟩ rfl (fun w => r_len_sl rfl (ho1.sl F) Tryd.runUnderlying25) ?_
  refine dn_p 9 #[true, true, true, true, true, true, true, true, true, true, false, false] ⟨some 24, _, _, _, _, _⟩ rfl (fun w => r_gtr_f   rfl rfl (by omega)) ?_
  refine dn_p 10 #[true, true, true, true, true, true, true, true, true, true, true, false] ⟨some 25, _, _, _, _, _⟩ rfl (fun w => r_pick_f rfl rfl) ?_
  refine dn_p 11 #[true, true, true, true, true, true, true, true, true, true, true, true] ⟨some 14, _, _, _, _, _⟩ rfl (fun w => r_assign rfl) ?_
  refine dn_done (by kernel_rfl) ?_
  refine hK5 _ _ ?_
  clear hK5 K5
  refine wp_cond_false rfl ?_
  refine cw_seq fun K6 hK6 => ?_
  refine cw_drawnH h (h) (fun i => false) (by kernel_rfl) 10 rfl #[false, false, false, false, false, false, false, false, false, false] rfl ?_
  clear h; rintro w h hS
  refine dn_l 0 #[true, false, false, false, false, false, false, false, false, false] ⟨some 27, _, _, _, _, _⟩ rfl (by first | exact h | exact h.tail | exact h.tail.tail | exact hS) (fun w hS => r_load (v := sd) hS rfl rfl Tryd.isAgg25) ?_
  refine dn_p 1 #[true, true, false, false, false, false, false, false, false, false] ⟨some 28, _, _, _, _, _⟩ rfl (fun w => r_len_sl rfl hd Tryd.runUnderlying25) ?_
  refine dn_l 2 #[true, true, true, false, false, false, false, false, false, false] ⟨some 29, _, _, _, _, _⟩ rfl (by first | exact h | exact h.tail | exact h.tail.tail | exact hS) (fun w hS => r_load (v := ptr d 0) hS rfl rfl Tryd.isAgg26) ?_
  refine dn_p 3 #[true, true, true, true, false, false, false, false, false, false] ⟨some 30, _, _, _, _, _⟩ rfl (fun w => r_nilCheck rfl) ?_
  refine dn_p 4 #[true, true, true, true, true, false, false, false, false, false] ⟨some 31, _, _, _, _, _⟩ rfl (fun w => r_fieldAddr (off := 0) rfl Tryd.runUnderlying62 rfl Tryd.sizeOf3 rfl rfl) ?_
  refine dn_l 5 #[true, true, true, true, true, true, false, false, false, false] ⟨some 32, _, _, _, _, _⟩ rfl (by first | exact h | exact h.tail | exact h.tail.tail | exact hS) (fun w hS => r_load (v := i64 most) hS rfl rfl Tryd.isAgg3) ?_
  refine dn_l 6 #[true, true, true, true, true, true, true, false, false, false] ⟨some 33, _, _, _, _, _⟩ rfl (by first | exact h | exact h.tail | exact h.tail.tail | exact hS) (fun w hS => r_load (v := i64 ((512 * A : Nat) : Int)) hS rfl rfl Tryd.isAgg3) ?_
  refine dn_p 7 #[true, true, true, true, true, true, true, true, false, false] ⟨some 34, _, _, _, _, _⟩ rfl (fun w => r_sub_i (r := (most : Int) - (512 * A : Nat)) rfl rfl rfl (by omega) (by omega)) ?_
  refine dn_p 8 #[true, true, true, true, true, true, true, true, true, false] ⟨some 35, _, _, _, _, _⟩ rfl (fun w => r_gtr_t   rfl rfl (by omega)) ?_
  refine dn_p 9 #[true, true, true, true, true, true, true, true, true, true] ⟨some 26, _, _, _, _, _⟩ rfl (fun w => r_assign rfl) ?_
  refine dn_done (by kernel_rfl) ?_
  refine hK6 _ _ ?_
  clear hK6 K6
  refine wp_cond_true rfl ?_
  refine cw_seq fun K7 hK7 => ?_
  refine cw_region ?_
  refine wl_p (r_assign rfl) ?_
  refine wl_nil ?_
  refine hK7 _ _ ?_
  clear hK7 K7
  refine wp_ret ?_
  refine (hQ _ _ _ (res_tmp rfl rfl) ?_).1
  try simp only [List.getD_cons_zero, List.getD_cons_succ]
  have h := Has.drop4 (A := L1) (B := L2) (C := L3) (D := [_, _, _]) (F := F) h
  exact ⟨by trivial, _, ⟨s1, s2, s3, n3, l3, _, L1, L2, L3, ho1, ho2, ho3, hn3, rfl⟩, by simpa using h⟩

set_option maxHeartbeats 1000000 in
set_option maxRecDepth 100000 in
theorem edit_ok {E : Env} {w : World} {F Ld : List (Nat × Obj)} {d most : Nat} {seen safe : Bytes} {kk : Nat} (hD : DevB d most seen safe kk Ld) (h : Has E w (Ld ++ F)) {sd : Value} {xs : Bytes} (hd : Sl F sd xs) (at_ : Nat) (hm : most ≤ 16777216) (hx : xs.length ≤ 1099511627776) (hsl : seen.length ≤ 16777216) (hsl2 : safe.length ≤ 16777216) (ha : at_ ≤ 1099511627776) (hin : at_ ≤ seen.length) (hfull : at_ + xs.length ≤ most) : Ret Tryd.prog 17 [ptr d 0, i64 at_, sd] w fun v w' => ∃ Ld', DevB d most (layZ seen at_ xs) (layZ safe at_ xs) kk Ld' ∧ Has E w' (Ld' ++ F) := by
  obtain ⟨s1, s2, s3, n3, l3, st, L1, L2, L3, ho1, ho2, ho3, hn3, rfl⟩ := hD
  simp only [List.cons_append, List.append_assoc] at h
  refine ret_of_wp (l := [ptr d 0, i64 at_, sd, undef, undef, undef, undef, undef, undef, undef, undef, undef, undef, undef, undef, undef, undef, undef, undef, undef, undef, undef, undef, undef, undef, undef, undef, undef, undef, undef, undef, undef, undef, undef, undef, undef, undef, undef, undef, undef, undef, undef, undef, undef, undef, undef, undef, undef, undef, undef, undef, undef]) Tryd.func17 rfl (by simp only [Tryd.ntmps17, List.size_toArray, List.length_cons, List.length_nil, Nat.reduceAdd, Nat.reduceSub, Array.replicate_succ, Array.replicate_zero, List.push_toArray, List.append_toArray, List.nil_append, List.cons_append]) fun Q hQ => ?_
  refine cw_seq fun K1 hK1 => ?_
  refine cw_seq fun K2 hK2 => ?_
  refine cw_region ?_
  refine wl_p (r_move rfl) ?_
  refine wl_p (r_eql_nilptr rfl rfl Tryd.runUnderlying26) ?_
  refine wl_p (r_move rfl) ?_
  refine wl_pw (r_move rfl) ?_
  refine wl_pw (r_lss_f  (n := 0) rfl rfl (by omega)) ?_
  refine wl_p (r_pick_f rfl rfl) ?_
  refine wl_p (r_move rfl) ?_
  refine wl_pw (r_move rfl) ?_
  refine wl_pw (r_move rfl) ?_
  refine wl_pw (r_nilCheck rfl) ?_
  refine wl_pw (r_fieldAddr (off := 1) rfl Tryd.runUnderlying62 rfl Tryd.sizeOf25 rfl rfl) ?_
  refine wl_pw (r_load (v := s1) h rfl rfl Tryd.isAgg25) ?_
  refine wl_pw (r_len_sl rfl (ho1.sl F) Tryd.runUnderlying25) ?_
  refine wl_pw (r_gtr_f   rfl rfl (by omega)) ?_
  refine wl_p (r_pick_f rfl rfl) ?_
  refine wl_p (r_move rfl) ?_
  refine wl_pw (r_move rfl) ?_
  refine wl_pw (r_len_sl rfl hd Tryd.runUnderlying25) ?_
  refine wl_pw (r_move rfl) ?_
  refine wl_pw (r_nilCheck rfl) ?_
  refine wl_pw (r_fieldAddr (off := 0) rfl Tryd.runUnderlying62 rfl Tryd.sizeOf3 rfl rfl) ?_
  refine wl_pw (r_load (v := i64 most) h rfl rfl Tryd.isAgg3) ?_
  refine wl_pw (r_move rfl) ?_
  refine wl_pw (r_sub_i (r := (most : Int) - at_) rfl rfl rfl (by omega) (by omega)) ?_
  refine wl_pw (r_gtr_f   rfl rfl (by omega)) ?_
  refine wl_p (r_pick_f rfl rfl) ?_
  refine wl_nil ?_
  refine hK2 _ _ ?_
  clear hK2 K2
  refine wp_cond_false rfl ?_
  refine wp_skip ?_
  refine hK1 _ _ ?_
  clear hK1 K1
  refine cw_drawnH h ((Has.appHead (A := [_]) h)) (fun i => i == 18 || i == 21) (by kernel_rfl) 22 rfl #[false, false, false, false, false, false, false, false, false, false, false, false, false, false, false, false, false, false, false, false, false, false] rfl ?_
  clear h; rintro w h hS
  refine dn_p 0 #[true, false, false, false, false, false, false, false, false, false, false, false, false, false, false, false, false, false, false, false, false, false] ⟨some 32, _, _, _, _, _⟩ rfl (fun w => r_move rfl) ?_
  refine dn_p 1 #[true, true, false, false, false, false, false, false, false, false, false, false, false, false, false, false, false, false, false, false, false, false] ⟨some 33, _, _, _, _, _⟩ rfl (fun w => r_move rfl) ?_
  refine dn_p 2 #[true, true, true, false, false, false, false, false, false, false, false, false, false, false, false, false, false, false, false, false, false, false] ⟨some 34, _, _, _, _, _⟩ rfl (fun w => r_move rfl) ?_
  refine dn_p 3 #[true, true, true, true, false, false, false, false, false, false, false, false, false, false, false, false, false, false, false, false, false, false] ⟨some 35, _, _, _, _, _⟩ rfl (fun w => r_nilCheck rfl) ?_
  refine dn_p 4 #[true, true, true, true, true, false, false, false, false, false, false, false, false, false, false, false, false, false, false, false, false, false] ⟨some 36, _, _, _, _, _⟩ rfl (fun w => r_fieldAddr (off := 1) rfl Tryd.runUnderlying62 rfl Tryd.sizeOf25 rfl rfl) ?_
  refine dn_l 5 #[true, true, true, true, true, true, false, false, false, false, false, false, false, false, false, false, false, false, false, false, false, false] ⟨some 37, _, _, _, _, _⟩ rfl hS (fun w hS => r_load (v := s1) hS rfl rfl Tryd.isAgg25) ?_
  refine dn_p 6 #[true, true, true, true, true, true, true, false, false, false, false, false, false, false, false, false, false, false, false, false, false, false] ⟨some 38, _, _, _, _, _⟩ rfl (fun w => r_move rfl) ?_
  refine dn_p 7 #[true, true, true, true, true, true, true, true, false, false, false, false, false, false, false, false, false, false, false, false, false, false] ⟨some 39, _, _, _, _, _⟩ rfl (fun w => r_move rfl) ?_
  refine dn_p 9 #[true, true, true, true, true, true, true, true, false, true, false, false, false, false, false, false, false, false, false, false, false, false] ⟨some 41, _, _, _, _, _⟩ rfl (fun w => r_move rfl) ?_
  refine dn_p 10 #[true, true, true, true, true, true, true, true, false, true, true, false, false, false, false, false, false, false, false, false, false, false] ⟨some 42, _, _, _, _, _⟩ rfl (fun w => r_nilCheck rfl) ?_
  refine dn_p 11 #[true, true, true, true, true, true, true, true, false, true, true, true, false, false, false, false, false, false, false, false, false, false] ⟨some 43, _, _, _, _, _⟩ rfl (fun w => r_fieldAddr (off := 2) rfl Tryd.runUnderlying62 rfl Tryd.sizeOf25 rfl rfl) ?_
  refine dn_l 12 #[true, true, true, true, true, true, true, true, false, true, true, true, true, false, false, false, false, false, false, false, false, false] ⟨some 44, _, _, _, _, _⟩ rfl hS (fun w hS => r_load (v := s2) hS rfl rfl Tryd.isAgg25) ?_
  refine dn_p 13 #[true, true, true, true, true, true, true, true, false, true, true, true, true, true, false, false, false, false, false, false, false, false] ⟨some 45, _, _, _, _, _⟩ rfl (fun w => r_move rfl) ?_
  refine dn_p 14 #[true, true, true, true, true, true, true, true, false, true, true, true, true, true, true, false, false, false, false, false, false, false] ⟨some 46, _, _, _, _, _⟩ rfl (fun w => r_move rfl) ?_
  have h := Has.swapApp (A := [_]) (B := L1) h
  simp only [List.cons_append, List.nil_append] at h
  refine dn_o 8 #[true, true, true, true, true, true, true, true, true, true, true, true, true, true, true, false, false, false, false, false, false, false] ⟨some 40, _, _, _, _, _⟩ fun Ko hKo => ?_
  refine op_call [_, _, _] Tryd.call36 rfl (lay_ok ho1 h (Rd.cons (Rd.app _ (Rd.app _ hd))) at_ (by omega) (by omega)) ?_
  clear h; rintro s4 w ⟨L4, ho4, h⟩
  have h4 := (OwnS.rd0 ho4).one
  refine hKo _ _ _ (fun _ => (Has.appHead (A := [_]) h.appTail)) ?_; clear hKo Ko
  have h := Has.swapApp (A := L4 ++ [_]) (B := L2) (R := L3 ++ F) (by simpa only [List.append_assoc, List.cons_append, List.nil_append] using h)
  simp only [List.append_assoc, List.cons_append, List.nil_append] at h
  refine dn_o 15 #[true, true, true, true, true, true, true, true, true, true, true, true, true, true, true, true, false, false, false, false, false, false] ⟨some 47, _, _, _, _, _⟩ fun Ko hKo => ?_
  refine op_call [_, _, _] Tryd.call36 rfl (lay_ok ho2 h (Rd.app _ (Rd.cons (Rd.app _ hd))) at_ (by omega) (by omega)) ?_
  clear h; rintro s5 w ⟨L5, ho5, h⟩
  have h5 := (OwnS.rd0 ho5).one
  refine hKo _ _ _ (fun _ => (Has.appHead (A := [_]) h.appTail.appTail)) ?_; clear hKo Ko
  refine dn_p 16 #[true, true, true, true, true, true, true, true, true, true, true, true, true, true, true, true, true, false, false, false, false, false] ⟨some 48, _, _, _, _, _⟩ rfl (fun w => r_nilCheck rfl) ?_
  refine dn_p 17 #[true, true, true, true, true, true, true, true, true, true, true, true, true, true, true, true, true, true, false, false, false, false] ⟨some 49, _, _, _, _, _⟩ rfl (fun w => r_fieldAddr (off := 1) rfl Tryd.runUnderlying62 rfl Tryd.sizeOf25 rfl rfl) ?_
  refine dn_o 18 #[true, true, true, true, true, true, true, true, true, true, true, true, true, true, true, true, true, true, true, false, false, false] ⟨none, _, _, _, _, _⟩ fun Ko hKo => ?_
  refine op_store h rfl rfl h4 (by first | (simp; done) | (exact side_of)) Tryd.sizeOf25 fun w h => ?_
  have h := h.nm
  have h := h.nv
  refine hKo _ _ _ (fun hT => absurd hT (by decide)) ?_; clear hKo Ko
  refine dn_p 19 #[true, true, true, true, true, true, true, true, true, true, true, true, true, true, true, true, true, true, true, true, false, false] ⟨some 50, _, _, _, _, _⟩ rfl (fun w => r_nilCheck rfl) ?_
  refine dn_p 20 #[true, true, true, true, true, true, true, true, true, true, true, true, true, true, true, true, true, true, true, true, true, false] ⟨some 51, _, _, _, _, _⟩ rfl (fun w => r_fieldAddr (off := 2) rfl Tryd.runUnderlying62 rfl Tryd.sizeOf25 rfl rfl) ?_
  refine dn_o 21 #[true, true, true, true, true, true, true, true, true, true, true, true, true, true, true, true, true, true, true, true, true, true] ⟨none, _, _, _, _, _⟩ fun Ko hKo => ?_
  refine op_store h rfl rfl h5 (by first | (simp; done) | (exact side_of)) Tryd.sizeOf25 fun w h => ?_
  have h := h.nm
  have h := h.nv
  refine hKo _ _ _ (fun hT => absurd hT (by decide)) ?_; clear hKo Ko
  refine dn_done (by kernel_rfl) ?_
  refine (hQ _ _ _ (res_none rfl) ?_).2
  have h := (Has.unassoc h).unmid
  have h : Has E w (_ :: ((L5 ++ L4) ++ (L3 ++ F))) := h
  exact ⟨_, ⟨s4, s5, s3, n3, l3, _, L4, L5, L3, ho4, ho5, ho3, hn3, rfl⟩, by
    refine h.perm ?_
    simp only [List.cons_append, List.append_assoc]
    refine List.Perm.cons _ ?_
    rw [← List.append_assoc, ← List.append_assoc L4]
    exact List.Perm.append_right _ List.perm_append_comm⟩

set_option maxHeartbeats 1000000 in
set_option maxRecDepth 100000 in
theorem edit_out {E : Env} {w : World} {F Ld : List (Nat × Obj)} {d most : Nat} {seen safe : Bytes} {kk : Nat} (hD : DevB d most seen safe kk Ld) (h : Has E w (Ld ++ F)) {sd : Value} {xs : Bytes} (hd : Sl F sd xs) (at_ : Nat) (hm : most ≤ 16777216) (hx : xs.length ≤ 1099511627776) (hsl : seen.length ≤ 16777216) (hsl2 : safe.length ≤ 16777216) (ha : at_ ≤ 1099511627776) (hout : seen.length < at_) : Ret Tryd.prog 17 [ptr d 0, i64 at_, sd] w fun v w' => ∃ Ld', DevB d most seen safe kk Ld' ∧ Has E w' (Ld' ++ F) := by
  obtain ⟨s1, s2, s3, n3, l3, st, L1, L2, L3, ho1, ho2, ho3, hn3, rfl⟩ := hD
  simp only [List.cons_append, List.append_assoc] at h
  refine ret_of_wp (l := [ptr d 0, i64 at_, sd, undef, undef, undef, undef, undef, undef, undef, undef, undef, undef, undef, undef, undef, undef, undef, undef, undef, undef, undef, undef, undef, undef, undef, undef, undef, undef, undef, undef, undef, undef, undef, undef, undef, undef, undef, undef, undef, undef, undef, undef, undef, undef, undef, undef, undef, undef, undef, undef, undef]) Tryd.func17 rfl (by simp only [Tryd.ntmps17, List.size_toArray, List.length_cons, List.length_nil, Nat.reduceAdd, Nat.reduceSub, Array.replicate_succ, Array.replicate_zero, List.push_toArray, List.append_toArray, List.nil_append, List.cons_append]) fun Q hQ => ?_
  refine cw_seq fun K1 hK1 => ?_
  refine cw_seq fun K2 hK2 => ?_
  refine cw_region ?_
  refine wl_p (r_move rfl) ?_
  refine wl_p (r_eql_nilptr rfl rfl Tryd.runUnderlying26) ?_
  refine wl_p (r_move rfl) ?_
  refine wl_pw (r_move rfl) ?_
  refine wl_pw (r_lss_f  (n := 0) rfl rfl (by omega)) ?_
  refine wl_p (r_pick_f rfl rfl) ?_
  refine wl_p (r_move rfl) ?_
  refine wl_pw (r_move rfl) ?_
  refine wl_pw (r_move rfl) ?_
  refine wl_pw (r_nilCheck rfl) ?_
  refine wl_pw (r_fieldAddr (off := 1) rfl Tryd.runUnderlying62 rfl Tryd.sizeOf25 rfl rfl) ?_
  refine wl_pw (r_load (v := s1) h rfl rfl Tryd.isAgg25) ?_
  refine wl_pw (r_len_sl rfl (ho1.sl F) Tryd.runUnderlying25) ?_
  refine wl_pw (r_gtr_t   rfl rfl (by omega)) ?_
  refine wl_p (r_pick_f rfl rfl) ?_
  refine wl_p (r_move rfl) ?_
  refine wl_s ?_
  refine wl_s ?_
  refine wl_s ?_
  refine wl_s ?_
  refine wl_s ?_
  refine wl_s ?_
  refine wl_s ?_
  refine wl_s ?_
  refine wl_s ?_
  refine wl_p (r_pick rfl rfl) ?_
  refine wl_nil ?_
  refine hK2 _ _ ?_
  clear hK2 K2
  refine wp_cond_true rfl ?_
  refine wp_ret ?_
  refine (hQ _ _ _ (res_none rfl) ?_).1
  exact ⟨_, ⟨s1, s2, s3, n3, l3, st, L1, L2, L3, ho1, ho2, ho3, hn3, rfl⟩, by simpa using h⟩

set_option maxHeartbeats 1000000 in
set_option maxRecDepth 100000 in
theorem edit_full {E : Env} {w : World} {F Ld : List (Nat × Obj)} {d most : Nat} {seen safe : Bytes} {kk : Nat} (hD : DevB d most seen safe kk Ld) (h : Has E w (Ld ++ F)) {sd : Value} {xs : Bytes} (hd : Sl F sd xs) (at_ : Nat) (hm : most ≤ 16777216) (hx : xs.length ≤ 1099511627776) (hsl : seen.length ≤ 16777216) (hsl2 : safe.length ≤ 16777216) (ha : at_ ≤ 1099511627776) (hin : at_ ≤ seen.length) (hfull : most < at_ + xs.length) : Ret Tryd.prog 17 [ptr d 0, i64 at_, sd] w fun v w' => ∃ Ld', DevB d most seen safe kk Ld' ∧ Has E w' (Ld' ++ F) := by
  obtain ⟨s1, s2, s3, n3, l3, st, L1, L2, L3, ho1, ho2, ho3, hn3, rfl⟩ := hD
  simp only [List.cons_append, List.append_assoc] at h
  refine ret_of_wp (l := [ptr d 0, i64 at_, sd, undef, undef, undef, undef, undef, undef, undef, undef, undef, undef, undef, undef, undef, undef, undef, undef, undef, undef, undef, undef, undef, undef, undef, undef, undef, undef, undef, undef, undef, undef, undef, undef, undef, undef, undef, undef, undef, undef, undef, undef, undef, undef, undef, undef, undef, undef, undef, undef, undef]) Tryd.func17 rfl (by simp only [Tryd.ntmps17, List.size_toArray, List.length_cons, List.length_nil, Nat.reduceAdd, Nat.reduceSub, Array.replicate_succ, Array.replicate_zero, List.push_toArray, List.append_toArray, List.nil_append, List.cons_append]) fun Q hQ => ?_
  refine cw_seq fun K1 hK1 => ?_
  refine cw_seq fun K2 hK2 => ?_
  refine cw_region ?_
  refine wl_p (r_move rfl) ?_
  refine wl_p (r_eql_nilptr rfl rfl Tryd.runUnderlying26) ?_
  refine wl_p (r_move rfl) ?_
  refine wl_pw (r_move rfl) ?_
  refine wl_pw (r_lss_f  (n := 0) rfl rfl (by omega)) ?_
  refine wl_p (r_pick_f rfl rfl) ?_
  refine wl_p (r_move rfl) ?_
  refine wl_pw (r_move rfl) ?_
  refine wl_pw (r_move rfl) ?_
  refine wl_pw (r_nilCheck rfl) ?_
  refine wl_pw (r_fieldAddr (off := 1) rfl Tryd.runUnderlying62 rfl Tryd.sizeOf25 rfl rfl) ?_
  refine wl_pw (r_load (v := s1) h rfl rfl Tryd.isAgg25) ?_
  refine wl_pw (r_len_sl rfl (ho1.sl F) Tryd.runUnderlying25) ?_
  refine wl_pw (r_gtr_f   rfl rfl (by omega)) ?_
  refine wl_p (r_pick_f rfl rfl) ?_
  refine wl_p (r_move rfl) ?_
  refine wl_pw (r_move rfl) ?_
  refine wl_pw (r_len_sl rfl hd Tryd.runUnderlying25) ?_
  refine wl_pw (r_move rfl) ?_
  refine wl_pw (r_nilCheck rfl) ?_
  refine wl_pw (r_fieldAddr (off := 0) rfl Tryd.runUnderlying62 rfl Tryd.sizeOf3 rfl rfl) ?_
  refine wl_pw (r_load (v := i64 most) h rfl rfl Tryd.isAgg3) ?_
  refine wl_pw (r_move rfl) ?_
  refine wl_pw (r_sub_i (r := (most : Int) - at_) rfl rfl rfl (by omega) (by omega)) ?_
  refine wl_pw (r_gtr_t   rfl rfl (by omega)) ?_
  refine wl_p (r_pick_f rfl rfl) ?_
  refine wl_nil ?_
  refine hK2 _ _ ?_
  clear hK2 K2
  refine wp_cond_true rfl ?_
  refine wp_ret ?_
  refine (hQ _ _ _ (res_none rfl) ?_).1
  exact ⟨_, ⟨s1, s2, s3, n3, l3, st, L1, L2, L3, ho1, ho2, ho3, hn3, rfl⟩, by simpa using h⟩

theorem write_all {E : Env} {w : World} {F Ld : List (Nat × Obj)} {d most : Nat} {seen safe : Bytes} {kk : Nat} (hD : DevB d most seen safe kk Ld) (h : Has E w (Ld ++ F)) {sd : Value} {xs : Bytes} (hd : Sl F sd xs) (A : Nat) (hm : most ≤ 16777216) (hsl : seen.length ≤ 16777216) (hA : A ≤ 262144) {N : Nat} (hN : xs.length = 512 * N) (hN1 : 1 ≤ N) (hN2 : N ≤ 128) (hkk : kk ≤ 1073741824) :
    Ret Tryd.prog 43 [ptr d 0, i64 ((512 * A : Nat) : Int), sd] w fun v w' => v = i64 ((wrErr most seen.length (512 * A) xs.length : Nat) : Int) ∧ ∃ Ld', DevB d most (if wrErr most seen.length (512 * A) xs.length = 0 then layZ seen (512 * A) xs else seen) safe (kk + N) Ld' ∧ Has E w' (Ld' ++ F) := by
  unfold wrErr
  by_cases h1 : 512 * A > seen.length
  · simp only [h1, if_true]
    exact (write_range hD h hd A hm (by omega) hsl hA (by omega)).mono fun v w' ⟨e, Ld', h2, h3⟩ => ⟨e, Ld', by simpa using h2.mono (k' := kk + N) (by omega), h3⟩
  · simp only [h1, if_false]
    by_cases h2 : xs.length + 512 * A > most
    · simp only [h2, if_true]
      exact (write_full hD h hd A hm (by omega) hsl hA (by omega) (by omega)).mono fun v w' ⟨e, Ld', h2, h3⟩ => ⟨e, Ld', by simpa using h2.mono (k' := kk + N) (by omega), h3⟩
    · simp only [h2, if_false]
      exact (write_ok hD h hd A hm (by omega) hsl hA hN hN1 hN2 (by omega) (by omega) hkk).mono fun v w' ⟨e, Ld', h2, h3⟩ => ⟨e, Ld', by simpa using h2, h3⟩
theorem readdev_all {E : Env} {w : World} {F Ld : List (Nat × Obj)} {d most : Nat} {seen safe : Bytes} {kk : Nat} (hD : DevB d most seen safe kk Ld) (h : Has E w (Ld ++ F)) (at_ n : Nat) (hb : at_ + n ≤ 1099511627776) (hx : seen.length ≤ 1099511627776) :
    Ret Tryd.prog 51 [ptr d 0, i64 at_, i64 n] w fun v w' => ∃ so Ls, v = .tuple #[so, i64 ((rdErr seen.length at_ n : Nat) : Int)] ∧ OwnB 5 so (if at_ + n ≤ seen.length then (seen.drop at_).take n else []) Ls ∧ Has E w' (Ls ++ (Ld ++ F)) := by
  unfold rdErr
  by_cases h1 : at_ + n ≤ seen.length
  · simp only [h1, if_true]
    exact readdev_ok hD h at_ n hb hx h1
  · simp only [h1, if_false]
    by_cases h2 : at_ ≤ seen.length
    · exact (readpart_ok hD h at_ n hb hx h2 (by omega)).mono fun v w' ⟨e, h3⟩ => ⟨_, [], e, OwnB.nil, h3⟩
    · exact (readout_ok hD h at_ n hb hx (by omega)).mono fun v w' ⟨e, h3⟩ => ⟨_, [], e, OwnB.nil, h3⟩

end Go.Proofs.YtjdfenlmifhhdaaDoor
