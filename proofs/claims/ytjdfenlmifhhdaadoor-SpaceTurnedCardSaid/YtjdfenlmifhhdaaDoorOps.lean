/-
  The laws of operations on integers (as bit vectors), comparisons, conversions, builds and function values. Condition: none. (Printed in part by mkops.py, a program of this work.)
-/
import Derived.Test.YtjdfenlmifhhdaaDoorFlow
namespace Go.Proofs.YtjdfenlmifhhdaaDoor
open Go.RowKit

def U (k : IntKind) (x : BitVec k.bits) : Value := .int k (x.toNat : Int)
theorem wrapU {k : IntKind} (hk : k.signed = false) (n : Int) : k.wrap n = n % (2 ^ k.bits : Nat) := by
  cases k <;> first | (simp [IntKind.signed] at hk; done) | simp [IntKind.wrap, IntKind.bits, IntKind.signed]
theorem wrapU_nat {k : IntKind} (hk : k.signed = false) (n : Nat) : k.wrap (n : Int) = ((n % 2 ^ k.bits : Nat) : Int) := by rw [wrapU hk]; simp
theorem ofInt_toNat {k : Nat} (u : BitVec k) : BitVec.ofInt k (u.toNat : Int) = u := by
  rw [BitVec.ofInt_natCast]; simp
theorem wrapU_toNat {k : IntKind} (hk : k.signed = false) (u : BitVec k.bits) : k.wrap (u.toNat : Int) = (u.toNat : Int) := by
  rw [wrapU_nat hk, Nat.mod_eq_of_lt u.isLt]

section ops
variable {P : Program} {E : Env} {w : World} {L : List (Nat × Obj)} {a : Act} {K : Act → World → Prop} {Q : Exit → Act → World → Prop}
variable {dst : Option Tmp} {ty : TypeId} {pos : String} {after : Array Edge} {g : Option (Nat × Bool)} {x y z : Operand} {v u : Value} {t t' : TypeId}

theorem exec_bin {op : BinOp} {r : Value} (hx : a.eval x = v) (hy : a.eval y = u) (hg : (eqGuard op t x y v u).run P w = .ok () w) (hb : (binOp op t v u).run P w = .ok r w) :
    (execOp a.eval ⟨dst, .binOp op t x y t', ty, pos, after, g⟩).run P w = .ok (.value r) w := by
  simp only [execOp, hx, hy, Sem.run_bind, hg, hb, Result.andThen_ok, Sem.run_pure]
theorem guard_int {op : BinOp} {k j : IntKind} {m n : Int} : (eqGuard op t x y (.int k m) (.int j n)).run P w = .ok () w := by cases op <;> rfl
theorem guard_ptr {op : BinOp} {m n : Option Addr} : (eqGuard op t x y (.pointer m) (.pointer n)).run P w = .ok () w := by cases op <;> rfl
theorem bits_U {op : BinOp} {k : IntKind} {p q r : BitVec k.bits} (hk : k.signed = false) (h : (Op.intBits op k (p.toNat : Int) (q.toNat : Int)) = pure (.int k (k.wrap (r.toNat : Int)))) : (Op.intBits op k (p.toNat : Int) (q.toNat : Int)).run P w = .ok (U k r) w := by
  rw [h, wrapU_toNat hk]; rfl

theorem r_and_U {k : IntKind} {p q : BitVec k.bits} (hk : k.signed = false) (hx : a.eval x = U k p) (hy : a.eval y = U k q) : (execOp a.eval ⟨dst, .binOp .and t x y t', ty, pos, after, g⟩).run P w = .ok (.value (U k (p &&& q))) w := by
  simp only [U] at *
  simp [execOp, hx, hy, eqGuard, binOp, Op.intBits, ofInt_toNat, wrapU_toNat hk]
  exact wrapU_toNat hk (p &&& q)

theorem r_or_U {k : IntKind} {p q : BitVec k.bits} (hk : k.signed = false) (hx : a.eval x = U k p) (hy : a.eval y = U k q) : (execOp a.eval ⟨dst, .binOp .or t x y t', ty, pos, after, g⟩).run P w = .ok (.value (U k (p ||| q))) w := by
  simp only [U] at *
  simp [execOp, hx, hy, eqGuard, binOp, Op.intBits, ofInt_toNat, wrapU_toNat hk]
  exact wrapU_toNat hk (p ||| q)

theorem r_xor_U {k : IntKind} {p q : BitVec k.bits} (hk : k.signed = false) (hx : a.eval x = U k p) (hy : a.eval y = U k q) : (execOp a.eval ⟨dst, .binOp .xor t x y t', ty, pos, after, g⟩).run P w = .ok (.value (U k (p ^^^ q))) w := by
  simp only [U] at *
  simp [execOp, hx, hy, eqGuard, binOp, Op.intBits, ofInt_toNat, wrapU_toNat hk]
  exact wrapU_toNat hk (p ^^^ q)

theorem r_andNot_U {k : IntKind} {p q : BitVec k.bits} (hk : k.signed = false) (hx : a.eval x = U k p) (hy : a.eval y = U k q) : (execOp a.eval ⟨dst, .binOp .andNot t x y t', ty, pos, after, g⟩).run P w = .ok (.value (U k (p &&& ~~~q))) w := by
  refine exec_bin hx hy guard_int ?_
  have h1 : binOp .andNot t (U k p) (U k q) = Op.intBits .andNot k p.toNat q.toNat := by simp [U, binOp]
  rw [h1]
  refine bits_U hk ?_
  simp only [Op.intBits, ofInt_toNat]
theorem r_xorNot_U {k : IntKind} {p : BitVec k.bits} (hk : k.signed = false) (hx : a.eval x = U k p) : (execOp a.eval ⟨dst, .unOp .xor t x, ty, pos, after, g⟩).run P w = .ok (.value (U k (~~~p))) w := by
  have h1 : BitVec.ofInt k.bits k.max = BitVec.allOnes k.bits := by cases k <;> first | (simp [IntKind.signed] at hk; done) | rfl
  have h2 : (Op.unary .xor (U k p)) = pure (U k (~~~p)) := by
    simp only [U, Op.unary, Op.intBits, ofInt_toNat, hk, Bool.false_eq_true, if_false, h1, BitVec.allOnes_xor]
    rw [wrapU_toNat hk]
  simp only [execOp, hx, h2, Sem.run_bind, Sem.run_pure, Result.andThen_ok]

theorem r_add_U {k : IntKind} {p q : BitVec k.bits} (hk : k.signed = false) (hx : a.eval x = U k p) (hy : a.eval y = U k q) : (execOp a.eval ⟨dst, .binOp .add t x y t', ty, pos, after, g⟩).run P w = .ok (.value (U k (p + q))) w := by
  simp only [U] at *
  have h1 : k.wrap ((p.toNat : Int) + (q.toNat : Int)) = ((p + q).toNat : Int) := by
    rw [BitVec.toNat_add, ← wrapU_nat hk]; simp
  simp [execOp, hx, hy, eqGuard, binOp, Op.intArith, h1]

theorem r_mul_U {k : IntKind} {p q : BitVec k.bits} (hk : k.signed = false) (hx : a.eval x = U k p) (hy : a.eval y = U k q) : (execOp a.eval ⟨dst, .binOp .mul t x y t', ty, pos, after, g⟩).run P w = .ok (.value (U k (p * q))) w := by
  simp only [U] at *
  have h1 : k.wrap ((p.toNat : Int) * (q.toNat : Int)) = ((p * q).toNat : Int) := by
    rw [BitVec.toNat_mul, ← wrapU_nat hk]; simp
  simp [execOp, hx, hy, eqGuard, binOp, Op.intArith, h1]

theorem r_sub_U {k : IntKind} {p q : BitVec k.bits} (hk : k.signed = false) (hx : a.eval x = U k p) (hy : a.eval y = U k q) : (execOp a.eval ⟨dst, .binOp .sub t x y t', ty, pos, after, g⟩).run P w = .ok (.value (U k (p - q))) w := by
  simp only [U] at *
  have h1 : k.wrap ((p.toNat : Int) - (q.toNat : Int)) = ((p - q).toNat : Int) := by
    rw [wrapU hk, BitVec.toNat_sub]
    have hq := q.isLt
    have : ((2 ^ k.bits - q.toNat + p.toNat : Nat) : Int) = (2 ^ k.bits : Nat) + ((p.toNat : Int) - q.toNat) := by omega
    rw [Int.natCast_emod, this]
    simp
  simp [execOp, hx, hy, eqGuard, binOp, Op.intArith, h1]
theorem shl_bits {k : IntKind} (p : BitVec k.bits) (hk : k.signed = false) (n : Nat) : k.wrap ((p.toNat : Int) * 2 ^ (min n k.bits)) = ((p <<< n).toNat : Int) := by
  have h1 : (p.toNat : Int) * 2 ^ (min n k.bits) = ((p.toNat * 2 ^ (min n k.bits) : Nat) : Int) := by simp
  rw [h1, wrapU_nat hk, BitVec.toNat_shiftLeft, Nat.shiftLeft_eq]
  rcases Nat.le_total n k.bits with h | h
  · rw [Nat.min_eq_left h]
  · rw [Nat.min_eq_right h]
    have : p.toNat * 2 ^ n = p.toNat * 2 ^ (n - k.bits) * 2 ^ k.bits := by rw [Nat.mul_assoc, ← Nat.pow_add]; congr 2; omega
    rw [this]; simp
theorem shr_bits {k : IntKind} (p : BitVec k.bits) (n : Nat) : ((p.toNat : Int)).fdiv (2 ^ (min n k.bits)) = ((p >>> n).toNat : Int) := by
  have h0 : ((p.toNat : Int)).fdiv (2 ^ (min n k.bits)) = ((p.toNat / 2 ^ (min n k.bits) : Nat) : Int) := by
    rw [Int.fdiv_eq_ediv_of_nonneg _ (by exact Int.pow_nonneg (by omega))]; simp
  rw [h0, BitVec.toNat_ushiftRight, Nat.shiftRight_eq_div_pow]
  rcases Nat.le_total n k.bits with h | h
  · rw [Nat.min_eq_left h]
  · rw [Nat.min_eq_right h]
    have h2 := p.isLt
    have h3 : 2 ^ k.bits ≤ 2 ^ n := Nat.pow_le_pow_right (by omega) h
    rw [Nat.div_eq_of_lt h2, Nat.div_eq_of_lt (by omega)]
theorem r_shl_U {k : IntKind} {p : BitVec k.bits} {yk : IntKind} {n : Nat} (hk : k.signed = false) (hx : a.eval x = U k p) (hy : a.eval y = .int yk (n : Int)) : (execOp a.eval ⟨dst, .binOp .shl t x y t', ty, pos, after, g⟩).run P w = .ok (.value (U k (p <<< n))) w := by
  refine exec_bin hx hy guard_int ?_
  show (Op.shift .shl k (p.toNat : Int) yk (n : Int)).run P w = _
  simp only [Op.shift]
  rw [if_neg (by omega), Int.toNat_natCast]
  show Result.ok (Value.int k (k.wrap ((p.toNat : Int) * 2 ^ (min n k.bits)))) w = _
  rw [shl_bits p hk n]; rfl
theorem r_shr_U {k : IntKind} {p : BitVec k.bits} {yk : IntKind} {n : Nat} (hx : a.eval x = U k p) (hy : a.eval y = .int yk (n : Int)) : (execOp a.eval ⟨dst, .binOp .shr t x y t', ty, pos, after, g⟩).run P w = .ok (.value (U k (p >>> n))) w := by
  refine exec_bin hx hy guard_int ?_
  show (Op.shift .shr k (p.toNat : Int) yk (n : Int)).run P w = _
  simp only [Op.shift]
  rw [if_neg (by omega), Int.toNat_natCast]
  show Result.ok (Value.int k (((p.toNat : Int)).fdiv (2 ^ (min n k.bits)))) w = _
  rw [shr_bits p n]; rfl
theorem cast_eq {n : Nat} {p q : BitVec n} : ((p.toNat : Int) = (q.toNat : Int)) ↔ p = q := by
  rw [← BitVec.toNat_inj]; omega
theorem r_eql_U {k : IntKind} {p q : BitVec k.bits} (hx : a.eval x = U k p) (hy : a.eval y = U k q) : (execOp a.eval ⟨dst, .binOp .eql t x y t', ty, pos, after, g⟩).run P w = .ok (.value (.bool (decide (p = q)))) w := by
  have h1 : ((p.toNat : Int) == (q.toNat : Int)) = decide (p = q) := by
    rw [Bool.eq_iff_iff, beq_iff_eq, decide_eq_true_eq]; exact cast_eq
  refine exec_bin hx hy guard_int ?_
  have h2 : binOp .eql t (U k p) (U k q) = Op.intCmp .eql p.toNat q.toNat := by simp [U, binOp]
  rw [h2]; simp only [Op.intCmp, h1]; rfl
theorem r_neq_U {k : IntKind} {p q : BitVec k.bits} (hx : a.eval x = U k p) (hy : a.eval y = U k q) : (execOp a.eval ⟨dst, .binOp .neq t x y t', ty, pos, after, g⟩).run P w = .ok (.value (.bool (decide (p ≠ q)))) w := by
  have h1 : ((p.toNat : Int) != (q.toNat : Int)) = decide (p ≠ q) := by
    rw [Bool.eq_iff_iff, bne_iff_ne, decide_eq_true_eq]; exact not_congr cast_eq
  refine exec_bin hx hy guard_int ?_
  have h2 : binOp .neq t (U k p) (U k q) = Op.intCmp .neq p.toNat q.toNat := by simp [U, binOp]
  rw [h2]; simp only [Op.intCmp, h1]; rfl

theorem r_lss {k : IntKind} {m n : Int} (hx : a.eval x = .int k m) (hy : a.eval y = .int k n) : (execOp a.eval ⟨dst, .binOp .lss t x y t', ty, pos, after, g⟩).run P w = .ok (.value (.bool (decide (m < n)))) w := by
  simp [execOp, hx, hy, eqGuard, binOp, Op.intCmp]
theorem r_lss_t {k : IntKind} {m n : Int} (hx : a.eval x = .int k m) (hy : a.eval y = .int k n) (hd : m < n) : (execOp a.eval ⟨dst, .binOp .lss t x y t', ty, pos, after, g⟩).run P w = .ok (.value (.bool true)) w := by
  rw [r_lss hx hy, decide_eq_true hd]
theorem r_lss_f {k : IntKind} {m n : Int} (hx : a.eval x = .int k m) (hy : a.eval y = .int k n) (hd : ¬ (m < n)) : (execOp a.eval ⟨dst, .binOp .lss t x y t', ty, pos, after, g⟩).run P w = .ok (.value (.bool false)) w := by
  rw [r_lss hx hy, decide_eq_false hd]

theorem r_leq {k : IntKind} {m n : Int} (hx : a.eval x = .int k m) (hy : a.eval y = .int k n) : (execOp a.eval ⟨dst, .binOp .leq t x y t', ty, pos, after, g⟩).run P w = .ok (.value (.bool (decide (m ≤ n)))) w := by
  simp [execOp, hx, hy, eqGuard, binOp, Op.intCmp]
theorem r_leq_t {k : IntKind} {m n : Int} (hx : a.eval x = .int k m) (hy : a.eval y = .int k n) (hd : m ≤ n) : (execOp a.eval ⟨dst, .binOp .leq t x y t', ty, pos, after, g⟩).run P w = .ok (.value (.bool true)) w := by
  rw [r_leq hx hy, decide_eq_true hd]
theorem r_leq_f {k : IntKind} {m n : Int} (hx : a.eval x = .int k m) (hy : a.eval y = .int k n) (hd : ¬ (m ≤ n)) : (execOp a.eval ⟨dst, .binOp .leq t x y t', ty, pos, after, g⟩).run P w = .ok (.value (.bool false)) w := by
  rw [r_leq hx hy, decide_eq_false hd]

theorem r_gtr {k : IntKind} {m n : Int} (hx : a.eval x = .int k m) (hy : a.eval y = .int k n) : (execOp a.eval ⟨dst, .binOp .gtr t x y t', ty, pos, after, g⟩).run P w = .ok (.value (.bool (decide (m > n)))) w := by
  simp [execOp, hx, hy, eqGuard, binOp, Op.intCmp]
theorem r_gtr_t {k : IntKind} {m n : Int} (hx : a.eval x = .int k m) (hy : a.eval y = .int k n) (hd : m > n) : (execOp a.eval ⟨dst, .binOp .gtr t x y t', ty, pos, after, g⟩).run P w = .ok (.value (.bool true)) w := by
  rw [r_gtr hx hy, decide_eq_true hd]
theorem r_gtr_f {k : IntKind} {m n : Int} (hx : a.eval x = .int k m) (hy : a.eval y = .int k n) (hd : ¬ (m > n)) : (execOp a.eval ⟨dst, .binOp .gtr t x y t', ty, pos, after, g⟩).run P w = .ok (.value (.bool false)) w := by
  rw [r_gtr hx hy, decide_eq_false hd]

theorem r_geq {k : IntKind} {m n : Int} (hx : a.eval x = .int k m) (hy : a.eval y = .int k n) : (execOp a.eval ⟨dst, .binOp .geq t x y t', ty, pos, after, g⟩).run P w = .ok (.value (.bool (decide (m ≥ n)))) w := by
  simp [execOp, hx, hy, eqGuard, binOp, Op.intCmp]
theorem r_geq_t {k : IntKind} {m n : Int} (hx : a.eval x = .int k m) (hy : a.eval y = .int k n) (hd : m ≥ n) : (execOp a.eval ⟨dst, .binOp .geq t x y t', ty, pos, after, g⟩).run P w = .ok (.value (.bool true)) w := by
  rw [r_geq hx hy, decide_eq_true hd]
theorem r_geq_f {k : IntKind} {m n : Int} (hx : a.eval x = .int k m) (hy : a.eval y = .int k n) (hd : ¬ (m ≥ n)) : (execOp a.eval ⟨dst, .binOp .geq t x y t', ty, pos, after, g⟩).run P w = .ok (.value (.bool false)) w := by
  rw [r_geq hx hy, decide_eq_false hd]

theorem r_eql {k : IntKind} {m n : Int} (hx : a.eval x = .int k m) (hy : a.eval y = .int k n) : (execOp a.eval ⟨dst, .binOp .eql t x y t', ty, pos, after, g⟩).run P w = .ok (.value (.bool (decide (m = n)))) w := by
  refine exec_bin hx hy guard_int ?_
  have h2 : binOp .eql t (.int k m) (.int k n) = Op.intCmp .eql m n := by simp [binOp]
  rw [h2]; rfl
theorem r_neq {k : IntKind} {m n : Int} (hx : a.eval x = .int k m) (hy : a.eval y = .int k n) : (execOp a.eval ⟨dst, .binOp .neq t x y t', ty, pos, after, g⟩).run P w = .ok (.value (.bool (decide (m ≠ n)))) w := by
  have h1 : (m != n) = decide (m ≠ n) := by rw [Bool.eq_iff_iff]; simp
  refine exec_bin hx hy guard_int ?_
  have h2 : binOp .neq t (.int k m) (.int k n) = Op.intCmp .neq m n := by simp [binOp]
  rw [h2]; simp only [Op.intCmp, h1]; rfl

theorem r_eql_t {k : IntKind} {m n : Int} (hx : a.eval x = .int k m) (hy : a.eval y = .int k n) (hd : m = n) : (execOp a.eval ⟨dst, .binOp .eql t x y t', ty, pos, after, g⟩).run P w = .ok (.value (.bool true)) w := by
  rw [r_eql hx hy, decide_eq_true hd]
theorem r_eql_f {k : IntKind} {m n : Int} (hx : a.eval x = .int k m) (hy : a.eval y = .int k n) (hd : ¬ (m = n)) : (execOp a.eval ⟨dst, .binOp .eql t x y t', ty, pos, after, g⟩).run P w = .ok (.value (.bool false)) w := by
  rw [r_eql hx hy, decide_eq_false hd]

theorem r_neq_t {k : IntKind} {m n : Int} (hx : a.eval x = .int k m) (hy : a.eval y = .int k n) (hd : m ≠ n) : (execOp a.eval ⟨dst, .binOp .neq t x y t', ty, pos, after, g⟩).run P w = .ok (.value (.bool true)) w := by
  rw [r_neq hx hy, decide_eq_true hd]
theorem r_neq_f {k : IntKind} {m n : Int} (hx : a.eval x = .int k m) (hy : a.eval y = .int k n) (hd : ¬ (m ≠ n)) : (execOp a.eval ⟨dst, .binOp .neq t x y t', ty, pos, after, g⟩).run P w = .ok (.value (.bool false)) w := by
  rw [r_neq hx hy, decide_eq_false hd]

theorem r_add_i {m n r : Int} (hx : a.eval x = .int .i64 m) (hy : a.eval y = .int .i64 n) (hr : m + n = r) (h0 : -9223372036854775808 ≤ r) (h1 : r ≤ 9223372036854775807) : (execOp a.eval ⟨dst, .binOp .add t x y t', ty, pos, after, g⟩).run P w = .ok (.value (.int .i64 r)) w := by
  have h2 : IntKind.i64.wrap (m + n) = r := by rw [hr]; exact IntWalk.i64_in _ (by omega)
  simp [execOp, hx, hy, eqGuard, binOp, Op.intArith, h2]

theorem r_sub_i {m n r : Int} (hx : a.eval x = .int .i64 m) (hy : a.eval y = .int .i64 n) (hr : m - n = r) (h0 : -9223372036854775808 ≤ r) (h1 : r ≤ 9223372036854775807) : (execOp a.eval ⟨dst, .binOp .sub t x y t', ty, pos, after, g⟩).run P w = .ok (.value (.int .i64 r)) w := by
  have h2 : IntKind.i64.wrap (m - n) = r := by rw [hr]; exact IntWalk.i64_in _ (by omega)
  simp [execOp, hx, hy, eqGuard, binOp, Op.intArith, h2]

theorem r_mul_i {m n r : Int} (hx : a.eval x = .int .i64 m) (hy : a.eval y = .int .i64 n) (hr : m * n = r) (h0 : -9223372036854775808 ≤ r) (h1 : r ≤ 9223372036854775807) : (execOp a.eval ⟨dst, .binOp .mul t x y t', ty, pos, after, g⟩).run P w = .ok (.value (.int .i64 r)) w := by
  have h2 : IntKind.i64.wrap (m * n) = r := by rw [hr]; exact IntWalk.i64_in _ (by omega)
  simp [execOp, hx, hy, eqGuard, binOp, Op.intArith, h2]

theorem r_quo_i {m n r : Int} (hx : a.eval x = .int .i64 m) (hy : a.eval y = .int .i64 n) (hm : 0 ≤ m) (hm' : m ≤ 9223372036854775807) (hn : 0 < n) (hr : m / n = r) : (execOp a.eval ⟨dst, .binOp .quo t x y t', ty, pos, after, g⟩).run P w = .ok (.value (.int .i64 r)) w := by
  have h0 : m.tdiv n = r := by rw [Int.tdiv_eq_ediv_of_nonneg hm]; exact hr
  have h3 : 0 ≤ r := by rw [← hr]; exact Int.ediv_nonneg hm (by omega)
  have h4 : r ≤ m := by rw [← hr]; exact Int.ediv_le_self _ hm
  have h2 : IntKind.i64.wrap (m.tdiv n) = r := by rw [h0]; exact IntWalk.i64_in _ (by omega)
  have hn0 : n ≠ 0 := by omega
  simp [execOp, hx, hy, eqGuard, binOp, Op.intDiv, h2, hn0]
theorem r_rem_i {m n r : Int} (hx : a.eval x = .int .i64 m) (hy : a.eval y = .int .i64 n) (hm : 0 ≤ m) (hn : 0 < n) (hr : m % n = r) : (execOp a.eval ⟨dst, .binOp .rem t x y t', ty, pos, after, g⟩).run P w = .ok (.value (.int .i64 r)) w := by
  have h0 : m.tmod n = r := by rw [Int.tmod_eq_emod_of_nonneg hm]; exact hr
  have hn0 : n ≠ 0 := by omega
  simp [execOp, hx, hy, eqGuard, binOp, Op.intDiv, h0, hn0]
theorem r_rem_U {k : IntKind} {p q : BitVec k.bits} (hx : a.eval x = U k p) (hy : a.eval y = U k q) (hq : (q == 0) = false) : (execOp a.eval ⟨dst, .binOp .rem t x y t', ty, pos, after, g⟩).run P w = .ok (.value (U k (p % q))) w := by
  simp only [U] at *
  have hn0 : (q.toNat : Int) ≠ 0 := fun e => by
    have h0 : q = 0 := BitVec.eq_of_toNat_eq (by simp; omega)
    rw [h0] at hq; simp at hq
  have h1 : ((p.toNat : Int)).tmod (q.toNat : Int) = ((p % q).toNat : Int) := by
    rw [Int.tmod_eq_emod_of_nonneg (by omega), BitVec.toNat_umod]; simp
  refine exec_bin hx hy guard_int ?_
  have h2 : binOp .rem t (.int k (p.toNat : Int)) (.int k (q.toNat : Int)) = Op.intDiv .rem k p.toNat q.toNat := by simp [binOp]
  rw [h2]; simp only [Op.intDiv]; rw [if_neg hn0, h1]; rfl
theorem r_quo_U {k : IntKind} {p q : BitVec k.bits} (hk : k.signed = false) (hx : a.eval x = U k p) (hy : a.eval y = U k q) (hq : (q == 0) = false) : (execOp a.eval ⟨dst, .binOp .quo t x y t', ty, pos, after, g⟩).run P w = .ok (.value (U k (p / q))) w := by
  simp only [U] at *
  have hn0 : (q.toNat : Int) ≠ 0 := fun e => by
    have h0 : q = 0 := BitVec.eq_of_toNat_eq (by simp; omega)
    rw [h0] at hq; simp at hq
  have h1 : k.wrap (((p.toNat : Int)).tdiv (q.toNat : Int)) = ((p / q).toNat : Int) := by
    rw [Int.tdiv_eq_ediv_of_nonneg (by omega), BitVec.toNat_udiv]
    have : ((p.toNat : Int)) / (q.toNat : Int) = ((p.toNat / q.toNat : Nat) : Int) := by simp
    rw [this, wrapU_nat hk, Nat.mod_eq_of_lt (Nat.lt_of_le_of_lt (Nat.div_le_self _ _) p.isLt)]
  refine exec_bin hx hy guard_int ?_
  have h2 : binOp .quo t (.int k (p.toNat : Int)) (.int k (q.toNat : Int)) = Op.intDiv .quo k p.toNat q.toNat := by simp [binOp]
  rw [h2]; simp only [Op.intDiv]; rw [if_neg hn0, h1]; rfl
theorem r_neg_i {m r : Int} (hx : a.eval x = .int .i64 m) (hr : -m = r) (h0 : -9223372036854775808 ≤ r) (h1 : r ≤ 9223372036854775807) : (execOp a.eval ⟨dst, .unOp .neg t x, ty, pos, after, g⟩).run P w = .ok (.value (.int .i64 r)) w := by
  have h2 : IntKind.i64.wrap (0 - m) = r := by rw [show (0 : Int) - m = r by omega]; exact IntWalk.i64_in _ (by omega)
  simp only [execOp, hx, Op.unary, Op.intArith, Sem.run_bind, Sem.run_pure, Result.andThen_ok, h2]
theorem r_not {b : Bool} (hx : a.eval x = .bool b) : (execOp a.eval ⟨dst, .unOp .not t x, ty, pos, after, g⟩).run P w = .ok (.value (.bool !b)) w := by
  simp [execOp, hx, Op.unary]
/-- Conversions between integers. -/
theorem r_conv_UU {k j : IntKind} {p : BitVec k.bits} {s : TypeId} {d : TypeDesc} (hj : j.signed = false) (hx : a.eval x = U k p) (hs : ∀ w, (underlying s).run P w = .ok d w) (ht : ∀ w, (underlying t).run P w = .ok (.int j) w) :
    (execOp a.eval ⟨dst, .convert s t x, ty, pos, after, g⟩).run P w = .ok (.value (U j (p.setWidth j.bits))) w := by
  simp only [U] at *
  have h1 := wrapU_nat hj p.toNat
  cases d <;> simp [execOp, hx, convert, hs, ht, Conv.intToInt, h1]
theorem r_conv_Ui {k : IntKind} {p : BitVec k.bits} {s : TypeId} {d : TypeDesc} (hx : a.eval x = U k p) (hs : ∀ w, (underlying s).run P w = .ok d w) (ht : ∀ w, (underlying t).run P w = .ok (.int .i64) w) (hb : p.toNat ≤ 9223372036854775807) :
    (execOp a.eval ⟨dst, .convert s t x, ty, pos, after, g⟩).run P w = .ok (.value (.int .i64 (p.toNat : Int))) w := by
  simp only [U] at *
  have h1 : IntKind.i64.wrap (p.toNat : Int) = (p.toNat : Int) := IntWalk.i64_in _ (by omega)
  cases d <;> simp [execOp, hx, convert, hs, ht, Conv.intToInt, h1]
theorem r_conv_iU {j : IntKind} {m : Nat} {s : TypeId} {d : TypeDesc} (hj : j.signed = false) (hx : a.eval x = .int .i64 (m : Int)) (hs : ∀ w, (underlying s).run P w = .ok d w) (ht : ∀ w, (underlying t).run P w = .ok (.int j) w) :
    (execOp a.eval ⟨dst, .convert s t x, ty, pos, after, g⟩).run P w = .ok (.value (U j (BitVec.ofNat j.bits m))) w := by
  simp only [U] at *
  have h1 := wrapU_nat hj m
  cases d <;> simp [execOp, hx, convert, hs, ht, Conv.intToInt, h1]
theorem r_conv_ii {m : Int} {s : TypeId} {d : TypeDesc} (hx : a.eval x = .int .i64 m) (hs : ∀ w, (underlying s).run P w = .ok d w) (ht : ∀ w, (underlying t).run P w = .ok (.int .i64) w) (h0 : -9223372036854775808 ≤ m) (h1 : m ≤ 9223372036854775807) :
    (execOp a.eval ⟨dst, .convert s t x, ty, pos, after, g⟩).run P w = .ok (.value (.int .i64 m)) w := by
  have h1 : IntKind.i64.wrap m = m := IntWalk.i64_in _ (by omega)
  cases d <;> simp [execOp, hx, convert, hs, ht, Conv.intToInt, h1]

theorem r_and_B {p q : BitVec 8} (hx : a.eval x = B p) (hy : a.eval y = B q) : (execOp a.eval ⟨dst, .binOp .and t x y t', ty, pos, after, g⟩).run P w = .ok (.value (B (p &&& q))) w := r_and_U (k := .u8) rfl hx hy
theorem r_or_B {p q : BitVec 8} (hx : a.eval x = B p) (hy : a.eval y = B q) : (execOp a.eval ⟨dst, .binOp .or t x y t', ty, pos, after, g⟩).run P w = .ok (.value (B (p ||| q))) w := r_or_U (k := .u8) rfl hx hy
theorem r_xor_B {p q : BitVec 8} (hx : a.eval x = B p) (hy : a.eval y = B q) : (execOp a.eval ⟨dst, .binOp .xor t x y t', ty, pos, after, g⟩).run P w = .ok (.value (B (p ^^^ q))) w := r_xor_U (k := .u8) rfl hx hy
theorem r_add_B {p q : BitVec 8} (hx : a.eval x = B p) (hy : a.eval y = B q) : (execOp a.eval ⟨dst, .binOp .add t x y t', ty, pos, after, g⟩).run P w = .ok (.value (B (p + q))) w := r_add_U (k := .u8) rfl hx hy
theorem r_mul_B {p q : BitVec 8} (hx : a.eval x = B p) (hy : a.eval y = B q) : (execOp a.eval ⟨dst, .binOp .mul t x y t', ty, pos, after, g⟩).run P w = .ok (.value (B (p * q))) w := r_mul_U (k := .u8) rfl hx hy
theorem r_sub_B {p q : BitVec 8} (hx : a.eval x = B p) (hy : a.eval y = B q) : (execOp a.eval ⟨dst, .binOp .sub t x y t', ty, pos, after, g⟩).run P w = .ok (.value (B (p - q))) w := r_sub_U (k := .u8) rfl hx hy
theorem r_andNot_B {p q : BitVec 8} (hx : a.eval x = B p) (hy : a.eval y = B q) : (execOp a.eval ⟨dst, .binOp .andNot t x y t', ty, pos, after, g⟩).run P w = .ok (.value (B (p &&& ~~~q))) w := r_andNot_U (k := .u8) rfl hx hy
theorem r_xorNot_B {p : BitVec 8} (hx : a.eval x = B p) : (execOp a.eval ⟨dst, .unOp .xor t x, ty, pos, after, g⟩).run P w = .ok (.value (B (~~~p))) w := r_xorNot_U (k := .u8) rfl hx
theorem r_shl_B {p : BitVec 8} {yk : IntKind} {n : Nat} (hx : a.eval x = B p) (hy : a.eval y = .int yk (n : Int)) : (execOp a.eval ⟨dst, .binOp .shl t x y t', ty, pos, after, g⟩).run P w = .ok (.value (B (p <<< n))) w := r_shl_U (k := .u8) rfl hx hy
theorem r_shr_B {p : BitVec 8} {yk : IntKind} {n : Nat} (hx : a.eval x = B p) (hy : a.eval y = .int yk (n : Int)) : (execOp a.eval ⟨dst, .binOp .shr t x y t', ty, pos, after, g⟩).run P w = .ok (.value (B (p >>> n))) w := r_shr_U (k := .u8) hx hy
theorem r_rem_B {p q : BitVec 8} (hx : a.eval x = B p) (hy : a.eval y = B q) (hq : (q == 0) = false) : (execOp a.eval ⟨dst, .binOp .rem t x y t', ty, pos, after, g⟩).run P w = .ok (.value (B (p % q))) w := r_rem_U (k := .u8) hx hy hq
theorem r_quo_B {p q : BitVec 8} (hx : a.eval x = B p) (hy : a.eval y = B q) (hq : (q == 0) = false) : (execOp a.eval ⟨dst, .binOp .quo t x y t', ty, pos, after, g⟩).run P w = .ok (.value (B (p / q))) w := r_quo_U (k := .u8) rfl hx hy hq
theorem r_eql_B {p q : BitVec 8} (hx : a.eval x = B p) (hy : a.eval y = B q) : (execOp a.eval ⟨dst, .binOp .eql t x y t', ty, pos, after, g⟩).run P w = .ok (.value (.bool (decide (p = q)))) w := r_eql_U (k := .u8) hx hy
theorem r_eql_B_t {p q : BitVec 8} (hx : a.eval x = B p) (hy : a.eval y = B q) (hd : p = q) : (execOp a.eval ⟨dst, .binOp .eql t x y t', ty, pos, after, g⟩).run P w = .ok (.value (.bool true)) w := by rw [r_eql_B hx hy, decide_eq_true hd]
theorem r_eql_B_f {p q : BitVec 8} (hx : a.eval x = B p) (hy : a.eval y = B q) (hd : ¬ (p = q)) : (execOp a.eval ⟨dst, .binOp .eql t x y t', ty, pos, after, g⟩).run P w = .ok (.value (.bool false)) w := by rw [r_eql_B hx hy, decide_eq_false hd]
theorem r_neq_B {p q : BitVec 8} (hx : a.eval x = B p) (hy : a.eval y = B q) : (execOp a.eval ⟨dst, .binOp .neq t x y t', ty, pos, after, g⟩).run P w = .ok (.value (.bool (decide (p ≠ q)))) w := r_neq_U (k := .u8) hx hy
theorem r_neq_B_t {p q : BitVec 8} (hx : a.eval x = B p) (hy : a.eval y = B q) (hd : p ≠ q) : (execOp a.eval ⟨dst, .binOp .neq t x y t', ty, pos, after, g⟩).run P w = .ok (.value (.bool true)) w := by rw [r_neq_B hx hy, decide_eq_true hd]
theorem r_neq_B_f {p q : BitVec 8} (hx : a.eval x = B p) (hy : a.eval y = B q) (hd : ¬ (p ≠ q)) : (execOp a.eval ⟨dst, .binOp .neq t x y t', ty, pos, after, g⟩).run P w = .ok (.value (.bool false)) w := by rw [r_neq_B hx hy, decide_eq_false hd]
theorem r_conv_BH {p : BitVec 8} {s : TypeId} {d : TypeDesc} (hx : a.eval x = B p) (hs : ∀ w, (underlying s).run P w = .ok d w) (ht : ∀ w, (underlying t).run P w = .ok (.int .u16) w) : (execOp a.eval ⟨dst, .convert s t x, ty, pos, after, g⟩).run P w = .ok (.value (H (p.setWidth 16))) w := r_conv_UU (k := .u8) (j := .u16) rfl hx hs ht
theorem r_conv_BW {p : BitVec 8} {s : TypeId} {d : TypeDesc} (hx : a.eval x = B p) (hs : ∀ w, (underlying s).run P w = .ok d w) (ht : ∀ w, (underlying t).run P w = .ok (.int .u32) w) : (execOp a.eval ⟨dst, .convert s t x, ty, pos, after, g⟩).run P w = .ok (.value (W (p.setWidth 32))) w := r_conv_UU (k := .u8) (j := .u32) rfl hx hs ht
theorem r_conv_BD {p : BitVec 8} {s : TypeId} {d : TypeDesc} (hx : a.eval x = B p) (hs : ∀ w, (underlying s).run P w = .ok d w) (ht : ∀ w, (underlying t).run P w = .ok (.int .u64) w) : (execOp a.eval ⟨dst, .convert s t x, ty, pos, after, g⟩).run P w = .ok (.value (D (p.setWidth 64))) w := r_conv_UU (k := .u8) (j := .u64) rfl hx hs ht
theorem r_conv_iB {m : Nat} {s : TypeId} {d : TypeDesc} (hx : a.eval x = .int .i64 (m : Int)) (hs : ∀ w, (underlying s).run P w = .ok d w) (ht : ∀ w, (underlying t).run P w = .ok (.int .u8) w) : (execOp a.eval ⟨dst, .convert s t x, ty, pos, after, g⟩).run P w = .ok (.value (B (BitVec.ofNat 8 m))) w := r_conv_iU (j := .u8) rfl hx hs ht
theorem r_conv_Bi {p : BitVec 8} {s : TypeId} {d : TypeDesc} (hx : a.eval x = B p) (hs : ∀ w, (underlying s).run P w = .ok d w) (ht : ∀ w, (underlying t).run P w = .ok (.int .i64) w) (hb : p.toNat ≤ 9223372036854775807) : (execOp a.eval ⟨dst, .convert s t x, ty, pos, after, g⟩).run P w = .ok (.value (.int .i64 (p.toNat : Int))) w := r_conv_Ui (k := .u8) hx hs ht hb
theorem r_and_H {p q : BitVec 16} (hx : a.eval x = H p) (hy : a.eval y = H q) : (execOp a.eval ⟨dst, .binOp .and t x y t', ty, pos, after, g⟩).run P w = .ok (.value (H (p &&& q))) w := r_and_U (k := .u16) rfl hx hy
theorem r_or_H {p q : BitVec 16} (hx : a.eval x = H p) (hy : a.eval y = H q) : (execOp a.eval ⟨dst, .binOp .or t x y t', ty, pos, after, g⟩).run P w = .ok (.value (H (p ||| q))) w := r_or_U (k := .u16) rfl hx hy
theorem r_xor_H {p q : BitVec 16} (hx : a.eval x = H p) (hy : a.eval y = H q) : (execOp a.eval ⟨dst, .binOp .xor t x y t', ty, pos, after, g⟩).run P w = .ok (.value (H (p ^^^ q))) w := r_xor_U (k := .u16) rfl hx hy
theorem r_add_H {p q : BitVec 16} (hx : a.eval x = H p) (hy : a.eval y = H q) : (execOp a.eval ⟨dst, .binOp .add t x y t', ty, pos, after, g⟩).run P w = .ok (.value (H (p + q))) w := r_add_U (k := .u16) rfl hx hy
theorem r_mul_H {p q : BitVec 16} (hx : a.eval x = H p) (hy : a.eval y = H q) : (execOp a.eval ⟨dst, .binOp .mul t x y t', ty, pos, after, g⟩).run P w = .ok (.value (H (p * q))) w := r_mul_U (k := .u16) rfl hx hy
theorem r_sub_H {p q : BitVec 16} (hx : a.eval x = H p) (hy : a.eval y = H q) : (execOp a.eval ⟨dst, .binOp .sub t x y t', ty, pos, after, g⟩).run P w = .ok (.value (H (p - q))) w := r_sub_U (k := .u16) rfl hx hy
theorem r_andNot_H {p q : BitVec 16} (hx : a.eval x = H p) (hy : a.eval y = H q) : (execOp a.eval ⟨dst, .binOp .andNot t x y t', ty, pos, after, g⟩).run P w = .ok (.value (H (p &&& ~~~q))) w := r_andNot_U (k := .u16) rfl hx hy
theorem r_xorNot_H {p : BitVec 16} (hx : a.eval x = H p) : (execOp a.eval ⟨dst, .unOp .xor t x, ty, pos, after, g⟩).run P w = .ok (.value (H (~~~p))) w := r_xorNot_U (k := .u16) rfl hx
theorem r_shl_H {p : BitVec 16} {yk : IntKind} {n : Nat} (hx : a.eval x = H p) (hy : a.eval y = .int yk (n : Int)) : (execOp a.eval ⟨dst, .binOp .shl t x y t', ty, pos, after, g⟩).run P w = .ok (.value (H (p <<< n))) w := r_shl_U (k := .u16) rfl hx hy
theorem r_shr_H {p : BitVec 16} {yk : IntKind} {n : Nat} (hx : a.eval x = H p) (hy : a.eval y = .int yk (n : Int)) : (execOp a.eval ⟨dst, .binOp .shr t x y t', ty, pos, after, g⟩).run P w = .ok (.value (H (p >>> n))) w := r_shr_U (k := .u16) hx hy
theorem r_rem_H {p q : BitVec 16} (hx : a.eval x = H p) (hy : a.eval y = H q) (hq : (q == 0) = false) : (execOp a.eval ⟨dst, .binOp .rem t x y t', ty, pos, after, g⟩).run P w = .ok (.value (H (p % q))) w := r_rem_U (k := .u16) hx hy hq
theorem r_quo_H {p q : BitVec 16} (hx : a.eval x = H p) (hy : a.eval y = H q) (hq : (q == 0) = false) : (execOp a.eval ⟨dst, .binOp .quo t x y t', ty, pos, after, g⟩).run P w = .ok (.value (H (p / q))) w := r_quo_U (k := .u16) rfl hx hy hq
theorem r_eql_H {p q : BitVec 16} (hx : a.eval x = H p) (hy : a.eval y = H q) : (execOp a.eval ⟨dst, .binOp .eql t x y t', ty, pos, after, g⟩).run P w = .ok (.value (.bool (decide (p = q)))) w := r_eql_U (k := .u16) hx hy
theorem r_eql_H_t {p q : BitVec 16} (hx : a.eval x = H p) (hy : a.eval y = H q) (hd : p = q) : (execOp a.eval ⟨dst, .binOp .eql t x y t', ty, pos, after, g⟩).run P w = .ok (.value (.bool true)) w := by rw [r_eql_H hx hy, decide_eq_true hd]
theorem r_eql_H_f {p q : BitVec 16} (hx : a.eval x = H p) (hy : a.eval y = H q) (hd : ¬ (p = q)) : (execOp a.eval ⟨dst, .binOp .eql t x y t', ty, pos, after, g⟩).run P w = .ok (.value (.bool false)) w := by rw [r_eql_H hx hy, decide_eq_false hd]
theorem r_neq_H {p q : BitVec 16} (hx : a.eval x = H p) (hy : a.eval y = H q) : (execOp a.eval ⟨dst, .binOp .neq t x y t', ty, pos, after, g⟩).run P w = .ok (.value (.bool (decide (p ≠ q)))) w := r_neq_U (k := .u16) hx hy
theorem r_neq_H_t {p q : BitVec 16} (hx : a.eval x = H p) (hy : a.eval y = H q) (hd : p ≠ q) : (execOp a.eval ⟨dst, .binOp .neq t x y t', ty, pos, after, g⟩).run P w = .ok (.value (.bool true)) w := by rw [r_neq_H hx hy, decide_eq_true hd]
theorem r_neq_H_f {p q : BitVec 16} (hx : a.eval x = H p) (hy : a.eval y = H q) (hd : ¬ (p ≠ q)) : (execOp a.eval ⟨dst, .binOp .neq t x y t', ty, pos, after, g⟩).run P w = .ok (.value (.bool false)) w := by rw [r_neq_H hx hy, decide_eq_false hd]
theorem r_conv_HB {p : BitVec 16} {s : TypeId} {d : TypeDesc} (hx : a.eval x = H p) (hs : ∀ w, (underlying s).run P w = .ok d w) (ht : ∀ w, (underlying t).run P w = .ok (.int .u8) w) : (execOp a.eval ⟨dst, .convert s t x, ty, pos, after, g⟩).run P w = .ok (.value (B (p.setWidth 8))) w := r_conv_UU (k := .u16) (j := .u8) rfl hx hs ht
theorem r_conv_HW {p : BitVec 16} {s : TypeId} {d : TypeDesc} (hx : a.eval x = H p) (hs : ∀ w, (underlying s).run P w = .ok d w) (ht : ∀ w, (underlying t).run P w = .ok (.int .u32) w) : (execOp a.eval ⟨dst, .convert s t x, ty, pos, after, g⟩).run P w = .ok (.value (W (p.setWidth 32))) w := r_conv_UU (k := .u16) (j := .u32) rfl hx hs ht
theorem r_conv_HD {p : BitVec 16} {s : TypeId} {d : TypeDesc} (hx : a.eval x = H p) (hs : ∀ w, (underlying s).run P w = .ok d w) (ht : ∀ w, (underlying t).run P w = .ok (.int .u64) w) : (execOp a.eval ⟨dst, .convert s t x, ty, pos, after, g⟩).run P w = .ok (.value (D (p.setWidth 64))) w := r_conv_UU (k := .u16) (j := .u64) rfl hx hs ht
theorem r_conv_iH {m : Nat} {s : TypeId} {d : TypeDesc} (hx : a.eval x = .int .i64 (m : Int)) (hs : ∀ w, (underlying s).run P w = .ok d w) (ht : ∀ w, (underlying t).run P w = .ok (.int .u16) w) : (execOp a.eval ⟨dst, .convert s t x, ty, pos, after, g⟩).run P w = .ok (.value (H (BitVec.ofNat 16 m))) w := r_conv_iU (j := .u16) rfl hx hs ht
theorem r_conv_Hi {p : BitVec 16} {s : TypeId} {d : TypeDesc} (hx : a.eval x = H p) (hs : ∀ w, (underlying s).run P w = .ok d w) (ht : ∀ w, (underlying t).run P w = .ok (.int .i64) w) (hb : p.toNat ≤ 9223372036854775807) : (execOp a.eval ⟨dst, .convert s t x, ty, pos, after, g⟩).run P w = .ok (.value (.int .i64 (p.toNat : Int))) w := r_conv_Ui (k := .u16) hx hs ht hb
theorem r_and_W {p q : BitVec 32} (hx : a.eval x = W p) (hy : a.eval y = W q) : (execOp a.eval ⟨dst, .binOp .and t x y t', ty, pos, after, g⟩).run P w = .ok (.value (W (p &&& q))) w := r_and_U (k := .u32) rfl hx hy
theorem r_or_W {p q : BitVec 32} (hx : a.eval x = W p) (hy : a.eval y = W q) : (execOp a.eval ⟨dst, .binOp .or t x y t', ty, pos, after, g⟩).run P w = .ok (.value (W (p ||| q))) w := r_or_U (k := .u32) rfl hx hy
theorem r_xor_W {p q : BitVec 32} (hx : a.eval x = W p) (hy : a.eval y = W q) : (execOp a.eval ⟨dst, .binOp .xor t x y t', ty, pos, after, g⟩).run P w = .ok (.value (W (p ^^^ q))) w := r_xor_U (k := .u32) rfl hx hy
theorem r_add_W {p q : BitVec 32} (hx : a.eval x = W p) (hy : a.eval y = W q) : (execOp a.eval ⟨dst, .binOp .add t x y t', ty, pos, after, g⟩).run P w = .ok (.value (W (p + q))) w := r_add_U (k := .u32) rfl hx hy
theorem r_mul_W {p q : BitVec 32} (hx : a.eval x = W p) (hy : a.eval y = W q) : (execOp a.eval ⟨dst, .binOp .mul t x y t', ty, pos, after, g⟩).run P w = .ok (.value (W (p * q))) w := r_mul_U (k := .u32) rfl hx hy
theorem r_sub_W {p q : BitVec 32} (hx : a.eval x = W p) (hy : a.eval y = W q) : (execOp a.eval ⟨dst, .binOp .sub t x y t', ty, pos, after, g⟩).run P w = .ok (.value (W (p - q))) w := r_sub_U (k := .u32) rfl hx hy
theorem r_andNot_W {p q : BitVec 32} (hx : a.eval x = W p) (hy : a.eval y = W q) : (execOp a.eval ⟨dst, .binOp .andNot t x y t', ty, pos, after, g⟩).run P w = .ok (.value (W (p &&& ~~~q))) w := r_andNot_U (k := .u32) rfl hx hy
theorem r_xorNot_W {p : BitVec 32} (hx : a.eval x = W p) : (execOp a.eval ⟨dst, .unOp .xor t x, ty, pos, after, g⟩).run P w = .ok (.value (W (~~~p))) w := r_xorNot_U (k := .u32) rfl hx
theorem r_shl_W {p : BitVec 32} {yk : IntKind} {n : Nat} (hx : a.eval x = W p) (hy : a.eval y = .int yk (n : Int)) : (execOp a.eval ⟨dst, .binOp .shl t x y t', ty, pos, after, g⟩).run P w = .ok (.value (W (p <<< n))) w := r_shl_U (k := .u32) rfl hx hy
theorem r_shr_W {p : BitVec 32} {yk : IntKind} {n : Nat} (hx : a.eval x = W p) (hy : a.eval y = .int yk (n : Int)) : (execOp a.eval ⟨dst, .binOp .shr t x y t', ty, pos, after, g⟩).run P w = .ok (.value (W (p >>> n))) w := r_shr_U (k := .u32) hx hy
theorem r_rem_W {p q : BitVec 32} (hx : a.eval x = W p) (hy : a.eval y = W q) (hq : (q == 0) = false) : (execOp a.eval ⟨dst, .binOp .rem t x y t', ty, pos, after, g⟩).run P w = .ok (.value (W (p % q))) w := r_rem_U (k := .u32) hx hy hq
theorem r_quo_W {p q : BitVec 32} (hx : a.eval x = W p) (hy : a.eval y = W q) (hq : (q == 0) = false) : (execOp a.eval ⟨dst, .binOp .quo t x y t', ty, pos, after, g⟩).run P w = .ok (.value (W (p / q))) w := r_quo_U (k := .u32) rfl hx hy hq
theorem r_eql_W {p q : BitVec 32} (hx : a.eval x = W p) (hy : a.eval y = W q) : (execOp a.eval ⟨dst, .binOp .eql t x y t', ty, pos, after, g⟩).run P w = .ok (.value (.bool (decide (p = q)))) w := r_eql_U (k := .u32) hx hy
theorem r_eql_W_t {p q : BitVec 32} (hx : a.eval x = W p) (hy : a.eval y = W q) (hd : p = q) : (execOp a.eval ⟨dst, .binOp .eql t x y t', ty, pos, after, g⟩).run P w = .ok (.value (.bool true)) w := by rw [r_eql_W hx hy, decide_eq_true hd]
theorem r_eql_W_f {p q : BitVec 32} (hx : a.eval x = W p) (hy : a.eval y = W q) (hd : ¬ (p = q)) : (execOp a.eval ⟨dst, .binOp .eql t x y t', ty, pos, after, g⟩).run P w = .ok (.value (.bool false)) w := by rw [r_eql_W hx hy, decide_eq_false hd]
theorem r_neq_W {p q : BitVec 32} (hx : a.eval x = W p) (hy : a.eval y = W q) : (execOp a.eval ⟨dst, .binOp .neq t x y t', ty, pos, after, g⟩).run P w = .ok (.value (.bool (decide (p ≠ q)))) w := r_neq_U (k := .u32) hx hy
theorem r_neq_W_t {p q : BitVec 32} (hx : a.eval x = W p) (hy : a.eval y = W q) (hd : p ≠ q) : (execOp a.eval ⟨dst, .binOp .neq t x y t', ty, pos, after, g⟩).run P w = .ok (.value (.bool true)) w := by rw [r_neq_W hx hy, decide_eq_true hd]
theorem r_neq_W_f {p q : BitVec 32} (hx : a.eval x = W p) (hy : a.eval y = W q) (hd : ¬ (p ≠ q)) : (execOp a.eval ⟨dst, .binOp .neq t x y t', ty, pos, after, g⟩).run P w = .ok (.value (.bool false)) w := by rw [r_neq_W hx hy, decide_eq_false hd]
theorem r_conv_WB {p : BitVec 32} {s : TypeId} {d : TypeDesc} (hx : a.eval x = W p) (hs : ∀ w, (underlying s).run P w = .ok d w) (ht : ∀ w, (underlying t).run P w = .ok (.int .u8) w) : (execOp a.eval ⟨dst, .convert s t x, ty, pos, after, g⟩).run P w = .ok (.value (B (p.setWidth 8))) w := r_conv_UU (k := .u32) (j := .u8) rfl hx hs ht
theorem r_conv_WH {p : BitVec 32} {s : TypeId} {d : TypeDesc} (hx : a.eval x = W p) (hs : ∀ w, (underlying s).run P w = .ok d w) (ht : ∀ w, (underlying t).run P w = .ok (.int .u16) w) : (execOp a.eval ⟨dst, .convert s t x, ty, pos, after, g⟩).run P w = .ok (.value (H (p.setWidth 16))) w := r_conv_UU (k := .u32) (j := .u16) rfl hx hs ht
theorem r_conv_WD {p : BitVec 32} {s : TypeId} {d : TypeDesc} (hx : a.eval x = W p) (hs : ∀ w, (underlying s).run P w = .ok d w) (ht : ∀ w, (underlying t).run P w = .ok (.int .u64) w) : (execOp a.eval ⟨dst, .convert s t x, ty, pos, after, g⟩).run P w = .ok (.value (D (p.setWidth 64))) w := r_conv_UU (k := .u32) (j := .u64) rfl hx hs ht
theorem r_conv_iW {m : Nat} {s : TypeId} {d : TypeDesc} (hx : a.eval x = .int .i64 (m : Int)) (hs : ∀ w, (underlying s).run P w = .ok d w) (ht : ∀ w, (underlying t).run P w = .ok (.int .u32) w) : (execOp a.eval ⟨dst, .convert s t x, ty, pos, after, g⟩).run P w = .ok (.value (W (BitVec.ofNat 32 m))) w := r_conv_iU (j := .u32) rfl hx hs ht
theorem r_conv_Wi {p : BitVec 32} {s : TypeId} {d : TypeDesc} (hx : a.eval x = W p) (hs : ∀ w, (underlying s).run P w = .ok d w) (ht : ∀ w, (underlying t).run P w = .ok (.int .i64) w) (hb : p.toNat ≤ 9223372036854775807) : (execOp a.eval ⟨dst, .convert s t x, ty, pos, after, g⟩).run P w = .ok (.value (.int .i64 (p.toNat : Int))) w := r_conv_Ui (k := .u32) hx hs ht hb
theorem r_and_D {p q : BitVec 64} (hx : a.eval x = D p) (hy : a.eval y = D q) : (execOp a.eval ⟨dst, .binOp .and t x y t', ty, pos, after, g⟩).run P w = .ok (.value (D (p &&& q))) w := r_and_U (k := .u64) rfl hx hy
theorem r_or_D {p q : BitVec 64} (hx : a.eval x = D p) (hy : a.eval y = D q) : (execOp a.eval ⟨dst, .binOp .or t x y t', ty, pos, after, g⟩).run P w = .ok (.value (D (p ||| q))) w := r_or_U (k := .u64) rfl hx hy
theorem r_xor_D {p q : BitVec 64} (hx : a.eval x = D p) (hy : a.eval y = D q) : (execOp a.eval ⟨dst, .binOp .xor t x y t', ty, pos, after, g⟩).run P w = .ok (.value (D (p ^^^ q))) w := r_xor_U (k := .u64) rfl hx hy
theorem r_add_D {p q : BitVec 64} (hx : a.eval x = D p) (hy : a.eval y = D q) : (execOp a.eval ⟨dst, .binOp .add t x y t', ty, pos, after, g⟩).run P w = .ok (.value (D (p + q))) w := r_add_U (k := .u64) rfl hx hy
theorem r_mul_D {p q : BitVec 64} (hx : a.eval x = D p) (hy : a.eval y = D q) : (execOp a.eval ⟨dst, .binOp .mul t x y t', ty, pos, after, g⟩).run P w = .ok (.value (D (p * q))) w := r_mul_U (k := .u64) rfl hx hy
theorem r_sub_D {p q : BitVec 64} (hx : a.eval x = D p) (hy : a.eval y = D q) : (execOp a.eval ⟨dst, .binOp .sub t x y t', ty, pos, after, g⟩).run P w = .ok (.value (D (p - q))) w := r_sub_U (k := .u64) rfl hx hy
theorem r_andNot_D {p q : BitVec 64} (hx : a.eval x = D p) (hy : a.eval y = D q) : (execOp a.eval ⟨dst, .binOp .andNot t x y t', ty, pos, after, g⟩).run P w = .ok (.value (D (p &&& ~~~q))) w := r_andNot_U (k := .u64) rfl hx hy
theorem r_xorNot_D {p : BitVec 64} (hx : a.eval x = D p) : (execOp a.eval ⟨dst, .unOp .xor t x, ty, pos, after, g⟩).run P w = .ok (.value (D (~~~p))) w := r_xorNot_U (k := .u64) rfl hx
theorem r_shl_D {p : BitVec 64} {yk : IntKind} {n : Nat} (hx : a.eval x = D p) (hy : a.eval y = .int yk (n : Int)) : (execOp a.eval ⟨dst, .binOp .shl t x y t', ty, pos, after, g⟩).run P w = .ok (.value (D (p <<< n))) w := r_shl_U (k := .u64) rfl hx hy
theorem r_shr_D {p : BitVec 64} {yk : IntKind} {n : Nat} (hx : a.eval x = D p) (hy : a.eval y = .int yk (n : Int)) : (execOp a.eval ⟨dst, .binOp .shr t x y t', ty, pos, after, g⟩).run P w = .ok (.value (D (p >>> n))) w := r_shr_U (k := .u64) hx hy
theorem r_rem_D {p q : BitVec 64} (hx : a.eval x = D p) (hy : a.eval y = D q) (hq : (q == 0) = false) : (execOp a.eval ⟨dst, .binOp .rem t x y t', ty, pos, after, g⟩).run P w = .ok (.value (D (p % q))) w := r_rem_U (k := .u64) hx hy hq
theorem r_quo_D {p q : BitVec 64} (hx : a.eval x = D p) (hy : a.eval y = D q) (hq : (q == 0) = false) : (execOp a.eval ⟨dst, .binOp .quo t x y t', ty, pos, after, g⟩).run P w = .ok (.value (D (p / q))) w := r_quo_U (k := .u64) rfl hx hy hq
theorem r_eql_D {p q : BitVec 64} (hx : a.eval x = D p) (hy : a.eval y = D q) : (execOp a.eval ⟨dst, .binOp .eql t x y t', ty, pos, after, g⟩).run P w = .ok (.value (.bool (decide (p = q)))) w := r_eql_U (k := .u64) hx hy
theorem r_eql_D_t {p q : BitVec 64} (hx : a.eval x = D p) (hy : a.eval y = D q) (hd : p = q) : (execOp a.eval ⟨dst, .binOp .eql t x y t', ty, pos, after, g⟩).run P w = .ok (.value (.bool true)) w := by rw [r_eql_D hx hy, decide_eq_true hd]
theorem r_eql_D_f {p q : BitVec 64} (hx : a.eval x = D p) (hy : a.eval y = D q) (hd : ¬ (p = q)) : (execOp a.eval ⟨dst, .binOp .eql t x y t', ty, pos, after, g⟩).run P w = .ok (.value (.bool false)) w := by rw [r_eql_D hx hy, decide_eq_false hd]
theorem r_neq_D {p q : BitVec 64} (hx : a.eval x = D p) (hy : a.eval y = D q) : (execOp a.eval ⟨dst, .binOp .neq t x y t', ty, pos, after, g⟩).run P w = .ok (.value (.bool (decide (p ≠ q)))) w := r_neq_U (k := .u64) hx hy
theorem r_neq_D_t {p q : BitVec 64} (hx : a.eval x = D p) (hy : a.eval y = D q) (hd : p ≠ q) : (execOp a.eval ⟨dst, .binOp .neq t x y t', ty, pos, after, g⟩).run P w = .ok (.value (.bool true)) w := by rw [r_neq_D hx hy, decide_eq_true hd]
theorem r_neq_D_f {p q : BitVec 64} (hx : a.eval x = D p) (hy : a.eval y = D q) (hd : ¬ (p ≠ q)) : (execOp a.eval ⟨dst, .binOp .neq t x y t', ty, pos, after, g⟩).run P w = .ok (.value (.bool false)) w := by rw [r_neq_D hx hy, decide_eq_false hd]
theorem r_conv_DB {p : BitVec 64} {s : TypeId} {d : TypeDesc} (hx : a.eval x = D p) (hs : ∀ w, (underlying s).run P w = .ok d w) (ht : ∀ w, (underlying t).run P w = .ok (.int .u8) w) : (execOp a.eval ⟨dst, .convert s t x, ty, pos, after, g⟩).run P w = .ok (.value (B (p.setWidth 8))) w := r_conv_UU (k := .u64) (j := .u8) rfl hx hs ht
theorem r_conv_DH {p : BitVec 64} {s : TypeId} {d : TypeDesc} (hx : a.eval x = D p) (hs : ∀ w, (underlying s).run P w = .ok d w) (ht : ∀ w, (underlying t).run P w = .ok (.int .u16) w) : (execOp a.eval ⟨dst, .convert s t x, ty, pos, after, g⟩).run P w = .ok (.value (H (p.setWidth 16))) w := r_conv_UU (k := .u64) (j := .u16) rfl hx hs ht
theorem r_conv_DW {p : BitVec 64} {s : TypeId} {d : TypeDesc} (hx : a.eval x = D p) (hs : ∀ w, (underlying s).run P w = .ok d w) (ht : ∀ w, (underlying t).run P w = .ok (.int .u32) w) : (execOp a.eval ⟨dst, .convert s t x, ty, pos, after, g⟩).run P w = .ok (.value (W (p.setWidth 32))) w := r_conv_UU (k := .u64) (j := .u32) rfl hx hs ht
theorem r_conv_iD {m : Nat} {s : TypeId} {d : TypeDesc} (hx : a.eval x = .int .i64 (m : Int)) (hs : ∀ w, (underlying s).run P w = .ok d w) (ht : ∀ w, (underlying t).run P w = .ok (.int .u64) w) : (execOp a.eval ⟨dst, .convert s t x, ty, pos, after, g⟩).run P w = .ok (.value (D (BitVec.ofNat 64 m))) w := r_conv_iU (j := .u64) rfl hx hs ht
theorem r_conv_Di {p : BitVec 64} {s : TypeId} {d : TypeDesc} (hx : a.eval x = D p) (hs : ∀ w, (underlying s).run P w = .ok d w) (ht : ∀ w, (underlying t).run P w = .ok (.int .i64) w) (hb : p.toNat ≤ 9223372036854775807) : (execOp a.eval ⟨dst, .convert s t x, ty, pos, after, g⟩).run P w = .ok (.value (.int .i64 (p.toNat : Int))) w := r_conv_Ui (k := .u64) hx hs ht hb

/-! ### Pointers against nil, booleans -/
theorem equalIn_some {d : Nat} {ad : Addr} {e : TypeId} (hu : ∀ w, (underlying t).run P w = .ok (.pointer e) w) : (Op.equalIn (d + 1) t (.pointer (some ad)) (.pointer none)).run P w = .ok false w := by
  simp [Op.equalIn, hu]
theorem equalIn_none {d : Nat} {q : Option Addr} {e : TypeId} (hu : ∀ w, (underlying t).run P w = .ok (.pointer e) w) : (Op.equalIn (d + 1) t (.pointer none) (.pointer q)).run P w = .ok q.isNone w := by
  simp [Op.equalIn, hu]
theorem equal_some {ad : Addr} {e : TypeId} (hu : ∀ w, (underlying t).run P w = .ok (.pointer e) w) : (Op.equal t (.pointer (some ad)) (.pointer none)).run P w = .ok false w := equalIn_some (d := 9999) hu
theorem equal_none {q : Option Addr} {e : TypeId} (hu : ∀ w, (underlying t).run P w = .ok (.pointer e) w) : (Op.equal t (.pointer none) (.pointer q)).run P w = .ok q.isNone w := equalIn_none (d := 9999) hu
theorem r_eql_nilptr {ad : Addr} {e : TypeId} (hx : a.eval x = .pointer (some ad)) (hy : a.eval y = .pointer none) (hu : ∀ w, (underlying t).run P w = .ok (.pointer e) w) : (execOp a.eval ⟨dst, .binOp .eql t x y t', ty, pos, after, g⟩).run P w = .ok (.value (.bool false)) w := by
  refine exec_bin hx hy guard_ptr ?_
  have h2 : binOp .eql t (.pointer (some ad)) (.pointer none) = (do pure (.bool ((← Op.equal t (.pointer (some ad)) (.pointer none))))) := rfl
  rw [h2, Sem.run_bind, equal_some hu]; rfl
theorem r_neq_nilptr {ad : Addr} {e : TypeId} (hx : a.eval x = .pointer (some ad)) (hy : a.eval y = .pointer none) (hu : ∀ w, (underlying t).run P w = .ok (.pointer e) w) : (execOp a.eval ⟨dst, .binOp .neq t x y t', ty, pos, after, g⟩).run P w = .ok (.value (.bool true)) w := by
  refine exec_bin hx hy guard_ptr ?_
  have h2 : binOp .neq t (.pointer (some ad)) (.pointer none) = (do pure (.bool (!(← Op.equal t (.pointer (some ad)) (.pointer none))))) := rfl
  rw [h2, Sem.run_bind, equal_some hu]; rfl
theorem r_eql_nilnil {e : TypeId} (hx : a.eval x = .pointer none) (hy : a.eval y = .pointer none) (hu : ∀ w, (underlying t).run P w = .ok (.pointer e) w) : (execOp a.eval ⟨dst, .binOp .eql t x y t', ty, pos, after, g⟩).run P w = .ok (.value (.bool true)) w := by
  refine exec_bin hx hy guard_ptr ?_
  have h2 : binOp .eql t (.pointer none) (.pointer none) = (do pure (.bool ((← Op.equal t (.pointer none) (.pointer none))))) := rfl
  rw [h2, Sem.run_bind, equal_none hu]; rfl
theorem r_neq_nilnil {e : TypeId} (hx : a.eval x = .pointer none) (hy : a.eval y = .pointer none) (hu : ∀ w, (underlying t).run P w = .ok (.pointer e) w) : (execOp a.eval ⟨dst, .binOp .neq t x y t', ty, pos, after, g⟩).run P w = .ok (.value (.bool false)) w := by
  refine exec_bin hx hy guard_ptr ?_
  have h2 : binOp .neq t (.pointer none) (.pointer none) = (do pure (.bool (!(← Op.equal t (.pointer none) (.pointer none))))) := rfl
  rw [h2, Sem.run_bind, equal_none hu]; rfl

theorem r_makeFunc {fn : Fn} {first captured : Array Operand} {f1 c1 : List Value} (h1 : first.map a.eval = f1.toArray) (h2 : captured.map a.eval = c1.toArray) :
    (execOp a.eval ⟨dst, .makeFunc fn first captured, ty, pos, after, g⟩).run P w = .ok (.value (.func fn f1.toArray c1.toArray)) w := by
  simp only [execOp, Instr.makeFunc, h1, h2, Sem.run_bind, Sem.run_pure, Result.andThen_ok]
theorem r_build {parts : Array (Nat × Operand)} {ps : List (Nat × Value)} (hp : (parts.map fun (i, x) => (i, a.eval x)) = ps.toArray) (hr : ∀ w, (Instr.build t ps.toArray).run P w = .ok v w) :
    (execOp a.eval ⟨dst, .build t parts, ty, pos, after, g⟩).run P w = .ok (.value v) w := by
  simp only [execOp, hp, Sem.run_bind, hr, Result.andThen_ok, Sem.run_pure]
end ops
end Go.Proofs.YtjdfenlmifhhdaaDoor
