/-
  sha, hmac, kdf, node, super as functions on lists of bit vectors: no Go, no memory. Condition: none.
-/
import Derived.Test.YtjdfenlmifhhdaaDoorPure
namespace Go.Proofs.YtjdfenlmifhhdaaDoor

abbrev Words := List (BitVec 32)
def rootsL : Words := [1116352408#32, 1899447441#32, 3049323471#32, 3921009573#32, 961987163#32, 1508970993#32, 2453635748#32, 2870763221#32, 3624381080#32, 310598401#32, 607225278#32, 1426881987#32, 1925078388#32, 2162078206#32, 2614888103#32, 3248222580#32, 3835390401#32, 4022224774#32, 264347078#32, 604807628#32, 770255983#32, 1249150122#32, 1555081692#32, 1996064986#32, 2554220882#32, 2821834349#32, 2952996808#32, 3210313671#32, 3336571891#32, 3584528711#32, 113926993#32, 338241895#32, 666307205#32, 773529912#32, 1294757372#32, 1396182291#32, 1695183700#32, 1986661051#32, 2177026350#32, 2456956037#32, 2730485921#32, 2820302411#32, 3259730800#32, 3345764771#32, 3516065817#32, 3600352804#32, 4094571909#32, 275423344#32, 430227734#32, 506948616#32, 659060556#32, 883997877#32, 958139571#32, 1322822218#32, 1537002063#32, 1747873779#32, 1955562222#32, 2024104815#32, 2227730452#32, 2361852424#32, 2428436474#32, 2756734187#32, 3204031479#32, 3329325298#32]
theorem rootsL_len : rootsL.length = 64 := rfl
def rotr (x : BitVec 32) (k : Nat) : BitVec 32 := (x <<< (32 - k)) ||| (x >>> k)
def turnW (x : BitVec 32) (a b c : Nat) : BitVec 32 := rotr x a ^^^ rotr x b ^^^ rotr x c
def mixW (x : BitVec 32) (a b c : Nat) : BitVec 32 := rotr x a ^^^ rotr x b ^^^ (x >>> c)
theorem rot_count : ∀ k : Fin 32, 0 < k.val → (BitVec.ofInt 64 (-(k.val : Int))) &&& 31#64 = BitVec.ofNat 64 (32 - k.val) ∧ (BitVec.ofNat 64 (32 - k.val)).toNat = 32 - k.val ∧ (32#64 - BitVec.ofNat 64 (32 - k.val)).toNat = k.val := by decide +kernel
/-- the word number t of a block -/
def be32 (blk : Bytes) (t : Nat) : BitVec 32 := (beNum ((blk.drop (4 * t)).take 4)).setWidth 32
def wNew (blk : Bytes) (t : Nat) (w : Words) : BitVec 32 :=
  if t < 16 then be32 blk t else mixW (w.getD (t - 2) 0) 17 19 10 + w.getD (t - 7) 0 + mixW (w.getD (t - 15) 0) 7 18 3 + w.getD (t - 16) 0
def wStep (blk : Bytes) (t : Nat) (w : Words) : Words := w.set t (wNew blk t w)
theorem wStep_def (blk : Bytes) (t : Nat) (w : Words) : wStep blk t w = w.set t (wNew blk t w) := rfl
def sched (blk : Bytes) : Words := iter (wStep blk) 64 (List.replicate 64 0)
theorem sched_def (blk : Bytes) : iter (wStep blk) 64 (List.replicate 64 0) = sched blk := rfl
theorem wIter_len (blk : Bytes) (n : Nat) (w : Words) : (iter (wStep blk) n w).length = w.length := iter_len _ (fun _ _ => by simp [wStep]) n w
theorem sched_len (blk : Bytes) : (sched blk).length = 64 := by rw [sched, wIter_len]; simp
def vOne (w : Words) (t : Nat) (v : Words) : BitVec 32 :=
  v.getD 7 0 + turnW (v.getD 4 0) 6 11 25 + ((v.getD 4 0 &&& v.getD 5 0) ||| (~~~(v.getD 4 0) &&& v.getD 6 0)) + rootsL.getD t 0 + w.getD t 0
def vTwo (v : Words) : BitVec 32 := turnW (v.getD 0 0) 2 13 22 + ((v.getD 0 0 &&& v.getD 1 0) ||| (v.getD 2 0 &&& (v.getD 0 0 ||| v.getD 1 0)))
def vStep (w : Words) (t : Nat) (v : Words) : Words :=
  [vOne w t v + vTwo v, v.getD 0 0, v.getD 1 0, v.getD 2 0, v.getD 3 0 + vOne w t v, v.getD 4 0, v.getD 5 0, v.getD 6 0]
theorem vIter_len (w v : Words) (hv : v.length = 8) : ∀ n, (iter (vStep w) n v).length = 8
  | 0 => hv
  | _ + 1 => rfl
def sumStep (v : Words) (i : Nat) (s : Words) : Words := s.set i (s.getD i 0 + v.getD i 0)
theorem sumIter_len (v s : Words) (n : Nat) : (iter (sumStep v) n s).length = s.length := iter_len _ (fun _ _ => by simp [sumStep]) n s
/-- a block -/
def addBlk (st : Words) (blk : Bytes) : Words := iter (sumStep (iter (vStep (sched blk)) 64 st)) 8 st
theorem addBlk_def (st : Words) (blk : Bytes) : iter (sumStep (iter (vStep (sched blk)) 64 st)) 8 st = addBlk st blk := rfl
theorem addBlk_len (st : Words) (blk : Bytes) : (addBlk st blk).length = st.length := sumIter_len _ _ _
theorem v_shift {v : Words} (hv : v.length = 8) : v.take 1 ++ (v.take 7).take 7 ++ v.drop (1 + 7) = [v.getD 0 0, v.getD 0 0, v.getD 1 0, v.getD 2 0, v.getD 3 0, v.getD 4 0, v.getD 5 0, v.getD 6 0] := by
  match v, hv with
  | [a, b, c, d, e, f, g, h], _ => rfl
def st0 : Words := [1779033703#32, 3144134277#32, 1013904242#32, 2773480762#32, 1359893119#32, 2600822924#32, 528734635#32, 1541459225#32]
/-- n blocks -/
def blocksF (f : Words → Bytes → Words) (st : Words) (xs : Bytes) (n : Nat) : Words := iter (fun i s => f s ((xs.drop (64 * i)).take 64)) n st
section
variable (f : Words → Bytes → Words)
theorem blocksF_succ (st : Words) (xs : Bytes) (n : Nat) : blocksF f st xs (n + 1) = f (blocksF f st xs n) ((xs.drop (64 * n)).take 64) := rfl
theorem blocksF_congr (st : Words) (xs ys : Bytes) : ∀ n, (∀ i, i < n → (xs.drop (64 * i)).take 64 = (ys.drop (64 * i)).take 64) → blocksF f st xs n = blocksF f st ys n
  | 0, _ => rfl
  | n + 1, h => by rw [blocksF_succ, blocksF_succ, blocksF_congr st xs ys n (fun i hi => h i (by omega)), h n (by omega)]
theorem blocksF_add (st : Words) (xs : Bytes) (m : Nat) : ∀ n, blocksF f st xs (m + n) = blocksF f (blocksF f st xs m) (xs.drop (64 * m)) n
  | 0 => rfl
  | n + 1 => by rw [← Nat.add_assoc, blocksF_succ, blocksF_add st xs m n, blocksF_succ, List.drop_drop, Nat.mul_add]
theorem blocksF_app (st : Words) (xs ys : Bytes) (n : Nat) (h : 64 * n ≤ xs.length) : blocksF f st (xs ++ ys) n = blocksF f st xs n :=
  blocksF_congr f st _ _ n fun i hi => by rw [List.drop_append_of_le_length (by omega), List.take_append_of_le_length (by rw [List.length_drop]; omega)]
end
def blocks (st : Words) (xs : Bytes) (n : Nat) : Words := blocksF addBlk st xs n
theorem blocks_succ (st : Words) (xs : Bytes) (n : Nat) : blocks st xs (n + 1) = addBlk (blocks st xs n) ((xs.drop (64 * n)).take 64) := blocksF_succ _ _ _ _
theorem blocks_zero (st : Words) (xs : Bytes) : blocks st xs 0 = st := rfl
theorem blocks_len (st : Words) (xs : Bytes) (h : st.length = 8) : ∀ n, (blocks st xs n).length = 8
  | 0 => h
  | n + 1 => by rw [blocks_succ, addBlk_len, blocks_len st xs h n]
/-- the state behind bytes -/
def shaSt (xs : Bytes) : Words := blocks st0 xs (xs.length / 64)
def shaRest (xs : Bytes) : Bytes := xs.drop (64 * (xs.length / 64))
theorem shaSt_len (xs : Bytes) : (shaSt xs).length = 8 := blocks_len _ _ rfl _
theorem shaRest_len (xs : Bytes) : (shaRest xs).length = xs.length % 64 := by rw [shaRest, List.length_drop]; omega
theorem rest_app (xs ys : Bytes) : (xs ++ ys).drop (64 * (xs.length / 64)) = shaRest xs ++ ys := by rw [List.drop_append_of_le_length (by omega)]; rfl
theorem shaSt_app (xs ys : Bytes) : shaSt (xs ++ ys) = blocks (shaSt xs) (shaRest xs ++ ys) ((shaRest xs ++ ys).length / 64) := by
  have hl : (xs ++ ys).length / 64 = xs.length / 64 + (shaRest xs ++ ys).length / 64 := by
    rw [List.length_append, List.length_append, shaRest_len]; omega
  rw [shaSt, hl, blocks, blocksF_add, blocksF_app _ _ _ _ _ (by omega), rest_app]; rfl
theorem shaRest_app (xs ys : Bytes) : shaRest (xs ++ ys) = (shaRest xs ++ ys).drop (64 * ((shaRest xs ++ ys).length / 64)) := by
  have hl : (xs ++ ys).length / 64 = xs.length / 64 + (shaRest xs ++ ys).length / 64 := by
    rw [List.length_append, List.length_append, shaRest_len]; omega
  rw [shaRest, hl, Nat.mul_add, ← List.drop_drop, rest_app]
theorem shaRest_nil : shaRest [] = [] := rfl
theorem shaSt_nil : shaSt [] = st0 := rfl
/-! the padding -/
def padN (n : Nat) : Nat := (119 - n % 64) % 64
def padded (xs : Bytes) : Bytes := shaRest xs ++ [128#8] ++ zeros (padN xs.length) ++ be 8 (BitVec.ofNat 64 xs.length * 8#64)
def outStep (s : Words) (i : Nat) (out : Bytes) : Bytes := out.take (4 * i) ++ be 4 ((s.getD i 0).setWidth 64) ++ out.drop (4 * i + 4)
theorem outIter_len (s : Words) : ∀ n, n ≤ 8 → (iter (outStep s) n (zeros 32)).length = 32
  | 0, _ => zeros_len 32
  | n + 1, h => by
    have ih := outIter_len s n (by omega)
    rw [iter_succ, outStep, List.length_append, List.length_append, List.length_take, List.length_drop, be_length, ih]; omega
def shaOut (s : Words) : Bytes := iter (outStep s) 8 (zeros 32)
theorem shaOut_def (s : Words) : iter (outStep s) 8 (zeros 32) = shaOut s := rfl
theorem shaOut_len (s : Words) : (shaOut s).length = 32 := outIter_len s 8 (by omega)
def sha (xs : Bytes) : Bytes := shaOut (blocks (shaSt xs) (padded xs) ((padded xs).length / 64))
theorem sha_def (xs : Bytes) : shaOut (blocks (shaSt xs) (padded xs) ((padded xs).length / 64)) = sha xs := rfl
theorem sha_len (xs : Bytes) : (sha xs).length = 32 := shaOut_len _
theorem padded_len (xs : Bytes) : (padded xs).length % 64 = 0 := by
  simp only [padded, List.length_append, shaRest_len, zeros_len, be_length, List.length_cons, List.length_nil, padN]; omega
/-! ### hmac, kdf -/
def xorC (c : BitVec 8) (xs : Bytes) : Bytes := xs.map (· ^^^ c)
theorem xorC_len (c : BitVec 8) (xs : Bytes) : (xorC c xs).length = xs.length := by simp [xorC]
def macKey (key : Bytes) : Bytes := padTo 64 (if 64 < key.length then sha key else key)
def hmac (key data : Bytes) : Bytes := sha (xorC 92#8 (macKey key) ++ sha (xorC 54#8 (macKey key) ++ data))
theorem hmac_len (key data : Bytes) : (hmac key data).length = 32 := sha_len _
theorem macKey_len (key : Bytes) : (macKey key).length = 64 := by
  rw [macKey, padTo_len]
  split
  · rw [sha_len]; omega
  · omega
def ours : Bytes := [114#8, 101#8, 108#8, 105#8, 113#8, 117#8, 97#8, 114#8, 121#8, 32#8]
def label (key name : Bytes) : Bytes := hmac key (ours ++ name)
theorem label_len (key name : Bytes) : (label key name).length = 32 := hmac_len _ _
theorem macKey_le (key : Bytes) (h : key.length ≤ 64) : macKey key = padTo 64 key := by rw [macKey, if_neg (by omega)]
/-- bytes set one by one -/
theorem iter_set (g : Nat → BitVec 8) : ∀ (n : Nat) (l : Bytes), n ≤ l.length → iter (fun i l => l.set i (g i)) n l = (List.range n).map g ++ l.drop n
  | 0, l, _ => by simp [iter]
  | n + 1, l, h => by
    rw [iter_succ, iter_set g n l (by omega), List.set_append_right _ _ (by simp), List.range_succ, List.map_append]
    simp only [List.length_map, List.length_range, Nat.sub_self, List.map_cons, List.map_nil, List.append_assoc]
    rw [List.drop_eq_getElem_cons (by omega), List.set_cons_zero]; rfl
theorem range_getD (l : Bytes) (c : BitVec 8) : (List.range l.length).map (fun i => l.getD i 0 ^^^ c) = xorC c l := by
  apply List.ext_getElem
  · simp [xorC]
  · intro i h1 h2; simp at h1; simp [xorC, List.getD, h1]
def xorIn (c : BitVec 8) (l₀ : Bytes) (i : Nat) (l : Bytes) : Bytes := l.set i (l₀.getD i 0 ^^^ c)
theorem xorIn_len (c : BitVec 8) (l₀ : Bytes) (n : Nat) (l : Bytes) : (iter (xorIn c l₀) n l).length = l.length := iter_len _ (fun _ _ => by simp [xorIn]) n l
theorem xorIn_all (c : BitVec 8) (l₀ l : Bytes) (n : Nat) (h : l.length = n) (h0 : l₀.length = n) : iter (xorIn c l₀) n l = xorC c l₀ := by
  show iter (fun i l => l.set i (l₀.getD i 0 ^^^ c)) n l = _
  rw [iter_set (fun i => l₀.getD i 0 ^^^ c) n l (by omega), List.drop_of_length_le (by omega), List.append_nil, ← range_getD, h0]
theorem apart_step {p x y : BitVec 8} : (p ||| (x ^^^ y)) = 0#8 ↔ p = 0#8 ∧ x = y := by
  rw [BitVec.or_eq_zero_iff, BitVec.xor_eq_zero_iff]
theorem take_same {xs ys : Bytes} {i : Nat} (h1 : i < xs.length) (h2 : i < ys.length) : xs.take (i + 1) = ys.take (i + 1) ↔ xs.take i = ys.take i ∧ xs.getD i 0 = ys.getD i 0 := by
  rw [List.take_add_one, List.take_add_one]
  simp only [List.getElem?_eq_getElem h1, List.getElem?_eq_getElem h2, Option.toList_some, List.getD, Option.getD_some]
  constructor
  · intro e
    have := List.append_inj e (by simp; omega)
    exact ⟨this.1, by simpa using this.2⟩
  · rintro ⟨x, y⟩; rw [x, y]
/-! ### node -/
def nodeName : Bytes := [110#8, 111#8, 100#8, 101#8]
def pageName : Bytes := [112#8, 97#8, 103#8, 101#8]
def leafName : Bytes := [108#8, 101#8, 97#8, 102#8]
def nodeSum (b : Bytes) : Bytes := sha (nodeName ++ b)
def pageSum (b : Bytes) : Bytes := sha (pageName ++ b)
def leafSum (key : Bytes) (at_ : BitVec 32) (b : Bytes) : Bytes := hmac key (leafName ++ (be 4 (at_.setWidth 64) ++ b))
theorem nodeSum_len (b : Bytes) : (nodeSum b).length = 32 := sha_len _
theorem pageSum_len (b : Bytes) : (pageSum b).length = 32 := sha_len _
/-! ### device -/
/-- bytes laid into a file from a place on -/
def layZ (s : Bytes) (at_ : Nat) (b : Bytes) : Bytes := if b.length = 0 then s else (s ++ zeros (at_ + b.length - s.length)).take at_ ++ b ++ (s ++ zeros (at_ + b.length - s.length)).drop (at_ + b.length)
theorem layZ_nil (s : Bytes) (at_ : Nat) (b : Bytes) (h : b.length = 0) : layZ s at_ b = s := if_pos h
theorem layZ_grow {s : Bytes} {at_ : Nat} {b : Bytes} (h : ¬ b.length = 0) : (s ++ List.replicate (at_ + b.length - s.length) (0 : BitVec 8)).take at_ ++ b ++ (s ++ List.replicate (at_ + b.length - s.length) (0 : BitVec 8)).drop (at_ + b.length) = layZ s at_ b := (if_neg h).symm
theorem layZ_fits {s : Bytes} {at_ : Nat} {b : Bytes} (h : ¬ b.length = 0) (hf : at_ + b.length ≤ s.length) : s.take at_ ++ b ++ s.drop (at_ + b.length) = layZ s at_ b := by
  rw [layZ, if_neg h, show at_ + b.length - s.length = 0 by omega]; simp [zeros]
theorem layZ_len (s : Bytes) (at_ : Nat) (b : Bytes) (h : ¬ b.length = 0) : (layZ s at_ b).length = max s.length (at_ + b.length) := by
  rw [layZ, if_neg h]; simp only [List.length_append, List.length_take, List.length_drop, zeros_len]; omega
theorem layZ_len_ge (s : Bytes) (at_ : Nat) (b : Bytes) : s.length ≤ (layZ s at_ b).length ∧ (layZ s at_ b).length ≤ s.length + (at_ + b.length) := by
  by_cases h : b.length = 0
  · rw [layZ_nil _ _ _ h]; omega
  · rw [layZ_len _ _ _ h]; omega
theorem layZ_in (s : Bytes) (at_ : Nat) (b : Bytes) (h : at_ ≤ s.length) : layZ s at_ b = s.take at_ ++ b ++ s.drop (at_ + b.length) := by
  by_cases hb : b.length = 0
  · have : b = [] := List.eq_nil_of_length_eq_zero hb
    subst this; rw [layZ_nil _ _ _ hb]; simp
  · rw [layZ, if_neg hb, List.take_append_of_le_length h]
    by_cases hf : at_ + b.length ≤ s.length
    · rw [List.drop_append_of_le_length hf]
      have : at_ + b.length - s.length = 0 := by omega
      rw [this]; simp [zeros]
    · rw [List.drop_of_length_le (l := s) (by omega), List.drop_of_length_le (by simp only [List.length_append, zeros_len]; omega)]
def wrErr (most len at_ n : Nat) : Nat := if at_ > len then 43 else if n + at_ > most then 21 else 0
def rdErr (len at_ n : Nat) : Nat := if at_ + n ≤ len then 0 else 43
/-! ### super -/
def magicB : Bytes := [82#8, 69#8, 76#8, 73#8, 81#8, 85#8, 65#8, 82#8, 89#8]
def superB (c p : Nat) : Bytes := padTo 512 (magicB ++ ([1#8] ++ (be 2 ((BitVec.ofNat 16 c).setWidth 64) ++ [BitVec.ofNat 8 p])))
theorem superB_pre (c p : Nat) : (magicB ++ ([1#8] ++ (be 2 ((BitVec.ofNat 16 c).setWidth 64) ++ [BitVec.ofNat 8 p]))).length = 13 := by
  simp only [List.length_append, be_length]; rfl
theorem superB_len (c p : Nat) : (superB c p).length = 512 := padTo_len 512 _ (by rw [superB_pre]; omega)
theorem superB_def (c p : Nat) : padTo 512 (magicB ++ ([1#8] ++ (be 2 ((BitVec.ofNat 16 c).setWidth 64) ++ [BitVec.ofNat 8 p]))) = superB c p := rfl
def superSum (c p : Nat) : Bytes := sha (superB c p)
theorem superSum_len (c p : Nat) : (superSum c p).length = 32 := sha_len _
theorem leafSum_len (key : Bytes) (at_ : BitVec 32) (b : Bytes) : (leafSum key at_ b).length = 32 := hmac_len _ _
end Go.Proofs.YtjdfenlmifhhdaaDoor
