/-
  The program's functions as functions on lists of bit vectors: no Go, no memory. (What each loop does is an 'iter'.) Condition: none.
-/
namespace Go.Proofs.YtjdfenlmifhhdaaDoor

/-- n rounds: round i is f i. -/
def iter {α : Type} (f : Nat → α → α) : Nat → α → α
  | 0, s => s
  | n + 1, s => f n (iter f n s)
theorem iter_succ {α : Type} (f : Nat → α → α) (n : Nat) (s : α) : iter f (n + 1) s = f n (iter f n s) := rfl
theorem iter_len {α : Type} (f : Nat → List α → List α) (h : ∀ n l, (f n l).length = l.length) : ∀ n l, (iter f n l).length = l.length
  | 0, _ => rfl
  | n + 1, l => by rw [iter_succ, h, iter_len f h n]

abbrev Bytes := List (BitVec 8)
def zeros (n : Nat) : Bytes := List.replicate n 0

/-! ### field, aes -/
def double (x : BitVec 8) : BitVec 8 := if x &&& 128#8 ≠ 0#8 then (x <<< 1) ^^^ 27#8 else x <<< 1
def mulStep (_ : Nat) (s : BitVec 8 × BitVec 8 × BitVec 8) : BitVec 8 × BitVec 8 × BitVec 8 :=
  (double s.1, s.2.1 >>> 1, if s.2.1 &&& 1#8 ≠ 0#8 then s.2.2 ^^^ s.1 else s.2.2)
def mul (a b : BitVec 8) : BitVec 8 := (iter mulStep 8 (a, b, 0#8)).2.2
def twStep (i : Nat) (s : Bytes × BitVec 8) : Bytes × BitVec 8 := (s.1.set i ((s.1.getD i 0 <<< 1) ||| s.2), s.1.getD i 0 >>> 7)
def twLoop (t : Bytes) (n : Nat) : Bytes × BitVec 8 := iter twStep n (t, 0#8)
def twice (t : Bytes) : Bytes := if (twLoop t 16).2 ≠ 0#8 then (twLoop t 16).1.set 0 ((twLoop t 16).1.getD 0 0 ^^^ 135#8) else (twLoop t 16).1
theorem twLoop_succ (t : Bytes) (i : Nat) : twLoop t (i + 1) = ((twLoop t i).1.set i (((twLoop t i).1.getD i 0 <<< 1) ||| (twLoop t i).2), (twLoop t i).1.getD i 0 >>> 7) := rfl
theorem twLoop_len (t : Bytes) : ∀ n, (twLoop t n).1.length = t.length
  | 0 => rfl
  | n + 1 => by show (((twLoop t n).1.set n _)).length = _; rw [List.length_set, twLoop_len t n]
theorem twice_len (t : Bytes) : (twice t).length = t.length := by unfold twice; split <;> simp [twLoop_len]
def xorStep (b : Bytes) (i : Nat) (l : Bytes) : Bytes := l.set i (l.getD i 0 ^^^ b.getD i 0)
def xorL (a b : Bytes) (n : Nat) : Bytes := iter (xorStep b) n a
theorem xorL_len (a b : Bytes) (n : Nat) : (xorL a b n).length = a.length := iter_len _ (fun _ _ => by simp [xorStep]) n a
def xor16 (a b : Bytes) : Bytes := xorL a b 16
theorem xor16_len (a b : Bytes) : (xor16 a b).length = a.length := xorL_len a b 16
def boxL : Bytes := [99#8, 124#8, 119#8, 123#8, 242#8, 107#8, 111#8, 197#8, 48#8, 1#8, 103#8, 43#8, 254#8, 215#8, 171#8, 118#8, 202#8, 130#8, 201#8, 125#8, 250#8, 89#8, 71#8, 240#8, 173#8, 212#8, 162#8, 175#8, 156#8, 164#8, 114#8, 192#8, 183#8, 253#8, 147#8, 38#8, 54#8, 63#8, 247#8, 204#8, 52#8, 165#8, 229#8, 241#8, 113#8, 216#8, 49#8, 21#8, 4#8, 199#8, 35#8, 195#8, 24#8, 150#8, 5#8, 154#8, 7#8, 18#8, 128#8, 226#8, 235#8, 39#8, 178#8, 117#8, 9#8, 131#8, 44#8, 26#8, 27#8, 110#8, 90#8, 160#8, 82#8, 59#8, 214#8, 179#8, 41#8, 227#8, 47#8, 132#8, 83#8, 209#8, 0#8, 237#8, 32#8, 252#8, 177#8, 91#8, 106#8, 203#8, 190#8, 57#8, 74#8, 76#8, 88#8, 207#8, 208#8, 239#8, 170#8, 251#8, 67#8, 77#8, 51#8, 133#8, 69#8, 249#8, 2#8, 127#8, 80#8, 60#8, 159#8, 168#8, 81#8, 163#8, 64#8, 143#8, 146#8, 157#8, 56#8, 245#8, 188#8, 182#8, 218#8, 33#8, 16#8, 255#8, 243#8, 210#8, 205#8, 12#8, 19#8, 236#8, 95#8, 151#8, 68#8, 23#8, 196#8, 167#8, 126#8, 61#8, 100#8, 93#8, 25#8, 115#8, 96#8, 129#8, 79#8, 220#8, 34#8, 42#8, 144#8, 136#8, 70#8, 238#8, 184#8, 20#8, 222#8, 94#8, 11#8, 219#8, 224#8, 50#8, 58#8, 10#8, 73#8, 6#8, 36#8, 92#8, 194#8, 211#8, 172#8, 98#8, 145#8, 149#8, 228#8, 121#8, 231#8, 200#8, 55#8, 109#8, 141#8, 213#8, 78#8, 169#8, 108#8, 86#8, 244#8, 234#8, 101#8, 122#8, 174#8, 8#8, 186#8, 120#8, 37#8, 46#8, 28#8, 166#8, 180#8, 198#8, 232#8, 221#8, 116#8, 31#8, 75#8, 189#8, 139#8, 138#8, 112#8, 62#8, 181#8, 102#8, 72#8, 3#8, 246#8, 14#8, 97#8, 53#8, 87#8, 185#8, 134#8, 193#8, 29#8, 158#8, 225#8, 248#8, 152#8, 17#8, 105#8, 217#8, 142#8, 148#8, 155#8, 30#8, 135#8, 233#8, 206#8, 85#8, 40#8, 223#8, 140#8, 161#8, 137#8, 13#8, 191#8, 230#8, 66#8, 104#8, 65#8, 153#8, 45#8, 15#8, 176#8, 84#8, 187#8, 22#8]
def unboxL : Bytes := [82#8, 9#8, 106#8, 213#8, 48#8, 54#8, 165#8, 56#8, 191#8, 64#8, 163#8, 158#8, 129#8, 243#8, 215#8, 251#8, 124#8, 227#8, 57#8, 130#8, 155#8, 47#8, 255#8, 135#8, 52#8, 142#8, 67#8, 68#8, 196#8, 222#8, 233#8, 203#8, 84#8, 123#8, 148#8, 50#8, 166#8, 194#8, 35#8, 61#8, 238#8, 76#8, 149#8, 11#8, 66#8, 250#8, 195#8, 78#8, 8#8, 46#8, 161#8, 102#8, 40#8, 217#8, 36#8, 178#8, 118#8, 91#8, 162#8, 73#8, 109#8, 139#8, 209#8, 37#8, 114#8, 248#8, 246#8, 100#8, 134#8, 104#8, 152#8, 22#8, 212#8, 164#8, 92#8, 204#8, 93#8, 101#8, 182#8, 146#8, 108#8, 112#8, 72#8, 80#8, 253#8, 237#8, 185#8, 218#8, 94#8, 21#8, 70#8, 87#8, 167#8, 141#8, 157#8, 132#8, 144#8, 216#8, 171#8, 0#8, 140#8, 188#8, 211#8, 10#8, 247#8, 228#8, 88#8, 5#8, 184#8, 179#8, 69#8, 6#8, 208#8, 44#8, 30#8, 143#8, 202#8, 63#8, 15#8, 2#8, 193#8, 175#8, 189#8, 3#8, 1#8, 19#8, 138#8, 107#8, 58#8, 145#8, 17#8, 65#8, 79#8, 103#8, 220#8, 234#8, 151#8, 242#8, 207#8, 206#8, 240#8, 180#8, 230#8, 115#8, 150#8, 172#8, 116#8, 34#8, 231#8, 173#8, 53#8, 133#8, 226#8, 249#8, 55#8, 232#8, 28#8, 117#8, 223#8, 110#8, 71#8, 241#8, 26#8, 113#8, 29#8, 41#8, 197#8, 137#8, 111#8, 183#8, 98#8, 14#8, 170#8, 24#8, 190#8, 27#8, 252#8, 86#8, 62#8, 75#8, 198#8, 210#8, 121#8, 32#8, 154#8, 219#8, 192#8, 254#8, 120#8, 205#8, 90#8, 244#8, 31#8, 221#8, 168#8, 51#8, 136#8, 7#8, 199#8, 49#8, 177#8, 18#8, 16#8, 89#8, 39#8, 128#8, 236#8, 95#8, 96#8, 81#8, 127#8, 169#8, 25#8, 181#8, 74#8, 13#8, 45#8, 229#8, 122#8, 159#8, 147#8, 201#8, 156#8, 239#8, 160#8, 224#8, 59#8, 77#8, 174#8, 42#8, 245#8, 176#8, 200#8, 235#8, 187#8, 60#8, 131#8, 83#8, 153#8, 97#8, 23#8, 43#8, 4#8, 126#8, 186#8, 119#8, 214#8, 38#8, 225#8, 105#8, 20#8, 99#8, 85#8, 33#8, 12#8, 125#8]
def sb (x : BitVec 8) : BitVec 8 := boxL.getD x.toNat 0
def unsb (x : BitVec 8) : BitVec 8 := unboxL.getD x.toNat 0
theorem boxL_len : boxL.length = 256 := by decide +kernel
theorem unboxL_len : unboxL.length = 256 := by decide +kernel
def mixIn (c : Nat) (all : BitVec 8) (r : Nat) (s : Bytes) : Bytes := s.set (c + r) (s.getD (c + r) 0 ^^^ (all ^^^ double (s.getD (c + r) 0 ^^^ s.getD (c + r + 1) 0)))
def mixAll (s : Bytes) (c : Nat) : BitVec 8 := s.getD c 0 ^^^ s.getD (c + 1) 0 ^^^ s.getD (c + 2) 0 ^^^ s.getD (c + 3) 0
def mixLast (c : Nat) (all first : BitVec 8) (s : Bytes) : Bytes := s.set (c + 3) (s.getD (c + 3) 0 ^^^ (all ^^^ double (s.getD (c + 3) 0 ^^^ first)))
def mixCol (k : Nat) (s : Bytes) : Bytes := mixLast (4 * k) (mixAll s (4 * k)) (s.getD (4 * k) 0) (iter (mixIn (4 * k) (mixAll s (4 * k))) 3 s)
def mixed (s : Bytes) : Bytes := iter mixCol 4 s
theorem mixIn_len (c : Nat) (all : BitVec 8) (s : Bytes) (n : Nat) : (iter (mixIn c all) n s).length = s.length := iter_len _ (fun _ _ => by simp [mixIn]) n s
theorem mixCol_len (k : Nat) (s : Bytes) : (mixCol k s).length = s.length := by simp [mixCol, mixLast, mixIn_len]
theorem mixN_len (s : Bytes) (n : Nat) : (iter mixCol n s).length = s.length := iter_len _ mixCol_len n s
theorem mixed_len (s : Bytes) : (mixed s).length = s.length := mixN_len s 4
def preU (s : Bytes) (c : Nat) : BitVec 8 := double (double (s.getD c 0 ^^^ s.getD (c + 2) 0))
def preV (s : Bytes) (c : Nat) : BitVec 8 := double (double (s.getD (c + 1) 0 ^^^ s.getD (c + 3) 0))
def xorAt (s : Bytes) (i : Nat) (x : BitVec 8) : Bytes := s.set i (s.getD i 0 ^^^ x)
theorem xorAt_len (s : Bytes) (i : Nat) (x : BitVec 8) : (xorAt s i x).length = s.length := by simp [xorAt]
def preCol (k : Nat) (s : Bytes) : Bytes :=
  xorAt (xorAt (xorAt (xorAt s (4 * k) (preU s (4 * k))) (4 * k + 1) (preV s (4 * k))) (4 * k + 2) (preU s (4 * k))) (4 * k + 3) (preV s (4 * k))
theorem preCol_len (k : Nat) (s : Bytes) : (preCol k s).length = s.length := by simp [preCol, xorAt_len]
theorem preN_len (s : Bytes) (n : Nat) : (iter preCol n s).length = s.length := iter_len _ preCol_len n s
def unmixed (s : Bytes) : Bytes := mixed (iter preCol 4 s)
theorem unmixed_len (s : Bytes) : (unmixed s).length = s.length := by rw [unmixed, mixed_len, preN_len]
def turnI (i : Nat) : Nat := (i + 4 * (i % 4)) % 16
def subStep (s : Bytes) (i : Nat) (t : Bytes) : Bytes := t.set i (sb (s.getD (turnI i) 0))
def subShift (s : Bytes) : Bytes := iter (subStep s) 16 (zeros 16)
theorem subN_len (s : Bytes) (n : Nat) (t : Bytes) : (iter (subStep s) n t).length = t.length := iter_len _ (fun _ _ => by simp [subStep]) n t
def unsubStep (s : Bytes) (i : Nat) (t : Bytes) : Bytes := t.set (turnI i) (unsb (s.getD i 0))
def unsubShift (s : Bytes) : Bytes := iter (unsubStep s) 16 (zeros 16)
theorem unsubN_len (s : Bytes) (n : Nat) (t : Bytes) : (iter (unsubStep s) n t).length = t.length := iter_len _ (fun _ _ => by simp [unsubStep]) n t
def rkey (keys : Bytes) (n : Nat) : Bytes := (keys.drop (n * 16)).take 16
theorem rkey_len (keys : Bytes) (n : Nat) (h : keys.length = 240) (hn : n < 15) : (rkey keys n).length = 16 := by simp [rkey, h]; omega
def encRound (keys : Bytes) (i : Nat) (s : Bytes) : Bytes := xor16 (if i + 1 < 14 then mixed (subShift s) else subShift s) (rkey keys (i + 1))
def encrypt (keys b : Bytes) : Bytes := iter (encRound keys) 14 (xor16 b (rkey keys 0))
theorem subShift_def (s : Bytes) : iter (subStep s) 16 (zeros 16) = subShift s := rfl
theorem unsubShift_def (s : Bytes) : iter (unsubStep s) 16 (zeros 16) = unsubShift s := rfl
theorem encrypt_def (keys b : Bytes) : iter (encRound keys) 14 (xor16 b (rkey keys 0)) = encrypt keys b := rfl
theorem zeros_len (n : Nat) : (zeros n).length = n := by simp [zeros]
theorem subShift_len (s : Bytes) : (subShift s).length = 16 := by rw [subShift, subN_len, zeros_len]
theorem unsubShift_len (s : Bytes) : (unsubShift s).length = 16 := by rw [unsubShift, unsubN_len, zeros_len]
theorem encRound_len (keys : Bytes) (i : Nat) (s : Bytes) : (encRound keys i s).length = 16 := by unfold encRound; rw [xor16_len]; split <;> simp [mixed_len, subShift_len]
theorem encN_len (keys b : Bytes) (hb : b.length = 16) (n : Nat) : (iter (encRound keys) n (xor16 b (rkey keys 0))).length = 16 := by
  cases n with
  | zero => simp only [iter]; rw [xor16_len, hb]
  | succ n => rw [iter_succ]; exact encRound_len _ _ _
theorem encrypt_len (keys b : Bytes) (hb : b.length = 16) : (encrypt keys b).length = 16 := encN_len keys b hb 14
def decMid (keys : Bytes) (n : Nat) (s : Bytes) : Bytes := if n < 14 then unmixed (xor16 s (rkey keys n)) else xor16 s (rkey keys n)
/-- round i of fourteen: with the round key 14 - i -/
def decRound (keys : Bytes) (i : Nat) (s : Bytes) : Bytes := unsubShift (decMid keys (14 - i) s)
def decrypt (keys b : Bytes) : Bytes := xor16 (iter (decRound keys) 14 b) (rkey keys 0)
theorem decMid_t (keys s : Bytes) {n : Nat} (h : n < 14) : unmixed (xor16 s (rkey keys n)) = decMid keys n s := (if_pos h).symm
theorem decMid_f (keys s : Bytes) {n : Nat} (h : ¬ n < 14) : xor16 s (rkey keys n) = decMid keys n s := (if_neg h).symm
theorem decMid_len (keys s : Bytes) (n : Nat) : (decMid keys n s).length = s.length := by unfold decMid; split <;> simp [unmixed_len, xor16_len]
theorem decrypt_def (keys b : Bytes) : xor16 (iter (decRound keys) 14 b) (rkey keys 0) = decrypt keys b := rfl
theorem decRound_def (keys : Bytes) (i : Nat) (s : Bytes) : unsubShift (decMid keys (14 - i) s) = decRound keys i s := rfl
theorem decN_len (keys b : Bytes) (hb : b.length = 16) (n : Nat) : (iter (decRound keys) n b).length = 16 := by
  cases n with
  | zero => exact hb
  | succ n => rw [iter_succ]; exact unsubShift_len _
theorem decrypt_len (keys b : Bytes) (hb : b.length = 16) : (decrypt keys b).length = 16 := by rw [decrypt, xor16_len, decN_len keys b hb 14]
/-! #### the round keys: a step of four bytes, at 32 + 4 k -/
def schedW (flat : Bytes) (i : Nat) (round : BitVec 8) : Bytes :=
  let w := (flat.drop (i - 4)).take 4
  if i % 32 = 0 then [sb (w.getD 1 0) ^^^ round, sb (w.getD 2 0), sb (w.getD 3 0), sb (w.getD 0 0)]
  else if i % 32 = 16 then [sb (w.getD 0 0), sb (w.getD 1 0), sb (w.getD 2 0), sb (w.getD 3 0)] else w
def schedIn (i : Nat) (w : Bytes) (k : Nat) (flat : Bytes) : Bytes := flat.set (i + k) (flat.getD (i + k - 32) 0 ^^^ w.getD k 0)
def schedStep (k : Nat) (s : Bytes × BitVec 8) : Bytes × BitVec 8 :=
  (iter (schedIn (32 + 4 * k) (schedW s.1 (32 + 4 * k) s.2)) 4 s.1, if (32 + 4 * k) % 32 = 0 then mul s.2 2#8 else s.2)
def schedLoop (key : Bytes) (n : Nat) : Bytes × BitVec 8 := iter schedStep n (key ++ zeros 208, 1#8)
def schedule (key : Bytes) : Bytes := (schedLoop key 52).1
theorem schedule_def (key : Bytes) : (schedLoop key 52).1 = schedule key := rfl
theorem schedLoop_succ (key : Bytes) (k : Nat) : schedLoop key (k + 1) = (iter (schedIn (32 + 4 * k) (schedW (schedLoop key k).1 (32 + 4 * k) (schedLoop key k).2)) 4 (schedLoop key k).1, if (32 + 4 * k) % 32 = 0 then mul (schedLoop key k).2 2#8 else (schedLoop key k).2) := rfl
theorem schedIn_len (i : Nat) (w : Bytes) (n : Nat) (flat : Bytes) : (iter (schedIn i w) n flat).length = flat.length := iter_len _ (fun _ _ => by simp [schedIn]) n flat
theorem schedLoop_zero (key : Bytes) : schedLoop key 0 = (key ++ zeros 208, 1#8) := rfl
theorem schedLoop_len (key : Bytes) (hk : key.length = 32) : ∀ n, (schedLoop key n).1.length = 240
  | 0 => by show (key ++ zeros 208).length = 240; simp [hk, zeros_len]
  | n + 1 => by show (iter (schedIn _ _) 4 (schedLoop key n).1).length = 240; rw [schedIn_len, schedLoop_len key hk n]
theorem schedule_len (key : Bytes) (hk : key.length = 32) : (schedule key).length = 240 := schedLoop_len key hk 52
theorem schedW_len (flat : Bytes) (i : Nat) (r : BitVec 8) (h : 4 ≤ i) (hi : i ≤ flat.length) : (schedW flat i r).length = 4 := by
  unfold schedW; dsimp only
  split
  · rfl
  · split
    · rfl
    · simp; omega
theorem schedW_0 (flat : Bytes) (i : Nat) (r : BitVec 8) (h : i % 32 = 0) (w : Bytes) (hw : w = (flat.drop (i - 4)).take 4) : [sb (w.getD 1 0) ^^^ r, sb (w.getD 2 0), sb (w.getD 3 0), sb (w.getD 0 0)] = schedW flat i r := by
  subst hw; exact (if_pos h).symm
theorem schedW_16 (flat : Bytes) (i : Nat) (r : BitVec 8) (h : ¬ i % 32 = 0) (h' : i % 32 = 16) (w : Bytes) (hw : w = (flat.drop (i - 4)).take 4) : [sb (w.getD 0 0), sb (w.getD 1 0), sb (w.getD 2 0), sb (w.getD 3 0)] = schedW flat i r := by
  subst hw; unfold schedW; dsimp only; rw [if_neg h, if_pos h']
theorem schedW_n (flat : Bytes) (i : Nat) (r : BitVec 8) (h : ¬ i % 32 = 0) (h' : ¬ i % 32 = 16) (w : Bytes) (hw : w = (flat.drop (i - 4)).take 4) : w = schedW flat i r := by
  subst hw; unfold schedW; dsimp only; rw [if_neg h, if_neg h']
/-- rows copied one by one. -/
theorem rows_step (x : Bytes) (k m q : Nat) (h : q * (m + 1) ≤ x.length) (hk : k = x.length) :
    (x.take (q * m) ++ zeros (k - q * m)).take (q * m) ++ (x.drop (q * m)).take q ++ (x.take (q * m) ++ zeros (k - q * m)).drop (q * m + q) = x.take (q * (m + 1)) ++ zeros (k - q * (m + 1)) := by
  have e : q * (m + 1) = q * m + q := Nat.mul_succ q m
  have h1 : (x.take (q * m)).length = q * m := by rw [List.length_take]; omega
  rw [List.take_append_of_le_length (by omega), List.take_of_length_le (l := x.take (q * m)) (by omega), List.drop_append, h1, List.drop_of_length_le (l := x.take (q * m)) (by omega), List.nil_append, e, List.take_add]
  unfold zeros
  rw [List.drop_replicate]
  congr 2; omega
/-! ### xts -/
def twkStep (i : Nat) (s : Bytes × BitVec 64) : Bytes × BitVec 64 := (s.1.set i (s.2.setWidth 8), s.2 >>> 8)
theorem twk_len (x : BitVec 64) : ∀ n, (iter twkStep n (zeros 16, x)).1.length = 16
  | 0 => rfl
  | n + 1 => by rw [iter_succ, twkStep, List.length_set, twk_len x n]
def xtsFirst (keys : Bytes) (x : BitVec 64) : Bytes := encrypt keys (iter twkStep 8 (zeros 16, x)).1
theorem xtsFirst_len (keys : Bytes) (x : BitVec 64) : (xtsFirst keys x).length = 16 := encrypt_len keys _ (twk_len x 8)
/-- a block of sixteen of a sector: what is put out, and the next tweak -/
def unitStep (f : Bytes → Bytes) (data : Bytes) (i : Nat) (s : Bytes × Bytes) : Bytes × Bytes :=
  (s.1 ++ xor16 (f (xor16 ((data.drop (16 * i)).take 16) s.2)) s.2, twice s.2)
def overStep (f : Bytes → Bytes) (keys : Bytes) (sector : BitVec 64) (data : Bytes) (i : Nat) (out : Bytes) : Bytes :=
  (iter (unitStep f ((data.drop (512 * i)).take 512)) 32 (out, xtsFirst keys (sector + BitVec.ofNat 64 i))).1
def over (f : Bytes → Bytes) (keys : Bytes) (sector : BitVec 64) (data : Bytes) : Bytes := iter (overStep f keys sector data) (data.length / 512) []
attribute [local irreducible] xor16 twice xtsFirst in
theorem unit_len (f : Bytes → Bytes) (hf : ∀ x : Bytes, x.length = 16 → (f x).length = 16) (u : Bytes) (s : Bytes × Bytes) (hs : s.2.length = 16) : ∀ n, 16 * n ≤ u.length → (iter (unitStep f u) n s).2.length = 16 ∧ (iter (unitStep f u) n s).1.length = s.1.length + 16 * n
  | 0, _ => ⟨hs, rfl⟩
  | n + 1, h => by
    obtain ⟨h1, h2⟩ := unit_len f hf u s hs n (by omega)
    have e : ((u.drop (16 * n)).take 16).length = 16 := by rw [List.length_take, List.length_drop]; omega
    rw [iter_succ]
    exact ⟨by rw [unitStep, twice_len, h1], by rw [unitStep, List.length_append, xor16_len, hf _ (by rw [xor16_len, e]), h2]; omega⟩
attribute [local irreducible] xor16 twice xtsFirst in
theorem over_len (f : Bytes → Bytes) (hf : ∀ x : Bytes, x.length = 16 → (f x).length = 16) (keys : Bytes) (sector : BitVec 64) (data : Bytes) : ∀ n, 512 * n ≤ data.length → (iter (overStep f keys sector data) n []).length = 512 * n
  | 0, _ => rfl
  | n + 1, h => by
    have e : ((data.drop (512 * n)).take 512).length = 512 := by rw [List.length_take, List.length_drop]; omega
    rw [iter_succ, overStep, (unit_len f hf _ _ (xtsFirst_len _ _) 32 (by omega)).2, over_len f hf keys sector data n (by omega)]; omega
theorem add_ofNat_succ (x : BitVec 64) (i : Nat) : x + BitVec.ofNat 64 i + 1#64 = x + BitVec.ofNat 64 (i + 1) := by
  rw [BitVec.add_assoc, BitVec.ofNat_add]
/-! ### octet -/
def beStep (k : Nat) (i : Nat) (s : Bytes × BitVec 64) : Bytes × BitVec 64 := (s.1.set (k - 1 - i) (s.2.setWidth 8), s.2 >>> 8)
theorem be_len (k : Nat) (x : BitVec 64) : ∀ n, (iter (beStep k) n (zeros k, x)).1.length = k
  | 0 => zeros_len k
  | n + 1 => by rw [iter_succ, beStep, List.length_set, be_len k x n]
def be (k : Nat) (x : BitVec 64) : Bytes := (iter (beStep k) k (zeros k, x)).1
theorem be_def (k : Nat) (x : BitVec 64) : (iter (beStep k) k (zeros k, x)).1 = be k x := rfl
theorem be_length (k : Nat) (x : BitVec 64) : (be k x).length = k := be_len k x k
def padTo (k : Nat) (xs : Bytes) : Bytes := xs ++ zeros (k - xs.length)
theorem padTo_def (k : Nat) (xs : Bytes) : xs ++ List.replicate (k - xs.length) (0 : BitVec 8) = padTo k xs := rfl
theorem padTo_len (k : Nat) (xs : Bytes) (h : xs.length ≤ k) : (padTo k xs).length = k := by rw [padTo, List.length_append, zeros_len]; omega
def isNought (xs : Bytes) : Bool := xs.all (· == 0#8)
theorem isNought_t {xs : Bytes} (h : ∀ j, j < xs.length → xs.getD j 0 = 0#8) : isNought xs = true := by
  rw [isNought, List.all_eq_true]
  intro x hx
  obtain ⟨j, hj, rfl⟩ := List.mem_iff_getElem.1 hx
  have := h j hj
  simpa [List.getD, hj] using this
theorem isNought_f {xs : Bytes} {j : Nat} (hj : j < xs.length) (h : xs.getD j 0 ≠ 0#8) : isNought xs = false := by
  rw [isNought, List.all_eq_false]
  refine ⟨xs[j], List.getElem_mem hj, ?_⟩
  simpa [List.getD, hj] using h
/-! #### the reader: what is left, and its error -/
def rdNext (n : Nat) (s : Bytes × Nat) : Bytes × (Bytes × Nat) := if s.2 ≠ 0 then ([], s) else if s.1.length < n then ([], ([], 3)) else (s.1.take n, (s.1.drop n, 0))
theorem rdNext_e {n : Nat} {xs : Bytes} {e : Nat} (h : e ≠ 0) : rdNext n (xs, e) = ([], (xs, e)) := if_pos h
theorem rdNext_s {n : Nat} {xs : Bytes} (h : xs.length < n) : rdNext n (xs, 0) = ([], ([], 3)) := by unfold rdNext; rw [if_neg (by simp), if_pos h]
theorem rdNext_n {n : Nat} {xs : Bytes} (h : ¬ xs.length < n) : rdNext n (xs, 0) = (xs.take n, (xs.drop n, 0)) := by unfold rdNext; rw [if_neg (by simp), if_neg h]
def beNum (xs : Bytes) : BitVec 64 := xs.foldl (fun a b => (a <<< 8) ||| b.setWidth 64) 0
theorem beNum_succ {xs : Bytes} {i : Nat} (h : i < xs.length) : beNum (xs.take (i + 1)) = (beNum (xs.take i) <<< 8) ||| (xs.getD i 0).setWidth 64 := by
  have e : xs.take (i + 1) = xs.take i ++ [xs.getD i 0] := by rw [List.take_add_one]; simp [List.getD, h]
  rw [e, beNum, List.foldl_append]; rfl
theorem rdNext_len (n : Nat) (s : Bytes × Nat) : (rdNext n s).1.length ≤ n := by
  unfold rdNext
  split
  · exact Nat.zero_le _
  · split
    · exact Nat.zero_le _
    · rw [List.length_take]; exact Nat.min_le_left _ _
theorem rdNext_left (n : Nat) (s : Bytes × Nat) : (rdNext n s).2.1.length ≤ s.1.length := by
  unfold rdNext
  split
  · exact Nat.le_refl _
  · split
    · exact Nat.zero_le _
    · rw [List.length_drop]; exact Nat.sub_le _ _
end Go.Proofs.YtjdfenlmifhhdaaDoor
