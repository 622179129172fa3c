/-
  A space of clusters of one sector: what is laid, what is read, as equations. Condition: the place is on the device.
-/
import Derived.Test.YtjdfenlmifhhdaaDoorPure3
import Derived.Test.YtjdfenlmifhhdaaDoorInv
import Derived.Test.YtjdfenlmifhhdaaDoorFacts
namespace Go.Proofs.YtjdfenlmifhhdaaDoor
theorem over_all (f : Bytes → Bytes) (hf : ∀ x : Bytes, x.length = 16 → (f x).length = 16) (keys : Bytes) (sector : BitVec 64) (data : Bytes) {N : Nat} (hn : data.length = 512 * N) : (over f keys sector data).length = data.length := by
  rw [over, over_sects, hn, Nat.mul_div_cancel_left _ (by decide), sects_len f hf _ _ _ _ (by omega)]
section
attribute [local irreducible] over encrypt decrypt leafSum nodeSum pageSum schedule label
theorem layZ_same (s : Bytes) (a : Nat) (b : Bytes) (h : a ≤ s.length) : ((layZ s a b).drop a).take b.length = b := by
  have h1 : (s.take a).length = a := by rw [List.length_take]; omega
  rw [layZ_in _ _ _ h, List.append_assoc, List.drop_append, h1, List.drop_of_length_le (l := s.take a) (by omega), Nat.sub_self, List.nil_append, List.drop_zero, List.take_left]
theorem layZ_else (s : Bytes) (a : Nat) (b : Bytes) (h : a + b.length ≤ s.length) (o k : Nat) (ho : o + k ≤ a ∨ a + b.length ≤ o) : ((layZ s a b).drop o).take k = (s.drop o).take k := by
  have h1 : (s.take a).length = a := by rw [List.length_take]; omega
  rw [layZ_in _ _ _ (by omega)]
  rcases ho with ho | ho
  · rw [List.append_assoc, List.drop_append_of_le_length (by omega), List.take_append_of_le_length (by rw [List.length_drop]; omega), List.drop_take, List.take_take, Nat.min_eq_left (by omega)]
  · rw [List.drop_append, List.length_append, h1, List.drop_of_length_le (by rw [List.length_append]; omega), List.nil_append, List.drop_drop]
    congr 2; omega
theorem layZ_len1 (s : Bytes) (a : Nat) (b : Bytes) (h : a + b.length ≤ s.length) : (layZ s a b).length = s.length := by
  rw [layZ_in _ _ _ (by omega)]; simp only [List.length_append, List.length_take, List.length_drop]; omega
/-- a cluster's bytes -/
def clu (s : Bytes) (n : Nat) : Bytes := (s.drop (4096 + 512 * n)).take 512
theorem clu_len (s : Bytes) (n : Nat) (h : 4096 + 512 * n + 512 ≤ s.length) : (clu s n).length = 512 := by rw [clu, List.length_take, List.length_drop]; omega
theorem clu_lay (s : Bytes) (n : Nat) (b : Bytes) (hb : b.length = 512) (h : 4096 + 512 * n ≤ s.length) : clu (layZ s (4096 + 512 * n) b) n = b := by
  have := layZ_same s (4096 + 512 * n) b h
  rw [hb] at this; exact this
theorem clu_other (s : Bytes) (n m : Nat) (b : Bytes) (hb : b.length = 512) (h : 4096 + 512 * n + 512 ≤ s.length) (hm : m ≠ n) : clu (layZ s (4096 + 512 * n) b) m = clu s m :=
  layZ_else s _ b (by omega) _ _ (by rw [hb]; omega)
theorem place1 (n : Nat) : place 1 n = 4096 + 512 * n := by unfold place; omega
theorem padTo_all (n : Nat) (b : Bytes) (h : b.length = n) : padTo n b = b := by unfold padTo; rw [h, Nat.sub_self]; simp [zeros]
theorem put1 (most : Nat) (seen : Bytes) (n : Nat) (xs : Bytes) (hn : n ≤ 65535) (hx : xs.length ≤ 512) (hl : 4096 + 512 * n + 512 ≤ seen.length) (hm : seen.length ≤ most) : spPut most seen 1 n xs = (0, layZ seen (4096 + 512 * n) (padTo 512 xs)) := by
  unfold spPut
  rw [place1, if_neg (by omega), if_neg (by omega), if_neg (by omega), if_neg (by omega)]
theorem ref1 (φ : Bytes → Bytes) (n : BitVec 32) (xs : Bytes) : spRef 0 1 φ n xs = ⟨n + 1#32, φ (padTo 512 xs)⟩ := rfl
theorem enc_len (gk x : Bytes) (h : x.length = 16) : (encrypt gk x).length = 16 := encrypt_len gk x h
theorem dec_len (gk x : Bytes) (h : x.length = 16) : (decrypt gk x).length = 16 := decrypt_len gk x h
theorem putD1 (most : Nat) (seen : Bytes) (n : Nat) (gk keys xs : Bytes) (hn : n ≤ 65535) (hx : xs.length = 512) (hl : 4096 + 512 * n + 512 ≤ seen.length) (hm : seen.length ≤ most) :
    spPutD most seen 1 n gk keys xs = (0, layZ seen (4096 + 512 * n) (over (encrypt gk) keys (BitVec.ofNat 64 (8 + n * 1)) xs)) := by
  have ho := over_all (encrypt gk) (enc_len gk) keys (BitVec.ofNat 64 (8 + n * 1)) xs (N := 1) (by omega)
  unfold spPutD
  rw [if_neg (by omega), put1 _ _ _ _ hn (by omega) hl hm, padTo_all _ _ (by omega)]
theorem at1 (n : BitVec 32) (hn : n.toNat ≤ 65535) : (n + 1#32).toNat = n.toNat + 1 := by rw [BitVec.toNat_add]; simp; omega
theorem get1 (seen : Bytes) (φ : Bytes → Bytes) (n : BitVec 32) (sum : Bytes) (hn : n.toNat ≤ 65535) : spGet seen 1 φ ⟨n + 1#32, sum⟩ =
    if 4096 + 512 * n.toNat + 512 ≤ seen.length then if φ (clu seen n.toNat) = sum then (0, clu seen n.toNat) else (40, []) else (40, []) := by
  have h1 := at1 n hn
  have h0 : ¬ (n + 1#32 = 0#32 ∨ 65536 < (n + 1#32).toNat) := by
    rintro (e | e)
    · rw [e] at h1; simp at h1
    · omega
  unfold spGet
  simp only [h1, place1, Nat.add_sub_cancel, Nat.mul_one]
  rw [if_neg (by rw [← h1]; exact h0)]
  rfl
theorem getD1 (seen : Bytes) (tag gk keys : Bytes) (n : BitVec 32) (c : Bytes) (hn : n.toNat ≤ 65535) (hl : 4096 + 512 * n.toNat + 512 ≤ seen.length) (hc : clu seen n.toNat = c) :
    spGetD seen 1 tag gk keys ⟨n + 1#32, leafSum tag (n + 1#32) c⟩ = (0, over (decrypt gk) keys (BitVec.ofNat 64 (8 + n.toNat * 1)) c) := by
  have h := get1 seen (leafSum tag (n + 1#32)) n (leafSum tag (n + 1#32) c) hn
  rw [if_pos hl, hc, if_pos rfl] at h
  unfold spGetD
  simp only [h, at1 n hn, Nat.add_sub_cancel]
  rw [if_pos trivial]
theorem zeros_clu (n k : Nat) (h : 4096 + 512 * k + 512 ≤ n) : clu (zeros n) k = zeros 512 := by
  unfold clu zeros; rw [List.drop_replicate, List.take_replicate]; congr 1; omega
/-! ### awake -/
def awKey : Bytes := 1#8 :: zeros 31
def awC (gk keys : Bytes) : Bytes := over (encrypt gk) keys (BitVec.ofNat 64 (8 + (0#32).toNat * 1)) (zeros 512)
theorem awC_len (gk keys : Bytes) : (awC gk keys).length = 512 := by
  have := over_all (encrypt gk) (enc_len gk) keys (BitVec.ofNat 64 (8 + (0#32).toNat * 1)) (zeros 512) (N := 1) (zeros_len _)
  rw [zeros_len] at this; exact this
def awS (gk keys : Bytes) : Bytes := layZ (zeros 16384) 4096 (awC gk keys)
theorem awS_len (gk keys : Bytes) : (awS gk keys).length = 16384 := by
  rw [awS, layZ_len1 _ _ _ (by rw [awC_len, zeros_len]; omega), zeros_len]
theorem aw_put (gk keys : Bytes) : spPutD 32768 (zeros 16384) 1 (0#32).toNat gk keys (zeros 512) = (0, awS gk keys) :=
  putD1 32768 (zeros 16384) (0#32).toNat gk keys (zeros 512) (by decide) (zeros_len _) (by rw [zeros_len]; decide) (by rw [zeros_len]; decide)
theorem aw_ref (gk keys tag : Bytes) : spRef 0 1 (leafSum tag (0#32 + 1#32)) 0#32 (over (encrypt gk) keys (BitVec.ofNat 64 (8 + (0#32).toNat * 1)) (zeros 512)) = ⟨1#32, leafSum tag 1#32 (awC gk keys)⟩ := by
  show spRef 0 1 (leafSum tag (0#32 + 1#32)) 0#32 (awC gk keys) = _
  rw [ref1, padTo_all _ _ (awC_len _ _)]; rfl
theorem aw_data (gk keys tag : Bytes) : spGetD (awS gk keys) 1 tag gk keys ⟨1#32, leafSum tag 1#32 (awC gk keys)⟩ = (0, zeros 512) := by
  have h := getD1 (awS gk keys) tag gk keys 0#32 (awC gk keys) (by decide) (by rw [awS_len]; decide) (clu_lay _ 0 _ (awC_len _ _) (by rw [zeros_len]; decide))
  refine h.trans ?_
  rw [awC, open_seal gk keys _ (zeros 512) (N := 1) (zeros_len _)]
theorem aw_other (gk keys : Bytes) (tag : Bytes) (ht : tag = label awKey nameTag) : spGetD (awS gk keys) 1 tag gk keys ⟨2#32, zeros 32⟩ = (40, []) := by
  have h := get1 (awS gk keys) (leafSum tag 2#32) 1#32 (zeros 32) (by decide)
  have hc : clu (awS gk keys) 1 = zeros 512 := by
    rw [awS, show (4096 : Nat) = 4096 + 512 * 0 from rfl, clu_other _ 0 1 _ (awC_len _ _) (by rw [zeros_len]; decide) (by decide), zeros_clu _ _ (by decide)]
  rw [if_pos (by rw [awS_len]; decide), show (1#32).toNat = 1 from rfl, hc, ht, if_neg (show ¬ leafSum (label awKey nameTag) 2#32 (zeros 512) = zeros 32 from leaf_ne)] at h
  subst ht
  unfold spGetD
  rw [show (⟨2#32, zeros 32⟩ : Rf).at_ = 2#32 from rfl, show (⟨1#32 + 1#32, zeros 32⟩ : Rf) = ⟨2#32, zeros 32⟩ from rfl] at *
  rw [h]; rfl
/-! ### apart -/
def fillStep (i : Nat) (l : Bytes) : Bytes := l.set i (BitVec.ofNat 8 (i % 251))
theorem fill_len (n : Nat) (l : Bytes) : (iter fillStep n l).length = l.length := iter_len _ (fun _ _ => by simp [fillStep]) n l
theorem fill_succ (i : Nat) (l : Bytes) : (iter fillStep i l).set i (BitVec.ofNat 8 (i % 251)) = iter fillStep (i + 1) l := rfl
/-- alike but in the bytes of cluster k -/
def Apart (s t : Bytes) (k : Nat) : Prop := s.length = t.length ∧ ∀ i, (i < 4096 + 512 * k ∨ 4608 + 512 * k ≤ i) → s.getD i 0 = t.getD i 0
theorem Apart.refl (s : Bytes) (k : Nat) : Apart s s k := ⟨rfl, fun _ _ => rfl⟩
theorem Apart.lay {s t : Bytes} {k : Nat} (h : Apart s t k) (b : Bytes) (hb : b.length = 512) (hl : 4096 + 512 * k + 512 ≤ s.length) : Apart (layZ s (4096 + 512 * k) b) t k := by
  refine ⟨by rw [layZ_len1 _ _ _ (by omega), h.1], fun i hi => ?_⟩
  rw [← h.2 i hi]
  have h1 := layZ_else s (4096 + 512 * k) b (by omega) i 1 (by omega)
  have key : ∀ l : Bytes, l.getD i 0 = ((l.drop i).take 1).getD 0 0 := fun l => by
    simp only [List.getD, List.getElem?_take, List.getElem?_drop, Nat.add_zero]; rfl
  rw [key, h1, ← key]
theorem padTo_512 (b : Bytes) (h : b.length ≤ 512) : (padTo 512 b).length = 512 := by rw [padTo_len _ _ h]
theorem pad_eq (b : Bytes) : b ++ zeros (512 - b.length) = padTo 512 b := rfl
theorem ndput_len : (putNode ndZ).length = 288 := putNode_len ndZ ndZ_sums
theorem own_pos {T : TypeId} {s : Value} {xs : Bytes} {Ls : List (Nat × Obj)} (h : OwnB T s xs Ls) (hp : 0 < xs.length) : ∃ g c junk, s = .slice (some ⟨g, 0, none⟩) xs.length c ∧ xs.length ≤ c ∧ Ls = [(g, vs T (xs.map B ++ junk))] := by
  rcases h with ⟨A, rfl, h0, _⟩ | ⟨g, c, junk, rfl, h1, h2, h3, rfl⟩
  · omega
  · exact ⟨g, c, junk, rfl, h3, rfl⟩
end
end Go.Proofs.YtjdfenlmifhhdaaDoor
