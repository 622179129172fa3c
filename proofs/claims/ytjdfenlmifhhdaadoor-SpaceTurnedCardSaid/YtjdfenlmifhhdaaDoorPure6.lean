/-
  A cluster in which bytes were turned, or which was cut off: refused, or its sum is the very same. Condition: none.
-/
import Derived.Test.YtjdfenlmifhhdaaDoorPure5
namespace Go.Proofs.YtjdfenlmifhhdaaDoor
def nd1 : List Rf := ndZ.set 0 ⟨1#32, awKey⟩
theorem nd1_sums : sums nd1 := sums_set ndZ_sums rfl
theorem nd1_8 : nd1.length = 8 := rfl
theorem nd1_len : (putNode nd1).length = 288 := putNode_len nd1 nd1_sums
theorem clu_cut (s : Bytes) (k a b : Nat) (ha : a = 4096 + 512 * k) (hb : b = 4608 + 512 * k) : (s.take b).drop a = clu s k := by
  subst ha; subst hb
  rw [List.drop_take, clu]; congr 1; omega
theorem lay_one (l : Bytes) (k : Nat) (x : BitVec 8) (hk : k < l.length) : layZ l k (((l.set k x).take (k + 1)).drop k) = l.set k x := by
  have h1 : ((l.set k x).take (k + 1)).drop k = [x] := by
    rw [List.take_add_one, List.getElem?_set_self hk, List.drop_append, List.length_take, List.length_set, Nat.min_eq_left (by omega), List.drop_of_length_le (by rw [List.length_take]; omega), Nat.sub_self]; rfl
  rw [h1, layZ_in _ _ _ (by omega), List.set_eq_take_append_cons_drop, if_pos hk, List.append_assoc]; rfl
section
attribute [local irreducible] over encrypt decrypt leafSum nodeSum pageSum schedule label putNode getOk isNought
theorem turn_get (seen : Bytes) (φ : Bytes → Bytes) (n : BitVec 32) (sum : Bytes) (hn : n.toNat ≤ 65535) : (spGet seen 1 φ ⟨n + 1#32, sum⟩).1 = 40 ∨ ((spGet seen 1 φ ⟨n + 1#32, sum⟩).1 = 0 ∧ φ (clu seen n.toNat) = sum) := by
  rw [get1 seen φ n sum hn]
  split
  · split
    · exact Or.inr ⟨rfl, by assumption⟩
    · exact Or.inl rfl
  · exact Or.inl rfl
theorem cut_get (seen : Bytes) (φ : Bytes → Bytes) (n : BitVec 32) (sum : Bytes) (hn : n.toNat ≤ 65535) (hl : seen.length < 4096 + 512 * n.toNat + 512) : spGet seen 1 φ ⟨n + 1#32, sum⟩ = (40, []) := by
  rw [get1 seen φ n sum hn, if_neg (by omega)]
theorem turn_data (seen tag gk keys : Bytes) (n : BitVec 32) (sum : Bytes) (hn : n.toNat ≤ 65535) : (spGetD seen 1 tag gk keys ⟨n + 1#32, sum⟩).1 = 40 ∨ ((spGetD seen 1 tag gk keys ⟨n + 1#32, sum⟩).1 = 0 ∧ leafSum tag (n + 1#32) (clu seen n.toNat) = sum) := by
  have h := turn_get seen (leafSum tag (n + 1#32)) n sum hn
  unfold spGetD
  simp only
  rcases h with h | ⟨h, h2⟩
  · rw [h]; exact Or.inl rfl
  · rw [h]; exact Or.inr ⟨rfl, h2⟩
theorem cut_data (seen tag gk keys : Bytes) (n : BitVec 32) (sum : Bytes) (hn : n.toNat ≤ 65535) (hl : seen.length < 4096 + 512 * n.toNat + 512) : spGetD seen 1 tag gk keys ⟨n + 1#32, sum⟩ = (40, []) := by
  unfold spGetD
  simp only [cut_get seen (leafSum tag (n + 1#32)) n sum hn hl]
  rfl
theorem turn_node (seen : Bytes) (n : BitVec 32) (sum : Bytes) (hn : n.toNat ≤ 65535) : ((spGetN seen 1 ⟨n + 1#32, sum⟩).1 = 40 ∨ ((spGetN seen 1 ⟨n + 1#32, sum⟩).1 = 0 ∧ nodeSum (clu seen n.toNat) = sum)) ∧ sums (spGetN seen 1 ⟨n + 1#32, sum⟩).2 ∧ (spGetN seen 1 ⟨n + 1#32, sum⟩).2.length = 8 := by
  have h := get1 seen nodeSum n sum hn
  unfold spGetN
  by_cases h1 : 4096 + 512 * n.toNat + 512 ≤ seen.length
  · by_cases h2 : nodeSum (clu seen n.toNat) = sum
    · rw [if_pos h1, if_pos h2] at h
      simp only [h]
      rw [if_pos trivial]
      have hl : ((clu seen n.toNat).take 288).length = 288 := by rw [List.length_take, clu_len _ _ h1]; rfl
      by_cases h3 : getOk ((clu seen n.toNat).take 288) ∧ isNought ((clu seen n.toNat).drop 288) = true
      · rw [if_pos h3]
        exact ⟨Or.inr ⟨rfl, h2⟩, getN_sums _ hl 8 (by omega), getN_len _ 8 (by omega)⟩
      · rw [if_neg h3]; exact ⟨Or.inl rfl, ndZ_sums, rfl⟩
    · rw [if_pos h1, if_neg h2] at h
      simp only [h]; exact ⟨Or.inl rfl, ndZ_sums, rfl⟩
  · rw [if_neg h1] at h
    simp only [h]; exact ⟨Or.inl rfl, ndZ_sums, rfl⟩
end
end Go.Proofs.YtjdfenlmifhhdaaDoor
