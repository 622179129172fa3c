/-
  What was laid is read back: data, a page, a node with one ref. Condition: the place is on the device, and the cluster's bytes stand there.
-/
import Derived.Test.YtjdfenlmifhhdaaDoorPure4
namespace Go.Proofs.YtjdfenlmifhhdaaDoor
def nd7 : List Rf := ndZ.set 2 ⟨7#32, zeros 32⟩
theorem nd7_sums : sums nd7 := sums_set ndZ_sums rfl
theorem nd7_8 : nd7.length = 8 := rfl
theorem nd7_ok : getOk (putNode nd7) := by decide +kernel
theorem nd7_get : getNode (putNode nd7) = nd7 := by decide +kernel
theorem nd7_len : (putNode nd7).length = 288 := putNode_len nd7 nd7_sums
theorem nought224 : isNought (zeros 224) = true := by decide +kernel
theorem pad_take (k : Nat) (b : Bytes) : (padTo k b).take b.length = b := by unfold padTo; rw [List.take_left]
theorem pad_drop (k : Nat) (b : Bytes) : (padTo k b).drop b.length = zeros (k - b.length) := by unfold padTo; rw [List.drop_left]
section
attribute [local irreducible] over encrypt decrypt leafSum nodeSum pageSum schedule label putNode getNode getOk isNought
theorem back_data (seen : Bytes) (tag gk keys : Bytes) (n : BitVec 32) (d : Bytes) (hd : d.length = 512) (hn : n.toNat ≤ 65535) (hl : 4096 + 512 * n.toNat + 512 ≤ seen.length) (hc : clu seen n.toNat = over (encrypt gk) keys (BitVec.ofNat 64 (8 + n.toNat)) d) :
    spGetD seen 1 tag gk keys ⟨n + 1#32, leafSum tag (n + 1#32) (over (encrypt gk) keys (BitVec.ofNat 64 (8 + n.toNat)) d)⟩ = (0, d) := by
  rw [getD1 seen tag gk keys n _ hn hl hc, Nat.mul_one, open_seal gk keys _ d (N := 1) hd]
theorem back_get (seen : Bytes) (φ : Bytes → Bytes) (n : BitVec 32) (c : Bytes) (hn : n.toNat ≤ 65535) (hl : 4096 + 512 * n.toNat + 512 ≤ seen.length) (hc : clu seen n.toNat = c) : spGet seen 1 φ ⟨n + 1#32, φ c⟩ = (0, c) := by
  rw [get1 seen φ n _ hn, if_pos hl, hc, if_pos rfl]
theorem back_node (seen : Bytes) (n : BitVec 32) (hn : n.toNat ≤ 65535) (hl : 4096 + 512 * n.toNat + 512 ≤ seen.length) (hc : clu seen n.toNat = padTo 512 (putNode nd7)) : spGetN seen 1 ⟨n + 1#32, nodeSum (padTo 512 (putNode nd7))⟩ = (0, nd7) := by
  have h := back_get seen nodeSum n _ hn hl hc
  have h1 := pad_take 512 (putNode nd7)
  have h2 := pad_drop 512 (putNode nd7)
  rw [nd7_len] at h1 h2
  unfold spGetN
  simp only [h]
  rw [if_pos trivial, h1, h2, if_pos ⟨nd7_ok, nought224⟩, nd7_get]
end
end Go.Proofs.YtjdfenlmifhhdaaDoor
