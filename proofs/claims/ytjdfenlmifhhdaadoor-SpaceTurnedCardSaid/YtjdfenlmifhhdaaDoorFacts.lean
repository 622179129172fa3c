/-
  Sums of closed bytes, told by the kernel: they are not nought. Condition: none.
-/
import Derived.Test.YtjdfenlmifhhdaaDoorPure3
namespace Go.Proofs.YtjdfenlmifhhdaaDoor
theorem super_ne : superSum 8 1 ≠ zeros 32 := by decide +kernel
theorem leaf_ne : leafSum (label (1#8 :: zeros 31) nameTag) 2#32 (zeros 512) ≠ zeros 32 := by decide +kernel
end Go.Proofs.YtjdfenlmifhhdaaDoor
