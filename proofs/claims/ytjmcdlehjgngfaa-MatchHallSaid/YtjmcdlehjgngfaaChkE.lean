/- All masks of at most three instructions, and all of four behind a first slot, checked by the kernel. -/
import Derived.Test.YtjmcdlehjgngfaaExt
import Derived.KernelRfl
namespace Go.Proofs.Ytjmcdlehjgngfaa
theorem pre4_0 : preK 4 3 1 (setd 0 0 1) 1 = true := by kernel_rfl
theorem pre4_1 : preK 4 3 1 (setd 0 1 1) 2 = true := by kernel_rfl
theorem pre4_2 : preK 4 3 1 (setd 0 2 1) 4 = true := by kernel_rfl
theorem pre4_3 : preK 4 3 1 (setd 0 3 1) 8 = true := by kernel_rfl
theorem pre0 : preK 0 0 0 0 0 = true := by kernel_rfl
theorem pre1 : preK 1 1 0 0 0 = true := by kernel_rfl
theorem pre2 : preK 2 2 0 0 0 = true := by kernel_rfl
theorem pre3 : preK 3 3 0 0 0 = true := by kernel_rfl
end Go.Proofs.Ytjmcdlehjgngfaa
