/- The marriage condition, checked by the kernel, a part. -/
import Derived.Test.YtjmcdlehjgngfaaHall
import Derived.KernelRfl
namespace Go.Proofs.Ytjmcdlehjgngfaa
theorem hall4_2 : rangeH 4 14 32768 = true := by kernel_rfl
theorem hall4_3 : rangeH 4 14 49152 = true := by kernel_rfl
theorem hall0 : rangeH 0 0 0 = true := by kernel_rfl
theorem hall1 : rangeH 1 4 0 = true := by kernel_rfl
theorem hall2 : rangeH 2 8 0 = true := by kernel_rfl
theorem hall3 : rangeH 3 12 0 = true := by kernel_rfl
end Go.Proofs.Ytjmcdlehjgngfaa
