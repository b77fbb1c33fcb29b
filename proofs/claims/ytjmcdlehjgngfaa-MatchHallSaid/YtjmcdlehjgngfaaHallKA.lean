/- The marriage condition, checked by the kernel, a part. -/
import Derived.Test.YtjmcdlehjgngfaaHall
import Derived.KernelRfl
namespace Go.Proofs.Ytjmcdlehjgngfaa
theorem hall4_0 : rangeH 4 14 0 = true := by kernel_rfl
theorem hall4_1 : rangeH 4 14 16384 = true := by kernel_rfl
end Go.Proofs.Ytjmcdlehjgngfaa
