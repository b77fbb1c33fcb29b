/- All masks of four instructions, checked by the kernel, a part. -/
import Derived.Test.YtjmcdlehjgngfaaExt
import Derived.KernelRfl
namespace Go.Proofs.Ytjmcdlehjgngfaa
theorem chk4_2 : rangeK 4 0 4 0 0 1 13 16384 = true := by kernel_rfl
theorem chk4_3 : rangeK 4 0 4 0 0 1 13 24576 = true := by kernel_rfl
end Go.Proofs.Ytjmcdlehjgngfaa
