/- All masks of four instructions, checked by the kernel, a part. -/
import Derived.Test.YtjmcdlehjgngfaaExt
import Derived.KernelRfl
namespace Go.Proofs.Ytjmcdlehjgngfaa
theorem chk4_4 : rangeK 4 0 4 0 0 1 13 32768 = true := by kernel_rfl
theorem chk4_5 : rangeK 4 0 4 0 0 1 13 40960 = true := by kernel_rfl
end Go.Proofs.Ytjmcdlehjgngfaa
