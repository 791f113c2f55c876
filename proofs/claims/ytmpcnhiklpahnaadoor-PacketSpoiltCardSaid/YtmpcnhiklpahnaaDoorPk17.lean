/- Packets: chapter 21's first example: walk. -/
import Derived.Test.YtmpcnhiklpahnaaDoorPk16
namespace Go.Proofs.YtmpcnhiklpahnaaDoor
open Go.RowKit

def awR : Rd := ⟨1, 2, 3, [4602678819172646912]⟩
def awL : List Nat := packV pf awR
theorem awR_ok : awR.Ok pf := by constructor <;> decide +kernel
theorem awL_facts : awL.length = 20 ∧ awL.getD 0 0 = 181 ∧ awL.getD 15 0 = 63 ∧ packL 1 2 3 [4602678819172646912] = awL ∧ checkV pf 1 [4602678819172646912] = 0 := by decide +kernel
theorem aw_sum : crcOf [49, 50, 51, 52, 53, 54, 55, 56, 57] = 3421780262 := by decide +kernel

end Go.Proofs.YtmpcnhiklpahnaaDoor
