/- Walks through the law functions on disks. No condition. -/
import Derived.Test.YthdjckbjjfiopabDisk4
import Derived.Test.YthdjckbjjfiopabSl16
namespace Go.Proofs.Ythdjckbjjfiopab
open Go.Sl Go.Proofs
set_option linter.unusedVariables false
set_option linter.unusedSimpArgs false
def sp0 : DiskM := newD 3
def sp1 : DiskM := writeD sp0 1 [120, 121]
def sp2 : DiskM := flushD sp1
def sp3 : DiskM := restD 0 sp2

-- counterfoil/counterfoillaw.spins is not in this seat
end Go.Proofs.Ythdjckbjjfiopab
