-- Words of the printer of the kit, less the theorems that this claim does not use. Not trusted: Lean checks it.
import Derived.Test.YtjjphfnohgdpjaaDoorWInv
import Derived.Test.YtjjphfnohgdpjaaDoorWFootNe
namespace Go.Proofs.YtjjphfnohgdpjaaDoorW.PrintWords
open Go.RowKit
end Go.Proofs.YtjjphfnohgdpjaaDoorW.PrintWords
namespace Go.Proofs.YtjjphfnohgdpjaaDoorW.PrintLast
section
variable {ops : Array Oper} {a : Act} {o og : Oper} {g : Nat} {t : Tmp} {u : Bool}
end
end Go.Proofs.YtjjphfnohgdpjaaDoorW.PrintLast
