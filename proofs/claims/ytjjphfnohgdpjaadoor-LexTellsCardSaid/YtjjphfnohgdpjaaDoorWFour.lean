-- Words of the printer of the kit, less the theorems that this claim does not use. Not trusted: Lean checks it.
import Derived.Test.YtjjphfnohgdpjaaDoorWTab
/-! ### 56. Four, five, six operations that may come up next, in any order -/
namespace Go.Proofs.YtjjphfnohgdpjaaDoorW.PrintLast
section
variable {P : Program} {ops : Array Oper} {Q : Exit → Act → World → Prop} {md : Region.Mode} {S : World → Prop} {ds : List Nat} {T : Bool × List (List Nat × List Nat)}
end
end Go.Proofs.YtjjphfnohgdpjaaDoorW.PrintLast
