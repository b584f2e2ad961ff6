-- Words of the printer of the kit, less the theorems that this claim does not use. Not trusted: Lean checks it.
import Derived.Test.YtjjphfnohgdpjaaDoorWN
/-! ### 52. A row that stays read whatever happens to a block (a set of blocks) doesn't lie there -/
namespace Go.Proofs.YtjjphfnohgdpjaaDoorW.PrintWords
open Go.RowKit
namespace Kd
section
variable {α : Type} {d : Kd α} {W : World} {g n : Nat} {S ok : Nat → Prop} {A : Option Addr} {ad : Addr} {xs : List α}
end
end Kd
end Go.Proofs.YtjjphfnohgdpjaaDoorW.PrintWords
