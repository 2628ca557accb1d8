/- Pruned by prune.py, a program of this project, out of what the print and its words (or this project) wrote: what this claim does not reach is struck. -/
import Derived.Test.YtdlmmgehjhpmoaaWInv
import Derived.Test.YtdlmmgehjhpmoaaWFootNe
namespace Go.Proofs.YtdlmmgehjhpmoaaW.PrintWords
open Go.RowKit
end Go.Proofs.YtdlmmgehjhpmoaaW.PrintWords
namespace Go.Proofs.YtdlmmgehjhpmoaaW.PrintLast
section
variable {ops : Array Oper} {a : Act} {o og : Oper} {g : Nat} {t : Tmp} {u : Bool}
end
end Go.Proofs.YtdlmmgehjhpmoaaW.PrintLast
