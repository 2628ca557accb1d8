/- Pruned by prune.py, a program of this project, out of what the print and its words (or this project) wrote: what this claim does not reach is struck. -/
import Derived.Test.YtdlmmgehjhpmoaaPrint0
import Derived.Test.YtdlmmgehjhpmoaaPrint1
import Derived.Test.YtdlmmgehjhpmoaaPrint2
import Derived.Test.YtdlmmgehjhpmoaaPrint3
import Derived.Test.YtdlmmgehjhpmoaaPrint4
import Derived.Test.YtdlmmgehjhpmoaaPrint5
import Derived.Test.YtdlmmgehjhpmoaaPrint6
import Derived.Test.YtdlmmgehjhpmoaaPrint7
import Derived.Test.YtdlmmgehjhpmoaaPrint8
import Derived.Test.YtdlmmgehjhpmoaaPrint9
import Derived.Test.YtdlmmgehjhpmoaaPrint10
import Derived.Test.YtdlmmgehjhpmoaaPrint11
import Derived.Test.YtdlmmgehjhpmoaaPrint12
import Derived.Test.YtdlmmgehjhpmoaaPrint13
namespace Go.Proofs.Ytdlmmgehjhpmoaa.Print
open Go.RowKit Go.Proofs.YtdlmmgehjhpmoaaW.PrintWords Go.Proofs.YtdlmmgehjhpmoaaW.PrintLast Go.Proofs.YtdlmmgehjhpmoaaW.PrintMore
attribute [local go_sem] max2_int min2_int max_two min_two max_three min_three max_four min_four
set_option linter.unusedVariables false
set_option linter.unusedSimpArgs false
end Go.Proofs.Ytdlmmgehjhpmoaa.Print
