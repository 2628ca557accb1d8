/- Written by pp.py, a program of this project that runs the kit's print over the translation, with functions proved by hand put in. Lean checks it. -/
import Derived.Test.YtdlmmgehjhpmoaaPrint0
import Derived.Test.YtdlmmgehjhpmoaaPrint1
import Derived.Test.YtdlmmgehjhpmoaaPrint2
import Derived.Test.YtdlmmgehjhpmoaaPrint3
import Derived.Test.YtdlmmgehjhpmoaaPrint4
import Derived.Test.YtdlmmgehjhpmoaaPrint5
import Derived.Test.YtdlmmgehjhpmoaaPrint6
namespace Go.Proofs.Ytdlmmgehjhpmoaa.Print
open Go.RowKit Go.Proofs.YtdlmmgehjhpmoaaW.PrintWords Go.Proofs.YtdlmmgehjhpmoaaW.PrintLast Go.Proofs.YtdlmmgehjhpmoaaW.PrintMore
attribute [local go_sem] max2_int min2_int max_two min_two max_three min_three max_four min_four   -- for this text's walks alone
set_option linter.unusedVariables false
set_option linter.unusedSimpArgs false

end Go.Proofs.Ytdlmmgehjhpmoaa.Print
