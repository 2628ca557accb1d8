/- Written by pp.py, a program of this project that runs the kit's print over the translation, with functions proved by hand put in. Lean checks it. -/
import Derived.Test.YtgoiojfdphfelaaPrint0
import Derived.Test.YtgoiojfdphfelaaPrint1
import Derived.Test.YtgoiojfdphfelaaPrint2
import Derived.Test.YtgoiojfdphfelaaPrint3
import Derived.Test.YtgoiojfdphfelaaPrint4
import Derived.Test.YtgoiojfdphfelaaPrint5
namespace Go.Proofs.Ytgoiojfdphfelaa.Print
open Go.RowKit Go.Proofs.YtgoiojfdphfelaaW.PrintWords Go.Proofs.YtgoiojfdphfelaaW.PrintLast Go.Proofs.YtgoiojfdphfelaaW.PrintMore
attribute [local go_sem] max2_int min2_int max_two min_two max_three min_three max_four min_four   -- for this text's walks alone
set_option linter.unusedVariables false
set_option linter.unusedSimpArgs false

end Go.Proofs.Ytgoiojfdphfelaa.Print
