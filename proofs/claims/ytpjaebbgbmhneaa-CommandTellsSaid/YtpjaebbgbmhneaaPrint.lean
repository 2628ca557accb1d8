/- Written by pp.py, a program of this project that runs the kit's print over the translation, with functions proved by hand put in. Lean checks it. -/
import Derived.Test.YtpjaebbgbmhneaaPrint0
import Derived.Test.YtpjaebbgbmhneaaPrint1
import Derived.Test.YtpjaebbgbmhneaaPrint2
import Derived.Test.YtpjaebbgbmhneaaPrint3
import Derived.Test.YtpjaebbgbmhneaaPrint4
import Derived.Test.YtpjaebbgbmhneaaPrint5
import Derived.Test.YtpjaebbgbmhneaaPrint6
import Derived.Test.YtpjaebbgbmhneaaPrint7
import Derived.Test.YtpjaebbgbmhneaaPrint8
import Derived.Test.YtpjaebbgbmhneaaPrint9
import Derived.Test.YtpjaebbgbmhneaaPrint10
import Derived.Test.YtpjaebbgbmhneaaPrint11
import Derived.Test.YtpjaebbgbmhneaaPrint12
import Derived.Test.YtpjaebbgbmhneaaPrint13
import Derived.Test.YtpjaebbgbmhneaaPrint14
import Derived.Test.YtpjaebbgbmhneaaPrint15
namespace Go.Proofs.Ytpjaebbgbmhneaa.Print
open Go.RowKit Go.Proofs.YtpjaebbgbmhneaaW.PrintWords Go.Proofs.YtpjaebbgbmhneaaW.PrintLast Go.Proofs.YtpjaebbgbmhneaaW.PrintMore
attribute [local go_sem] max2_int min2_int max_two min_two max_three min_three max_four min_four   -- for this text's walks alone
set_option linter.unusedVariables false
set_option linter.unusedSimpArgs false

end Go.Proofs.Ytpjaebbgbmhneaa.Print
