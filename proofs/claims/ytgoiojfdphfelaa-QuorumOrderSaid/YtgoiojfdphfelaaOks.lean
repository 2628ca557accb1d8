/- What the laws' arguments read as, type by type. Written by pp.py. -/
import Derived.Test.YtgoiojfdphfelaaPrint0
import Derived.Test.YtgoiojfdphfelaaOpen
namespace Go.Proofs.Ytgoiojfdphfelaa.Print
open Go.RowKit Go.Proofs.YtgoiojfdphfelaaW.PrintWords Go.Proofs.YtgoiojfdphfelaaW.PrintLast Go.Proofs.Ytgoiojfdphfelaa.Op
set_option linter.unusedSimpArgs false
end Go.Proofs.Ytgoiojfdphfelaa.Print
