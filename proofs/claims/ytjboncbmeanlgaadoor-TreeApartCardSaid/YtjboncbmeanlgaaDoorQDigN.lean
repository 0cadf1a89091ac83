/- DigN, 8 declarations cut -/
import Derived.Test.YtjboncbmeanlgaaDoorQPTreePrintsx0
import Derived.Test.YtjboncbmeanlgaaDoorQPTreePrintsx3
/- The document's digits and Number (printed by print.py in a use of my own). -/
namespace Go.Proofs.YtjboncbmeanlgaaDoor.PTreePrints
open Go.RowKit Go.Proofs.YtjboncbmeanlgaaDoorW.PrintWords Go.Proofs.YtjboncbmeanlgaaDoorW.PrintLast Go.Proofs.YtjboncbmeanlgaaDoorW.PrintMore
attribute [local go_sem] max2_int min2_int max_two min_two max_three min_three max_four min_four   -- for this text's walks alone
set_option linter.unusedVariables false
set_option linter.unusedSimpArgs false
end Go.Proofs.YtjboncbmeanlgaaDoor.PTreePrints
