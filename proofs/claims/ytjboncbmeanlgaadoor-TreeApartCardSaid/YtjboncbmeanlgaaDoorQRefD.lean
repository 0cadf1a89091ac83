/- RefD, 9 declarations cut -/
import Derived.Test.YtjboncbmeanlgaaDoorQDigN
import Derived.Test.YtjboncbmeanlgaaDoorQTextS
import Derived.Lib.ItoaLen
/- The document's Number: strconv.Itoa's text. -/
set_option linter.unusedVariables false
set_option linter.unusedSimpArgs false
namespace Go.Proofs.YtjboncbmeanlgaaDoor.Tr
open Go.RowKit Go.Proofs Go.Proofs.YtjboncbmeanlgaaDoor.PTreePrints Go.Proofs.YtjboncbmeanlgaaDoorW.PrintWords Go.Proofs.YtjboncbmeanlgaaDoorW.PrintMore Go.Proofs.YtjboncbmeanlgaaDoorW.PrintLast
end Go.Proofs.YtjboncbmeanlgaaDoor.Tr
