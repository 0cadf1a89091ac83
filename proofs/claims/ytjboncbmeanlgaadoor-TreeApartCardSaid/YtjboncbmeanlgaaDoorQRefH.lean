/- RefH, 2 declarations cut -/
import Derived.Test.YtjboncbmeanlgaaDoorQRefG
/- The document's look at expressions, patterns, statements: the program's. -/
set_option linter.unusedVariables false
set_option linter.unusedSimpArgs false
namespace Go.Proofs.YtjboncbmeanlgaaDoor.Tr
open Go.RowKit Go.Proofs Go.Proofs.YtjboncbmeanlgaaDoor.PTreePrints Go.Proofs.YtjboncbmeanlgaaDoorW.PrintWords Go.Proofs.YtjboncbmeanlgaaDoorW.PrintMore Go.Proofs.YtjboncbmeanlgaaDoorW.PrintLast
end Go.Proofs.YtjboncbmeanlgaaDoor.Tr
