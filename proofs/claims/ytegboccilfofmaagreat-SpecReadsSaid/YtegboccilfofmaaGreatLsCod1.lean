import Derived.Test.YtegboccilfofmaaGreatLsCodW
set_option linter.unusedVariables false
set_option maxRecDepth 100000
set_option linter.unusedSimpArgs false
namespace Go.Proofs.YtegboccilfofmaaGreat
open Go Go.LS
end Go.Proofs.YtegboccilfofmaaGreat
