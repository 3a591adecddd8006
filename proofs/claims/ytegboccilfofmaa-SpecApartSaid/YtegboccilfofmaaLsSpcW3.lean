import Derived.Test.YtegboccilfofmaaLsSpc2
set_option linter.unusedVariables false
set_option maxRecDepth 100000
namespace Go.Proofs.Ytegboccilfofmaa
open Go Go.LS
end Go.Proofs.Ytegboccilfofmaa
