/- validStacks of impl, LiftsOf, and the walks of the laws FnExactSwapsFor, FnExactLiftsOf; no statement is proved here. -/
import Derived.Test.YtddpjgcodnfbjaaSwap2
namespace Go.Proofs.Ytddpjgcodnfbjaa
open Go.ChangeShapes Go.WideShapes Go.ChangeAt Go.RowKit
set_option linter.unusedVariables false
set_option linter.unusedSimpArgs false
end Go.Proofs.Ytddpjgcodnfbjaa
