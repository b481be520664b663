/- The laws' helpers on slices of ints: toIntS, eqIntS, markIntS, heldIntS; no statement is proved here. -/
import Derived.Test.YtddpjgcodnfbjaaInts
namespace Go.Proofs.Ytddpjgcodnfbjaa
open Go.ChangeShapes Go.WideShapes Go.ChangeAt Go.RowKit
set_option linter.unusedVariables false
set_option linter.unusedSimpArgs false

end Go.Proofs.Ytddpjgcodnfbjaa
