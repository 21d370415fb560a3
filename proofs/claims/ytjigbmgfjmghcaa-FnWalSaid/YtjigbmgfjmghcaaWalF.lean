/- Logs: what is cut off behind, by the reference. -/
import Derived.Test.YtjigbmgfjmghcaaWalE
namespace Go.Proofs.Ytjigbmgfjmghcaa
open Go Go.RowKit Go.Sort
set_option linter.unusedVariables false
set_option linter.unusedSimpArgs false

end Go.Proofs.Ytjigbmgfjmghcaa
