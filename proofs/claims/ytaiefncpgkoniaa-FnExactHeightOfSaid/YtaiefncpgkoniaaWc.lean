/- Walks of the laws' helpers: forests, rows of structs. -/
import Derived.Test.YtaiefncpgkoniaaWb
namespace Go.Proofs.Ytaiefncpgkoniaa.En
open Go.RowKit
set_option linter.unusedSimpArgs false
set_option linter.unusedVariables false
set_option maxHeartbeats 4000000

end Go.Proofs.Ytaiefncpgkoniaa.En
