/- Walks of what the laws do with trees: their size, a copy of another type, whether two are alike. Each for every tree that memory can hold. -/
import Derived.Test.YtphchpbfhcniaaaTxt
import Derived.Test.YtphchpbfhcniaaaSep
namespace Go.Proofs.Ytphchpbfhcniaaa.Eng
open Go.RowKit
set_option linter.unusedVariables false
set_option linter.unusedSimpArgs false
set_option maxHeartbeats 1000000











end Go.Proofs.Ytphchpbfhcniaaa.Eng
