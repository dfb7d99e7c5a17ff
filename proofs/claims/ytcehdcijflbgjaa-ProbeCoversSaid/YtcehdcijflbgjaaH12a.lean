/- What the buckets tell: the least lengths and the bytes; for all buckets, nil too. -/
import Derived.Below
import Derived.Deep.Draws
import Derived.OwnWalk
import Derived.Tactics
import Derived.WalkKit
import Derived.KernelRfl
import Derived.RowKit3
import Derived.Deep.LoopGhost
import Derived.Deep.QuietTactic
import Derived.BigQuiet
import Derived.WideLaws
import Derived.Outline
import Derived.StillTailTactics
import Derived.Test.YtcehdcijflbgjaaOb12
import Derived.Test.YtcehdcijflbgjaaBase
import Derived.Test.YtcehdcijflbgjaaPx0
namespace Go.Proofs.Ytcehdcijflbgjaa.P
open Go Go.RowKit Go.Proofs.YtcehdcijflbgjaaW.PrintWords Go.Proofs.Ytcehdcijflbgjaa.Base
set_option linter.unusedVariables false
set_option linter.unusedSimpArgs false



end Go.Proofs.Ytcehdcijflbgjaa.P
