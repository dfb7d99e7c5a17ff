/- What layer 10's reference computes, as plain functions on lists of texts, and that layer 10's set is it; no condition beyond the sizes that stand in each statement. -/
import Derived.Test.YtpgmpdanplmpfaaR10
import Derived.Test.YtpgmpdanplmpfaaH10
import Derived.Test.YtpgmpdanplmpfaaH10b
namespace Go.Proofs.Ytpgmpdanplmpfaa.Base
open Go Go.RowKit Go.Proofs.YtpgmpdanplmpfaaW.PrintWords Go.Proofs.YtpgmpdanplmpfaaW.PrintMore Go.Proofs.Ytpgmpdanplmpfaa.P
set_option linter.unusedVariables false

/-- Where a text stands first; -1: nowhere. -/
def findB (s : ByteArray) : List ByteArray → Nat → Int
  | [], _ => -1
  | x :: l, i => if x = s then (i : Int) else findB s l (i + 1)

end Go.Proofs.Ytpgmpdanplmpfaa.Base
