/- What a set of patterns tells: its length, a pattern by its number, its three numbers; for every set, nil too. -/
import Derived.Test.YtbkcjeopcjghgaaProg
import Derived.Below
import Derived.Deep.Draws
import Derived.OwnWalk
import Derived.Tactics
import Derived.WalkKit
import Derived.KernelRfl
import Derived.RowKit3
import Derived.Deep.QuietTactic
import Derived.BigQuiet
import Derived.WideLaws
import Derived.Outline
import Derived.Test.YtbkcjeopcjghgaaOb10
namespace Go.Proofs.Ytbkcjeopcjghgaa.P
open Go Go.RowKit Go.Proofs.YtbkcjeopcjghgaaW.PrintWords





end Go.Proofs.Ytbkcjeopcjghgaa.P
