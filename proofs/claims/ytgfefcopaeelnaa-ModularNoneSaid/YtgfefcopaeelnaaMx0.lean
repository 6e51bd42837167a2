/- Printed by xprint.py, a program of this claim's writer over the kit's print: not trusted, Lean checks it. -/
import Derived.Test.YtgfefcopaeelnaaProg
import Derived.Below
import Derived.Deep.Draws
import Derived.Deep.AppendLies
import Derived.Maps.AppendAt
import Derived.OwnWalk
import Derived.Laws.BytesArg
import Derived.Laws.MakeOwn
import Derived.Laws.OwnMore
import Derived.Deep.OwnRows
import Derived.Tactics
import Derived.Lib.ConvBytes
import Derived.Laws.Slices
import Derived.WalkKit
import Derived.KernelRfl
import Derived.RowKit3
import Derived.Deep.LoopGhost
import Derived.Deep.QuietTactic
import Derived.BigQuiet
import Derived.WideLaws
import Derived.Deep.DeepCutAuto
import Derived.Deep.CutBlock
import Derived.Deep.RegionHeld3
import Derived.Laws.Rows
import Derived.Lib.AppendStr
import Derived.ArgAppend
import Derived.Laws.IdiomCopy
import Derived.OrdersHeld
import Derived.Laws.BitsLemmas
import Derived.RowKit
import Derived.Test.YtgfefcopaeelnaaWWords
import Derived.Test.YtgfefcopaeelnaaWLast
import Derived.Test.YtgfefcopaeelnaaWTab
import Derived.Test.YtgfefcopaeelnaaWQPut
import Derived.Test.YtgfefcopaeelnaaWApart
import Derived.Test.YtgfefcopaeelnaaWArr
import Derived.Test.YtgfefcopaeelnaaWZeros
import Derived.Test.YtgfefcopaeelnaaWFoot
import Derived.Test.YtgfefcopaeelnaaWKept
import Derived.Test.YtgfefcopaeelnaaWShare
import Derived.Test.YtgfefcopaeelnaaWN
import Derived.Test.YtgfefcopaeelnaaWRepsOne
import Derived.Test.YtgfefcopaeelnaaWGuard
import Derived.Test.YtgfefcopaeelnaaWNEv
import Derived.Test.YtgfefcopaeelnaaWMore
namespace Go.Proofs.Ytgfefcopaeelnaa.M
open Go.RowKit Go.Proofs.YtgfefcopaeelnaaW.PrintWords Go.Proofs.YtgfefcopaeelnaaW.PrintLast Go.Proofs.YtgfefcopaeelnaaW.PrintMore
attribute [local go_sem] max2_int min2_int max_two min_two max_three min_three max_four min_four   -- for this text's walks alone
set_option linter.unusedVariables false
set_option linter.unusedSimpArgs false



def errW : Option Int → Value
  | none => .nilIface
  | some c => .iface 0 (.int .i64 c)
theorem errW_none : errW none = .nilIface := rfl
theorem errW_some (c : Int) : errW (some c) = .iface 0 (.int .i64 c) := rfl

theorem info3 : (Try.prog.info? 3).map (fun i => (i.zero, i.size, i.bytes)) = some (some (.int .i64 0), 1, 8) := by kernel_rfl
-- the values' own types

end Go.Proofs.Ytgfefcopaeelnaa.M
