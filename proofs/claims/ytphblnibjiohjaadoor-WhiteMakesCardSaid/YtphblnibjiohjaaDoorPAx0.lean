-- printed by a program of this session's (wip/hookprint.py) out of the translation; not trusted: Lean checks it
import Derived.Test.YtphblnibjiohjaaDoorProg
import Derived.Below
import Derived.Deep.Draws
import Derived.Deep.AppendLies
import Derived.Maps.AppendAt
import Derived.OwnWalk
import Derived.Laws.BytesArg
import Derived.Laws.MakeOwn
import Derived.Laws.OwnMore
import Derived.Deep.OwnRows
import Derived.Tactics
import Derived.Lib.ConvBytes
import Derived.Laws.Slices
import Derived.WalkKit
import Derived.KernelRfl
import Derived.RowKit3
import Derived.Deep.LoopGhost
import Derived.Deep.QuietTactic
import Derived.BigQuiet
import Derived.WideLaws
import Derived.Deep.DeepCutAuto
import Derived.Deep.CutBlock
import Derived.Deep.RegionHeld3
import Derived.Laws.Rows
import Derived.Lib.AppendStr
import Derived.ArgAppend
import Derived.Laws.IdiomCopy
import Derived.OrdersHeld
import Derived.Laws.BitsLemmas
import Derived.RowKit
import Derived.Test.YtphblnibjiohjaaDoorWWords
import Derived.Test.YtphblnibjiohjaaDoorWLast
import Derived.Test.YtphblnibjiohjaaDoorWTab
import Derived.Test.YtphblnibjiohjaaDoorWFour
import Derived.Test.YtphblnibjiohjaaDoorWQPut
import Derived.Test.YtphblnibjiohjaaDoorWApart
import Derived.Test.YtphblnibjiohjaaDoorWArr
import Derived.Test.YtphblnibjiohjaaDoorWZeros
import Derived.Test.YtphblnibjiohjaaDoorWFoot
import Derived.Test.YtphblnibjiohjaaDoorWKept
import Derived.Test.YtphblnibjiohjaaDoorWShare
import Derived.Test.YtphblnibjiohjaaDoorWN
import Derived.Test.YtphblnibjiohjaaDoorWFootNe
import Derived.Test.YtphblnibjiohjaaDoorWAt
import Derived.Test.YtphblnibjiohjaaDoorWEqStruct
import Derived.Test.YtphblnibjiohjaaDoorWRepsOne
import Derived.Test.YtphblnibjiohjaaDoorWInv
import Derived.Test.YtphblnibjiohjaaDoorWInvWords
import Derived.Test.YtphblnibjiohjaaDoorWGuard
import Derived.Test.YtphblnibjiohjaaDoorWNEv
import Derived.Test.YtphblnibjiohjaaDoorWMore
namespace Go.Proofs.YtphblnibjiohjaaDoor.PA
open Go.RowKit Go.Proofs.YtphblnibjiohjaaDoorW.PrintWords Go.Proofs.YtphblnibjiohjaaDoorW.PrintLast Go.Proofs.YtphblnibjiohjaaDoorW.PrintMore
attribute [local go_sem] max2_int min2_int max_two min_two max_three min_three max_four min_four   -- for this text's walks alone
set_option linter.unusedVariables false
set_option linter.unusedSimpArgs false



def errW : Option Int → Value
  | none => .nilIface
  | some c => .iface 0 (.int .i64 c)
theorem errW_none : errW none = .nilIface := rfl
theorem errW_some (c : Int) : errW (some c) = .iface 0 (.int .i64 c) := rfl

theorem info3 : (Tryd.prog.info? 3).map (fun i => (i.zero, i.size, i.bytes)) = some (some (.int .i64 0), 1, 8) := by kernel_rfl
-- the values' own types

end Go.Proofs.YtphblnibjiohjaaDoor.PA
