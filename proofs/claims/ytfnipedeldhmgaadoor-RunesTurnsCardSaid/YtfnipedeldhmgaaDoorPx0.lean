-- Written by wip/gprint.py, a driver of this seat's own over the kit's printing program; beside it stand contracts proved by hand. Lean checks it.
import Derived.Test.YtfnipedeldhmgaaDoorProg
import Derived.Below
import Derived.Deep.Draws
import Derived.Deep.AppendLies
import Derived.Maps.AppendAt
import Derived.OwnWalk
import Derived.Laws.BytesArg
import Derived.Laws.MakeOwn
import Derived.Laws.OwnMore
import Derived.Deep.OwnRows
import Derived.Tactics
import Derived.Lib.ConvBytes
import Derived.Laws.Slices
import Derived.WalkKit
import Derived.KernelRfl
import Derived.RowKit3
import Derived.Deep.LoopGhost
import Derived.Deep.QuietTactic
import Derived.BigQuiet
import Derived.WideLaws
import Derived.Deep.DeepCutAuto
import Derived.Deep.CutBlock
import Derived.Deep.RegionHeld3
import Derived.Laws.Rows
import Derived.Lib.AppendStr
import Derived.ArgAppend
import Derived.Laws.IdiomCopy
import Derived.OrdersHeld
import Derived.Laws.BitsLemmas
import Derived.RowKit
import Derived.Test.YtfnipedeldhmgaaDoorGiven
import Derived.Test.YtfnipedeldhmgaaDoorWWords
import Derived.Test.YtfnipedeldhmgaaDoorWLast
import Derived.Test.YtfnipedeldhmgaaDoorWTab
import Derived.Test.YtfnipedeldhmgaaDoorWFour
import Derived.Test.YtfnipedeldhmgaaDoorWQPut
import Derived.Test.YtfnipedeldhmgaaDoorWApart
import Derived.Test.YtfnipedeldhmgaaDoorWArr
import Derived.Test.YtfnipedeldhmgaaDoorWZeros
import Derived.Test.YtfnipedeldhmgaaDoorWFoot
import Derived.Test.YtfnipedeldhmgaaDoorWKept
import Derived.Test.YtfnipedeldhmgaaDoorWShare
import Derived.Test.YtfnipedeldhmgaaDoorWN
import Derived.Test.YtfnipedeldhmgaaDoorWFootNe
import Derived.Test.YtfnipedeldhmgaaDoorWAt
import Derived.Test.YtfnipedeldhmgaaDoorWEqStruct
import Derived.Test.YtfnipedeldhmgaaDoorWRepsOne
import Derived.Test.YtfnipedeldhmgaaDoorWInv
import Derived.Test.YtfnipedeldhmgaaDoorWInvWords
import Derived.Test.YtfnipedeldhmgaaDoorWGuard
import Derived.Test.YtfnipedeldhmgaaDoorWNEv
import Derived.Test.YtfnipedeldhmgaaDoorWMore
namespace Go.Proofs.YtfnipedeldhmgaaDoor.P
open Go.RowKit Go.Proofs.YtfnipedeldhmgaaDoorW.PrintWords Go.Proofs.YtfnipedeldhmgaaDoorW.PrintLast Go.Proofs.YtfnipedeldhmgaaDoorW.PrintMore
attribute [local go_sem] max2_int min2_int max_two min_two max_three min_three max_four min_four   -- for this text's walks alone
set_option linter.unusedVariables false
set_option linter.unusedSimpArgs false



def errW : Option Int → Value
  | none => .nilIface
  | some c => .iface 0 (.int .i64 c)
theorem errW_none : errW none = .nilIface := rfl
theorem errW_some (c : Int) : errW (some c) = .iface 0 (.int .i64 c) := rfl

theorem info3 : (Tryd.prog.info? 3).map (fun i => (i.zero, i.size, i.bytes)) = some (some (.int .i64 0), 1, 8) := by kernel_rfl
theorem info5 : (Tryd.prog.info? 5).map (fun i => (i.zero, i.size, i.bytes)) = some (some (.int .u8 0), 1, 1) := by kernel_rfl
theorem info9 : (Tryd.prog.info? 9).map (fun i => (i.zero, i.size, i.bytes)) = some (some (.string ⟨#[]⟩), 1, 16) := by kernel_rfl
-- the values' own types

end Go.Proofs.YtfnipedeldhmgaaDoor.P
