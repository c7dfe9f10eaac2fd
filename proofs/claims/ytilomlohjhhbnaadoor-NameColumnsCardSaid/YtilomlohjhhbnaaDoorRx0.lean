/- What each of these Go functions answers, as a plain Lean function, and that the call answers so. Written by the kit's print.py, called for these functions together. -/
import Derived.Test.YtilomlohjhhbnaaDoorProg
import Derived.Below
import Derived.Deep.Draws
import Derived.Deep.AppendLies
import Derived.Maps.AppendAt
import Derived.OwnWalk
import Derived.Laws.BytesArg
import Derived.Laws.MakeOwn
import Derived.Laws.OwnMore
import Derived.Deep.OwnRows
import Derived.Tactics
import Derived.Lib.ConvBytes
import Derived.Laws.Slices
import Derived.WalkKit
import Derived.KernelRfl
import Derived.RowKit3
import Derived.Deep.LoopGhost
import Derived.Deep.QuietTactic
import Derived.BigQuiet
import Derived.WideLaws
import Derived.Deep.DeepCutAuto
import Derived.Deep.CutBlock
import Derived.Deep.RegionHeld3
import Derived.Laws.Rows
import Derived.Lib.AppendStr
import Derived.ArgAppend
import Derived.Laws.IdiomCopy
import Derived.OrdersHeld
import Derived.Laws.BitsLemmas
import Derived.RowKit
import Derived.Test.YtilomlohjhhbnaaDoorWWords
import Derived.Test.YtilomlohjhhbnaaDoorWLast
import Derived.Test.YtilomlohjhhbnaaDoorWTab
import Derived.Test.YtilomlohjhhbnaaDoorWFour
import Derived.Test.YtilomlohjhhbnaaDoorWQPut
import Derived.Test.YtilomlohjhhbnaaDoorWApart
import Derived.Test.YtilomlohjhhbnaaDoorWArr
import Derived.Test.YtilomlohjhhbnaaDoorWZeros
import Derived.Test.YtilomlohjhhbnaaDoorWFoot
import Derived.Test.YtilomlohjhhbnaaDoorWKept
import Derived.Test.YtilomlohjhhbnaaDoorWShare
import Derived.Test.YtilomlohjhhbnaaDoorWN
import Derived.Test.YtilomlohjhhbnaaDoorWFootNe
import Derived.Test.YtilomlohjhhbnaaDoorWAt
import Derived.Test.YtilomlohjhhbnaaDoorWEqStruct
import Derived.Test.YtilomlohjhhbnaaDoorWRepsOne
import Derived.Test.YtilomlohjhhbnaaDoorWInv
import Derived.Test.YtilomlohjhhbnaaDoorWInvWords
import Derived.Test.YtilomlohjhhbnaaDoorWGuard
import Derived.Test.YtilomlohjhhbnaaDoorWNEv
import Derived.Test.YtilomlohjhhbnaaDoorWMore
namespace Go.Proofs.YtilomlohjhhbnaaDoor.R
open Go.RowKit Go.Proofs.YtilomlohjhhbnaaDoorW.PrintWords Go.Proofs.YtilomlohjhhbnaaDoorW.PrintLast Go.Proofs.YtilomlohjhhbnaaDoorW.PrintMore
attribute [local go_sem] max2_int min2_int max_two min_two max_three min_three max_four min_four   -- for this text's walks alone
set_option linter.unusedVariables false
set_option linter.unusedSimpArgs false



def errW : Option Int → Value
  | none => .nilIface
  | some c => .iface 0 (.int .i64 c)
theorem errW_none : errW none = .nilIface := rfl
theorem errW_some (c : Int) : errW (some c) = .iface 0 (.int .i64 c) := rfl

theorem info3 : (Tryd.prog.info? 3).map (fun i => (i.zero, i.size, i.bytes)) = some (some (.int .i64 0), 1, 8) := by kernel_rfl
theorem info5 : (Tryd.prog.info? 5).map (fun i => (i.zero, i.size, i.bytes)) = some (some (.int .u8 0), 1, 1) := by kernel_rfl
theorem info9 : (Tryd.prog.info? 9).map (fun i => (i.zero, i.size, i.bytes)) = some (some (.string ⟨#[]⟩), 1, 16) := by kernel_rfl
-- the values' own types

end Go.Proofs.YtilomlohjhhbnaaDoor.R
