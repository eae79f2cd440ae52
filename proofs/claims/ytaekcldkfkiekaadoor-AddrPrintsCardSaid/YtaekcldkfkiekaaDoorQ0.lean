-- PRINTED by print.py (a twelfth state) out of the translation. Not trusted: Lean checks it.
import Derived.Test.YtaekcldkfkiekaaDoorProg
import Derived.Below
import Derived.Deep.Draws
import Derived.Deep.AppendLies
import Derived.Maps.AppendAt
import Derived.OwnWalk
import Derived.Laws.BytesArg
import Derived.Laws.MakeOwn
import Derived.Laws.OwnMore
import Derived.Deep.OwnRows
import Derived.Tactics
import Derived.Lib.ConvBytes
import Derived.Laws.Slices
import Derived.WalkKit
import Derived.KernelRfl
import Derived.RowKit3
import Derived.Deep.LoopGhost
import Derived.Deep.QuietTactic
import Derived.BigQuiet
import Derived.WideLaws
import Derived.Deep.DeepCutAuto
import Derived.Deep.CutBlock
import Derived.Deep.RegionHeld3
import Derived.Laws.Rows
import Derived.Lib.AppendStr
import Derived.ArgAppend
import Derived.Laws.IdiomCopy
import Derived.OrdersHeld
import Derived.Laws.BitsLemmas
import Derived.RowKit
import Derived.Test.YtaekcldkfkiekaaDoorWWords
import Derived.Test.YtaekcldkfkiekaaDoorWLast
import Derived.Test.YtaekcldkfkiekaaDoorWTab
import Derived.Test.YtaekcldkfkiekaaDoorWFour
import Derived.Test.YtaekcldkfkiekaaDoorWQPut
import Derived.Test.YtaekcldkfkiekaaDoorWApart
import Derived.Test.YtaekcldkfkiekaaDoorWArr
import Derived.Test.YtaekcldkfkiekaaDoorWZeros
import Derived.Test.YtaekcldkfkiekaaDoorWFoot
import Derived.Test.YtaekcldkfkiekaaDoorWKept
import Derived.Test.YtaekcldkfkiekaaDoorWShare
import Derived.Test.YtaekcldkfkiekaaDoorWN
import Derived.Test.YtaekcldkfkiekaaDoorWFootNe
import Derived.Test.YtaekcldkfkiekaaDoorWAt
import Derived.Test.YtaekcldkfkiekaaDoorWEqStruct
import Derived.Test.YtaekcldkfkiekaaDoorWRepsOne
import Derived.Test.YtaekcldkfkiekaaDoorWInv
import Derived.Test.YtaekcldkfkiekaaDoorWInvWords
import Derived.Test.YtaekcldkfkiekaaDoorWGuard
import Derived.Test.YtaekcldkfkiekaaDoorWNEv
import Derived.Test.YtaekcldkfkiekaaDoorWMore
namespace Go.Proofs.YtaekcldkfkiekaaDoor.Q
open Go.RowKit Go.Proofs.YtaekcldkfkiekaaDoorW.PrintWords Go.Proofs.YtaekcldkfkiekaaDoorW.PrintLast Go.Proofs.YtaekcldkfkiekaaDoorW.PrintMore
attribute [local go_sem] max2_int min2_int max_two min_two max_three min_three max_four min_four   -- for this text's walks alone
set_option linter.unusedVariables false
set_option linter.unusedSimpArgs false



def errW : Option Int → Value
  | none => .nilIface
  | some c => .iface 107 (.int .i64 c)
theorem errW_none : errW none = .nilIface := rfl
theorem errW_some (c : Int) : errW (some c) = .iface 107 (.int .i64 c) := rfl

theorem info3 : (Tryd.prog.info? 3).map (fun i => (i.zero, i.size, i.bytes)) = some (some (.int .i64 0), 1, 8) := by kernel_rfl
theorem info5 : (Tryd.prog.info? 5).map (fun i => (i.zero, i.size, i.bytes)) = some (some (.int .u8 0), 1, 1) := by kernel_rfl
theorem info9 : (Tryd.prog.info? 9).map (fun i => (i.zero, i.size, i.bytes)) = some (some (.string ⟨#[]⟩), 1, 16) := by kernel_rfl
theorem info23 : (Tryd.prog.info? 23).map (fun i => (i.zero, i.size, i.bytes)) = some (some (.int .u64 0), 1, 8) := by kernel_rfl
theorem info53 : (Tryd.prog.info? 53).map (fun i => (i.zero, i.size, i.bytes)) = some (some (.int .u16 0), 1, 2) := by kernel_rfl
-- the values' own types

end Go.Proofs.YtaekcldkfkiekaaDoor.Q
