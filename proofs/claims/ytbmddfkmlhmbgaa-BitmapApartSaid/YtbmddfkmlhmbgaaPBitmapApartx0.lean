/- Proved here: of Go functions of this seat, what each call answers, as a Lean function of the same answers ('.f', '.calls'), or (the text Law..) the statement itself out of the text Pure..; no condition but those that each theorem writes out. Laid by a program of this session over the kit's print; by hand: demesne/bitmap.Find, demesne/demesneref04.All, demesne/demesneref04.Is, demesne/demesneref04.With. -/
import Derived.Test.YtbmddfkmlhmbgaaProg
import Derived.Below
import Derived.Deep.Draws
import Derived.Deep.AppendLies
import Derived.Maps.AppendAt
import Derived.OwnWalk
import Derived.Laws.BytesArg
import Derived.Laws.MakeOwn
import Derived.Laws.OwnMore
import Derived.Deep.OwnRows
import Derived.Tactics
import Derived.Lib.ConvBytes
import Derived.Laws.Slices
import Derived.WalkKit
import Derived.KernelRfl
import Derived.RowKit3
import Derived.Deep.LoopGhost
import Derived.Deep.QuietTactic
import Derived.BigQuiet
import Derived.WideLaws
import Derived.Deep.DeepCutAuto
import Derived.Deep.CutBlock
import Derived.Deep.RegionHeld3
import Derived.Laws.Rows
import Derived.Lib.AppendStr
import Derived.ArgAppend
import Derived.Laws.IdiomCopy
import Derived.OrdersHeld
import Derived.Laws.BitsLemmas
import Derived.RowKit
import Derived.Test.YtbmddfkmlhmbgaaHand
import Derived.Test.YtbmddfkmlhmbgaaWWords
import Derived.Test.YtbmddfkmlhmbgaaWLast
import Derived.Test.YtbmddfkmlhmbgaaWTab
import Derived.Test.YtbmddfkmlhmbgaaWFour
import Derived.Test.YtbmddfkmlhmbgaaWQPut
import Derived.Test.YtbmddfkmlhmbgaaWApart
import Derived.Test.YtbmddfkmlhmbgaaWArr
import Derived.Test.YtbmddfkmlhmbgaaWZeros
import Derived.Test.YtbmddfkmlhmbgaaWFoot
import Derived.Test.YtbmddfkmlhmbgaaWKept
import Derived.Test.YtbmddfkmlhmbgaaWShare
import Derived.Test.YtbmddfkmlhmbgaaWN
import Derived.Test.YtbmddfkmlhmbgaaWFootNe
import Derived.Test.YtbmddfkmlhmbgaaWAt
import Derived.Test.YtbmddfkmlhmbgaaWEqStruct
import Derived.Test.YtbmddfkmlhmbgaaWRepsOne
import Derived.Test.YtbmddfkmlhmbgaaWInv
import Derived.Test.YtbmddfkmlhmbgaaWInvWords
import Derived.Test.YtbmddfkmlhmbgaaWGuard
import Derived.Test.YtbmddfkmlhmbgaaWNEv
import Derived.Test.YtbmddfkmlhmbgaaWMore
namespace Go.Proofs.Ytbmddfkmlhmbgaa.PBitmapApart
open Go.RowKit Go.Proofs.YtbmddfkmlhmbgaaW.PrintWords Go.Proofs.YtbmddfkmlhmbgaaW.PrintLast Go.Proofs.YtbmddfkmlhmbgaaW.PrintMore
attribute [local go_sem] max2_int min2_int max_two min_two max_three min_three max_four min_four   -- for this text's walks alone
set_option linter.unusedVariables false
set_option linter.unusedSimpArgs false



def errW : Option Int → Value
  | none => .nilIface
  | some c => .iface 0 (.int .i64 c)
theorem errW_none : errW none = .nilIface := rfl
theorem errW_some (c : Int) : errW (some c) = .iface 0 (.int .i64 c) := rfl

-- the values' own types

end Go.Proofs.Ytbmddfkmlhmbgaa.PBitmapApart
