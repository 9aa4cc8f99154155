/-
  No cell of these rows narrows 'for every input' (looked for: loops, veiled, ifaces, maps, wideKeys, modest, calm, conditions, laid).
  DERIVED. THE GIVEN ROWS OF THIS SEAT. 3 by the template 'for every input the law returns true; each argument reads behind the call as it read before'; 0 by the template 'total and deterministic' (their statements: YtbmddfkmlhmbgaaTotals.lean).
  GIVEN WITH THE SEED: the statements are not yours to turn. If you find one false, say at which input.
  Laid BY PROGRAM, IN A SANDBOX (cutbox-rows.mjs): the forced cells as the released guide's own fill.sh prints them over the translation fe2dfa4314886a77… (all of the seat's roots in one cut). By AI agents, Wed Nov 11 2026. No macro, syntax, notation, axiom, sorry.
-/
import Derived.Test.YtbmddfkmlhmbgaaChecked
import GoSem.Claim
import GoSem.ClaimJoined
import GoSem.ClaimMapViews
import Derived.JoinedTies
import Derived.KernelRfl
namespace Go.Proofs.Ytbmddfkmlhmbgaa
/- THE CELL 'sum', in the pinned program and in every row, IS THE sha256 OF THE DUMP (.gsa) THAT YtbmddfkmlhmbgaaProg.lean LOADS. Nothing in Lean hashes anything: it is a label: what it is worth is what the hold of that sum in a sandbox is worth. -/
noncomputable def Try.pinned : Pinned := { name := "ytbmddfkmlhmbgaa", sum := "fe2dfa4314886a7787ab1ed1c478fc2b52b8a6424e1f6a5f2d18096e56a2f18d", checked := Try.checked }
namespace Rows
def none {H : Type} : Left H := { results := [], args := [] }

/-- 'demesnelaw04.BitmapTells': WHATEVER THE INPUT: true; the input reads as it did. -/
def bitmapTellsSpec : ChangeSpec := { name := "bitmapTells", fn := fun _ => fun
  | [d1, d2, d3, d4] => { results := [.lit (.bool true)], args := [d1, d2, d3, d4] }
  | _ => none }
def bitmapTellsRow : OpenClaim := { program := "ytbmddfkmlhmbgaa", sum := "fe2dfa4314886a7787ab1ed1c478fc2b52b8a6424e1f6a5f2d18096e56a2f18d", func := "demesne/demesnelaw04.BitmapTells", spec := "bitmapTells", unfollowed := true, recurses := true, apart := false }
def BitmapTellsSaid : Prop := bitmapTellsRow.holds Try.pinned (OpenSpec.ofChange bitmapTellsSpec)

/-- ITS FALSE NEIGHBOUR: 'it returns false'. Refute it at one input. -/
def bitmapTellsWrong : ChangeSpec := { name := "bitmapTells", fn := fun _ => fun
  | [d1, d2, d3, d4] => { results := [.lit (.bool false)], args := [d1, d2, d3, d4] }
  | _ => none }
def BitmapTellsWrongFalsely : Prop := bitmapTellsRow.holds Try.pinned (OpenSpec.ofChange bitmapTellsWrong)

/-- 'demesnelaw04.BitmapTakes': WHATEVER THE INPUT: true; the input reads as it did. -/
def bitmapTakesSpec : ChangeSpec := { name := "bitmapTakes", fn := fun _ => fun
  | [d1, d2, d3] => { results := [.lit (.bool true)], args := [d1, d2, d3] }
  | _ => none }
def bitmapTakesRow : OpenClaim := { program := "ytbmddfkmlhmbgaa", sum := "fe2dfa4314886a7787ab1ed1c478fc2b52b8a6424e1f6a5f2d18096e56a2f18d", func := "demesne/demesnelaw04.BitmapTakes", spec := "bitmapTakes", unfollowed := true, recurses := true, apart := false }
def BitmapTakesSaid : Prop := bitmapTakesRow.holds Try.pinned (OpenSpec.ofChange bitmapTakesSpec)

/-- ITS FALSE NEIGHBOUR: 'it returns false'. Refute it at one input. -/
def bitmapTakesWrong : ChangeSpec := { name := "bitmapTakes", fn := fun _ => fun
  | [d1, d2, d3] => { results := [.lit (.bool false)], args := [d1, d2, d3] }
  | _ => none }
def BitmapTakesWrongFalsely : Prop := bitmapTakesRow.holds Try.pinned (OpenSpec.ofChange bitmapTakesWrong)

/-- 'demesnelaw04.BitmapApart': WHATEVER THE INPUT: true; the input reads as it did. -/
def bitmapApartSpec : ChangeSpec := { name := "bitmapApart", fn := fun _ => fun
  | [d1, d2] => { results := [.lit (.bool true)], args := [d1, d2] }
  | _ => none }
def bitmapApartRow : OpenClaim := { program := "ytbmddfkmlhmbgaa", sum := "fe2dfa4314886a7787ab1ed1c478fc2b52b8a6424e1f6a5f2d18096e56a2f18d", func := "demesne/demesnelaw04.BitmapApart", spec := "bitmapApart", unfollowed := true, recurses := true, apart := false }
def BitmapApartSaid : Prop := bitmapApartRow.holds Try.pinned (OpenSpec.ofChange bitmapApartSpec)

/-- ITS FALSE NEIGHBOUR: 'it returns false'. Refute it at one input. -/
def bitmapApartWrong : ChangeSpec := { name := "bitmapApart", fn := fun _ => fun
  | [d1, d2] => { results := [.lit (.bool false)], args := [d1, d2] }
  | _ => none }
def BitmapApartWrongFalsely : Prop := bitmapApartRow.holds Try.pinned (OpenSpec.ofChange bitmapApartWrong)

/- THE SECOND FORM. 'bulk': how many values and letters a reading holds, each counted each time it is reached (what is shared counts as often as it is met; a slice's spare places count too). A statement '..UptoSaid' is the law's where the arguments, and the package variables that the reading takes, are together of bulk at most 1048576: NARROWER than '..Said'. Prove '..Said' where nothing that the law and all that it calls make is longer than what came in: it says more and counts as full. Else prove '..UptoSaid'. A law counts once. -/
mutual
def uptoBulk {H : Type} : DataW H → Nat
  | .lit (.string bytes) => bytes.length + 1
  | .lit _ => 1
  | .nil => 1
  | .ptr d => uptoBulk d + 1
  | .slice elems spare => uptoBulkAll elems + uptoBulkAll spare + 1
  | .agg parts => uptoBulkAll parts + 1
  | .iface _ d => uptoBulk d + 1
  | .map entries => uptoBulkEntries entries + 1
  | .held _ => 1
def uptoBulkAll {H : Type} : List (DataW H) → Nat
  | [] => 0
  | d :: r => uptoBulk d + uptoBulkAll r
def uptoBulkEntries {H : Type} : List (Lit × DataW H) → Nat
  | [] => 0
  | x :: r => uptoBulkEntry x + uptoBulkEntries r
def uptoBulkEntry {H : Type} : Lit × DataW H → Nat
  | (.string bytes, d) => bytes.length + uptoBulk d + 1
  | (_, d) => uptoBulk d + 1
 end
def uptoSmall : (H : Type) → List (DataW H) → Bool := fun _ ds => decide (uptoBulkAll ds ≤ 1048576)
def OpenSpec.upto (s : _root_.Go.ChangeSpec) : _root_.Go.OpenSpec := { _root_.Go.OpenSpec.ofChange s with cond := some uptoSmall }

/-- 'demesnelaw04.BitmapTells', WHERE WHAT IT READS IS OF BULK AT MOST 1048576: true; the input reads as it did. -/
def bitmapTellsUptoRow : OpenClaim := { program := "ytbmddfkmlhmbgaa", sum := "fe2dfa4314886a7787ab1ed1c478fc2b52b8a6424e1f6a5f2d18096e56a2f18d", func := "demesne/demesnelaw04.BitmapTells", spec := "bitmapTells", unfollowed := true, recurses := true, apart := false, narrowed := true }
def BitmapTellsUptoSaid : Prop := bitmapTellsUptoRow.holds Try.pinned (OpenSpec.upto bitmapTellsSpec)

/-- 'demesnelaw04.BitmapTakes', WHERE WHAT IT READS IS OF BULK AT MOST 1048576: true; the input reads as it did. -/
def bitmapTakesUptoRow : OpenClaim := { program := "ytbmddfkmlhmbgaa", sum := "fe2dfa4314886a7787ab1ed1c478fc2b52b8a6424e1f6a5f2d18096e56a2f18d", func := "demesne/demesnelaw04.BitmapTakes", spec := "bitmapTakes", unfollowed := true, recurses := true, apart := false, narrowed := true }
def BitmapTakesUptoSaid : Prop := bitmapTakesUptoRow.holds Try.pinned (OpenSpec.upto bitmapTakesSpec)

/-- 'demesnelaw04.BitmapApart', WHERE WHAT IT READS IS OF BULK AT MOST 1048576: true; the input reads as it did. -/
def bitmapApartUptoRow : OpenClaim := { program := "ytbmddfkmlhmbgaa", sum := "fe2dfa4314886a7787ab1ed1c478fc2b52b8a6424e1f6a5f2d18096e56a2f18d", func := "demesne/demesnelaw04.BitmapApart", spec := "bitmapApart", unfollowed := true, recurses := true, apart := false, narrowed := true }
def BitmapApartUptoSaid : Prop := bitmapApartUptoRow.holds Try.pinned (OpenSpec.upto bitmapApartSpec)

end Rows
end Go.Proofs.Ytbmddfkmlhmbgaa
