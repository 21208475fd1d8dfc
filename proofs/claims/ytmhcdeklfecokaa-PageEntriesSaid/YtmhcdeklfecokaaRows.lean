/-
  No cell of these rows narrows 'for every input' (looked for: loops, veiled, ifaces, maps, wideKeys, modest, calm, conditions, laid).
  DERIVED. THE GIVEN ROWS OF THIS SEAT. 7 by the template 'for every input the law returns true; each argument reads behind the call as it read before'; 0 by the template 'total and deterministic' (their statements: YtmhcdeklfecokaaTotals.lean).
  GIVEN WITH THE SEED: the statements are not yours to turn. If you find one false, say at which input.
  Laid BY PROGRAM, IN A SANDBOX (cutbox-rows.mjs): the forced cells as the released guide's own fill.sh prints them over the translation 909cb505e577c544… (all of the seat's roots in one cut). By AI agents, Wed Nov 11 2026. No macro, syntax, notation, axiom, sorry.
-/
import Derived.Test.YtmhcdeklfecokaaChecked
import GoSem.Claim
import GoSem.ClaimJoined
import GoSem.ClaimMapViews
import Derived.JoinedTies
import Derived.KernelRfl
namespace Go.Proofs.Ytmhcdeklfecokaa
/- THE CELL 'sum', in the pinned program and in every row, IS THE sha256 OF THE DUMP (.gsa) THAT YtmhcdeklfecokaaProg.lean LOADS. Nothing in Lean hashes anything: it is a label: what it is worth is what the hold of that sum in a sandbox is worth. -/
noncomputable def Try.pinned : Pinned := { name := "ytmhcdeklfecokaa", sum := "909cb505e577c544ad5b7d4a2a4b6f54885ff50d52273a609c05b108012d62e0", checked := Try.checked }
namespace Rows
def none {H : Type} : Left H := { results := [], args := [] }

/-- 'bulkheadlaw09.PageEntries': WHATEVER THE INPUT: true; the input reads as it did. -/
def pageEntriesSpec : ChangeSpec := { name := "pageEntries", fn := fun _ => fun
  | [d1, d2, d3] => { results := [.lit (.bool true)], args := [d1, d2, d3] }
  | _ => none }
def pageEntriesRow : OpenClaim := { program := "ytmhcdeklfecokaa", sum := "909cb505e577c544ad5b7d4a2a4b6f54885ff50d52273a609c05b108012d62e0", func := "bulkhead/bulkheadlaw09.PageEntries", spec := "pageEntries", apart := false }
def PageEntriesSaid : Prop := pageEntriesRow.holds Try.pinned (OpenSpec.ofChange pageEntriesSpec)

/-- ITS FALSE NEIGHBOUR: 'it returns false'. Refute it at one input. -/
def pageEntriesWrong : ChangeSpec := { name := "pageEntries", fn := fun _ => fun
  | [d1, d2, d3] => { results := [.lit (.bool false)], args := [d1, d2, d3] }
  | _ => none }
def PageEntriesWrongFalsely : Prop := pageEntriesRow.holds Try.pinned (OpenSpec.ofChange pageEntriesWrong)

/-- 'bulkheadlaw11.UartOrder': WHATEVER THE INPUT: true; the input reads as it did. -/
def uartOrderSpec : ChangeSpec := { name := "uartOrder", fn := fun _ => fun
  | [d1, d2] => { results := [.lit (.bool true)], args := [d1, d2] }
  | _ => none }
def uartOrderRow : OpenClaim := { program := "ytmhcdeklfecokaa", sum := "909cb505e577c544ad5b7d4a2a4b6f54885ff50d52273a609c05b108012d62e0", func := "bulkhead/bulkheadlaw11.UartOrder", spec := "uartOrder", apart := false }
def UartOrderSaid : Prop := uartOrderRow.holds Try.pinned (OpenSpec.ofChange uartOrderSpec)

/-- ITS FALSE NEIGHBOUR: 'it returns false'. Refute it at one input. -/
def uartOrderWrong : ChangeSpec := { name := "uartOrder", fn := fun _ => fun
  | [d1, d2] => { results := [.lit (.bool false)], args := [d1, d2] }
  | _ => none }
def UartOrderWrongFalsely : Prop := uartOrderRow.holds Try.pinned (OpenSpec.ofChange uartOrderWrong)

/-- 'bulkheadlaw11.UartPieces': WHATEVER THE INPUT: true; the input reads as it did. -/
def uartPiecesSpec : ChangeSpec := { name := "uartPieces", fn := fun _ => fun
  | [d1, d2] => { results := [.lit (.bool true)], args := [d1, d2] }
  | _ => none }
def uartPiecesRow : OpenClaim := { program := "ytmhcdeklfecokaa", sum := "909cb505e577c544ad5b7d4a2a4b6f54885ff50d52273a609c05b108012d62e0", func := "bulkhead/bulkheadlaw11.UartPieces", spec := "uartPieces", apart := false }
def UartPiecesSaid : Prop := uartPiecesRow.holds Try.pinned (OpenSpec.ofChange uartPiecesSpec)

/-- ITS FALSE NEIGHBOUR: 'it returns false'. Refute it at one input. -/
def uartPiecesWrong : ChangeSpec := { name := "uartPieces", fn := fun _ => fun
  | [d1, d2] => { results := [.lit (.bool false)], args := [d1, d2] }
  | _ => none }
def UartPiecesWrongFalsely : Prop := uartPiecesRow.holds Try.pinned (OpenSpec.ofChange uartPiecesWrong)

/-- 'bulkheadlaw11.UartPlays': WHATEVER THE INPUT: true; the input reads as it did. -/
def uartPlaysSpec : ChangeSpec := { name := "uartPlays", fn := fun _ => fun
  | [d1, d2] => { results := [.lit (.bool true)], args := [d1, d2] }
  | _ => none }
def uartPlaysRow : OpenClaim := { program := "ytmhcdeklfecokaa", sum := "909cb505e577c544ad5b7d4a2a4b6f54885ff50d52273a609c05b108012d62e0", func := "bulkhead/bulkheadlaw11.UartPlays", spec := "uartPlays", apart := false }
def UartPlaysSaid : Prop := uartPlaysRow.holds Try.pinned (OpenSpec.ofChange uartPlaysSpec)

/-- ITS FALSE NEIGHBOUR: 'it returns false'. Refute it at one input. -/
def uartPlaysWrong : ChangeSpec := { name := "uartPlays", fn := fun _ => fun
  | [d1, d2] => { results := [.lit (.bool false)], args := [d1, d2] }
  | _ => none }
def UartPlaysWrongFalsely : Prop := uartPlaysRow.holds Try.pinned (OpenSpec.ofChange uartPlaysWrong)

/-- 'bulkheadlaw19.VconOrder': WHATEVER THE INPUT: true; the input reads as it did. -/
def vconOrderSpec : ChangeSpec := { name := "vconOrder", fn := fun _ => fun
  | [d] => { results := [.lit (.bool true)], args := [d] }
  | _ => none }
def vconOrderRow : OpenClaim := { program := "ytmhcdeklfecokaa", sum := "909cb505e577c544ad5b7d4a2a4b6f54885ff50d52273a609c05b108012d62e0", func := "bulkhead/bulkheadlaw19.VconOrder", spec := "vconOrder", apart := false }
def VconOrderSaid : Prop := vconOrderRow.holds Try.pinned (OpenSpec.ofChange vconOrderSpec)

/-- ITS FALSE NEIGHBOUR: 'it returns false'. Refute it at one input. -/
def vconOrderWrong : ChangeSpec := { name := "vconOrder", fn := fun _ => fun
  | [d] => { results := [.lit (.bool false)], args := [d] }
  | _ => none }
def VconOrderWrongFalsely : Prop := vconOrderRow.holds Try.pinned (OpenSpec.ofChange vconOrderWrong)

/-- 'bulkheadlaw19.VconFull': WHATEVER THE INPUT: true; the input reads as it did. -/
def vconFullSpec : ChangeSpec := { name := "vconFull", fn := fun _ => fun
  | [d1, d2, d3] => { results := [.lit (.bool true)], args := [d1, d2, d3] }
  | _ => none }
def vconFullRow : OpenClaim := { program := "ytmhcdeklfecokaa", sum := "909cb505e577c544ad5b7d4a2a4b6f54885ff50d52273a609c05b108012d62e0", func := "bulkhead/bulkheadlaw19.VconFull", spec := "vconFull", apart := false }
def VconFullSaid : Prop := vconFullRow.holds Try.pinned (OpenSpec.ofChange vconFullSpec)

/-- ITS FALSE NEIGHBOUR: 'it returns false'. Refute it at one input. -/
def vconFullWrong : ChangeSpec := { name := "vconFull", fn := fun _ => fun
  | [d1, d2, d3] => { results := [.lit (.bool false)], args := [d1, d2, d3] }
  | _ => none }
def VconFullWrongFalsely : Prop := vconFullRow.holds Try.pinned (OpenSpec.ofChange vconFullWrong)

/-- 'bulkheadlaw19.VconPlays': WHATEVER THE INPUT: true; the input reads as it did. -/
def vconPlaysSpec : ChangeSpec := { name := "vconPlays", fn := fun _ => fun
  | [d] => { results := [.lit (.bool true)], args := [d] }
  | _ => none }
def vconPlaysRow : OpenClaim := { program := "ytmhcdeklfecokaa", sum := "909cb505e577c544ad5b7d4a2a4b6f54885ff50d52273a609c05b108012d62e0", func := "bulkhead/bulkheadlaw19.VconPlays", spec := "vconPlays", apart := false }
def VconPlaysSaid : Prop := vconPlaysRow.holds Try.pinned (OpenSpec.ofChange vconPlaysSpec)

/-- ITS FALSE NEIGHBOUR: 'it returns false'. Refute it at one input. -/
def vconPlaysWrong : ChangeSpec := { name := "vconPlays", fn := fun _ => fun
  | [d] => { results := [.lit (.bool false)], args := [d] }
  | _ => none }
def VconPlaysWrongFalsely : Prop := vconPlaysRow.holds Try.pinned (OpenSpec.ofChange vconPlaysWrong)

/- THE SECOND FORM. 'bulk': how many values and letters a reading holds, each counted each time it is reached (what is shared counts as often as it is met; a slice's spare places count too). A statement '..UptoSaid' is the law's where the arguments, and the package variables that the reading takes, are together of bulk at most 1048576: NARROWER than '..Said'. Prove '..Said' where nothing that the law and all that it calls make is longer than what came in: it says more and counts as full. Else prove '..UptoSaid'. A law counts once. -/
mutual
def uptoBulk {H : Type} : DataW H → Nat
  | .lit (.string bytes) => bytes.length + 1
  | .lit _ => 1
  | .nil => 1
  | .ptr d => uptoBulk d + 1
  | .slice elems spare => uptoBulkAll elems + uptoBulkAll spare + 1
  | .agg parts => uptoBulkAll parts + 1
  | .iface _ d => uptoBulk d + 1
  | .map entries => uptoBulkEntries entries + 1
  | .held _ => 1
def uptoBulkAll {H : Type} : List (DataW H) → Nat
  | [] => 0
  | d :: r => uptoBulk d + uptoBulkAll r
def uptoBulkEntries {H : Type} : List (Lit × DataW H) → Nat
  | [] => 0
  | x :: r => uptoBulkEntry x + uptoBulkEntries r
def uptoBulkEntry {H : Type} : Lit × DataW H → Nat
  | (.string bytes, d) => bytes.length + uptoBulk d + 1
  | (_, d) => uptoBulk d + 1
 end
def uptoSmall : (H : Type) → List (DataW H) → Bool := fun _ ds => decide (uptoBulkAll ds ≤ 1048576)
def OpenSpec.upto (s : _root_.Go.ChangeSpec) : _root_.Go.OpenSpec := { _root_.Go.OpenSpec.ofChange s with cond := some uptoSmall }

/-- 'bulkheadlaw09.PageEntries', WHERE WHAT IT READS IS OF BULK AT MOST 1048576: true; the input reads as it did. -/
def pageEntriesUptoRow : OpenClaim := { program := "ytmhcdeklfecokaa", sum := "909cb505e577c544ad5b7d4a2a4b6f54885ff50d52273a609c05b108012d62e0", func := "bulkhead/bulkheadlaw09.PageEntries", spec := "pageEntries", apart := false, narrowed := true }
def PageEntriesUptoSaid : Prop := pageEntriesUptoRow.holds Try.pinned (OpenSpec.upto pageEntriesSpec)

/-- 'bulkheadlaw11.UartOrder', WHERE WHAT IT READS IS OF BULK AT MOST 1048576: true; the input reads as it did. -/
def uartOrderUptoRow : OpenClaim := { program := "ytmhcdeklfecokaa", sum := "909cb505e577c544ad5b7d4a2a4b6f54885ff50d52273a609c05b108012d62e0", func := "bulkhead/bulkheadlaw11.UartOrder", spec := "uartOrder", apart := false, narrowed := true }
def UartOrderUptoSaid : Prop := uartOrderUptoRow.holds Try.pinned (OpenSpec.upto uartOrderSpec)

/-- 'bulkheadlaw11.UartPieces', WHERE WHAT IT READS IS OF BULK AT MOST 1048576: true; the input reads as it did. -/
def uartPiecesUptoRow : OpenClaim := { program := "ytmhcdeklfecokaa", sum := "909cb505e577c544ad5b7d4a2a4b6f54885ff50d52273a609c05b108012d62e0", func := "bulkhead/bulkheadlaw11.UartPieces", spec := "uartPieces", apart := false, narrowed := true }
def UartPiecesUptoSaid : Prop := uartPiecesUptoRow.holds Try.pinned (OpenSpec.upto uartPiecesSpec)

/-- 'bulkheadlaw11.UartPlays', WHERE WHAT IT READS IS OF BULK AT MOST 1048576: true; the input reads as it did. -/
def uartPlaysUptoRow : OpenClaim := { program := "ytmhcdeklfecokaa", sum := "909cb505e577c544ad5b7d4a2a4b6f54885ff50d52273a609c05b108012d62e0", func := "bulkhead/bulkheadlaw11.UartPlays", spec := "uartPlays", apart := false, narrowed := true }
def UartPlaysUptoSaid : Prop := uartPlaysUptoRow.holds Try.pinned (OpenSpec.upto uartPlaysSpec)

/-- 'bulkheadlaw19.VconOrder', WHERE WHAT IT READS IS OF BULK AT MOST 1048576: true; the input reads as it did. -/
def vconOrderUptoRow : OpenClaim := { program := "ytmhcdeklfecokaa", sum := "909cb505e577c544ad5b7d4a2a4b6f54885ff50d52273a609c05b108012d62e0", func := "bulkhead/bulkheadlaw19.VconOrder", spec := "vconOrder", apart := false, narrowed := true }
def VconOrderUptoSaid : Prop := vconOrderUptoRow.holds Try.pinned (OpenSpec.upto vconOrderSpec)

/-- 'bulkheadlaw19.VconFull', WHERE WHAT IT READS IS OF BULK AT MOST 1048576: true; the input reads as it did. -/
def vconFullUptoRow : OpenClaim := { program := "ytmhcdeklfecokaa", sum := "909cb505e577c544ad5b7d4a2a4b6f54885ff50d52273a609c05b108012d62e0", func := "bulkhead/bulkheadlaw19.VconFull", spec := "vconFull", apart := false, narrowed := true }
def VconFullUptoSaid : Prop := vconFullUptoRow.holds Try.pinned (OpenSpec.upto vconFullSpec)

/-- 'bulkheadlaw19.VconPlays', WHERE WHAT IT READS IS OF BULK AT MOST 1048576: true; the input reads as it did. -/
def vconPlaysUptoRow : OpenClaim := { program := "ytmhcdeklfecokaa", sum := "909cb505e577c544ad5b7d4a2a4b6f54885ff50d52273a609c05b108012d62e0", func := "bulkhead/bulkheadlaw19.VconPlays", spec := "vconPlays", apart := false, narrowed := true }
def VconPlaysUptoSaid : Prop := vconPlaysUptoRow.holds Try.pinned (OpenSpec.upto vconPlaysSpec)

end Rows
end Go.Proofs.Ytmhcdeklfecokaa
