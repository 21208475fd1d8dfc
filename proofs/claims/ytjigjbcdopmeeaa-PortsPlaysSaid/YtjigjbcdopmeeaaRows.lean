/-
  No cell of these rows narrows 'for every input' (looked for: loops, veiled, ifaces, maps, wideKeys, modest, calm, conditions, laid).
  DERIVED. THE GIVEN ROWS OF THIS SEAT. 9 by the template 'for every input the law returns true; each argument reads behind the call as it read before'; 0 by the template 'total and deterministic' (their statements: YtjigjbcdopmeeaaTotals.lean).
  GIVEN WITH THE SEED: the statements are not yours to turn. If you find one false, say at which input.
  Laid BY PROGRAM, IN A SANDBOX (cutbox-rows.mjs): the forced cells as the released guide's own fill.sh prints them over the translation 0262fe450733d5bf… (all of the seat's roots in one cut). By AI agents, Wed Nov 11 2026. No macro, syntax, notation, axiom, sorry.
-/
import Derived.Test.YtjigjbcdopmeeaaChecked
import GoSem.Claim
import GoSem.ClaimJoined
import GoSem.ClaimMapViews
import Derived.JoinedTies
import Derived.KernelRfl
namespace Go.Proofs.Ytjigjbcdopmeeaa
/- THE CELL 'sum', in the pinned program and in every row, IS THE sha256 OF THE DUMP (.gsa) THAT YtjigjbcdopmeeaaProg.lean LOADS. Nothing in Lean hashes anything: it is a label: what it is worth is what the hold of that sum in a sandbox is worth. -/
noncomputable def Try.pinned : Pinned := { name := "ytjigjbcdopmeeaa", sum := "0262fe450733d5bfd573f7e3bf3d3d728b62b5ad77fca7ec684bf850f06d299d", checked := Try.checked }
namespace Rows
def none {H : Type} : Left H := { results := [], args := [] }

/-- 'bulkheadlaw16.FramesLeast': WHATEVER THE INPUT: true; the input reads as it did. -/
def framesLeastSpec : ChangeSpec := { name := "framesLeast", fn := fun _ => fun
  | [d1, d2] => { results := [.lit (.bool true)], args := [d1, d2] }
  | _ => none }
def framesLeastRow : OpenClaim := { program := "ytjigjbcdopmeeaa", sum := "0262fe450733d5bfd573f7e3bf3d3d728b62b5ad77fca7ec684bf850f06d299d", func := "bulkhead/bulkheadlaw16.FramesLeast", spec := "framesLeast", apart := false }
def FramesLeastSaid : Prop := framesLeastRow.holds Try.pinned (OpenSpec.ofChange framesLeastSpec)

/-- ITS FALSE NEIGHBOUR: 'it returns false'. Refute it at one input. -/
def framesLeastWrong : ChangeSpec := { name := "framesLeast", fn := fun _ => fun
  | [d1, d2] => { results := [.lit (.bool false)], args := [d1, d2] }
  | _ => none }
def FramesLeastWrongFalsely : Prop := framesLeastRow.holds Try.pinned (OpenSpec.ofChange framesLeastWrong)

/-- 'bulkheadlaw16.FramesOthers': WHATEVER THE INPUT: true; the input reads as it did. -/
def framesOthersSpec : ChangeSpec := { name := "framesOthers", fn := fun _ => fun
  | [d1, d2, d3] => { results := [.lit (.bool true)], args := [d1, d2, d3] }
  | _ => none }
def framesOthersRow : OpenClaim := { program := "ytjigjbcdopmeeaa", sum := "0262fe450733d5bfd573f7e3bf3d3d728b62b5ad77fca7ec684bf850f06d299d", func := "bulkhead/bulkheadlaw16.FramesOthers", spec := "framesOthers", apart := false }
def FramesOthersSaid : Prop := framesOthersRow.holds Try.pinned (OpenSpec.ofChange framesOthersSpec)

/-- ITS FALSE NEIGHBOUR: 'it returns false'. Refute it at one input. -/
def framesOthersWrong : ChangeSpec := { name := "framesOthers", fn := fun _ => fun
  | [d1, d2, d3] => { results := [.lit (.bool false)], args := [d1, d2, d3] }
  | _ => none }
def FramesOthersWrongFalsely : Prop := framesOthersRow.holds Try.pinned (OpenSpec.ofChange framesOthersWrong)

/-- 'bulkheadlaw16.FramesApart': WHATEVER THE INPUT: true; the input reads as it did. -/
def framesApartSpec : ChangeSpec := { name := "framesApart", fn := fun _ => fun
  | [d1, d2] => { results := [.lit (.bool true)], args := [d1, d2] }
  | _ => none }
def framesApartRow : OpenClaim := { program := "ytjigjbcdopmeeaa", sum := "0262fe450733d5bfd573f7e3bf3d3d728b62b5ad77fca7ec684bf850f06d299d", func := "bulkhead/bulkheadlaw16.FramesApart", spec := "framesApart", apart := false }
def FramesApartSaid : Prop := framesApartRow.holds Try.pinned (OpenSpec.ofChange framesApartSpec)

/-- ITS FALSE NEIGHBOUR: 'it returns false'. Refute it at one input. -/
def framesApartWrong : ChangeSpec := { name := "framesApart", fn := fun _ => fun
  | [d1, d2] => { results := [.lit (.bool false)], args := [d1, d2] }
  | _ => none }
def FramesApartWrongFalsely : Prop := framesApartRow.holds Try.pinned (OpenSpec.ofChange framesApartWrong)

/-- 'bulkheadlaw21.PortsSample': WHATEVER THE INPUT: true; the input reads as it did. -/
def portsSampleSpec : ChangeSpec := { name := "portsSample", fn := fun _ => fun
  | [d] => { results := [.lit (.bool true)], args := [d] }
  | _ => none }
def portsSampleRow : OpenClaim := { program := "ytjigjbcdopmeeaa", sum := "0262fe450733d5bfd573f7e3bf3d3d728b62b5ad77fca7ec684bf850f06d299d", func := "bulkhead/bulkheadlaw21.PortsSample", spec := "portsSample", apart := false }
def PortsSampleSaid : Prop := portsSampleRow.holds Try.pinned (OpenSpec.ofChange portsSampleSpec)

/-- ITS FALSE NEIGHBOUR: 'it returns false'. Refute it at one input. -/
def portsSampleWrong : ChangeSpec := { name := "portsSample", fn := fun _ => fun
  | [d] => { results := [.lit (.bool false)], args := [d] }
  | _ => none }
def PortsSampleWrongFalsely : Prop := portsSampleRow.holds Try.pinned (OpenSpec.ofChange portsSampleWrong)

/-- 'bulkheadlaw21.PortsFull': WHATEVER THE INPUT: true; the input reads as it did. -/
def portsFullSpec : ChangeSpec := { name := "portsFull", fn := fun _ => fun
  | [d1, d2] => { results := [.lit (.bool true)], args := [d1, d2] }
  | _ => none }
def portsFullRow : OpenClaim := { program := "ytjigjbcdopmeeaa", sum := "0262fe450733d5bfd573f7e3bf3d3d728b62b5ad77fca7ec684bf850f06d299d", func := "bulkhead/bulkheadlaw21.PortsFull", spec := "portsFull", apart := false }
def PortsFullSaid : Prop := portsFullRow.holds Try.pinned (OpenSpec.ofChange portsFullSpec)

/-- ITS FALSE NEIGHBOUR: 'it returns false'. Refute it at one input. -/
def portsFullWrong : ChangeSpec := { name := "portsFull", fn := fun _ => fun
  | [d1, d2] => { results := [.lit (.bool false)], args := [d1, d2] }
  | _ => none }
def PortsFullWrongFalsely : Prop := portsFullRow.holds Try.pinned (OpenSpec.ofChange portsFullWrong)

/-- 'bulkheadlaw16.FramesPlays': WHATEVER THE INPUT: true; the input reads as it did. -/
def framesPlaysSpec : ChangeSpec := { name := "framesPlays", fn := fun _ => fun
  | [d1, d2, d3] => { results := [.lit (.bool true)], args := [d1, d2, d3] }
  | _ => none }
def framesPlaysRow : OpenClaim := { program := "ytjigjbcdopmeeaa", sum := "0262fe450733d5bfd573f7e3bf3d3d728b62b5ad77fca7ec684bf850f06d299d", func := "bulkhead/bulkheadlaw16.FramesPlays", spec := "framesPlays", apart := false }
def FramesPlaysSaid : Prop := framesPlaysRow.holds Try.pinned (OpenSpec.ofChange framesPlaysSpec)

/-- ITS FALSE NEIGHBOUR: 'it returns false'. Refute it at one input. -/
def framesPlaysWrong : ChangeSpec := { name := "framesPlays", fn := fun _ => fun
  | [d1, d2, d3] => { results := [.lit (.bool false)], args := [d1, d2, d3] }
  | _ => none }
def FramesPlaysWrongFalsely : Prop := framesPlaysRow.holds Try.pinned (OpenSpec.ofChange framesPlaysWrong)

/-- 'bulkheadlaw21.PortsOrder': WHATEVER THE INPUT: true; the input reads as it did. -/
def portsOrderSpec : ChangeSpec := { name := "portsOrder", fn := fun _ => fun
  | [d1, d2] => { results := [.lit (.bool true)], args := [d1, d2] }
  | _ => none }
def portsOrderRow : OpenClaim := { program := "ytjigjbcdopmeeaa", sum := "0262fe450733d5bfd573f7e3bf3d3d728b62b5ad77fca7ec684bf850f06d299d", func := "bulkhead/bulkheadlaw21.PortsOrder", spec := "portsOrder", apart := false }
def PortsOrderSaid : Prop := portsOrderRow.holds Try.pinned (OpenSpec.ofChange portsOrderSpec)

/-- ITS FALSE NEIGHBOUR: 'it returns false'. Refute it at one input. -/
def portsOrderWrong : ChangeSpec := { name := "portsOrder", fn := fun _ => fun
  | [d1, d2] => { results := [.lit (.bool false)], args := [d1, d2] }
  | _ => none }
def PortsOrderWrongFalsely : Prop := portsOrderRow.holds Try.pinned (OpenSpec.ofChange portsOrderWrong)

/-- 'bulkheadlaw21.PortsApart': WHATEVER THE INPUT: true; the input reads as it did. -/
def portsApartSpec : ChangeSpec := { name := "portsApart", fn := fun _ => fun
  | [d1, d2] => { results := [.lit (.bool true)], args := [d1, d2] }
  | _ => none }
def portsApartRow : OpenClaim := { program := "ytjigjbcdopmeeaa", sum := "0262fe450733d5bfd573f7e3bf3d3d728b62b5ad77fca7ec684bf850f06d299d", func := "bulkhead/bulkheadlaw21.PortsApart", spec := "portsApart", apart := false }
def PortsApartSaid : Prop := portsApartRow.holds Try.pinned (OpenSpec.ofChange portsApartSpec)

/-- ITS FALSE NEIGHBOUR: 'it returns false'. Refute it at one input. -/
def portsApartWrong : ChangeSpec := { name := "portsApart", fn := fun _ => fun
  | [d1, d2] => { results := [.lit (.bool false)], args := [d1, d2] }
  | _ => none }
def PortsApartWrongFalsely : Prop := portsApartRow.holds Try.pinned (OpenSpec.ofChange portsApartWrong)

/-- 'bulkheadlaw21.PortsPlays': WHATEVER THE INPUT: true; the input reads as it did. -/
def portsPlaysSpec : ChangeSpec := { name := "portsPlays", fn := fun _ => fun
  | [d1, d2] => { results := [.lit (.bool true)], args := [d1, d2] }
  | _ => none }
def portsPlaysRow : OpenClaim := { program := "ytjigjbcdopmeeaa", sum := "0262fe450733d5bfd573f7e3bf3d3d728b62b5ad77fca7ec684bf850f06d299d", func := "bulkhead/bulkheadlaw21.PortsPlays", spec := "portsPlays", apart := false }
def PortsPlaysSaid : Prop := portsPlaysRow.holds Try.pinned (OpenSpec.ofChange portsPlaysSpec)

/-- ITS FALSE NEIGHBOUR: 'it returns false'. Refute it at one input. -/
def portsPlaysWrong : ChangeSpec := { name := "portsPlays", fn := fun _ => fun
  | [d1, d2] => { results := [.lit (.bool false)], args := [d1, d2] }
  | _ => none }
def PortsPlaysWrongFalsely : Prop := portsPlaysRow.holds Try.pinned (OpenSpec.ofChange portsPlaysWrong)

/- THE SECOND FORM. 'bulk': how many values and letters a reading holds, each counted each time it is reached (what is shared counts as often as it is met; a slice's spare places count too). A statement '..UptoSaid' is the law's where the arguments, and the package variables that the reading takes, are together of bulk at most 1048576: NARROWER than '..Said'. Prove '..Said' where nothing that the law and all that it calls make is longer than what came in: it says more and counts as full. Else prove '..UptoSaid'. A law counts once. -/
mutual
def uptoBulk {H : Type} : DataW H → Nat
  | .lit (.string bytes) => bytes.length + 1
  | .lit _ => 1
  | .nil => 1
  | .ptr d => uptoBulk d + 1
  | .slice elems spare => uptoBulkAll elems + uptoBulkAll spare + 1
  | .agg parts => uptoBulkAll parts + 1
  | .iface _ d => uptoBulk d + 1
  | .map entries => uptoBulkEntries entries + 1
  | .held _ => 1
def uptoBulkAll {H : Type} : List (DataW H) → Nat
  | [] => 0
  | d :: r => uptoBulk d + uptoBulkAll r
def uptoBulkEntries {H : Type} : List (Lit × DataW H) → Nat
  | [] => 0
  | x :: r => uptoBulkEntry x + uptoBulkEntries r
def uptoBulkEntry {H : Type} : Lit × DataW H → Nat
  | (.string bytes, d) => bytes.length + uptoBulk d + 1
  | (_, d) => uptoBulk d + 1
 end
def uptoSmall : (H : Type) → List (DataW H) → Bool := fun _ ds => decide (uptoBulkAll ds ≤ 1048576)
def OpenSpec.upto (s : _root_.Go.ChangeSpec) : _root_.Go.OpenSpec := { _root_.Go.OpenSpec.ofChange s with cond := some uptoSmall }

/-- 'bulkheadlaw16.FramesLeast', WHERE WHAT IT READS IS OF BULK AT MOST 1048576: true; the input reads as it did. -/
def framesLeastUptoRow : OpenClaim := { program := "ytjigjbcdopmeeaa", sum := "0262fe450733d5bfd573f7e3bf3d3d728b62b5ad77fca7ec684bf850f06d299d", func := "bulkhead/bulkheadlaw16.FramesLeast", spec := "framesLeast", apart := false, narrowed := true }
def FramesLeastUptoSaid : Prop := framesLeastUptoRow.holds Try.pinned (OpenSpec.upto framesLeastSpec)

/-- 'bulkheadlaw16.FramesOthers', WHERE WHAT IT READS IS OF BULK AT MOST 1048576: true; the input reads as it did. -/
def framesOthersUptoRow : OpenClaim := { program := "ytjigjbcdopmeeaa", sum := "0262fe450733d5bfd573f7e3bf3d3d728b62b5ad77fca7ec684bf850f06d299d", func := "bulkhead/bulkheadlaw16.FramesOthers", spec := "framesOthers", apart := false, narrowed := true }
def FramesOthersUptoSaid : Prop := framesOthersUptoRow.holds Try.pinned (OpenSpec.upto framesOthersSpec)

/-- 'bulkheadlaw16.FramesApart', WHERE WHAT IT READS IS OF BULK AT MOST 1048576: true; the input reads as it did. -/
def framesApartUptoRow : OpenClaim := { program := "ytjigjbcdopmeeaa", sum := "0262fe450733d5bfd573f7e3bf3d3d728b62b5ad77fca7ec684bf850f06d299d", func := "bulkhead/bulkheadlaw16.FramesApart", spec := "framesApart", apart := false, narrowed := true }
def FramesApartUptoSaid : Prop := framesApartUptoRow.holds Try.pinned (OpenSpec.upto framesApartSpec)

/-- 'bulkheadlaw21.PortsSample', WHERE WHAT IT READS IS OF BULK AT MOST 1048576: true; the input reads as it did. -/
def portsSampleUptoRow : OpenClaim := { program := "ytjigjbcdopmeeaa", sum := "0262fe450733d5bfd573f7e3bf3d3d728b62b5ad77fca7ec684bf850f06d299d", func := "bulkhead/bulkheadlaw21.PortsSample", spec := "portsSample", apart := false, narrowed := true }
def PortsSampleUptoSaid : Prop := portsSampleUptoRow.holds Try.pinned (OpenSpec.upto portsSampleSpec)

/-- 'bulkheadlaw21.PortsFull', WHERE WHAT IT READS IS OF BULK AT MOST 1048576: true; the input reads as it did. -/
def portsFullUptoRow : OpenClaim := { program := "ytjigjbcdopmeeaa", sum := "0262fe450733d5bfd573f7e3bf3d3d728b62b5ad77fca7ec684bf850f06d299d", func := "bulkhead/bulkheadlaw21.PortsFull", spec := "portsFull", apart := false, narrowed := true }
def PortsFullUptoSaid : Prop := portsFullUptoRow.holds Try.pinned (OpenSpec.upto portsFullSpec)

/-- 'bulkheadlaw16.FramesPlays', WHERE WHAT IT READS IS OF BULK AT MOST 1048576: true; the input reads as it did. -/
def framesPlaysUptoRow : OpenClaim := { program := "ytjigjbcdopmeeaa", sum := "0262fe450733d5bfd573f7e3bf3d3d728b62b5ad77fca7ec684bf850f06d299d", func := "bulkhead/bulkheadlaw16.FramesPlays", spec := "framesPlays", apart := false, narrowed := true }
def FramesPlaysUptoSaid : Prop := framesPlaysUptoRow.holds Try.pinned (OpenSpec.upto framesPlaysSpec)

/-- 'bulkheadlaw21.PortsOrder', WHERE WHAT IT READS IS OF BULK AT MOST 1048576: true; the input reads as it did. -/
def portsOrderUptoRow : OpenClaim := { program := "ytjigjbcdopmeeaa", sum := "0262fe450733d5bfd573f7e3bf3d3d728b62b5ad77fca7ec684bf850f06d299d", func := "bulkhead/bulkheadlaw21.PortsOrder", spec := "portsOrder", apart := false, narrowed := true }
def PortsOrderUptoSaid : Prop := portsOrderUptoRow.holds Try.pinned (OpenSpec.upto portsOrderSpec)

/-- 'bulkheadlaw21.PortsApart', WHERE WHAT IT READS IS OF BULK AT MOST 1048576: true; the input reads as it did. -/
def portsApartUptoRow : OpenClaim := { program := "ytjigjbcdopmeeaa", sum := "0262fe450733d5bfd573f7e3bf3d3d728b62b5ad77fca7ec684bf850f06d299d", func := "bulkhead/bulkheadlaw21.PortsApart", spec := "portsApart", apart := false, narrowed := true }
def PortsApartUptoSaid : Prop := portsApartUptoRow.holds Try.pinned (OpenSpec.upto portsApartSpec)

/-- 'bulkheadlaw21.PortsPlays', WHERE WHAT IT READS IS OF BULK AT MOST 1048576: true; the input reads as it did. -/
def portsPlaysUptoRow : OpenClaim := { program := "ytjigjbcdopmeeaa", sum := "0262fe450733d5bfd573f7e3bf3d3d728b62b5ad77fca7ec684bf850f06d299d", func := "bulkhead/bulkheadlaw21.PortsPlays", spec := "portsPlays", apart := false, narrowed := true }
def PortsPlaysUptoSaid : Prop := portsPlaysUptoRow.holds Try.pinned (OpenSpec.upto portsPlaysSpec)

end Rows
end Go.Proofs.Ytjigjbcdopmeeaa
