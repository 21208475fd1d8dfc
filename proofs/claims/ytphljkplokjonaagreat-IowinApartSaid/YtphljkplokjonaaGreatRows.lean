/-
  No cell of these rows narrows 'for every input' (looked for: loops, veiled, ifaces, maps, wideKeys, modest, calm, conditions, laid).
  DERIVED. THE GIVEN ROWS OF THIS SEAT. 9 by the template 'for every input the law returns true; each argument reads behind the call as it read before'; 0 by the template 'total and deterministic' (their statements: YtphljkplokjonaaGreatTotals.lean).
  GIVEN WITH THE SEED: the statements are not yours to turn. If you find one false, say at which input.
  Laid BY PROGRAM, IN A SANDBOX (cutbox-rows.mjs): the forced cells as the released guide's own fill.sh prints them over the translation 697d860527f4b084… (all of the seat's roots in one cut). By AI agents, Wed Nov 11 2026. No macro, syntax, notation, axiom, sorry.
-/
import Derived.Test.YtphljkplokjonaaGreatChecked
import GoSem.Claim
import GoSem.ClaimJoined
import GoSem.ClaimMapViews
import Derived.JoinedTies
import Derived.KernelRfl
namespace Go.Proofs.YtphljkplokjonaaGreat
/- THE CELL 'sum', in the pinned program and in every row, IS THE sha256 OF THE DUMP (.gsa) THAT YtphljkplokjonaaGreatProg.lean LOADS. Nothing in Lean hashes anything: it is a label: what it is worth is what the hold of that sum in a sandbox is worth. -/
noncomputable def Tryz.pinned : Pinned := { name := "ytphljkplokjonaagreat", sum := "697d860527f4b084e9fd13d8fc9cec01c7840ba37822110577ae7f0dc939b6ff", checked := Tryz.checked }
namespace Rows
def none {H : Type} : Left H := { results := [], args := [] }

/-- 'bulkheadlaw22.HcallRefused': WHATEVER THE INPUT: true; the input reads as it did. -/
def hcallRefusedSpec : ChangeSpec := { name := "hcallRefused", fn := fun _ => fun
  | [d1, d2] => { results := [.lit (.bool true)], args := [d1, d2] }
  | _ => none }
def hcallRefusedRow : OpenClaim := { program := "ytphljkplokjonaagreat", sum := "697d860527f4b084e9fd13d8fc9cec01c7840ba37822110577ae7f0dc939b6ff", func := "bulkhead/bulkheadlaw22.HcallRefused", spec := "hcallRefused", unfollowed := true, recurses := true, apart := false }
def HcallRefusedSaid : Prop := hcallRefusedRow.holds Tryz.pinned (OpenSpec.ofChange hcallRefusedSpec)

/-- ITS FALSE NEIGHBOUR: 'it returns false'. Refute it at one input. -/
def hcallRefusedWrong : ChangeSpec := { name := "hcallRefused", fn := fun _ => fun
  | [d1, d2] => { results := [.lit (.bool false)], args := [d1, d2] }
  | _ => none }
def HcallRefusedWrongFalsely : Prop := hcallRefusedRow.holds Tryz.pinned (OpenSpec.ofChange hcallRefusedWrong)

/-- 'bulkheadlaw22.HcallUnknown': WHATEVER THE INPUT: true; the input reads as it did. -/
def hcallUnknownSpec : ChangeSpec := { name := "hcallUnknown", fn := fun _ => fun
  | [d1, d2, d3] => { results := [.lit (.bool true)], args := [d1, d2, d3] }
  | _ => none }
def hcallUnknownRow : OpenClaim := { program := "ytphljkplokjonaagreat", sum := "697d860527f4b084e9fd13d8fc9cec01c7840ba37822110577ae7f0dc939b6ff", func := "bulkhead/bulkheadlaw22.HcallUnknown", spec := "hcallUnknown", unfollowed := true, recurses := true, apart := false }
def HcallUnknownSaid : Prop := hcallUnknownRow.holds Tryz.pinned (OpenSpec.ofChange hcallUnknownSpec)

/-- ITS FALSE NEIGHBOUR: 'it returns false'. Refute it at one input. -/
def hcallUnknownWrong : ChangeSpec := { name := "hcallUnknown", fn := fun _ => fun
  | [d1, d2, d3] => { results := [.lit (.bool false)], args := [d1, d2, d3] }
  | _ => none }
def HcallUnknownWrongFalsely : Prop := hcallUnknownRow.holds Tryz.pinned (OpenSpec.ofChange hcallUnknownWrong)

/-- 'bulkheadlaw24.IowinConsoles': WHATEVER THE INPUT: true; the input reads as it did. -/
def iowinConsolesSpec : ChangeSpec := { name := "iowinConsoles", fn := fun _ => fun
  | [d] => { results := [.lit (.bool true)], args := [d] }
  | _ => none }
def iowinConsolesRow : OpenClaim := { program := "ytphljkplokjonaagreat", sum := "697d860527f4b084e9fd13d8fc9cec01c7840ba37822110577ae7f0dc939b6ff", func := "bulkhead/bulkheadlaw24.IowinConsoles", spec := "iowinConsoles", unfollowed := true, recurses := true, apart := false }
def IowinConsolesSaid : Prop := iowinConsolesRow.holds Tryz.pinned (OpenSpec.ofChange iowinConsolesSpec)

/-- ITS FALSE NEIGHBOUR: 'it returns false'. Refute it at one input. -/
def iowinConsolesWrong : ChangeSpec := { name := "iowinConsoles", fn := fun _ => fun
  | [d] => { results := [.lit (.bool false)], args := [d] }
  | _ => none }
def IowinConsolesWrongFalsely : Prop := iowinConsolesRow.holds Tryz.pinned (OpenSpec.ofChange iowinConsolesWrong)

/-- 'bulkheadlaw24.IowinInputs': WHATEVER THE INPUT: true; the input reads as it did. -/
def iowinInputsSpec : ChangeSpec := { name := "iowinInputs", fn := fun _ => fun
  | [d1, d2] => { results := [.lit (.bool true)], args := [d1, d2] }
  | _ => none }
def iowinInputsRow : OpenClaim := { program := "ytphljkplokjonaagreat", sum := "697d860527f4b084e9fd13d8fc9cec01c7840ba37822110577ae7f0dc939b6ff", func := "bulkhead/bulkheadlaw24.IowinInputs", spec := "iowinInputs", unfollowed := true, recurses := true, apart := false }
def IowinInputsSaid : Prop := iowinInputsRow.holds Tryz.pinned (OpenSpec.ofChange iowinInputsSpec)

/-- ITS FALSE NEIGHBOUR: 'it returns false'. Refute it at one input. -/
def iowinInputsWrong : ChangeSpec := { name := "iowinInputs", fn := fun _ => fun
  | [d1, d2] => { results := [.lit (.bool false)], args := [d1, d2] }
  | _ => none }
def IowinInputsWrongFalsely : Prop := iowinInputsRow.holds Tryz.pinned (OpenSpec.ofChange iowinInputsWrong)

/-- 'bulkheadlaw22.HcallPages': WHATEVER THE INPUT: true; the input reads as it did. -/
def hcallPagesSpec : ChangeSpec := { name := "hcallPages", fn := fun _ => fun
  | [d1, d2] => { results := [.lit (.bool true)], args := [d1, d2] }
  | _ => none }
def hcallPagesRow : OpenClaim := { program := "ytphljkplokjonaagreat", sum := "697d860527f4b084e9fd13d8fc9cec01c7840ba37822110577ae7f0dc939b6ff", func := "bulkhead/bulkheadlaw22.HcallPages", spec := "hcallPages", unfollowed := true, recurses := true, apart := false }
def HcallPagesSaid : Prop := hcallPagesRow.holds Tryz.pinned (OpenSpec.ofChange hcallPagesSpec)

/-- ITS FALSE NEIGHBOUR: 'it returns false'. Refute it at one input. -/
def hcallPagesWrong : ChangeSpec := { name := "hcallPages", fn := fun _ => fun
  | [d1, d2] => { results := [.lit (.bool false)], args := [d1, d2] }
  | _ => none }
def HcallPagesWrongFalsely : Prop := hcallPagesRow.holds Tryz.pinned (OpenSpec.ofChange hcallPagesWrong)

/-- 'bulkheadlaw24.IowinApart': WHATEVER THE INPUT: true; the input reads as it did. -/
def iowinApartSpec : ChangeSpec := { name := "iowinApart", fn := fun _ => fun
  | [d1, d2, d3, d4] => { results := [.lit (.bool true)], args := [d1, d2, d3, d4] }
  | _ => none }
def iowinApartRow : OpenClaim := { program := "ytphljkplokjonaagreat", sum := "697d860527f4b084e9fd13d8fc9cec01c7840ba37822110577ae7f0dc939b6ff", func := "bulkhead/bulkheadlaw24.IowinApart", spec := "iowinApart", unfollowed := true, recurses := true, apart := false }
def IowinApartSaid : Prop := iowinApartRow.holds Tryz.pinned (OpenSpec.ofChange iowinApartSpec)

/-- ITS FALSE NEIGHBOUR: 'it returns false'. Refute it at one input. -/
def iowinApartWrong : ChangeSpec := { name := "iowinApart", fn := fun _ => fun
  | [d1, d2, d3, d4] => { results := [.lit (.bool false)], args := [d1, d2, d3, d4] }
  | _ => none }
def IowinApartWrongFalsely : Prop := iowinApartRow.holds Tryz.pinned (OpenSpec.ofChange iowinApartWrong)

/-- 'bulkheadlaw22.HcallMoves': WHATEVER THE INPUT: true; the input reads as it did. -/
def hcallMovesSpec : ChangeSpec := { name := "hcallMoves", fn := fun _ => fun
  | [d1, d2, d3] => { results := [.lit (.bool true)], args := [d1, d2, d3] }
  | _ => none }
def hcallMovesRow : OpenClaim := { program := "ytphljkplokjonaagreat", sum := "697d860527f4b084e9fd13d8fc9cec01c7840ba37822110577ae7f0dc939b6ff", func := "bulkhead/bulkheadlaw22.HcallMoves", spec := "hcallMoves", unfollowed := true, recurses := true, apart := false }
def HcallMovesSaid : Prop := hcallMovesRow.holds Tryz.pinned (OpenSpec.ofChange hcallMovesSpec)

/-- ITS FALSE NEIGHBOUR: 'it returns false'. Refute it at one input. -/
def hcallMovesWrong : ChangeSpec := { name := "hcallMoves", fn := fun _ => fun
  | [d1, d2, d3] => { results := [.lit (.bool false)], args := [d1, d2, d3] }
  | _ => none }
def HcallMovesWrongFalsely : Prop := hcallMovesRow.holds Tryz.pinned (OpenSpec.ofChange hcallMovesWrong)

/-- 'bulkheadlaw22.HcallCosts': WHATEVER THE INPUT: true; the input reads as it did. -/
def hcallCostsSpec : ChangeSpec := { name := "hcallCosts", fn := fun _ => fun
  | [d1, d2] => { results := [.lit (.bool true)], args := [d1, d2] }
  | _ => none }
def hcallCostsRow : OpenClaim := { program := "ytphljkplokjonaagreat", sum := "697d860527f4b084e9fd13d8fc9cec01c7840ba37822110577ae7f0dc939b6ff", func := "bulkhead/bulkheadlaw22.HcallCosts", spec := "hcallCosts", unfollowed := true, recurses := true, apart := false }
def HcallCostsSaid : Prop := hcallCostsRow.holds Tryz.pinned (OpenSpec.ofChange hcallCostsSpec)

/-- ITS FALSE NEIGHBOUR: 'it returns false'. Refute it at one input. -/
def hcallCostsWrong : ChangeSpec := { name := "hcallCosts", fn := fun _ => fun
  | [d1, d2] => { results := [.lit (.bool false)], args := [d1, d2] }
  | _ => none }
def HcallCostsWrongFalsely : Prop := hcallCostsRow.holds Tryz.pinned (OpenSpec.ofChange hcallCostsWrong)

/-- 'bulkheadlaw22.HcallPlays': WHATEVER THE INPUT: true; the input reads as it did. -/
def hcallPlaysSpec : ChangeSpec := { name := "hcallPlays", fn := fun _ => fun
  | [d1, d2] => { results := [.lit (.bool true)], args := [d1, d2] }
  | _ => none }
def hcallPlaysRow : OpenClaim := { program := "ytphljkplokjonaagreat", sum := "697d860527f4b084e9fd13d8fc9cec01c7840ba37822110577ae7f0dc939b6ff", func := "bulkhead/bulkheadlaw22.HcallPlays", spec := "hcallPlays", unfollowed := true, recurses := true, apart := false }
def HcallPlaysSaid : Prop := hcallPlaysRow.holds Tryz.pinned (OpenSpec.ofChange hcallPlaysSpec)

/-- ITS FALSE NEIGHBOUR: 'it returns false'. Refute it at one input. -/
def hcallPlaysWrong : ChangeSpec := { name := "hcallPlays", fn := fun _ => fun
  | [d1, d2] => { results := [.lit (.bool false)], args := [d1, d2] }
  | _ => none }
def HcallPlaysWrongFalsely : Prop := hcallPlaysRow.holds Tryz.pinned (OpenSpec.ofChange hcallPlaysWrong)

/- THE SECOND FORM. 'bulk': how many values and letters a reading holds, each counted each time it is reached (what is shared counts as often as it is met; a slice's spare places count too). A statement '..UptoSaid' is the law's where the arguments, and the package variables that the reading takes, are together of bulk at most 1048576: NARROWER than '..Said'. Prove '..Said' where nothing that the law and all that it calls make is longer than what came in: it says more and counts as full. Else prove '..UptoSaid'. A law counts once. -/
mutual
def uptoBulk {H : Type} : DataW H → Nat
  | .lit (.string bytes) => bytes.length + 1
  | .lit _ => 1
  | .nil => 1
  | .ptr d => uptoBulk d + 1
  | .slice elems spare => uptoBulkAll elems + uptoBulkAll spare + 1
  | .agg parts => uptoBulkAll parts + 1
  | .iface _ d => uptoBulk d + 1
  | .map entries => uptoBulkEntries entries + 1
  | .held _ => 1
def uptoBulkAll {H : Type} : List (DataW H) → Nat
  | [] => 0
  | d :: r => uptoBulk d + uptoBulkAll r
def uptoBulkEntries {H : Type} : List (Lit × DataW H) → Nat
  | [] => 0
  | x :: r => uptoBulkEntry x + uptoBulkEntries r
def uptoBulkEntry {H : Type} : Lit × DataW H → Nat
  | (.string bytes, d) => bytes.length + uptoBulk d + 1
  | (_, d) => uptoBulk d + 1
 end
def uptoSmall : (H : Type) → List (DataW H) → Bool := fun _ ds => decide (uptoBulkAll ds ≤ 1048576)
def OpenSpec.upto (s : _root_.Go.ChangeSpec) : _root_.Go.OpenSpec := { _root_.Go.OpenSpec.ofChange s with cond := some uptoSmall }

/-- 'bulkheadlaw22.HcallRefused', WHERE WHAT IT READS IS OF BULK AT MOST 1048576: true; the input reads as it did. -/
def hcallRefusedUptoRow : OpenClaim := { program := "ytphljkplokjonaagreat", sum := "697d860527f4b084e9fd13d8fc9cec01c7840ba37822110577ae7f0dc939b6ff", func := "bulkhead/bulkheadlaw22.HcallRefused", spec := "hcallRefused", unfollowed := true, recurses := true, apart := false, narrowed := true }
def HcallRefusedUptoSaid : Prop := hcallRefusedUptoRow.holds Tryz.pinned (OpenSpec.upto hcallRefusedSpec)

/-- 'bulkheadlaw22.HcallUnknown', WHERE WHAT IT READS IS OF BULK AT MOST 1048576: true; the input reads as it did. -/
def hcallUnknownUptoRow : OpenClaim := { program := "ytphljkplokjonaagreat", sum := "697d860527f4b084e9fd13d8fc9cec01c7840ba37822110577ae7f0dc939b6ff", func := "bulkhead/bulkheadlaw22.HcallUnknown", spec := "hcallUnknown", unfollowed := true, recurses := true, apart := false, narrowed := true }
def HcallUnknownUptoSaid : Prop := hcallUnknownUptoRow.holds Tryz.pinned (OpenSpec.upto hcallUnknownSpec)

/-- 'bulkheadlaw24.IowinConsoles', WHERE WHAT IT READS IS OF BULK AT MOST 1048576: true; the input reads as it did. -/
def iowinConsolesUptoRow : OpenClaim := { program := "ytphljkplokjonaagreat", sum := "697d860527f4b084e9fd13d8fc9cec01c7840ba37822110577ae7f0dc939b6ff", func := "bulkhead/bulkheadlaw24.IowinConsoles", spec := "iowinConsoles", unfollowed := true, recurses := true, apart := false, narrowed := true }
def IowinConsolesUptoSaid : Prop := iowinConsolesUptoRow.holds Tryz.pinned (OpenSpec.upto iowinConsolesSpec)

/-- 'bulkheadlaw24.IowinInputs', WHERE WHAT IT READS IS OF BULK AT MOST 1048576: true; the input reads as it did. -/
def iowinInputsUptoRow : OpenClaim := { program := "ytphljkplokjonaagreat", sum := "697d860527f4b084e9fd13d8fc9cec01c7840ba37822110577ae7f0dc939b6ff", func := "bulkhead/bulkheadlaw24.IowinInputs", spec := "iowinInputs", unfollowed := true, recurses := true, apart := false, narrowed := true }
def IowinInputsUptoSaid : Prop := iowinInputsUptoRow.holds Tryz.pinned (OpenSpec.upto iowinInputsSpec)

/-- 'bulkheadlaw22.HcallPages', WHERE WHAT IT READS IS OF BULK AT MOST 1048576: true; the input reads as it did. -/
def hcallPagesUptoRow : OpenClaim := { program := "ytphljkplokjonaagreat", sum := "697d860527f4b084e9fd13d8fc9cec01c7840ba37822110577ae7f0dc939b6ff", func := "bulkhead/bulkheadlaw22.HcallPages", spec := "hcallPages", unfollowed := true, recurses := true, apart := false, narrowed := true }
def HcallPagesUptoSaid : Prop := hcallPagesUptoRow.holds Tryz.pinned (OpenSpec.upto hcallPagesSpec)

/-- 'bulkheadlaw24.IowinApart', WHERE WHAT IT READS IS OF BULK AT MOST 1048576: true; the input reads as it did. -/
def iowinApartUptoRow : OpenClaim := { program := "ytphljkplokjonaagreat", sum := "697d860527f4b084e9fd13d8fc9cec01c7840ba37822110577ae7f0dc939b6ff", func := "bulkhead/bulkheadlaw24.IowinApart", spec := "iowinApart", unfollowed := true, recurses := true, apart := false, narrowed := true }
def IowinApartUptoSaid : Prop := iowinApartUptoRow.holds Tryz.pinned (OpenSpec.upto iowinApartSpec)

/-- 'bulkheadlaw22.HcallMoves', WHERE WHAT IT READS IS OF BULK AT MOST 1048576: true; the input reads as it did. -/
def hcallMovesUptoRow : OpenClaim := { program := "ytphljkplokjonaagreat", sum := "697d860527f4b084e9fd13d8fc9cec01c7840ba37822110577ae7f0dc939b6ff", func := "bulkhead/bulkheadlaw22.HcallMoves", spec := "hcallMoves", unfollowed := true, recurses := true, apart := false, narrowed := true }
def HcallMovesUptoSaid : Prop := hcallMovesUptoRow.holds Tryz.pinned (OpenSpec.upto hcallMovesSpec)

/-- 'bulkheadlaw22.HcallCosts', WHERE WHAT IT READS IS OF BULK AT MOST 1048576: true; the input reads as it did. -/
def hcallCostsUptoRow : OpenClaim := { program := "ytphljkplokjonaagreat", sum := "697d860527f4b084e9fd13d8fc9cec01c7840ba37822110577ae7f0dc939b6ff", func := "bulkhead/bulkheadlaw22.HcallCosts", spec := "hcallCosts", unfollowed := true, recurses := true, apart := false, narrowed := true }
def HcallCostsUptoSaid : Prop := hcallCostsUptoRow.holds Tryz.pinned (OpenSpec.upto hcallCostsSpec)

/-- 'bulkheadlaw22.HcallPlays', WHERE WHAT IT READS IS OF BULK AT MOST 1048576: true; the input reads as it did. -/
def hcallPlaysUptoRow : OpenClaim := { program := "ytphljkplokjonaagreat", sum := "697d860527f4b084e9fd13d8fc9cec01c7840ba37822110577ae7f0dc939b6ff", func := "bulkhead/bulkheadlaw22.HcallPlays", spec := "hcallPlays", unfollowed := true, recurses := true, apart := false, narrowed := true }
def HcallPlaysUptoSaid : Prop := hcallPlaysUptoRow.holds Tryz.pinned (OpenSpec.upto hcallPlaysSpec)

end Rows
end Go.Proofs.YtphljkplokjonaaGreat
