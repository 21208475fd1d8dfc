/-
  No cell of these rows narrows 'for every input' (looked for: loops, veiled, ifaces, maps, wideKeys, modest, calm, conditions, laid).
  DERIVED. THE GIVEN ROWS OF THIS SEAT. 6 by the template 'for every input the law returns true; each argument reads behind the call as it read before'; 0 by the template 'total and deterministic' (their statements: YtoejnhfcegchhaaTotals.lean).
  GIVEN WITH THE SEED: the statements are not yours to turn. If you find one false, say at which input.
  Laid BY PROGRAM, IN A SANDBOX (cutbox-rows.mjs): the forced cells as the released guide's own fill.sh prints them over the translation b98f0ef47f25aebc… (all of the seat's roots in one cut). By AI agents, Wed Nov 11 2026. No macro, syntax, notation, axiom, sorry.
-/
import Derived.Test.YtoejnhfcegchhaaChecked
import GoSem.Claim
import GoSem.ClaimJoined
import GoSem.ClaimMapViews
import Derived.JoinedTies
import Derived.KernelRfl
namespace Go.Proofs.Ytoejnhfcegchhaa
/- THE CELL 'sum', in the pinned program and in every row, IS THE sha256 OF THE DUMP (.gsa) THAT YtoejnhfcegchhaaProg.lean LOADS. Nothing in Lean hashes anything: it is a label: what it is worth is what the hold of that sum in a sandbox is worth. -/
noncomputable def Try.pinned : Pinned := { name := "ytoejnhfcegchhaa", sum := "b98f0ef47f25aebce85c612d3278fdfb53a02e86bf7533d1bafac20347c05a09", checked := Try.checked }
namespace Rows
def none {H : Type} : Left H := { results := [], args := [] }

/-- 'bulkheadlaw20.VdiskLatency': WHATEVER THE INPUT: true; the input reads as it did. -/
def vdiskLatencySpec : ChangeSpec := { name := "vdiskLatency", fn := fun _ => fun
  | [d1, d2, d3, d4] => { results := [.lit (.bool true)], args := [d1, d2, d3, d4] }
  | _ => none }
def vdiskLatencyRow : OpenClaim := { program := "ytoejnhfcegchhaa", sum := "b98f0ef47f25aebce85c612d3278fdfb53a02e86bf7533d1bafac20347c05a09", func := "bulkhead/bulkheadlaw20.VdiskLatency", spec := "vdiskLatency", unfollowed := true, recurses := true, apart := false }
def VdiskLatencySaid : Prop := vdiskLatencyRow.holds Try.pinned (OpenSpec.ofChange vdiskLatencySpec)

/-- ITS FALSE NEIGHBOUR: 'it returns false'. Refute it at one input. -/
def vdiskLatencyWrong : ChangeSpec := { name := "vdiskLatency", fn := fun _ => fun
  | [d1, d2, d3, d4] => { results := [.lit (.bool false)], args := [d1, d2, d3, d4] }
  | _ => none }
def VdiskLatencyWrongFalsely : Prop := vdiskLatencyRow.holds Try.pinned (OpenSpec.ofChange vdiskLatencyWrong)

/-- 'bulkheadlaw20.VdiskTags': WHATEVER THE INPUT: true; the input reads as it did. -/
def vdiskTagsSpec : ChangeSpec := { name := "vdiskTags", fn := fun _ => fun
  | [d] => { results := [.lit (.bool true)], args := [d] }
  | _ => none }
def vdiskTagsRow : OpenClaim := { program := "ytoejnhfcegchhaa", sum := "b98f0ef47f25aebce85c612d3278fdfb53a02e86bf7533d1bafac20347c05a09", func := "bulkhead/bulkheadlaw20.VdiskTags", spec := "vdiskTags", unfollowed := true, recurses := true, apart := false }
def VdiskTagsSaid : Prop := vdiskTagsRow.holds Try.pinned (OpenSpec.ofChange vdiskTagsSpec)

/-- ITS FALSE NEIGHBOUR: 'it returns false'. Refute it at one input. -/
def vdiskTagsWrong : ChangeSpec := { name := "vdiskTags", fn := fun _ => fun
  | [d] => { results := [.lit (.bool false)], args := [d] }
  | _ => none }
def VdiskTagsWrongFalsely : Prop := vdiskTagsRow.holds Try.pinned (OpenSpec.ofChange vdiskTagsWrong)

/-- 'bulkheadlaw12.BlockOrder': WHATEVER THE INPUT: true; the input reads as it did. -/
def blockOrderSpec : ChangeSpec := { name := "blockOrder", fn := fun _ => fun
  | [d1, d2, d3] => { results := [.lit (.bool true)], args := [d1, d2, d3] }
  | _ => none }
def blockOrderRow : OpenClaim := { program := "ytoejnhfcegchhaa", sum := "b98f0ef47f25aebce85c612d3278fdfb53a02e86bf7533d1bafac20347c05a09", func := "bulkhead/bulkheadlaw12.BlockOrder", spec := "blockOrder", unfollowed := true, recurses := true, apart := false }
def BlockOrderSaid : Prop := blockOrderRow.holds Try.pinned (OpenSpec.ofChange blockOrderSpec)

/-- ITS FALSE NEIGHBOUR: 'it returns false'. Refute it at one input. -/
def blockOrderWrong : ChangeSpec := { name := "blockOrder", fn := fun _ => fun
  | [d1, d2, d3] => { results := [.lit (.bool false)], args := [d1, d2, d3] }
  | _ => none }
def BlockOrderWrongFalsely : Prop := blockOrderRow.holds Try.pinned (OpenSpec.ofChange blockOrderWrong)

/-- 'bulkheadlaw20.VdiskPlays': WHATEVER THE INPUT: true; the input reads as it did. -/
def vdiskPlaysSpec : ChangeSpec := { name := "vdiskPlays", fn := fun _ => fun
  | [d1, d2, d3, d4, d5] => { results := [.lit (.bool true)], args := [d1, d2, d3, d4, d5] }
  | _ => none }
def vdiskPlaysRow : OpenClaim := { program := "ytoejnhfcegchhaa", sum := "b98f0ef47f25aebce85c612d3278fdfb53a02e86bf7533d1bafac20347c05a09", func := "bulkhead/bulkheadlaw20.VdiskPlays", spec := "vdiskPlays", unfollowed := true, recurses := true, apart := false }
def VdiskPlaysSaid : Prop := vdiskPlaysRow.holds Try.pinned (OpenSpec.ofChange vdiskPlaysSpec)

/-- ITS FALSE NEIGHBOUR: 'it returns false'. Refute it at one input. -/
def vdiskPlaysWrong : ChangeSpec := { name := "vdiskPlays", fn := fun _ => fun
  | [d1, d2, d3, d4, d5] => { results := [.lit (.bool false)], args := [d1, d2, d3, d4, d5] }
  | _ => none }
def VdiskPlaysWrongFalsely : Prop := vdiskPlaysRow.holds Try.pinned (OpenSpec.ofChange vdiskPlaysWrong)

/-- 'bulkheadlaw12.BlockPlays': WHATEVER THE INPUT: true; the input reads as it did. -/
def blockPlaysSpec : ChangeSpec := { name := "blockPlays", fn := fun _ => fun
  | [d1, d2, d3, d4] => { results := [.lit (.bool true)], args := [d1, d2, d3, d4] }
  | _ => none }
def blockPlaysRow : OpenClaim := { program := "ytoejnhfcegchhaa", sum := "b98f0ef47f25aebce85c612d3278fdfb53a02e86bf7533d1bafac20347c05a09", func := "bulkhead/bulkheadlaw12.BlockPlays", spec := "blockPlays", unfollowed := true, recurses := true, apart := false }
def BlockPlaysSaid : Prop := blockPlaysRow.holds Try.pinned (OpenSpec.ofChange blockPlaysSpec)

/-- ITS FALSE NEIGHBOUR: 'it returns false'. Refute it at one input. -/
def blockPlaysWrong : ChangeSpec := { name := "blockPlays", fn := fun _ => fun
  | [d1, d2, d3, d4] => { results := [.lit (.bool false)], args := [d1, d2, d3, d4] }
  | _ => none }
def BlockPlaysWrongFalsely : Prop := blockPlaysRow.holds Try.pinned (OpenSpec.ofChange blockPlaysWrong)

/-- 'bulkheadlaw12.BlockClones': WHATEVER THE INPUT: true; the input reads as it did. -/
def blockClonesSpec : ChangeSpec := { name := "blockClones", fn := fun _ => fun
  | [d1, d2, d3] => { results := [.lit (.bool true)], args := [d1, d2, d3] }
  | _ => none }
def blockClonesRow : OpenClaim := { program := "ytoejnhfcegchhaa", sum := "b98f0ef47f25aebce85c612d3278fdfb53a02e86bf7533d1bafac20347c05a09", func := "bulkhead/bulkheadlaw12.BlockClones", spec := "blockClones", unfollowed := true, recurses := true, apart := false }
def BlockClonesSaid : Prop := blockClonesRow.holds Try.pinned (OpenSpec.ofChange blockClonesSpec)

/-- ITS FALSE NEIGHBOUR: 'it returns false'. Refute it at one input. -/
def blockClonesWrong : ChangeSpec := { name := "blockClones", fn := fun _ => fun
  | [d1, d2, d3] => { results := [.lit (.bool false)], args := [d1, d2, d3] }
  | _ => none }
def BlockClonesWrongFalsely : Prop := blockClonesRow.holds Try.pinned (OpenSpec.ofChange blockClonesWrong)

/- THE SECOND FORM. 'bulk': how many values and letters a reading holds, each counted each time it is reached (what is shared counts as often as it is met; a slice's spare places count too). A statement '..UptoSaid' is the law's where the arguments, and the package variables that the reading takes, are together of bulk at most 1048576: NARROWER than '..Said'. Prove '..Said' where nothing that the law and all that it calls make is longer than what came in: it says more and counts as full. Else prove '..UptoSaid'. A law counts once. -/
mutual
def uptoBulk {H : Type} : DataW H → Nat
  | .lit (.string bytes) => bytes.length + 1
  | .lit _ => 1
  | .nil => 1
  | .ptr d => uptoBulk d + 1
  | .slice elems spare => uptoBulkAll elems + uptoBulkAll spare + 1
  | .agg parts => uptoBulkAll parts + 1
  | .iface _ d => uptoBulk d + 1
  | .map entries => uptoBulkEntries entries + 1
  | .held _ => 1
def uptoBulkAll {H : Type} : List (DataW H) → Nat
  | [] => 0
  | d :: r => uptoBulk d + uptoBulkAll r
def uptoBulkEntries {H : Type} : List (Lit × DataW H) → Nat
  | [] => 0
  | x :: r => uptoBulkEntry x + uptoBulkEntries r
def uptoBulkEntry {H : Type} : Lit × DataW H → Nat
  | (.string bytes, d) => bytes.length + uptoBulk d + 1
  | (_, d) => uptoBulk d + 1
 end
def uptoSmall : (H : Type) → List (DataW H) → Bool := fun _ ds => decide (uptoBulkAll ds ≤ 1048576)
def OpenSpec.upto (s : _root_.Go.ChangeSpec) : _root_.Go.OpenSpec := { _root_.Go.OpenSpec.ofChange s with cond := some uptoSmall }

/-- 'bulkheadlaw20.VdiskLatency', WHERE WHAT IT READS IS OF BULK AT MOST 1048576: true; the input reads as it did. -/
def vdiskLatencyUptoRow : OpenClaim := { program := "ytoejnhfcegchhaa", sum := "b98f0ef47f25aebce85c612d3278fdfb53a02e86bf7533d1bafac20347c05a09", func := "bulkhead/bulkheadlaw20.VdiskLatency", spec := "vdiskLatency", unfollowed := true, recurses := true, apart := false, narrowed := true }
def VdiskLatencyUptoSaid : Prop := vdiskLatencyUptoRow.holds Try.pinned (OpenSpec.upto vdiskLatencySpec)

/-- 'bulkheadlaw20.VdiskTags', WHERE WHAT IT READS IS OF BULK AT MOST 1048576: true; the input reads as it did. -/
def vdiskTagsUptoRow : OpenClaim := { program := "ytoejnhfcegchhaa", sum := "b98f0ef47f25aebce85c612d3278fdfb53a02e86bf7533d1bafac20347c05a09", func := "bulkhead/bulkheadlaw20.VdiskTags", spec := "vdiskTags", unfollowed := true, recurses := true, apart := false, narrowed := true }
def VdiskTagsUptoSaid : Prop := vdiskTagsUptoRow.holds Try.pinned (OpenSpec.upto vdiskTagsSpec)

/-- 'bulkheadlaw12.BlockOrder', WHERE WHAT IT READS IS OF BULK AT MOST 1048576: true; the input reads as it did. -/
def blockOrderUptoRow : OpenClaim := { program := "ytoejnhfcegchhaa", sum := "b98f0ef47f25aebce85c612d3278fdfb53a02e86bf7533d1bafac20347c05a09", func := "bulkhead/bulkheadlaw12.BlockOrder", spec := "blockOrder", unfollowed := true, recurses := true, apart := false, narrowed := true }
def BlockOrderUptoSaid : Prop := blockOrderUptoRow.holds Try.pinned (OpenSpec.upto blockOrderSpec)

/-- 'bulkheadlaw20.VdiskPlays', WHERE WHAT IT READS IS OF BULK AT MOST 1048576: true; the input reads as it did. -/
def vdiskPlaysUptoRow : OpenClaim := { program := "ytoejnhfcegchhaa", sum := "b98f0ef47f25aebce85c612d3278fdfb53a02e86bf7533d1bafac20347c05a09", func := "bulkhead/bulkheadlaw20.VdiskPlays", spec := "vdiskPlays", unfollowed := true, recurses := true, apart := false, narrowed := true }
def VdiskPlaysUptoSaid : Prop := vdiskPlaysUptoRow.holds Try.pinned (OpenSpec.upto vdiskPlaysSpec)

/-- 'bulkheadlaw12.BlockPlays', WHERE WHAT IT READS IS OF BULK AT MOST 1048576: true; the input reads as it did. -/
def blockPlaysUptoRow : OpenClaim := { program := "ytoejnhfcegchhaa", sum := "b98f0ef47f25aebce85c612d3278fdfb53a02e86bf7533d1bafac20347c05a09", func := "bulkhead/bulkheadlaw12.BlockPlays", spec := "blockPlays", unfollowed := true, recurses := true, apart := false, narrowed := true }
def BlockPlaysUptoSaid : Prop := blockPlaysUptoRow.holds Try.pinned (OpenSpec.upto blockPlaysSpec)

/-- 'bulkheadlaw12.BlockClones', WHERE WHAT IT READS IS OF BULK AT MOST 1048576: true; the input reads as it did. -/
def blockClonesUptoRow : OpenClaim := { program := "ytoejnhfcegchhaa", sum := "b98f0ef47f25aebce85c612d3278fdfb53a02e86bf7533d1bafac20347c05a09", func := "bulkhead/bulkheadlaw12.BlockClones", spec := "blockClones", unfollowed := true, recurses := true, apart := false, narrowed := true }
def BlockClonesUptoSaid : Prop := blockClonesUptoRow.holds Try.pinned (OpenSpec.upto blockClonesSpec)

end Rows
end Go.Proofs.Ytoejnhfcegchhaa
