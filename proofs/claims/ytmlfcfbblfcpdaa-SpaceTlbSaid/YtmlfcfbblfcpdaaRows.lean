/-
  No cell of these rows narrows 'for every input' (looked for: loops, veiled, ifaces, maps, wideKeys, modest, calm, conditions, laid).
  DERIVED. THE GIVEN ROWS OF THIS SEAT. 6 by the template 'for every input the law returns true; each argument reads behind the call as it read before'; 0 by the template 'total and deterministic' (their statements: YtmlfcfbblfcpdaaTotals.lean).
  GIVEN WITH THE SEED: the statements are not yours to turn. If you find one false, say at which input.
  Laid BY PROGRAM, IN A SANDBOX (cutbox-rows.mjs): the forced cells as the released guide's own fill.sh prints them over the translation a23b35a62f0dd241… (all of the seat's roots in one cut). By AI agents, Wed Nov 11 2026. No macro, syntax, notation, axiom, sorry.
-/
import Derived.Test.YtmlfcfbblfcpdaaChecked
import GoSem.Claim
import GoSem.ClaimJoined
import GoSem.ClaimMapViews
import Derived.JoinedTies
import Derived.KernelRfl
namespace Go.Proofs.Ytmlfcfbblfcpdaa
/- THE CELL 'sum', in the pinned program and in every row, IS THE sha256 OF THE DUMP (.gsa) THAT YtmlfcfbblfcpdaaProg.lean LOADS. Nothing in Lean hashes anything: it is a label: what it is worth is what the hold of that sum in a sandbox is worth. -/
noncomputable def Try.pinned : Pinned := { name := "ytmlfcfbblfcpdaa", sum := "a23b35a62f0dd2411544afc59daf8a668c6d30cd113644e4ce1a25659322c4bc", checked := Try.checked }
namespace Rows
def none {H : Type} : Left H := { results := [], args := [] }

/-- 'bulkheadlaw09.PageKeeps': WHATEVER THE INPUT: true; the input reads as it did. -/
def pageKeepsSpec : ChangeSpec := { name := "pageKeeps", fn := fun _ => fun
  | [d] => { results := [.lit (.bool true)], args := [d] }
  | _ => none }
def pageKeepsRow : OpenClaim := { program := "ytmlfcfbblfcpdaa", sum := "a23b35a62f0dd2411544afc59daf8a668c6d30cd113644e4ce1a25659322c4bc", func := "bulkhead/bulkheadlaw09.PageKeeps", spec := "pageKeeps", unfollowed := true, recurses := true, apart := false }
def PageKeepsSaid : Prop := pageKeepsRow.holds Try.pinned (OpenSpec.ofChange pageKeepsSpec)

/-- ITS FALSE NEIGHBOUR: 'it returns false'. Refute it at one input. -/
def pageKeepsWrong : ChangeSpec := { name := "pageKeeps", fn := fun _ => fun
  | [d] => { results := [.lit (.bool false)], args := [d] }
  | _ => none }
def PageKeepsWrongFalsely : Prop := pageKeepsRow.holds Try.pinned (OpenSpec.ofChange pageKeepsWrong)

/-- 'bulkheadlaw09.PageAlone': WHATEVER THE INPUT: true; the input reads as it did. -/
def pageAloneSpec : ChangeSpec := { name := "pageAlone", fn := fun _ => fun
  | [d] => { results := [.lit (.bool true)], args := [d] }
  | _ => none }
def pageAloneRow : OpenClaim := { program := "ytmlfcfbblfcpdaa", sum := "a23b35a62f0dd2411544afc59daf8a668c6d30cd113644e4ce1a25659322c4bc", func := "bulkhead/bulkheadlaw09.PageAlone", spec := "pageAlone", unfollowed := true, recurses := true, apart := false }
def PageAloneSaid : Prop := pageAloneRow.holds Try.pinned (OpenSpec.ofChange pageAloneSpec)

/-- ITS FALSE NEIGHBOUR: 'it returns false'. Refute it at one input. -/
def pageAloneWrong : ChangeSpec := { name := "pageAlone", fn := fun _ => fun
  | [d] => { results := [.lit (.bool false)], args := [d] }
  | _ => none }
def PageAloneWrongFalsely : Prop := pageAloneRow.holds Try.pinned (OpenSpec.ofChange pageAloneWrong)

/-- 'bulkheadlaw09.PagePlays': WHATEVER THE INPUT: true; the input reads as it did. -/
def pagePlaysSpec : ChangeSpec := { name := "pagePlays", fn := fun _ => fun
  | [d1, d2, d3] => { results := [.lit (.bool true)], args := [d1, d2, d3] }
  | _ => none }
def pagePlaysRow : OpenClaim := { program := "ytmlfcfbblfcpdaa", sum := "a23b35a62f0dd2411544afc59daf8a668c6d30cd113644e4ce1a25659322c4bc", func := "bulkhead/bulkheadlaw09.PagePlays", spec := "pagePlays", unfollowed := true, recurses := true, apart := false }
def PagePlaysSaid : Prop := pagePlaysRow.holds Try.pinned (OpenSpec.ofChange pagePlaysSpec)

/-- ITS FALSE NEIGHBOUR: 'it returns false'. Refute it at one input. -/
def pagePlaysWrong : ChangeSpec := { name := "pagePlays", fn := fun _ => fun
  | [d1, d2, d3] => { results := [.lit (.bool false)], args := [d1, d2, d3] }
  | _ => none }
def PagePlaysWrongFalsely : Prop := pagePlaysRow.holds Try.pinned (OpenSpec.ofChange pagePlaysWrong)

/-- 'bulkheadlaw17.SpaceOwn': WHATEVER THE INPUT: true; the input reads as it did. -/
def spaceOwnSpec : ChangeSpec := { name := "spaceOwn", fn := fun _ => fun
  | [d] => { results := [.lit (.bool true)], args := [d] }
  | _ => none }
def spaceOwnRow : OpenClaim := { program := "ytmlfcfbblfcpdaa", sum := "a23b35a62f0dd2411544afc59daf8a668c6d30cd113644e4ce1a25659322c4bc", func := "bulkhead/bulkheadlaw17.SpaceOwn", spec := "spaceOwn", unfollowed := true, recurses := true, apart := false }
def SpaceOwnSaid : Prop := spaceOwnRow.holds Try.pinned (OpenSpec.ofChange spaceOwnSpec)

/-- ITS FALSE NEIGHBOUR: 'it returns false'. Refute it at one input. -/
def spaceOwnWrong : ChangeSpec := { name := "spaceOwn", fn := fun _ => fun
  | [d] => { results := [.lit (.bool false)], args := [d] }
  | _ => none }
def SpaceOwnWrongFalsely : Prop := spaceOwnRow.holds Try.pinned (OpenSpec.ofChange spaceOwnWrong)

/-- 'bulkheadlaw17.SpaceFrames': WHATEVER THE INPUT: true; the input reads as it did. -/
def spaceFramesSpec : ChangeSpec := { name := "spaceFrames", fn := fun _ => fun
  | [d] => { results := [.lit (.bool true)], args := [d] }
  | _ => none }
def spaceFramesRow : OpenClaim := { program := "ytmlfcfbblfcpdaa", sum := "a23b35a62f0dd2411544afc59daf8a668c6d30cd113644e4ce1a25659322c4bc", func := "bulkhead/bulkheadlaw17.SpaceFrames", spec := "spaceFrames", unfollowed := true, recurses := true, apart := false }
def SpaceFramesSaid : Prop := spaceFramesRow.holds Try.pinned (OpenSpec.ofChange spaceFramesSpec)

/-- ITS FALSE NEIGHBOUR: 'it returns false'. Refute it at one input. -/
def spaceFramesWrong : ChangeSpec := { name := "spaceFrames", fn := fun _ => fun
  | [d] => { results := [.lit (.bool false)], args := [d] }
  | _ => none }
def SpaceFramesWrongFalsely : Prop := spaceFramesRow.holds Try.pinned (OpenSpec.ofChange spaceFramesWrong)

/-- 'bulkheadlaw17.SpaceTlb': WHATEVER THE INPUT: true; the input reads as it did. -/
def spaceTlbSpec : ChangeSpec := { name := "spaceTlb", fn := fun _ => fun
  | [d] => { results := [.lit (.bool true)], args := [d] }
  | _ => none }
def spaceTlbRow : OpenClaim := { program := "ytmlfcfbblfcpdaa", sum := "a23b35a62f0dd2411544afc59daf8a668c6d30cd113644e4ce1a25659322c4bc", func := "bulkhead/bulkheadlaw17.SpaceTlb", spec := "spaceTlb", unfollowed := true, recurses := true, apart := false }
def SpaceTlbSaid : Prop := spaceTlbRow.holds Try.pinned (OpenSpec.ofChange spaceTlbSpec)

/-- ITS FALSE NEIGHBOUR: 'it returns false'. Refute it at one input. -/
def spaceTlbWrong : ChangeSpec := { name := "spaceTlb", fn := fun _ => fun
  | [d] => { results := [.lit (.bool false)], args := [d] }
  | _ => none }
def SpaceTlbWrongFalsely : Prop := spaceTlbRow.holds Try.pinned (OpenSpec.ofChange spaceTlbWrong)

/- THE SECOND FORM. 'bulk': how many values and letters a reading holds, each counted each time it is reached (what is shared counts as often as it is met; a slice's spare places count too). A statement '..UptoSaid' is the law's where the arguments, and the package variables that the reading takes, are together of bulk at most 1048576: NARROWER than '..Said'. Prove '..Said' where nothing that the law and all that it calls make is longer than what came in: it says more and counts as full. Else prove '..UptoSaid'. A law counts once. -/
mutual
def uptoBulk {H : Type} : DataW H → Nat
  | .lit (.string bytes) => bytes.length + 1
  | .lit _ => 1
  | .nil => 1
  | .ptr d => uptoBulk d + 1
  | .slice elems spare => uptoBulkAll elems + uptoBulkAll spare + 1
  | .agg parts => uptoBulkAll parts + 1
  | .iface _ d => uptoBulk d + 1
  | .map entries => uptoBulkEntries entries + 1
  | .held _ => 1
def uptoBulkAll {H : Type} : List (DataW H) → Nat
  | [] => 0
  | d :: r => uptoBulk d + uptoBulkAll r
def uptoBulkEntries {H : Type} : List (Lit × DataW H) → Nat
  | [] => 0
  | x :: r => uptoBulkEntry x + uptoBulkEntries r
def uptoBulkEntry {H : Type} : Lit × DataW H → Nat
  | (.string bytes, d) => bytes.length + uptoBulk d + 1
  | (_, d) => uptoBulk d + 1
 end
def uptoSmall : (H : Type) → List (DataW H) → Bool := fun _ ds => decide (uptoBulkAll ds ≤ 1048576)
def OpenSpec.upto (s : _root_.Go.ChangeSpec) : _root_.Go.OpenSpec := { _root_.Go.OpenSpec.ofChange s with cond := some uptoSmall }

/-- 'bulkheadlaw09.PageKeeps', WHERE WHAT IT READS IS OF BULK AT MOST 1048576: true; the input reads as it did. -/
def pageKeepsUptoRow : OpenClaim := { program := "ytmlfcfbblfcpdaa", sum := "a23b35a62f0dd2411544afc59daf8a668c6d30cd113644e4ce1a25659322c4bc", func := "bulkhead/bulkheadlaw09.PageKeeps", spec := "pageKeeps", unfollowed := true, recurses := true, apart := false, narrowed := true }
def PageKeepsUptoSaid : Prop := pageKeepsUptoRow.holds Try.pinned (OpenSpec.upto pageKeepsSpec)

/-- 'bulkheadlaw09.PageAlone', WHERE WHAT IT READS IS OF BULK AT MOST 1048576: true; the input reads as it did. -/
def pageAloneUptoRow : OpenClaim := { program := "ytmlfcfbblfcpdaa", sum := "a23b35a62f0dd2411544afc59daf8a668c6d30cd113644e4ce1a25659322c4bc", func := "bulkhead/bulkheadlaw09.PageAlone", spec := "pageAlone", unfollowed := true, recurses := true, apart := false, narrowed := true }
def PageAloneUptoSaid : Prop := pageAloneUptoRow.holds Try.pinned (OpenSpec.upto pageAloneSpec)

/-- 'bulkheadlaw09.PagePlays', WHERE WHAT IT READS IS OF BULK AT MOST 1048576: true; the input reads as it did. -/
def pagePlaysUptoRow : OpenClaim := { program := "ytmlfcfbblfcpdaa", sum := "a23b35a62f0dd2411544afc59daf8a668c6d30cd113644e4ce1a25659322c4bc", func := "bulkhead/bulkheadlaw09.PagePlays", spec := "pagePlays", unfollowed := true, recurses := true, apart := false, narrowed := true }
def PagePlaysUptoSaid : Prop := pagePlaysUptoRow.holds Try.pinned (OpenSpec.upto pagePlaysSpec)

/-- 'bulkheadlaw17.SpaceOwn', WHERE WHAT IT READS IS OF BULK AT MOST 1048576: true; the input reads as it did. -/
def spaceOwnUptoRow : OpenClaim := { program := "ytmlfcfbblfcpdaa", sum := "a23b35a62f0dd2411544afc59daf8a668c6d30cd113644e4ce1a25659322c4bc", func := "bulkhead/bulkheadlaw17.SpaceOwn", spec := "spaceOwn", unfollowed := true, recurses := true, apart := false, narrowed := true }
def SpaceOwnUptoSaid : Prop := spaceOwnUptoRow.holds Try.pinned (OpenSpec.upto spaceOwnSpec)

/-- 'bulkheadlaw17.SpaceFrames', WHERE WHAT IT READS IS OF BULK AT MOST 1048576: true; the input reads as it did. -/
def spaceFramesUptoRow : OpenClaim := { program := "ytmlfcfbblfcpdaa", sum := "a23b35a62f0dd2411544afc59daf8a668c6d30cd113644e4ce1a25659322c4bc", func := "bulkhead/bulkheadlaw17.SpaceFrames", spec := "spaceFrames", unfollowed := true, recurses := true, apart := false, narrowed := true }
def SpaceFramesUptoSaid : Prop := spaceFramesUptoRow.holds Try.pinned (OpenSpec.upto spaceFramesSpec)

/-- 'bulkheadlaw17.SpaceTlb', WHERE WHAT IT READS IS OF BULK AT MOST 1048576: true; the input reads as it did. -/
def spaceTlbUptoRow : OpenClaim := { program := "ytmlfcfbblfcpdaa", sum := "a23b35a62f0dd2411544afc59daf8a668c6d30cd113644e4ce1a25659322c4bc", func := "bulkhead/bulkheadlaw17.SpaceTlb", spec := "spaceTlb", unfollowed := true, recurses := true, apart := false, narrowed := true }
def SpaceTlbUptoSaid : Prop := spaceTlbUptoRow.holds Try.pinned (OpenSpec.upto spaceTlbSpec)

end Rows
end Go.Proofs.Ytmlfcfbblfcpdaa
