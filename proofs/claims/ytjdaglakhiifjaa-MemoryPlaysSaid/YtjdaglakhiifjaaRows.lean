/-
  No cell of these rows narrows 'for every input' (looked for: loops, veiled, ifaces, maps, wideKeys, modest, calm, conditions, laid).
  DERIVED. THE GIVEN ROWS OF THIS SEAT. 10 by the template 'for every input the law returns true; each argument reads behind the call as it read before'; 0 by the template 'total and deterministic' (their statements: YtjdaglakhiifjaaTotals.lean).
  GIVEN WITH THE SEED: the statements are not yours to turn. If you find one false, say at which input.
  Laid BY PROGRAM, IN A SANDBOX (cutbox-rows.mjs): the forced cells as the released guide's own fill.sh prints them over the translation 0c80b401acf07e57… (all of the seat's roots in one cut). By AI agents, Wed Nov 11 2026. No macro, syntax, notation, axiom, sorry.
-/
import Derived.Test.YtjdaglakhiifjaaChecked
import GoSem.Claim
import GoSem.ClaimJoined
import GoSem.ClaimMapViews
import Derived.JoinedTies
import Derived.KernelRfl
namespace Go.Proofs.Ytjdaglakhiifjaa
/- THE CELL 'sum', in the pinned program and in every row, IS THE sha256 OF THE DUMP (.gsa) THAT YtjdaglakhiifjaaProg.lean LOADS. Nothing in Lean hashes anything: it is a label: what it is worth is what the hold of that sum in a sandbox is worth. -/
noncomputable def Try.pinned : Pinned := { name := "ytjdaglakhiifjaa", sum := "0c80b401acf07e574feb483f625ce3e04f652b4f0654677afa528c41a66057ea", checked := Try.checked }
namespace Rows
def none {H : Type} : Left H := { results := [], args := [] }

/-- 'bulkheadlaw10.TlbKeeps': WHATEVER THE INPUT: true; the input reads as it did. -/
def tlbKeepsSpec : ChangeSpec := { name := "tlbKeeps", fn := fun _ => fun
  | [d1, d2, d3] => { results := [.lit (.bool true)], args := [d1, d2, d3] }
  | _ => none }
def tlbKeepsRow : OpenClaim := { program := "ytjdaglakhiifjaa", sum := "0c80b401acf07e574feb483f625ce3e04f652b4f0654677afa528c41a66057ea", func := "bulkhead/bulkheadlaw10.TlbKeeps", spec := "tlbKeeps", plainKeys := false, apart := false }
def TlbKeepsSaid : Prop := tlbKeepsRow.holds Try.pinned (OpenSpec.ofChange tlbKeepsSpec)

/-- ITS FALSE NEIGHBOUR: 'it returns false'. Refute it at one input. -/
def tlbKeepsWrong : ChangeSpec := { name := "tlbKeeps", fn := fun _ => fun
  | [d1, d2, d3] => { results := [.lit (.bool false)], args := [d1, d2, d3] }
  | _ => none }
def TlbKeepsWrongFalsely : Prop := tlbKeepsRow.holds Try.pinned (OpenSpec.ofChange tlbKeepsWrong)

/-- 'bulkheadlaw18.VirqTimer': WHATEVER THE INPUT: true; the input reads as it did. -/
def virqTimerSpec : ChangeSpec := { name := "virqTimer", fn := fun _ => fun
  | [d1, d2] => { results := [.lit (.bool true)], args := [d1, d2] }
  | _ => none }
def virqTimerRow : OpenClaim := { program := "ytjdaglakhiifjaa", sum := "0c80b401acf07e574feb483f625ce3e04f652b4f0654677afa528c41a66057ea", func := "bulkhead/bulkheadlaw18.VirqTimer", spec := "virqTimer", plainKeys := false, apart := false }
def VirqTimerSaid : Prop := virqTimerRow.holds Try.pinned (OpenSpec.ofChange virqTimerSpec)

/-- ITS FALSE NEIGHBOUR: 'it returns false'. Refute it at one input. -/
def virqTimerWrong : ChangeSpec := { name := "virqTimer", fn := fun _ => fun
  | [d1, d2] => { results := [.lit (.bool false)], args := [d1, d2] }
  | _ => none }
def VirqTimerWrongFalsely : Prop := virqTimerRow.holds Try.pinned (OpenSpec.ofChange virqTimerWrong)

/-- 'bulkheadlaw03.MemoryKeeps': WHATEVER THE INPUT: true; the input reads as it did. -/
def memoryKeepsSpec : ChangeSpec := { name := "memoryKeeps", fn := fun _ => fun
  | [d] => { results := [.lit (.bool true)], args := [d] }
  | _ => none }
def memoryKeepsRow : OpenClaim := { program := "ytjdaglakhiifjaa", sum := "0c80b401acf07e574feb483f625ce3e04f652b4f0654677afa528c41a66057ea", func := "bulkhead/bulkheadlaw03.MemoryKeeps", spec := "memoryKeeps", plainKeys := false, apart := false }
def MemoryKeepsSaid : Prop := memoryKeepsRow.holds Try.pinned (OpenSpec.ofChange memoryKeepsSpec)

/-- ITS FALSE NEIGHBOUR: 'it returns false'. Refute it at one input. -/
def memoryKeepsWrong : ChangeSpec := { name := "memoryKeeps", fn := fun _ => fun
  | [d] => { results := [.lit (.bool false)], args := [d] }
  | _ => none }
def MemoryKeepsWrongFalsely : Prop := memoryKeepsRow.holds Try.pinned (OpenSpec.ofChange memoryKeepsWrong)

/-- 'bulkheadlaw18.VirqWindows': WHATEVER THE INPUT: true; the input reads as it did. -/
def virqWindowsSpec : ChangeSpec := { name := "virqWindows", fn := fun _ => fun
  | [d] => { results := [.lit (.bool true)], args := [d] }
  | _ => none }
def virqWindowsRow : OpenClaim := { program := "ytjdaglakhiifjaa", sum := "0c80b401acf07e574feb483f625ce3e04f652b4f0654677afa528c41a66057ea", func := "bulkhead/bulkheadlaw18.VirqWindows", spec := "virqWindows", plainKeys := false, apart := false }
def VirqWindowsSaid : Prop := virqWindowsRow.holds Try.pinned (OpenSpec.ofChange virqWindowsSpec)

/-- ITS FALSE NEIGHBOUR: 'it returns false'. Refute it at one input. -/
def virqWindowsWrong : ChangeSpec := { name := "virqWindows", fn := fun _ => fun
  | [d] => { results := [.lit (.bool false)], args := [d] }
  | _ => none }
def VirqWindowsWrongFalsely : Prop := virqWindowsRow.holds Try.pinned (OpenSpec.ofChange virqWindowsWrong)

/-- 'bulkheadlaw03.MemoryWide': WHATEVER THE INPUT: true; the input reads as it did. -/
def memoryWideSpec : ChangeSpec := { name := "memoryWide", fn := fun _ => fun
  | [d1, d2] => { results := [.lit (.bool true)], args := [d1, d2] }
  | _ => none }
def memoryWideRow : OpenClaim := { program := "ytjdaglakhiifjaa", sum := "0c80b401acf07e574feb483f625ce3e04f652b4f0654677afa528c41a66057ea", func := "bulkhead/bulkheadlaw03.MemoryWide", spec := "memoryWide", plainKeys := false, apart := false }
def MemoryWideSaid : Prop := memoryWideRow.holds Try.pinned (OpenSpec.ofChange memoryWideSpec)

/-- ITS FALSE NEIGHBOUR: 'it returns false'. Refute it at one input. -/
def memoryWideWrong : ChangeSpec := { name := "memoryWide", fn := fun _ => fun
  | [d1, d2] => { results := [.lit (.bool false)], args := [d1, d2] }
  | _ => none }
def MemoryWideWrongFalsely : Prop := memoryWideRow.holds Try.pinned (OpenSpec.ofChange memoryWideWrong)

/-- 'bulkheadlaw18.VirqPlays': WHATEVER THE INPUT: true; the input reads as it did. -/
def virqPlaysSpec : ChangeSpec := { name := "virqPlays", fn := fun _ => fun
  | [d] => { results := [.lit (.bool true)], args := [d] }
  | _ => none }
def virqPlaysRow : OpenClaim := { program := "ytjdaglakhiifjaa", sum := "0c80b401acf07e574feb483f625ce3e04f652b4f0654677afa528c41a66057ea", func := "bulkhead/bulkheadlaw18.VirqPlays", spec := "virqPlays", plainKeys := false, apart := false }
def VirqPlaysSaid : Prop := virqPlaysRow.holds Try.pinned (OpenSpec.ofChange virqPlaysSpec)

/-- ITS FALSE NEIGHBOUR: 'it returns false'. Refute it at one input. -/
def virqPlaysWrong : ChangeSpec := { name := "virqPlays", fn := fun _ => fun
  | [d] => { results := [.lit (.bool false)], args := [d] }
  | _ => none }
def VirqPlaysWrongFalsely : Prop := virqPlaysRow.holds Try.pinned (OpenSpec.ofChange virqPlaysWrong)

/-- 'bulkheadlaw10.TlbTruth': WHATEVER THE INPUT: true; the input reads as it did. -/
def tlbTruthSpec : ChangeSpec := { name := "tlbTruth", fn := fun _ => fun
  | [d1, d2] => { results := [.lit (.bool true)], args := [d1, d2] }
  | _ => none }
def tlbTruthRow : OpenClaim := { program := "ytjdaglakhiifjaa", sum := "0c80b401acf07e574feb483f625ce3e04f652b4f0654677afa528c41a66057ea", func := "bulkhead/bulkheadlaw10.TlbTruth", spec := "tlbTruth", plainKeys := false, apart := false }
def TlbTruthSaid : Prop := tlbTruthRow.holds Try.pinned (OpenSpec.ofChange tlbTruthSpec)

/-- ITS FALSE NEIGHBOUR: 'it returns false'. Refute it at one input. -/
def tlbTruthWrong : ChangeSpec := { name := "tlbTruth", fn := fun _ => fun
  | [d1, d2] => { results := [.lit (.bool false)], args := [d1, d2] }
  | _ => none }
def TlbTruthWrongFalsely : Prop := tlbTruthRow.holds Try.pinned (OpenSpec.ofChange tlbTruthWrong)

/-- 'bulkheadlaw10.TlbFlushes': WHATEVER THE INPUT: true; the input reads as it did. -/
def tlbFlushesSpec : ChangeSpec := { name := "tlbFlushes", fn := fun _ => fun
  | [d1, d2, d3] => { results := [.lit (.bool true)], args := [d1, d2, d3] }
  | _ => none }
def tlbFlushesRow : OpenClaim := { program := "ytjdaglakhiifjaa", sum := "0c80b401acf07e574feb483f625ce3e04f652b4f0654677afa528c41a66057ea", func := "bulkhead/bulkheadlaw10.TlbFlushes", spec := "tlbFlushes", plainKeys := false, apart := false }
def TlbFlushesSaid : Prop := tlbFlushesRow.holds Try.pinned (OpenSpec.ofChange tlbFlushesSpec)

/-- ITS FALSE NEIGHBOUR: 'it returns false'. Refute it at one input. -/
def tlbFlushesWrong : ChangeSpec := { name := "tlbFlushes", fn := fun _ => fun
  | [d1, d2, d3] => { results := [.lit (.bool false)], args := [d1, d2, d3] }
  | _ => none }
def TlbFlushesWrongFalsely : Prop := tlbFlushesRow.holds Try.pinned (OpenSpec.ofChange tlbFlushesWrong)

/-- 'bulkheadlaw03.MemoryPlays': WHATEVER THE INPUT: true; the input reads as it did. -/
def memoryPlaysSpec : ChangeSpec := { name := "memoryPlays", fn := fun _ => fun
  | [d1, d2] => { results := [.lit (.bool true)], args := [d1, d2] }
  | _ => none }
def memoryPlaysRow : OpenClaim := { program := "ytjdaglakhiifjaa", sum := "0c80b401acf07e574feb483f625ce3e04f652b4f0654677afa528c41a66057ea", func := "bulkhead/bulkheadlaw03.MemoryPlays", spec := "memoryPlays", plainKeys := false, apart := false }
def MemoryPlaysSaid : Prop := memoryPlaysRow.holds Try.pinned (OpenSpec.ofChange memoryPlaysSpec)

/-- ITS FALSE NEIGHBOUR: 'it returns false'. Refute it at one input. -/
def memoryPlaysWrong : ChangeSpec := { name := "memoryPlays", fn := fun _ => fun
  | [d1, d2] => { results := [.lit (.bool false)], args := [d1, d2] }
  | _ => none }
def MemoryPlaysWrongFalsely : Prop := memoryPlaysRow.holds Try.pinned (OpenSpec.ofChange memoryPlaysWrong)

/-- 'bulkheadlaw10.TlbPlays': WHATEVER THE INPUT: true; the input reads as it did. -/
def tlbPlaysSpec : ChangeSpec := { name := "tlbPlays", fn := fun _ => fun
  | [d1, d2] => { results := [.lit (.bool true)], args := [d1, d2] }
  | _ => none }
def tlbPlaysRow : OpenClaim := { program := "ytjdaglakhiifjaa", sum := "0c80b401acf07e574feb483f625ce3e04f652b4f0654677afa528c41a66057ea", func := "bulkhead/bulkheadlaw10.TlbPlays", spec := "tlbPlays", plainKeys := false, apart := false }
def TlbPlaysSaid : Prop := tlbPlaysRow.holds Try.pinned (OpenSpec.ofChange tlbPlaysSpec)

/-- ITS FALSE NEIGHBOUR: 'it returns false'. Refute it at one input. -/
def tlbPlaysWrong : ChangeSpec := { name := "tlbPlays", fn := fun _ => fun
  | [d1, d2] => { results := [.lit (.bool false)], args := [d1, d2] }
  | _ => none }
def TlbPlaysWrongFalsely : Prop := tlbPlaysRow.holds Try.pinned (OpenSpec.ofChange tlbPlaysWrong)

/- THE SECOND FORM. 'bulk': how many values and letters a reading holds, each counted each time it is reached (what is shared counts as often as it is met; a slice's spare places count too). A statement '..UptoSaid' is the law's where the arguments, and the package variables that the reading takes, are together of bulk at most 1048576: NARROWER than '..Said'. Prove '..Said' where nothing that the law and all that it calls make is longer than what came in: it says more and counts as full. Else prove '..UptoSaid'. A law counts once. -/
mutual
def uptoBulk {H : Type} : DataW H → Nat
  | .lit (.string bytes) => bytes.length + 1
  | .lit _ => 1
  | .nil => 1
  | .ptr d => uptoBulk d + 1
  | .slice elems spare => uptoBulkAll elems + uptoBulkAll spare + 1
  | .agg parts => uptoBulkAll parts + 1
  | .iface _ d => uptoBulk d + 1
  | .map entries => uptoBulkEntries entries + 1
  | .held _ => 1
def uptoBulkAll {H : Type} : List (DataW H) → Nat
  | [] => 0
  | d :: r => uptoBulk d + uptoBulkAll r
def uptoBulkEntries {H : Type} : List (Lit × DataW H) → Nat
  | [] => 0
  | x :: r => uptoBulkEntry x + uptoBulkEntries r
def uptoBulkEntry {H : Type} : Lit × DataW H → Nat
  | (.string bytes, d) => bytes.length + uptoBulk d + 1
  | (_, d) => uptoBulk d + 1
 end
def uptoSmall : (H : Type) → List (DataW H) → Bool := fun _ ds => decide (uptoBulkAll ds ≤ 1048576)
def OpenSpec.upto (s : _root_.Go.ChangeSpec) : _root_.Go.OpenSpec := { _root_.Go.OpenSpec.ofChange s with cond := some uptoSmall }

/-- 'bulkheadlaw10.TlbKeeps', WHERE WHAT IT READS IS OF BULK AT MOST 1048576: true; the input reads as it did. -/
def tlbKeepsUptoRow : OpenClaim := { program := "ytjdaglakhiifjaa", sum := "0c80b401acf07e574feb483f625ce3e04f652b4f0654677afa528c41a66057ea", func := "bulkhead/bulkheadlaw10.TlbKeeps", spec := "tlbKeeps", plainKeys := false, apart := false, narrowed := true }
def TlbKeepsUptoSaid : Prop := tlbKeepsUptoRow.holds Try.pinned (OpenSpec.upto tlbKeepsSpec)

/-- 'bulkheadlaw18.VirqTimer', WHERE WHAT IT READS IS OF BULK AT MOST 1048576: true; the input reads as it did. -/
def virqTimerUptoRow : OpenClaim := { program := "ytjdaglakhiifjaa", sum := "0c80b401acf07e574feb483f625ce3e04f652b4f0654677afa528c41a66057ea", func := "bulkhead/bulkheadlaw18.VirqTimer", spec := "virqTimer", plainKeys := false, apart := false, narrowed := true }
def VirqTimerUptoSaid : Prop := virqTimerUptoRow.holds Try.pinned (OpenSpec.upto virqTimerSpec)

/-- 'bulkheadlaw03.MemoryKeeps', WHERE WHAT IT READS IS OF BULK AT MOST 1048576: true; the input reads as it did. -/
def memoryKeepsUptoRow : OpenClaim := { program := "ytjdaglakhiifjaa", sum := "0c80b401acf07e574feb483f625ce3e04f652b4f0654677afa528c41a66057ea", func := "bulkhead/bulkheadlaw03.MemoryKeeps", spec := "memoryKeeps", plainKeys := false, apart := false, narrowed := true }
def MemoryKeepsUptoSaid : Prop := memoryKeepsUptoRow.holds Try.pinned (OpenSpec.upto memoryKeepsSpec)

/-- 'bulkheadlaw18.VirqWindows', WHERE WHAT IT READS IS OF BULK AT MOST 1048576: true; the input reads as it did. -/
def virqWindowsUptoRow : OpenClaim := { program := "ytjdaglakhiifjaa", sum := "0c80b401acf07e574feb483f625ce3e04f652b4f0654677afa528c41a66057ea", func := "bulkhead/bulkheadlaw18.VirqWindows", spec := "virqWindows", plainKeys := false, apart := false, narrowed := true }
def VirqWindowsUptoSaid : Prop := virqWindowsUptoRow.holds Try.pinned (OpenSpec.upto virqWindowsSpec)

/-- 'bulkheadlaw03.MemoryWide', WHERE WHAT IT READS IS OF BULK AT MOST 1048576: true; the input reads as it did. -/
def memoryWideUptoRow : OpenClaim := { program := "ytjdaglakhiifjaa", sum := "0c80b401acf07e574feb483f625ce3e04f652b4f0654677afa528c41a66057ea", func := "bulkhead/bulkheadlaw03.MemoryWide", spec := "memoryWide", plainKeys := false, apart := false, narrowed := true }
def MemoryWideUptoSaid : Prop := memoryWideUptoRow.holds Try.pinned (OpenSpec.upto memoryWideSpec)

/-- 'bulkheadlaw18.VirqPlays', WHERE WHAT IT READS IS OF BULK AT MOST 1048576: true; the input reads as it did. -/
def virqPlaysUptoRow : OpenClaim := { program := "ytjdaglakhiifjaa", sum := "0c80b401acf07e574feb483f625ce3e04f652b4f0654677afa528c41a66057ea", func := "bulkhead/bulkheadlaw18.VirqPlays", spec := "virqPlays", plainKeys := false, apart := false, narrowed := true }
def VirqPlaysUptoSaid : Prop := virqPlaysUptoRow.holds Try.pinned (OpenSpec.upto virqPlaysSpec)

/-- 'bulkheadlaw10.TlbTruth', WHERE WHAT IT READS IS OF BULK AT MOST 1048576: true; the input reads as it did. -/
def tlbTruthUptoRow : OpenClaim := { program := "ytjdaglakhiifjaa", sum := "0c80b401acf07e574feb483f625ce3e04f652b4f0654677afa528c41a66057ea", func := "bulkhead/bulkheadlaw10.TlbTruth", spec := "tlbTruth", plainKeys := false, apart := false, narrowed := true }
def TlbTruthUptoSaid : Prop := tlbTruthUptoRow.holds Try.pinned (OpenSpec.upto tlbTruthSpec)

/-- 'bulkheadlaw10.TlbFlushes', WHERE WHAT IT READS IS OF BULK AT MOST 1048576: true; the input reads as it did. -/
def tlbFlushesUptoRow : OpenClaim := { program := "ytjdaglakhiifjaa", sum := "0c80b401acf07e574feb483f625ce3e04f652b4f0654677afa528c41a66057ea", func := "bulkhead/bulkheadlaw10.TlbFlushes", spec := "tlbFlushes", plainKeys := false, apart := false, narrowed := true }
def TlbFlushesUptoSaid : Prop := tlbFlushesUptoRow.holds Try.pinned (OpenSpec.upto tlbFlushesSpec)

/-- 'bulkheadlaw03.MemoryPlays', WHERE WHAT IT READS IS OF BULK AT MOST 1048576: true; the input reads as it did. -/
def memoryPlaysUptoRow : OpenClaim := { program := "ytjdaglakhiifjaa", sum := "0c80b401acf07e574feb483f625ce3e04f652b4f0654677afa528c41a66057ea", func := "bulkhead/bulkheadlaw03.MemoryPlays", spec := "memoryPlays", plainKeys := false, apart := false, narrowed := true }
def MemoryPlaysUptoSaid : Prop := memoryPlaysUptoRow.holds Try.pinned (OpenSpec.upto memoryPlaysSpec)

/-- 'bulkheadlaw10.TlbPlays', WHERE WHAT IT READS IS OF BULK AT MOST 1048576: true; the input reads as it did. -/
def tlbPlaysUptoRow : OpenClaim := { program := "ytjdaglakhiifjaa", sum := "0c80b401acf07e574feb483f625ce3e04f652b4f0654677afa528c41a66057ea", func := "bulkhead/bulkheadlaw10.TlbPlays", spec := "tlbPlays", plainKeys := false, apart := false, narrowed := true }
def TlbPlaysUptoSaid : Prop := tlbPlaysUptoRow.holds Try.pinned (OpenSpec.upto tlbPlaysSpec)

end Rows
end Go.Proofs.Ytjdaglakhiifjaa
