/- The operations of the vcon laws, as records. -/
import Derived.Test.YtmhcdeklfecokaaVcon
import Derived.Test.YtmhcdeklfecokaaRow
namespace Go.Proofs.Ytmhcdeklfecokaa.Vc
open Go Go.Sl Go.RowKit Go.Proofs Go.Proofs.Ytmhcdeklfecokaa.T
set_option linter.unusedVariables false
set_option linter.unusedSimpArgs false
set_option maxRecDepth 100000
structure VOp where
  Kind : Int
  Ba : Option Addr
  Bc : Nat
  B : List UInt8
  N : Int
def VOp.cells (o : VOp) : List Value := [.int .i64 o.Kind, .slice o.Ba o.B.length o.Bc, .int .i64 o.N]
structure VOp.OK (W : World) (o : VOp) : Prop where
  mk ::
  Kind : (Lit.int .i64 o.Kind).wf = true
  Bc : o.B.length ≤ o.Bc
  B : SlAt W 1 o.Ba o.B.length (bytesV o.B)
  Bm : o.B.length ≤ reachBytes
  N : (Lit.int .i64 o.N).wf = true
theorem VOp.opn (W : World) : Opn Try.prog W 47 (fun cs => ∃ o : VOp, cs = o.cells ∧ o.OK W) := (Opn.of_fields Try.underlying47 (by kernel_rfl) (by kernel_rfl) (.cons (s := 1) (Opn.int Try.underlying3) (.cons (s := 1) (Opn.bytes Try.underlying30 Try.underlying5 (by kernel_rfl) (by kernel_rfl)) (.cons (s := 1) (Opn.int Try.underlying3) .nil)))).mono fun cs h => by
  obtain ⟨_, _, rfl, _, ⟨xKind, rfl, wKind⟩, ⟨_, _, rfl, _, ⟨xBa, xBc, xB, rfl, wBc, wB, wBm⟩, ⟨_, _, rfl, _, ⟨xN, rfl, wN⟩, rfl⟩⟩⟩ := h
  exact ⟨⟨xKind, xBa, xBc, xB, xN⟩, rfl, ⟨wKind, wBc, wB, wBm, wN⟩⟩
theorem VOp.len (o : VOp) : o.cells.length = 3 := rfl
theorem VOp.ones (o : VOp) : ∀ v ∈ o.cells, one v = true := by simp [VOp.cells, one]
theorem VOp.list (W : World) : Opn Try.prog W 44 (fun cs => ∃ a c, ∃ xs : List VOp, cs = [.slice a xs.length c] ∧ xs.length ≤ c ∧ (∀ x ∈ xs, VOp.OK W x) ∧ SlAt W 3 a xs.length ((xs.map VOp.cells).flatten) ∧ xs.length * 40 ≤ reachBytes) :=
  Opn.recs (sz := 3) (by' := 40) Try.underlying44 (by kernel_rfl) (by decide) (by kernel_rfl) (VOp.opn W)
end Go.Proofs.Ytmhcdeklfecokaa.Vc
