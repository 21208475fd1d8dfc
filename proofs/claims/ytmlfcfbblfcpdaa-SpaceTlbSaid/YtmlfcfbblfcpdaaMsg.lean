/- Bytes where they lie, and a pool of them that is only read. No program in sight. -/
import Derived.Test.YtmlfcfbblfcpdaaTab
import Derived.Test.YtmlfcfbblfcpdaaFnv
namespace Go.Proofs.Ytmlfcfbblfcpdaa.Ms
open Go Go.Sl Go.RowKit Go.Proofs Go.Proofs.Ytmlfcfbblfcpdaa.T
set_option linter.unusedVariables false
set_option linter.unusedSimpArgs false
set_option maxRecDepth 100000
abbrev B := List UInt8
structure Msg where
  a : Option Addr
  c : Nat
  b : B
def Msg.cell (m : Msg) : Value := .slice m.a m.b.length m.c
abbrev Msg.own (m : Msg) : HProp := oby 5 m.a m.c m.b
abbrev pool (ms : List Msg) : HProp := Star (ms.map Msg.own)
def Msg.nil : Msg := ⟨none, 0, []⟩
theorem Msg.one (m : Msg) : one m.cell = true := rfl
theorem own_nil {G : List HProp} : Imp G (Msg.nil.own :: G) := oby_nil
theorem pool_nil {G : List HProp} : Imp G (pool [] :: G) := star_nil
theorem pool_add {G : List HProp} {m : Msg} {ms : List Msg} : Imp (m.own :: pool ms :: G) (pool (ms ++ [m]) :: G) := by
  have h := star_add (L := ms.map Msg.own) (A := m.own) (G := G)
  unfold pool; rw [List.map_append]; exact h
theorem pool_one {G : List HProp} {m : Msg} : Imp (m.own :: G) (pool [m] :: G) := Imp.trans (Imp.cons star_nil) (pool_add (ms := []))
theorem pool_join {G : List HProp} {ms ns : List Msg} : Imp (pool ms :: pool ns :: G) (pool (ms ++ ns) :: G) := by
  have h := star_join (L := ms.map Msg.own) (M := ns.map Msg.own) (G := G)
  unfold pool; rw [List.map_append]; exact h
theorem pool_rd {W0 : World} {G R : List HProp} {ms : List Msg} (x : Ext G (pool ms) R) {m : Msg} (h : m ∈ ms) : RdB W0 G m.a m.c m.b :=
  RdB.of_star (E := 5) x (List.mem_map_of_mem h)
theorem pool_cap {W0 : World} {G R : List HProp} {ms : List Msg} (x : Ext G (pool ms) R) (w : World) (hw : Sat W0 G w) : ∀ m ∈ ms, m.b.length ≤ m.c := fun m h => (pool_rd (W0 := W0) x h).cap w hw
theorem set_self {α : Type} {l : List α} {i : Nat} {x : α} (h : l[i]? = some x) : l.set i x = l := by
  obtain ⟨hi, rfl⟩ := List.getElem?_eq_some_iff.1 h
  exact List.set_getElem_self hi
/-- numbers of one kind as cells -/
def intsV (k : IntKind) (l : List Int) : List Value := l.map (Value.int k)
theorem intsV_len (k : IntKind) (l : List Int) : (intsV k l).length = l.length := by simp [intsV]
theorem intsV_ones (k : IntKind) (l : List Int) : ∀ v ∈ intsV k l, one v = true := by intro v hv; unfold intsV at hv; rw [List.mem_map] at hv; obtain ⟨x, _, rfl⟩ := hv; rfl
theorem intsV_get {k : IntKind} {l : List Int} {i : Nat} {x : Int} (h : l[i]? = some x) : (intsV k l)[i]? = some (.int k x) := by unfold intsV; rw [List.getElem?_map, h]; rfl
theorem intsV_app (k : IntKind) (l : List Int) (x : Int) : intsV k (l ++ [x]) = intsV k l ++ [.int k x] := by simp [intsV]
/-- A slice of numbers of one's own. -/
abbrev onum (E : Nat) (k : IntKind) (a : Option Addr) (c : Nat) (l : List Int) : HProp := osl E 1 a c l.length (intsV k l)
theorem onum_app (E : Nat) (k : IntKind) (a : Option Addr) (c : Nat) (l : List Int) (x : Int) : onum E k a c (l ++ [x]) = osl E 1 a c (l.length + 1) (intsV k l ++ [.int k x]) := by unfold onum; rw [List.length_append, intsV_app]; rfl
theorem flat_ones {α : Type} {f : α → List Value} (hf : ∀ x, ∀ v ∈ f x, Sl.one v = true) (l : List α) : ∀ v ∈ (l.map f).flatten, Sl.one v = true := by
  intro v hv
  obtain ⟨x, hx, hvx⟩ := List.mem_flatten.1 hv
  obtain ⟨y, _, rfl⟩ := List.mem_map.1 hx
  exact hf y v hvx
theorem flat_app {α : Type} (f : α → List Value) (l : List α) (x : α) : ((l ++ [x]).map f).flatten = (l.map f).flatten ++ f x := by simp
end Go.Proofs.Ytmlfcfbblfcpdaa.Ms
