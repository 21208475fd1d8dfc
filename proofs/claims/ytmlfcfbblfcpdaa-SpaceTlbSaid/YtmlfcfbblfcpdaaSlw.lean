/- What the space laws share: the acts. -/
import Derived.Test.YtmlfcfbblfcpdaaSpo
import Derived.Test.YtmlfcfbblfcpdaaMap
import Derived.Test.YtmlfcfbblfcpdaaRows
namespace Go.Proofs.Ytmlfcfbblfcpdaa.Sp
open Go Go.Sl Go.RowKit Go.Proofs Go.Proofs.Ytmlfcfbblfcpdaa.T Go.Proofs.Ytmlfcfbblfcpdaa.Me Go.Proofs.Ytmlfcfbblfcpdaa.Pe Go.Proofs.Ytmlfcfbblfcpdaa.Pg
set_option linter.unusedVariables false
set_option linter.unusedSimpArgs false
set_option maxRecDepth 100000
structure SSec where
  Page : Int
  Perm : Int
  Bytesa : Option Go.Addr
  Bytesc : Nat
  Bytes : List UInt8
def SSec.cells (o : SSec) : List Value := [.int .i64 o.Page, .int .i64 o.Perm, .slice o.Bytesa o.Bytes.length o.Bytesc]
structure SSec.OK (W : World) (o : SSec) : Prop where
  mk ::
  Page : (Lit.int .i64 o.Page).wf = true
  Perm : (Lit.int .i64 o.Perm).wf = true
  Bytesc : o.Bytes.length ≤ o.Bytesc
  Bytes : SlAt W 1 o.Bytesa o.Bytes.length (bytesV o.Bytes)
  Bytesm : o.Bytes.length ≤ reachBytes
theorem SSec.opn (W : World) : Opn Try.prog W 180 (fun cs => ∃ o : SSec, cs = o.cells ∧ o.OK W) := (Opn.of_fields Try.underlying180 (by kernel_rfl) (by kernel_rfl) (.cons (s := 1) (Opn.int Try.underlying3) (.cons (s := 1) (Opn.int Try.underlying3) (.cons (s := 1) (Opn.bytes Try.underlying73 Try.underlying5 (by kernel_rfl) (by kernel_rfl)) .nil)))).mono fun cs h => by
  obtain ⟨_, _, rfl, _, ⟨xPage, rfl, wPage⟩, ⟨_, _, rfl, _, ⟨xPerm, rfl, wPerm⟩, ⟨_, _, rfl, _, ⟨xBytesa, xBytesc, xBytes, rfl, wBytesc, wBytes, wBytesm⟩, rfl⟩⟩⟩ := h
  exact ⟨⟨xPage, xPerm, xBytesa, xBytesc, xBytes⟩, rfl, ⟨wPage, wPerm, wBytesc, wBytes, wBytesm⟩⟩
theorem SSec.len (o : SSec) : o.cells.length = 3 := rfl
theorem SSec.ones (o : SSec) : ∀ v ∈ o.cells, one v = true := by simp [SSec.cells, one]
theorem SSec.list (W : World) : Opn Try.prog W 74 (fun cs => ∃ a c, ∃ xs : List SSec, cs = [.slice a xs.length c] ∧ xs.length ≤ c ∧ (∀ x ∈ xs, SSec.OK W x) ∧ SlAt W 3 a xs.length ((xs.map SSec.cells).flatten) ∧ xs.length * 40 ≤ reachBytes) :=
  Opn.recs (sz := 3) (by' := 40) Try.underlying74 (by kernel_rfl) (by decide) (by kernel_rfl) (SSec.opn W)
structure SOp where
  Kind : Int
  Who : Int
  Page : Int
  Perm : Int
  Addr : Int
  Size : Int
  V : Int
  Ba : Option Go.Addr
  Bc : Nat
  B : List UInt8
  I_Entry : Int
  I_Sectionsa : Option Go.Addr
  I_Sectionsc : Nat
  I_Sections : List SSec
def SOp.cells (o : SOp) : List Value := [.int .i64 o.Kind, .int .i64 o.Who, .int .i64 o.Page, .int .i64 o.Perm, .int .u32 o.Addr, .int .i64 o.Size, .int .u64 o.V, .slice o.Ba o.B.length o.Bc, .int .u32 o.I_Entry, .slice o.I_Sectionsa o.I_Sections.length o.I_Sectionsc]
structure SOp.OK (W : World) (o : SOp) : Prop where
  mk ::
  Kind : (Lit.int .i64 o.Kind).wf = true
  Who : (Lit.int .i64 o.Who).wf = true
  Page : (Lit.int .i64 o.Page).wf = true
  Perm : (Lit.int .i64 o.Perm).wf = true
  Addr : (Lit.int .u32 o.Addr).wf = true
  Size : (Lit.int .i64 o.Size).wf = true
  V : (Lit.int .u64 o.V).wf = true
  Bc : o.B.length ≤ o.Bc
  B : SlAt W 1 o.Ba o.B.length (bytesV o.B)
  Bm : o.B.length ≤ reachBytes
  I_Entry : (Lit.int .u32 o.I_Entry).wf = true
  I_Sectionsc : o.I_Sections.length ≤ o.I_Sectionsc
  I_Sectionsk : ∀ x ∈ o.I_Sections, SSec.OK W x
  I_Sections : SlAt W 3 o.I_Sectionsa o.I_Sections.length ((o.I_Sections.map SSec.cells).flatten)
  I_Sectionsm : o.I_Sections.length * 40 ≤ reachBytes
theorem SOp.opn (W : World) : Opn Try.prog W 78 (fun cs => ∃ o : SOp, cs = o.cells ∧ o.OK W) := (Opn.of_fields Try.underlying78 (by kernel_rfl) (by kernel_rfl) (.cons (s := 1) (Opn.int Try.underlying3) (.cons (s := 1) (Opn.int Try.underlying3) (.cons (s := 1) (Opn.int Try.underlying3) (.cons (s := 1) (Opn.int Try.underlying3) (.cons (s := 1) (Opn.int Try.underlying32) (.cons (s := 1) (Opn.int Try.underlying3) (.cons (s := 1) (Opn.int Try.underlying29) (.cons (s := 1) (Opn.bytes Try.underlying73 Try.underlying5 (by kernel_rfl) (by kernel_rfl)) (.cons (s := 2) (Opn.of_fields Try.underlying76 (by kernel_rfl) (by kernel_rfl) (.cons (s := 1) (Opn.int Try.underlying32) (.cons (s := 1) (Opn.recs (sz := 3) (by' := 40) Try.underlying74 (by kernel_rfl) (by decide) (by kernel_rfl) (SSec.opn W)) .nil))) .nil)))))))))).mono fun cs h => by
  obtain ⟨_, _, rfl, _, ⟨xKind, rfl, wKind⟩, ⟨_, _, rfl, _, ⟨xWho, rfl, wWho⟩, ⟨_, _, rfl, _, ⟨xPage, rfl, wPage⟩, ⟨_, _, rfl, _, ⟨xPerm, rfl, wPerm⟩, ⟨_, _, rfl, _, ⟨xAddr, rfl, wAddr⟩, ⟨_, _, rfl, _, ⟨xSize, rfl, wSize⟩, ⟨_, _, rfl, _, ⟨xV, rfl, wV⟩, ⟨_, _, rfl, _, ⟨xBa, xBc, xB, rfl, wBc, wB, wBm⟩, ⟨_, _, rfl, _, ⟨_, _, rfl, _, ⟨xI_Entry, rfl, wI_Entry⟩, ⟨_, _, rfl, _, ⟨xI_Sectionsa, xI_Sectionsc, xI_Sections, rfl, wI_Sectionsc, wI_Sectionsk, wI_Sections, wI_Sectionsm⟩, rfl⟩⟩, rfl⟩⟩⟩⟩⟩⟩⟩⟩⟩ := h
  exact ⟨⟨xKind, xWho, xPage, xPerm, xAddr, xSize, xV, xBa, xBc, xB, xI_Entry, xI_Sectionsa, xI_Sectionsc, xI_Sections⟩, rfl, ⟨wKind, wWho, wPage, wPerm, wAddr, wSize, wV, wBc, wB, wBm, wI_Entry, wI_Sectionsc, wI_Sectionsk, wI_Sections, wI_Sectionsm⟩⟩
theorem SOp.len (o : SOp) : o.cells.length = 10 := rfl
theorem SOp.ones (o : SOp) : ∀ v ∈ o.cells, one v = true := by simp [SOp.cells, one]
theorem SOp.list (W : World) : Opn Try.prog W 59 (fun cs => ∃ a c, ∃ xs : List SOp, cs = [.slice a xs.length c] ∧ xs.length ≤ c ∧ (∀ x ∈ xs, SOp.OK W x) ∧ SlAt W 10 a xs.length ((xs.map SOp.cells).flatten) ∧ xs.length * 112 ≤ reachBytes) :=
  Opn.recs (sz := 10) (by' := 112) Try.underlying59 (by kernel_rfl) (by decide) (by kernel_rfl) (SOp.opn W)
abbrev vi : Int → Value := fun n => .int .i64 n
abbrev vb : Bool → Value := fun b => .bool b
theorem keyInt : KeyOK Try.prog 3 vi := KeyOK.int Try.underlying3
/-- Map: nothing, or a page. -/
theorem map_two (qk : Int) (o : Ob) (k : Nat) (p pm : Int) : ((mapO qk o k p pm).1 ≠ 0 ∧ (mapO qk o k p pm).2 = o) ∨
    (((0 ≤ p ∧ p < 4096) ∧ 1 ≤ pm ∧ pm ≤ 7) ∧ o.vw k p.toNat = none ∧ ((if o.ts k (p.toNat / 64) then 1 else 2 : Nat) : Int) ≤ qk - used o k ∧ mapO qk o k p pm = (0, ⟨up2 o.vw k p.toNat (some (pm.toNat, zs)), up2 o.ts k (p.toNat / 64) true, o.fr - (if o.ts k (p.toNat / 64) then 1 else 2)⟩)) := by
  rcases map_cases qk o k p pm with e | e | e | h
  · exact .inl (by rw [e]; exact ⟨show (2 : Int) ≠ 0 by decide, rfl⟩)
  · exact .inl (by rw [e]; exact ⟨show (91 : Int) ≠ 0 by decide, rfl⟩)
  · exact .inl (by rw [e]; exact ⟨show (141 : Int) ≠ 0 by decide, rfl⟩)
  · exact .inr h
theorem unmap_two (o : Ob) (k : Nat) (p : Int) : ((unmapO o k p).1 ≠ 0 ∧ (unmapO o k p).2 = o ∧ vI o k p = none) ∨ (∃ (q : Nat) (x : Nat × List UInt8), p = q ∧ q < 4096 ∧ o.vw k q = some x ∧ unmapO o k p = (0, ⟨up2 o.vw k q none, o.ts, o.fr + 1⟩)) := by
  unfold unmapO vI
  by_cases h : 0 ≤ p ∧ p < 4096
  · rw [if_neg (fun q => q h), if_pos h]
    cases hx : o.vw k p.toNat with
    | none => exact .inl ⟨by rw [if_neg (by simp)]; exact (show (90 : Int) ≠ 0 by decide), by rw [if_neg (by simp)], rfl⟩
    | some x => exact .inr ⟨p.toNat, x, by omega, by omega, hx, if_pos rfl⟩
  · rw [if_pos h, if_neg h]; exact .inl ⟨show (2 : Int) ≠ 0 by decide, rfl, rfl⟩
theorem write_some (o : Ob) (k ad : Nat) (sz : Int) (v : Nat) : (∀ k' p, ((writeO o k ad sz v).2.vw k' p).isSome = (o.vw k' p).isSome) ∧ (writeO o k ad sz v).2.ts = o.ts ∧ (∀ k' p, k' ≠ k → (writeO o k ad sz v).2.vw k' p = o.vw k' p) ∧ (writeO o k ad sz v).2.fr = o.fr := by
  unfold writeO
  split
  · exact ⟨fun _ _ => rfl, rfl, fun _ _ _ => rfl, rfl⟩
  split
  · exact ⟨fun _ _ => rfl, rfl, fun _ _ _ => rfl, rfl⟩
  split
  · exact ⟨fun _ _ => rfl, rfl, fun _ _ _ => rfl, rfl⟩
  cases hx : o.vw k (ad / 256) with
  | none => exact ⟨fun _ _ => rfl, rfl, fun _ _ _ => rfl, rfl⟩
  | some x =>
    simp only
    split
    · refine ⟨fun k' p => ?_, rfl, fun k' p hne => up2_ne (fun q => hne q.1), rfl⟩
      dsimp only
      by_cases h : k' = k ∧ p = ad / 256
      · obtain ⟨rfl, rfl⟩ := h; rw [up2_at, hx]; rfl
      · rw [up2_ne h]
    · exact ⟨fun _ _ => rfl, rfl, fun _ _ _ => rfl, rfl⟩
theorem used_some {o o' : Ob} (h1 : ∀ k p, (o'.vw k p).isSome = (o.vw k p).isSome) (h2 : o'.ts = o.ts) (k : Nat) : used o' k = used o k := by
  unfold used
  rw [h2, cN_congr 4096 fun p _ => h1 k p]
end Go.Proofs.Ytmlfcfbblfcpdaa.Sp
