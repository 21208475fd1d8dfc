/- What the page laws share: the acts, and the example of the chapter. -/
import Derived.Test.YtmlfcfbblfcpdaaPgw
import Derived.Test.YtmlfcfbblfcpdaaMap
import Derived.Test.YtmlfcfbblfcpdaaRows
namespace Go.Proofs.Ytmlfcfbblfcpdaa.Pg
open Go Go.Sl Go.RowKit Go.Proofs Go.Proofs.Ytmlfcfbblfcpdaa.T Go.Proofs.Ytmlfcfbblfcpdaa.Me Go.Proofs.Ytmlfcfbblfcpdaa.Pe
set_option linter.unusedVariables false
set_option linter.unusedSimpArgs false
set_option maxRecDepth 100000
structure POp where
  Kind : Int
  Root : Int
  Put_Page : Int
  Put_Frame : Int
  Put_Perm : Int
  Put_Spare : Int
  Addr : Int
  V : Int
def POp.cells (o : POp) : List Value := [.int .i64 o.Kind, .int .i64 o.Root, .int .i64 o.Put_Page, .int .i64 o.Put_Frame, .int .i64 o.Put_Perm, .int .i64 o.Put_Spare, .int .u32 o.Addr, .int .u32 o.V]
structure POp.OK (W : World) (o : POp) : Prop where
  mk ::
  Kind : (Lit.int .i64 o.Kind).wf = true
  Root : (Lit.int .i64 o.Root).wf = true
  Put_Page : (Lit.int .i64 o.Put_Page).wf = true
  Put_Frame : (Lit.int .i64 o.Put_Frame).wf = true
  Put_Perm : (Lit.int .i64 o.Put_Perm).wf = true
  Put_Spare : (Lit.int .i64 o.Put_Spare).wf = true
  Addr : (Lit.int .u32 o.Addr).wf = true
  V : (Lit.int .u32 o.V).wf = true
theorem POp.opn (W : World) : Opn Try.prog W 34 (fun cs => ∃ o : POp, cs = o.cells ∧ o.OK W) := (Opn.of_fields Try.underlying34 (by kernel_rfl) (by kernel_rfl) (.cons (s := 1) (Opn.int Try.underlying3) (.cons (s := 1) (Opn.int Try.underlying3) (.cons (s := 4) (Opn.of_fields Try.underlying31 (by kernel_rfl) (by kernel_rfl) (.cons (s := 1) (Opn.int Try.underlying3) (.cons (s := 1) (Opn.int Try.underlying3) (.cons (s := 1) (Opn.int Try.underlying3) (.cons (s := 1) (Opn.int Try.underlying3) .nil))))) (.cons (s := 1) (Opn.int Try.underlying32) (.cons (s := 1) (Opn.int Try.underlying32) .nil)))))).mono fun cs h => by
  obtain ⟨_, _, rfl, _, ⟨xKind, rfl, wKind⟩, ⟨_, _, rfl, _, ⟨xRoot, rfl, wRoot⟩, ⟨_, _, rfl, _, ⟨_, _, rfl, _, ⟨xPut_Page, rfl, wPut_Page⟩, ⟨_, _, rfl, _, ⟨xPut_Frame, rfl, wPut_Frame⟩, ⟨_, _, rfl, _, ⟨xPut_Perm, rfl, wPut_Perm⟩, ⟨_, _, rfl, _, ⟨xPut_Spare, rfl, wPut_Spare⟩, rfl⟩⟩⟩⟩, ⟨_, _, rfl, _, ⟨xAddr, rfl, wAddr⟩, ⟨_, _, rfl, _, ⟨xV, rfl, wV⟩, rfl⟩⟩⟩⟩⟩ := h
  exact ⟨⟨xKind, xRoot, xPut_Page, xPut_Frame, xPut_Perm, xPut_Spare, xAddr, xV⟩, rfl, ⟨wKind, wRoot, wPut_Page, wPut_Frame, wPut_Perm, wPut_Spare, wAddr, wV⟩⟩
theorem POp.len (o : POp) : o.cells.length = 8 := rfl
theorem POp.ones (o : POp) : ∀ v ∈ o.cells, one v = true := by simp [POp.cells, one]
theorem POp.list (W : World) : Opn Try.prog W 22 (fun cs => ∃ a c, ∃ xs : List POp, cs = [.slice a xs.length c] ∧ xs.length ≤ c ∧ (∀ x ∈ xs, POp.OK W x) ∧ SlAt W 8 a xs.length ((xs.map POp.cells).flatten) ∧ xs.length * 56 ≤ reachBytes) :=
  Opn.recs (sz := 8) (by' := 56) Try.underlying22 (by kernel_rfl) (by decide) (by kernel_rfl) (POp.opn W)
abbrev vi : Int → Value := fun n => .int .i64 n
theorem keyInt : KeyOK Try.prog 3 vi := KeyOK.int Try.underlying3
section
variable (W0 : World) (Fr : List HProp)
theorem works_spec : Ctr Try.prog W0 9 [] Fr (fun _ : Unit => True) (fun _ => .bool true) (fun _ => Fr) := by
  have T0 : Tree 4 (List.replicate (4 * 256) 0) 0 := Tree.zeros (by decide)
  have hs := setR_new (n := 4) (bs := List.replicate (4 * 256) 0) (root := 0) (p := 70) (e := 779) (q := 1) tab_zeros (by decide)
  obtain ⟨-, -, hw⟩ := T0.new (p := 70) (q := 1) (by decide) (by decide) tab_zeros (by decide) (by decide) (fun g _ h => by rw [tab_zeros] at h; cases h) 779
  generalize stW (stW (overB (List.replicate (4 * 256) 0) (1 * 256) (fillB [])) 0 (70 / 64) (entryOf (1 : Nat) 0).toNat) 1 (70 % 64) 779 = B at hs hw
  have h70 : walkR 4 B 0 70 = (3, 5, 0) := by
    rw [walkR_wk, hw 70 (by decide), if_pos rfl]
    have e : ent (779 % 4294967296) = some (3, 5) := ent_entry (f := 3) (p := 5) (by decide) (by decide)
    rw [e]; rfl
  have h71 : walkR 4 B 0 71 = (0, 0, 90) := by rw [walkR_wk, hw 71 (by decide), if_neg (by decide), wk_zeros]
  refine Ctr.of_body Try.func9 rfl Try.ntmps9 rfl ?_
  refine CG.seq ?_
  refine CG.region ?_
  refine OG.yield (Yield.assign rfl) rfl ?_
  refine OG.nil ?_
  refine QG.then ?_
  refine CG.seq ?_
  refine CG.region ?_
  refine OG.callo call10 rfl (Imp.refl _) (Me.new_spec W0 Fr (n := 4) (by decide) (by decide)) rfl ?_
  rintro m -
  refine OG.yield (Yield.move rfl) rfl ?_
  refine OG.yield (Yield.extract rfl rfl) rfl ?_
  refine OG.yield (Yield.extract rfl rfl) rfl ?_
  refine OG.yield (Yield.assign rfl) rfl ?_
  refine OG.yield (Yield.assign rfl) rfl ?_
  refine OG.nil ?_
  refine QG.then ?_
  refine CG.seq ?_
  refine CG.seq ?_
  refine CG.region ?_
  refine OG.yield (Yield.move rfl) rfl ?_
  refine OG.yield (by first | exact Yield.as (Yield.neq rfl rfl) (bT (by omega)) | exact Yield.as (Yield.neq rfl rfl) (bF (by omega)) | exact Yield.neq rfl rfl) rfl ?_
  refine OG.yield (Yield.move rfl) rfl ?_
  refine OG.guard_yes rfl rfl rfl (by decide) ?_
  refine OG.yield (Yield.move rfl) rfl ?_
  refine OG.guard_yes rfl rfl rfl (by decide) ?_
  refine OG.yield (by first | exact Yield.ptr_nil Try.underlying24 rfl rfl | exact Yield.nil_nil Try.underlying24 rfl rfl) rfl ?_
  refine OG.yield (by first | exact Yield.pick_t rfl rfl | exact Yield.pick_f rfl rfl | exact Yield.pick rfl (fun _ => rfl) (fun _ => rfl)) rfl ?_
  refine OG.nil ?_
  refine QG.then ?_
  refine CG.cond_f rfl ?_
  refine CG.skip ?_
  refine QG.then ?_
  refine CG.seq ?_
  refine CG.region ?_
  refine OG.yield (Yield.move rfl) rfl ?_
  refine OG.callo call12 rfl (Imp.refl _) (set_spec W0 _ (m := m) (n := 4) (root := 0) (p := 70) (e := 779) (f := 3) (pm := 5) (spare := ((1 : Nat) : Int)) (bs := List.replicate (4 * 256) 0) (by decide) (by decide) rfl (by decide) (by decide)) rfl ?_
  rintro ⟨⟩ -
  rw [hs]
  refine OG.yield (Yield.move rfl) rfl ?_
  refine OG.yield (Yield.extract rfl rfl) rfl ?_
  refine OG.yield (Yield.extract rfl rfl) rfl ?_
  refine OG.yield (Yield.assign rfl) rfl ?_
  refine OG.yield (Yield.assign rfl) rfl ?_
  refine OG.nil ?_
  refine QG.then ?_
  refine CG.seq ?_
  refine CG.region ?_
  refine OG.yield (Yield.move rfl) rfl ?_
  refine OG.callo call13 rfl (Imp.refl _) (walk_spec W0 _ (m := m) (n := 4) (root := 0) (p := 70) (bs := B) (by decide) (by decide)) rfl ?_
  rintro ⟨⟩ -
  rw [h70]
  refine OG.yield (Yield.move rfl) rfl ?_
  refine OG.yield (Yield.extract rfl rfl) rfl ?_
  refine OG.yield (Yield.extract rfl rfl) rfl ?_
  refine OG.yield (Yield.extract rfl rfl) rfl ?_
  refine OG.yield (Yield.assign rfl) rfl ?_
  refine OG.yield (Yield.assign rfl) rfl ?_
  refine OG.yield (Yield.assign rfl) rfl ?_
  refine OG.nil ?_
  refine QG.then ?_
  refine CG.seq ?_
  refine CG.region ?_
  refine OG.yield (Yield.move rfl) rfl ?_
  refine OG.callo call13 rfl (Imp.refl _) (walk_spec W0 _ (m := m) (n := 4) (root := 0) (p := 71) (bs := B) (by decide) (by decide)) rfl ?_
  rintro ⟨⟩ -
  rw [h71]
  refine OG.yield (Yield.move rfl) rfl ?_
  refine OG.yield (Yield.extract rfl rfl) rfl ?_
  refine OG.yield (Yield.extract rfl rfl) rfl ?_
  refine OG.yield (Yield.extract rfl rfl) rfl ?_
  refine OG.yield (Yield.assign rfl) rfl ?_
  refine OG.yield (Yield.assign rfl) rfl ?_
  refine OG.yield (Yield.assign rfl) rfl ?_
  refine OG.nil ?_
  refine QG.then ?_
  refine CG.seq ?_
  refine CG.region ?_
  refine OG.callo call37 rfl (Imp.refl _) (entry_spec W0 _ 3 5) rfl ?_
  rintro ⟨⟩ -
  rw [show entryOf 3 5 = 779 from rfl]
  refine OG.yield (by first | exact Yield.as (Yield.eql rfl rfl) (bT (by omega)) | exact Yield.as (Yield.eql rfl rfl) (bF (by omega)) | exact Yield.eql rfl rfl) rfl ?_
  refine OG.yield (Yield.move rfl) rfl ?_
  refine OG.guard_yes rfl rfl rfl (by decide) ?_
  refine OG.yield (Yield.move rfl) rfl ?_
  refine OG.yield (by first | exact Yield.pick_t rfl rfl | exact Yield.pick_f rfl rfl | exact Yield.pick rfl (fun _ => rfl) (fun _ => rfl)) rfl ?_
  refine OG.yield (Yield.move rfl) rfl ?_
  refine OG.guard_yes rfl rfl rfl (by decide) ?_
  refine OG.yield (Yield.move rfl) rfl ?_
  refine OG.guard_yes rfl rfl rfl (by decide) ?_
  refine OG.yield (by first | exact Yield.as (Yield.eql rfl rfl) (bT (by omega)) | exact Yield.as (Yield.eql rfl rfl) (bF (by omega)) | exact Yield.eql rfl rfl) rfl ?_
  refine OG.yield (by first | exact Yield.pick_t rfl rfl | exact Yield.pick_f rfl rfl | exact Yield.pick rfl (fun _ => rfl) (fun _ => rfl)) rfl ?_
  refine OG.yield (Yield.move rfl) rfl ?_
  refine OG.guard_yes rfl rfl rfl (by decide) ?_
  refine OG.yield (Yield.move rfl) rfl ?_
  refine OG.guard_yes rfl rfl rfl (by decide) ?_
  refine OG.yield (by first | exact Yield.as (Yield.eql rfl rfl) (bT (by omega)) | exact Yield.as (Yield.eql rfl rfl) (bF (by omega)) | exact Yield.eql rfl rfl) rfl ?_
  refine OG.yield (by first | exact Yield.pick_t rfl rfl | exact Yield.pick_f rfl rfl | exact Yield.pick rfl (fun _ => rfl) (fun _ => rfl)) rfl ?_
  refine OG.yield (Yield.move rfl) rfl ?_
  refine OG.guard_yes rfl rfl rfl (by decide) ?_
  refine OG.yield (Yield.move rfl) rfl ?_
  refine OG.guard_yes rfl rfl rfl (by decide) ?_
  refine OG.yield (by first | exact Yield.as (Yield.eql rfl rfl) (bT (by omega)) | exact Yield.as (Yield.eql rfl rfl) (bF (by omega)) | exact Yield.eql rfl rfl) rfl ?_
  refine OG.yield (by first | exact Yield.pick_t rfl rfl | exact Yield.pick_f rfl rfl | exact Yield.pick rfl (fun _ => rfl) (fun _ => rfl)) rfl ?_
  refine OG.yield (Yield.move rfl) rfl ?_
  refine OG.guard_yes rfl rfl rfl (by decide) ?_
  refine OG.yield (Yield.move rfl) rfl ?_
  refine OG.guard_yes rfl rfl rfl (by decide) ?_
  refine OG.yield (by first | exact Yield.as (Yield.eql rfl rfl) (bT (by omega)) | exact Yield.as (Yield.eql rfl rfl) (bF (by omega)) | exact Yield.eql rfl rfl) rfl ?_
  refine OG.yield (by first | exact Yield.pick_t rfl rfl | exact Yield.pick_f rfl rfl | exact Yield.pick rfl (fun _ => rfl) (fun _ => rfl)) rfl ?_
  refine OG.yield (Yield.move rfl) rfl ?_
  refine OG.guard_yes rfl rfl rfl (by decide) ?_
  refine OG.yield (Yield.move rfl) rfl ?_
  refine OG.guard_yes rfl rfl rfl (by decide) ?_
  refine OG.yield (by first | exact Yield.as (Yield.eql rfl rfl) (bT (by omega)) | exact Yield.as (Yield.eql rfl rfl) (bF (by omega)) | exact Yield.eql rfl rfl) rfl ?_
  refine OG.yield (by first | exact Yield.pick_t rfl rfl | exact Yield.pick_f rfl rfl | exact Yield.pick rfl (fun _ => rfl) (fun _ => rfl)) rfl ?_
  refine OG.yield (Yield.assign rfl) rfl ?_
  refine OG.nil ?_
  refine QG.then ?_
  refine CG.ret ?_
  exact QG.ret1 rfl rfl () trivial rfl (by repeat (first | exact Imp.refl _ | exact Imp.none _ | apply Imp.pull (by repeat (first | exact Ext.here | apply Ext.there)) | apply Imp.trans Imp.drop))
end
end Go.Proofs.Ytmlfcfbblfcpdaa.Pg
