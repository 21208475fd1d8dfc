/- What the laws of vdisk share: num, works; how Complete answers. -/
import Derived.Test.YtoejnhfcegchhaaVd3
import Derived.Test.YtoejnhfcegchhaaRows
namespace Go.Proofs.Ytoejnhfcegchhaa.Vd
open Go Go.Sl Go.RowKit Go.Proofs Go.Proofs.Ytoejnhfcegchhaa.T Go.Proofs.Ytoejnhfcegchhaa.Ms
set_option linter.unusedVariables false
set_option linter.unusedSimpArgs false
set_option maxRecDepth 100000
structure VAct where
  Kind : Int
  Write : Bool
  Sector : Int
  Addr : Int
  Dataa : Option Go.Addr
  Datac : Nat
  Data : List UInt8
  Major : Int
  R_Part : Int
  R_Tag : Int
  R_Write : Bool
  R_Sector : Int
  R_Dataa : Option Go.Addr
  R_Datac : Nat
  R_Data : List UInt8
def VAct.cells (o : VAct) : List Value := [.int .i64 o.Kind, .bool o.Write, .int .i64 o.Sector, .int .u32 o.Addr, .slice o.Dataa o.Data.length o.Datac, .int .i64 o.Major, .int .i64 o.R_Part, .int .u32 o.R_Tag, .bool o.R_Write, .int .i64 o.R_Sector, .slice o.R_Dataa o.R_Data.length o.R_Datac]
structure VAct.OK (W : World) (o : VAct) : Prop where
  mk ::
  Kind : (Lit.int .i64 o.Kind).wf = true
  Sector : (Lit.int .i64 o.Sector).wf = true
  Addr : (Lit.int .u32 o.Addr).wf = true
  Datac : o.Data.length ≤ o.Datac
  Data : SlAt W 1 o.Dataa o.Data.length (bytesV o.Data)
  Datam : o.Data.length ≤ reachBytes
  Major : (Lit.int .i64 o.Major).wf = true
  R_Part : (Lit.int .i64 o.R_Part).wf = true
  R_Tag : (Lit.int .u32 o.R_Tag).wf = true
  R_Sector : (Lit.int .i64 o.R_Sector).wf = true
  R_Datac : o.R_Data.length ≤ o.R_Datac
  R_Data : SlAt W 1 o.R_Dataa o.R_Data.length (bytesV o.R_Data)
  R_Datam : o.R_Data.length ≤ reachBytes
theorem VAct.opn (W : World) : Opn Try.prog W 42 (fun cs => ∃ o : VAct, cs = o.cells ∧ o.OK W) := (Opn.of_fields Try.underlying42 (by kernel_rfl) (by kernel_rfl) (.cons (s := 1) (Opn.int Try.underlying3) (.cons (s := 1) (Opn.bool Try.underlying4) (.cons (s := 1) (Opn.int Try.underlying3) (.cons (s := 1) (Opn.int Try.underlying35) (.cons (s := 1) (Opn.bytes Try.underlying36 Try.underlying5 (by kernel_rfl) (by kernel_rfl)) (.cons (s := 1) (Opn.int Try.underlying3) (.cons (s := 5) (Opn.of_fields Try.underlying40 (by kernel_rfl) (by kernel_rfl) (.cons (s := 1) (Opn.int Try.underlying3) (.cons (s := 1) (Opn.int Try.underlying35) (.cons (s := 1) (Opn.bool Try.underlying4) (.cons (s := 1) (Opn.int Try.underlying3) (.cons (s := 1) (Opn.bytes Try.underlying36 Try.underlying5 (by kernel_rfl) (by kernel_rfl)) .nil)))))) .nil)))))))).mono fun cs h => by
  obtain ⟨_, _, rfl, _, ⟨xKind, rfl, wKind⟩, ⟨_, _, rfl, _, ⟨xWrite, rfl⟩, ⟨_, _, rfl, _, ⟨xSector, rfl, wSector⟩, ⟨_, _, rfl, _, ⟨xAddr, rfl, wAddr⟩, ⟨_, _, rfl, _, ⟨xDataa, xDatac, xData, rfl, wDatac, wData, wDatam⟩, ⟨_, _, rfl, _, ⟨xMajor, rfl, wMajor⟩, ⟨_, _, rfl, _, ⟨_, _, rfl, _, ⟨xR_Part, rfl, wR_Part⟩, ⟨_, _, rfl, _, ⟨xR_Tag, rfl, wR_Tag⟩, ⟨_, _, rfl, _, ⟨xR_Write, rfl⟩, ⟨_, _, rfl, _, ⟨xR_Sector, rfl, wR_Sector⟩, ⟨_, _, rfl, _, ⟨xR_Dataa, xR_Datac, xR_Data, rfl, wR_Datac, wR_Data, wR_Datam⟩, rfl⟩⟩⟩⟩⟩, rfl⟩⟩⟩⟩⟩⟩⟩ := h
  exact ⟨⟨xKind, xWrite, xSector, xAddr, xDataa, xDatac, xData, xMajor, xR_Part, xR_Tag, xR_Write, xR_Sector, xR_Dataa, xR_Datac, xR_Data⟩, rfl, ⟨wKind, wSector, wAddr, wDatac, wData, wDatam, wMajor, wR_Part, wR_Tag, wR_Sector, wR_Datac, wR_Data, wR_Datam⟩⟩
theorem VAct.len (o : VAct) : o.cells.length = 11 := rfl
theorem VAct.ones (o : VAct) : ∀ v ∈ o.cells, one v = true := by simp [VAct.cells, one]
theorem VAct.list (W : World) : Opn Try.prog W 22 (fun cs => ∃ a c, ∃ xs : List VAct, cs = [.slice a xs.length c] ∧ xs.length ≤ c ∧ (∀ x ∈ xs, VAct.OK W x) ∧ SlAt W 11 a xs.length ((xs.map VAct.cells).flatten) ∧ xs.length * 112 ≤ reachBytes) :=
  Opn.recs (sz := 11) (by' := 112) Try.underlying22 (by kernel_rfl) (by decide) (by kernel_rfl) (VAct.opn W)
theorem map_get {α β : Type} {f : α → β} {l : List α} {g : List β} (h : l.map f = g) {k : Nat} (hk : k < l.length) : ∃ x, l[k]? = some x ∧ g[k]? = some (f x) := by
  refine ⟨l[k], by simp [hk], ?_⟩
  rw [← h, List.getElem?_map, List.getElem?_eq_getElem hk]; rfl
theorem map_one {α β : Type} {f : α → β} {l : List α} {y : β} (h : l.map f = [y]) : ∃ x, l = [x] ∧ f x = y := by
  cases l with
  | nil => cases h
  | cons x t => cases t with
    | nil => simp only [List.map_cons, List.map_nil, List.cons.injEq, and_true] at h; exact ⟨x, rfl, h⟩
    | cons _ _ => simp at h
theorem map_none {α β : Type} {f : α → β} {l : List α} (h : l.map f = []) : l = [] := List.map_eq_nil_iff.1 h
theorem find_mid {α : Type} {p : α → Bool} {P R : List α} {x : α} (hP : ∀ y ∈ P, p y = false) (hx : p x = true) : (P ++ x :: R).findIdx? p = some P.length := by
  refine find_take (i := P.length) (x := x) (fun y hy => hP y ?_) (by simp) hx
  rw [List.take_left] at hy; exact hy
theorem com_at {s : Ds} {P R : List Ak} {x : Ak} (h : s.asks = P ++ x :: R) (hP : ∀ y ∈ P, y.tag ≠ x.tag ∨ y.st ≠ 1) (hx : x.st = 1) {data : B} (hd : x.write = false → data.length = 64) :
    comR s x.tag data = (0, { s with asks := P ++ { x with st := 2, data := if x.write then x.data else data } :: R }) := by
  have h1 : s.asks.findIdx? (isB x.tag) = some P.length := by
    rw [h]
    refine find_mid (fun y hy => ?_) (by unfold isB; rw [decide_eq_true rfl, decide_eq_true hx]; rfl)
    unfold isB
    rcases hP y hy with q | q
    · rw [decide_eq_false q]; rfl
    · rw [decide_eq_false q, Bool.and_false]
  have h2 : s.asks[P.length]? = some x := by rw [h]; simp
  unfold comR
  rw [h1]
  dsimp only
  rw [h2]
  dsimp only
  rw [if_neg (by rintro ⟨q1, q2⟩; exact q2 (hd q1)), h]
  simp
theorem com_no {s : Ds} {tag : Int} (h : ∀ y ∈ s.asks, y.tag ≠ tag ∨ y.st ≠ 1) (data : B) : comR s tag data = (302, s) := by
  have h1 : s.asks.findIdx? (isB tag) = none := by
    rw [List.findIdx?_eq_none_iff]
    intro y hy
    unfold isB
    rcases h y hy with q | q
    · rw [decide_eq_false q]; rfl
    · rw [decide_eq_false q, Bool.and_false]
  unfold comR; rw [h1]
theorem w32_small {n : Int} (h1 : 0 ≤ n) (h2 : n ≤ 4294967295) : w32 n = n := wu32 h1 h2
def zb : B := List.replicate 64 0
section
variable (W0 : World) (Fr : List HProp)
theorem num_spec (n : Int) : Ctr Try.prog W0 11 [.int .i64 n] Fr (fun _ : Unit => True) (fun _ => .int .i64 n) (fun _ => Fr) := by
  refine Ctr.of_body Try.func11 rfl Try.ntmps11 rfl ?_
  refine CG.seq ?_
  refine CG.region ?_
  refine OG.yield (Yield.assign rfl) rfl ?_
  refine OG.nil ?_
  refine QG.then ?_
  refine CG.seq ?_
  refine CG.region ?_
  refine OG.yield (Yield.move rfl) rfl ?_
  refine OG.yield (Yield.assign rfl) rfl ?_
  refine OG.nil ?_
  refine QG.then ?_
  refine CG.ret ?_
  exact QG.ret1 rfl rfl () trivial rfl (Imp.refl _)
def wk0 : Ds := ⟨1, 10, 4, 2, 0, [], []⟩
def wk1 : Ds := ⟨1, 10, 4, 2, 1, [⟨1, false, 3, 100, [], 7, 0⟩], []⟩
def wk2 : Ds := ⟨1, 10, 4, 2, 1, [⟨1, false, 3, 100, [], 7, 1⟩], []⟩
def wk3 : Ds := ⟨1, 10, 4, 2, 1, [⟨1, false, 3, 100, zb, 7, 2⟩], []⟩
def wk4 : Ds := ⟨1, 10, 4, 2, 1, [], [1]⟩
set_option maxHeartbeats 1000000 in
theorem works_spec : Ctr Try.prog W0 9 [] Fr (fun _ : Unit => True) (fun _ => .bool true) (fun _ => Fr) := by
  refine Ctr.of_body Try.func9 rfl Try.ntmps9 rfl ?_
  refine CG.seq ?_
  refine CG.region ?_
  refine OG.yield (Yield.assign rfl) rfl ?_
  refine OG.nil ?_
  refine QG.then ?_
  refine CG.seq ?_
  refine CG.region ?_
  refine OG.callo call10 rfl (Imp.refl _) (new_ok W0 _ (part := 1) (first := 10) (count := 4) (latency := 2) (by decide)) rfl ?_
  rintro d -
  rw [show (⟨1, 10, 4, 2, 0, [], []⟩ : Ds) = wk0 from rfl]
  refine OG.yield (Yield.move rfl) rfl ?_
  refine OG.yield (Yield.extract rfl rfl) rfl ?_
  refine OG.yield (Yield.extract rfl rfl) rfl ?_
  refine OG.yield (Yield.assign rfl) rfl ?_
  refine OG.yield (Yield.assign rfl) rfl ?_
  refine OG.nil ?_
  refine QG.then ?_
  refine CG.seq ?_
  refine CG.seq ?_
  refine CG.region ?_
  refine OG.yield (Yield.move rfl) rfl ?_
  refine OG.callo call11 rfl (Imp.refl _) (num_spec W0 _ 0) rfl ?_
  rintro ⟨⟩ -
  refine OG.yield (by first | exact Yield.as (Yield.neq rfl rfl) (bT (by omega)) | exact Yield.as (Yield.neq rfl rfl) (bF (by omega)) | exact Yield.neq rfl rfl) rfl ?_
  refine OG.yield (Yield.move rfl) rfl ?_
  refine OG.guard_yes rfl rfl rfl (by decide) ?_
  refine OG.yield (Yield.move rfl) rfl ?_
  refine OG.guard_yes rfl rfl rfl (by decide) ?_
  refine OG.yield (by first | exact Yield.ptr_nil Try.underlying26 rfl rfl | exact Yield.nil_nil Try.underlying26 rfl rfl) rfl ?_
  refine OG.yield (by first | exact Yield.pick_t rfl rfl | exact Yield.pick_f rfl rfl | exact Yield.pick rfl (fun _ => rfl) (fun _ => rfl)) rfl ?_
  refine OG.nil ?_
  refine QG.then ?_
  refine CG.cond_f rfl ?_
  refine CG.skip ?_
  refine QG.then ?_
  refine CG.seq ?_
  refine CG.region ?_
  refine OG.yield (Yield.move rfl) rfl ?_
  refine OG.callo call14 rfl ((by repeat (first | exact Imp.refl _ | exact Imp.none _ | apply Imp.pull (by repeat (first | exact Ext.here | apply Ext.there)) | apply Imp.trans Imp.drop))) (submit_ok W0 _ (d := d) (s := wk0) (write := false) (sector := 3) (addr := 100) (major := 5) (da := none) (dc := 0) (data := []) (RdB.of_slR SlR.nil (Nat.le_refl _)) (by decide) (by decide)) rfl ?_
  rintro ⟨⟩ -
  rw [show subR wk0 false 3 100 [] 5 = wk1 from rfl, show w32 (wk0.last + 1) = 1 by decide]
  refine OG.yield (Yield.move rfl) rfl ?_
  refine OG.yield (Yield.extract rfl rfl) rfl ?_
  refine OG.yield (Yield.extract rfl rfl) rfl ?_
  refine OG.yield (Yield.assign rfl) rfl ?_
  refine OG.yield (Yield.assign rfl) rfl ?_
  refine OG.nil ?_
  refine QG.then ?_
  refine CG.seq ?_
  refine CG.region ?_
  refine OG.yield (Yield.move rfl) rfl ?_
  refine OG.callo call15 rfl ((by repeat (first | exact Imp.refl _ | exact Imp.none _ | apply Imp.pull (by repeat (first | exact Ext.here | apply Ext.there)) | apply Imp.trans Imp.drop))) (issue_spec W0 _ (d := d) (s := wk1)) rfl ?_
  rintro ⟨l, la, lc⟩ hl
  dsimp only at hl
  obtain ⟨cr, rfl, hcr⟩ := map_one (y := (⟨1, 1, false, 13, []⟩ : Rq)) (hl.trans (by rfl))
  dsimp only [Rqs.G, List.cons_append, List.nil_append]
  rw [show issS wk1 = wk2 by rfl]
  have hcs : cr.sector = 13 := congrArg Rq.sector hcr
  have hcp : cr.part = 1 := congrArg Rq.part hcr
  refine OG.yield (Yield.assign rfl) rfl ?_
  refine OG.nil ?_
  refine QG.then ?_
  refine CG.seq ?_
  refine CG.seq ?_
  refine CG.pure (fun w hw => SlR.elem_shape (W0 := W0) (f := CR.cells) (xs := [cr]) (i := 0) (SlR.of_osl (E := 40) (a := la) (c := lc) (by repeat (first | exact Ext.here | apply Ext.there))) CR.len (by decide) Nat.zero_lt_one w hw) ?_
  rintro ⟨b, o, rfl⟩
  refine CG.region ?_
  refine OG.yield (Yield.move rfl) rfl ?_
  refine OG.yield (by first | exact Yield.as (Yield.neq rfl rfl) (bT (by omega)) | exact Yield.as (Yield.neq rfl rfl) (bF (by omega)) | exact Yield.neq rfl rfl) rfl ?_
  refine OG.yield (Yield.move rfl) rfl ?_
  refine OG.guard_yes rfl rfl rfl (by decide) ?_
  refine OG.yield (Yield.move rfl) rfl ?_
  refine OG.guard_yes rfl rfl rfl (by decide) ?_
  refine OG.callo call11 rfl (Imp.refl _) (num_spec W0 _ 0) rfl ?_
  rintro ⟨⟩ -
  refine OG.guard_yes rfl rfl rfl (by decide) ?_
  refine OG.yield (by first | exact Yield.as (Yield.neq rfl rfl) (bT (by omega)) | exact Yield.as (Yield.neq rfl rfl) (bF (by omega)) | exact Yield.neq rfl rfl) rfl ?_
  refine OG.yield (by first | exact Yield.pick_t rfl rfl | exact Yield.pick_f rfl rfl | exact Yield.pick rfl (fun _ => rfl) (fun _ => rfl)) rfl ?_
  refine OG.yield (Yield.move rfl) rfl ?_
  refine OG.guard_yes rfl rfl rfl (by decide) ?_
  refine OG.yield (Yield.move rfl) rfl ?_
  refine OG.guard_yes rfl rfl rfl (by decide) ?_
  refine OG.yield (Yield.len_slice (a := some ⟨b, o, none⟩) (m := 1) (c := lc) Try.underlying32 rfl rfl) rfl ?_
  refine OG.guard_yes rfl rfl rfl (by decide) ?_
  refine OG.yield (by first | exact Yield.as (Yield.neq rfl rfl) (bT (by omega)) | exact Yield.as (Yield.neq rfl rfl) (bF (by omega)) | exact Yield.neq rfl rfl) rfl ?_
  refine OG.yield (by first | exact Yield.pick_t rfl rfl | exact Yield.pick_f rfl rfl | exact Yield.pick rfl (fun _ => rfl) (fun _ => rfl)) rfl ?_
  refine OG.yield (Yield.move rfl) rfl ?_
  refine OG.guard_yes rfl rfl rfl (by decide) ?_
  refine OG.yield (Yield.move rfl) rfl ?_
  refine OG.guard_yes rfl rfl rfl (by decide) ?_
  refine OG.yield (Yield.index_slice (b := b) (o := o) (m := 1) (c := lc) Try.underlying32 ti40 rfl rfl (by omega) (by omega)) rfl ?_
  refine OG.guard_yes rfl rfl rfl (by decide) ?_
  refine OG.yield (Yield.fieldAddr fa40_3 rfl) rfl ?_
  refine OG.guard_yes rfl rfl rfl (by decide) ?_
  refine OG.yield (Yield.load (v := .int .i64 cr.sector) ti3 rfl ((SlR.elem (f := CR.cells) (xs := [cr]) (i := 0) (SlR.of_osl (E := 40) (a := some ⟨b, o, none⟩) (c := lc) (by repeat (first | exact Ext.here | apply Ext.there))) CR.len rfl) 3 _ rfl)) rfl ?_
  refine OG.guard_yes rfl rfl rfl (by decide) ?_
  refine OG.yield (Yield.as (Yield.neq rfl rfl) (bF (by rw [hcs]; decide))) rfl ?_
  refine OG.yield (by first | exact Yield.pick_t rfl rfl | exact Yield.pick_f rfl rfl | exact Yield.pick rfl (fun _ => rfl) (fun _ => rfl)) rfl ?_
  refine OG.yield (Yield.move rfl) rfl ?_
  refine OG.guard_yes rfl rfl rfl (by decide) ?_
  refine OG.yield (Yield.move rfl) rfl ?_
  refine OG.guard_yes rfl rfl rfl (by decide) ?_
  refine OG.yield (Yield.index_slice (b := b) (o := o) (m := 1) (c := lc) Try.underlying32 ti40 rfl rfl (by omega) (by omega)) rfl ?_
  refine OG.guard_yes rfl rfl rfl (by decide) ?_
  refine OG.yield (Yield.fieldAddr fa40_0 rfl) rfl ?_
  refine OG.guard_yes rfl rfl rfl (by decide) ?_
  refine OG.yield (Yield.load (v := .int .i64 cr.part) ti3 rfl ((SlR.elem (f := CR.cells) (xs := [cr]) (i := 0) (SlR.of_osl (E := 40) (a := some ⟨b, o, none⟩) (c := lc) (by repeat (first | exact Ext.here | apply Ext.there))) CR.len rfl) 0 _ rfl)) rfl ?_
  refine OG.guard_yes rfl rfl rfl (by decide) ?_
  refine OG.yield (Yield.as (Yield.neq rfl rfl) (bF (by rw [hcp]; decide))) rfl ?_
  refine OG.yield (by first | exact Yield.pick_t rfl rfl | exact Yield.pick_f rfl rfl | exact Yield.pick rfl (fun _ => rfl) (fun _ => rfl)) rfl ?_
  refine OG.nil ?_
  refine QG.then ?_
  refine CG.cond_f rfl ?_
  refine CG.skip ?_
  refine QG.then ?_
  refine CG.seq ?_
  refine CG.region ?_
  refine OG.yield (Yield.move rfl) rfl ?_
  refine OG.effd (Eff.makeB 64 Try.underlying36 ti5 rfl rfl (by decide)) rfl ?_
  rintro b54 -
  refine OG.yield (Yield.build (pvs := [(1, .int .u32 1), (4, .slice (some ⟨b54, 0, none⟩) 64 64)]) bu40 ti40 rfl (cells := CR.cells ⟨0, 1, false, 0, ⟨some ⟨b54, 0, none⟩, 64, zb⟩⟩) rfl) rfl ?_
  refine OG.callo call16 rfl ((by repeat (first | exact Imp.refl _ | exact Imp.none _ | apply Imp.pull (by repeat (first | exact Ext.here | apply Ext.there)) | apply Imp.trans Imp.drop))) (complete_spec W0 _ (d := d) (s := wk2) (r := ⟨0, 1, false, 0, ⟨some ⟨b54, 0, none⟩, 64, zb⟩⟩) (RdB.of_osl (E := 5) (a := some ⟨b54, 0, none⟩) (by repeat (first | exact Ext.here | apply Ext.there)) rfl rfl) (by show zb.length ≤ _; decide)) rfl ?_
  rintro ⟨⟩ -
  dsimp only
  rw [show comR wk2 1 zb = (0, wk3) from com_at (P := []) (R := []) (x := ⟨1, false, 3, 100, [], 7, 1⟩) rfl (fun y h => absurd h List.not_mem_nil) rfl (fun _ => rfl)]
  refine OG.yield (Yield.assign rfl) rfl ?_
  refine OG.nil ?_
  refine QG.then ?_
  refine CG.seq ?_
  refine CG.region ?_
  refine OG.yield (Yield.move rfl) rfl ?_
  refine OG.callo call12 rfl ((by repeat (first | exact Imp.refl _ | exact Imp.none _ | apply Imp.pull (by repeat (first | exact Ext.here | apply Ext.there)) | apply Imp.trans Imp.drop))) (ready_spec W0 _ (d := d) (s := wk3) 6) rfl ?_
  rintro ⟨l6, l6a, l6c⟩ hl6
  dsimp only at hl6
  obtain rfl := map_none (hl6.trans (show rdyL wk3 6 = [] by rfl))
  dsimp only [Dns.G, List.cons_append, List.nil_append]
  rw [show rdyS wk3 6 = wk3 by rfl]
  refine OG.yield (Yield.assign rfl) rfl ?_
  refine OG.nil ?_
  refine QG.then ?_
  refine CG.seq ?_
  refine CG.region ?_
  refine OG.yield (Yield.move rfl) rfl ?_
  refine OG.callo call12 rfl ((by repeat (first | exact Imp.refl _ | exact Imp.none _ | apply Imp.pull (by repeat (first | exact Ext.here | apply Ext.there)) | apply Imp.trans Imp.drop))) (ready_spec W0 _ (d := d) (s := wk3) 7) rfl ?_
  rintro ⟨l7, l7a, l7c⟩ hl7
  dsimp only at hl7
  obtain ⟨cd, rfl, hcd⟩ := map_one (y := (⟨1, false, 100, zb⟩ : Dn)) (hl7.trans (by rfl))
  dsimp only [Dns.G, List.cons_append, List.nil_append]
  rw [show rdyS wk3 7 = wk4 by rfl]
  have hca : cd.addr = 100 := congrArg Dn.addr hcd
  refine OG.yield (Yield.assign rfl) rfl ?_
  refine OG.nil ?_
  refine QG.then ?_
  refine CG.seq ?_
  refine CG.pure (fun w hw => SlR.elem_shape (W0 := W0) (f := CD.cells) (xs := [cd]) (i := 0) (SlR.of_osl (E := 38) (a := l7a) (c := l7c) (by repeat (first | exact Ext.here | apply Ext.there))) CD.len (by decide) Nat.zero_lt_one w hw) ?_
  rintro ⟨b7, o7, rfl⟩
  refine CG.region ?_
  refine OG.yield (Yield.move rfl) rfl ?_
  refine OG.callo call11 rfl (Imp.refl _) (num_spec W0 _ 0) rfl ?_
  rintro ⟨⟩ -
  refine OG.yield (by first | exact Yield.as (Yield.eql rfl rfl) (bT (by omega)) | exact Yield.as (Yield.eql rfl rfl) (bF (by omega)) | exact Yield.eql rfl rfl) rfl ?_
  refine OG.yield (Yield.move rfl) rfl ?_
  refine OG.guard_yes rfl rfl rfl (by decide) ?_
  refine OG.yield (Yield.move rfl) rfl ?_
  refine OG.guard_yes rfl rfl rfl (by decide) ?_
  refine OG.yield (Yield.len_slice (a := l6a) (m := 0) (c := l6c) Try.underlying33 rfl rfl) rfl ?_
  refine OG.guard_yes rfl rfl rfl (by decide) ?_
  refine OG.yield (by first | exact Yield.as (Yield.eql rfl rfl) (bT (by omega)) | exact Yield.as (Yield.eql rfl rfl) (bF (by omega)) | exact Yield.eql rfl rfl) rfl ?_
  refine OG.yield (by first | exact Yield.pick_t rfl rfl | exact Yield.pick_f rfl rfl | exact Yield.pick rfl (fun _ => rfl) (fun _ => rfl)) rfl ?_
  refine OG.yield (Yield.move rfl) rfl ?_
  refine OG.guard_yes rfl rfl rfl (by decide) ?_
  refine OG.yield (Yield.move rfl) rfl ?_
  refine OG.guard_yes rfl rfl rfl (by decide) ?_
  refine OG.yield (Yield.len_slice (a := some ⟨b7, o7, none⟩) (m := 1) (c := l7c) Try.underlying33 rfl rfl) rfl ?_
  refine OG.guard_yes rfl rfl rfl (by decide) ?_
  refine OG.yield (by first | exact Yield.as (Yield.eql rfl rfl) (bT (by omega)) | exact Yield.as (Yield.eql rfl rfl) (bF (by omega)) | exact Yield.eql rfl rfl) rfl ?_
  refine OG.yield (by first | exact Yield.pick_t rfl rfl | exact Yield.pick_f rfl rfl | exact Yield.pick rfl (fun _ => rfl) (fun _ => rfl)) rfl ?_
  refine OG.yield (Yield.move rfl) rfl ?_
  refine OG.guard_yes rfl rfl rfl (by decide) ?_
  refine OG.yield (Yield.move rfl) rfl ?_
  refine OG.guard_yes rfl rfl rfl (by decide) ?_
  refine OG.yield (Yield.index_slice (b := b7) (o := o7) (m := 1) (c := l7c) Try.underlying33 ti38 rfl rfl (by omega) (by omega)) rfl ?_
  refine OG.guard_yes rfl rfl rfl (by decide) ?_
  refine OG.yield (Yield.fieldAddr fa38_2 rfl) rfl ?_
  refine OG.guard_yes rfl rfl rfl (by decide) ?_
  refine OG.yield (Yield.load (v := .int .u32 cd.addr) ti35 rfl ((SlR.elem (f := CD.cells) (xs := [cd]) (i := 0) (SlR.of_osl (E := 38) (a := some ⟨b7, o7, none⟩) (c := l7c) (by repeat (first | exact Ext.here | apply Ext.there))) CD.len rfl) 2 _ rfl)) rfl ?_
  refine OG.guard_yes rfl rfl rfl (by decide) ?_
  refine OG.yield (Yield.as (Yield.eql rfl rfl) (bT hca)) rfl ?_
  refine OG.yield (by first | exact Yield.pick_t rfl rfl | exact Yield.pick_f rfl rfl | exact Yield.pick rfl (fun _ => rfl) (fun _ => rfl)) rfl ?_
  refine OG.yield (Yield.move rfl) rfl ?_
  refine OG.guard_yes rfl rfl rfl (by decide) ?_
  refine OG.yield (Yield.move rfl) rfl ?_
  refine OG.guard_yes rfl rfl rfl (by decide) ?_
  refine OG.callo call13 rfl ((by repeat (first | exact Imp.refl _ | exact Imp.none _ | apply Imp.pull (by repeat (first | exact Ext.here | apply Ext.there)) | apply Imp.trans Imp.drop))) (waiting_spec W0 _ (d := d) (s := wk4)) rfl ?_
  rintro ⟨aw, cw⟩ -
  refine OG.guard_yes rfl rfl rfl (by decide) ?_
  refine OG.yield (Yield.len_slice (a := aw) (m := 0) (c := cw) Try.underlying43 rfl rfl) rfl ?_
  refine OG.guard_yes rfl rfl rfl (by decide) ?_
  refine OG.yield (by first | exact Yield.as (Yield.eql rfl rfl) (bT (by omega)) | exact Yield.as (Yield.eql rfl rfl) (bF (by omega)) | exact Yield.eql rfl rfl) rfl ?_
  refine OG.yield (by first | exact Yield.pick_t rfl rfl | exact Yield.pick_f rfl rfl | exact Yield.pick rfl (fun _ => rfl) (fun _ => rfl)) rfl ?_
  refine OG.yield (Yield.assign rfl) rfl ?_
  refine OG.nil ?_
  refine QG.then ?_
  refine CG.ret ?_
  exact QG.ret1 rfl rfl () trivial rfl (by repeat (first | exact Imp.refl _ | exact Imp.none _ | apply Imp.pull (by repeat (first | exact Ext.here | apply Ext.there)) | apply Imp.trans Imp.drop))
end
end Go.Proofs.Ytoejnhfcegchhaa.Vd
