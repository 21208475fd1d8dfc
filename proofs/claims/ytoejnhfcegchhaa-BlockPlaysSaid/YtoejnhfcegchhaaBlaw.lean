/- What the laws of block share: num, works, a submission of whatever kind, a poll that tells all. -/
import Derived.Test.YtoejnhfcegchhaaBk5
import Derived.Test.YtoejnhfcegchhaaVdr4
namespace Go.Proofs.Ytoejnhfcegchhaa.Bk
open Go Go.Sl Go.RowKit Go.Proofs Go.Proofs.Ytoejnhfcegchhaa.T Go.Proofs.Ytoejnhfcegchhaa.Ms Go.Proofs.Ytoejnhfcegchhaa.Vd
set_option linter.unusedVariables false
set_option linter.unusedSimpArgs false
set_option maxRecDepth 100000
structure BAct where
  Kind : Int
  R_Part : Int
  R_Tag : Int
  R_Write : Bool
  R_Sector : Int
  R_Dataa : Option Go.Addr
  R_Datac : Nat
  R_Data : List UInt8
  Now : Int
def BAct.cells (o : BAct) : List Value := [.int .i64 o.Kind, .int .i64 o.R_Part, .int .u32 o.R_Tag, .bool o.R_Write, .int .i64 o.R_Sector, .slice o.R_Dataa o.R_Data.length o.R_Datac, .int .i64 o.Now]
structure BAct.OK (W : World) (o : BAct) : Prop where
  mk ::
  Kind : (Lit.int .i64 o.Kind).wf = true
  R_Part : (Lit.int .i64 o.R_Part).wf = true
  R_Tag : (Lit.int .u32 o.R_Tag).wf = true
  R_Sector : (Lit.int .i64 o.R_Sector).wf = true
  R_Datac : o.R_Data.length ≤ o.R_Datac
  R_Data : SlAt W 1 o.R_Dataa o.R_Data.length (bytesV o.R_Data)
  R_Datam : o.R_Data.length ≤ reachBytes
  Now : (Lit.int .i64 o.Now).wf = true
theorem BAct.opn (W : World) : Opn Try.prog W 72 (fun cs => ∃ o : BAct, cs = o.cells ∧ o.OK W) := (Opn.of_fields Try.underlying72 (by kernel_rfl) (by kernel_rfl) (.cons (s := 1) (Opn.int Try.underlying3) (.cons (s := 5) (Opn.of_fields Try.underlying40 (by kernel_rfl) (by kernel_rfl) (.cons (s := 1) (Opn.int Try.underlying3) (.cons (s := 1) (Opn.int Try.underlying35) (.cons (s := 1) (Opn.bool Try.underlying4) (.cons (s := 1) (Opn.int Try.underlying3) (.cons (s := 1) (Opn.bytes Try.underlying36 Try.underlying5 (by kernel_rfl) (by kernel_rfl)) .nil)))))) (.cons (s := 1) (Opn.int Try.underlying3) .nil)))).mono fun cs h => by
  obtain ⟨_, _, rfl, _, ⟨xKind, rfl, wKind⟩, ⟨_, _, rfl, _, ⟨_, _, rfl, _, ⟨xR_Part, rfl, wR_Part⟩, ⟨_, _, rfl, _, ⟨xR_Tag, rfl, wR_Tag⟩, ⟨_, _, rfl, _, ⟨xR_Write, rfl⟩, ⟨_, _, rfl, _, ⟨xR_Sector, rfl, wR_Sector⟩, ⟨_, _, rfl, _, ⟨xR_Dataa, xR_Datac, xR_Data, rfl, wR_Datac, wR_Data, wR_Datam⟩, rfl⟩⟩⟩⟩⟩, ⟨_, _, rfl, _, ⟨xNow, rfl, wNow⟩, rfl⟩⟩⟩ := h
  exact ⟨⟨xKind, xR_Part, xR_Tag, xR_Write, xR_Sector, xR_Dataa, xR_Datac, xR_Data, xNow⟩, rfl, ⟨wKind, wR_Part, wR_Tag, wR_Sector, wR_Datac, wR_Data, wR_Datam, wNow⟩⟩
theorem BAct.len (o : BAct) : o.cells.length = 7 := rfl
theorem BAct.ones (o : BAct) : ∀ v ∈ o.cells, one v = true := by simp [BAct.cells, one]
theorem BAct.list (W : World) : Opn Try.prog W 67 (fun cs => ∃ a c, ∃ xs : List BAct, cs = [.slice a xs.length c] ∧ xs.length ≤ c ∧ (∀ x ∈ xs, BAct.OK W x) ∧ SlAt W 7 a xs.length ((xs.map BAct.cells).flatten) ∧ xs.length * 64 ≤ reachBytes) :=
  Opn.recs (sz := 7) (by' := 64) Try.underlying67 (by kernel_rfl) (by decide) (by kernel_rfl) (BAct.opn W)
structure BReq where
  Part : Int
  Tag : Int
  Write : Bool
  Sector : Int
  Dataa : Option Go.Addr
  Datac : Nat
  Data : List UInt8
def BReq.cells (o : BReq) : List Value := [.int .i64 o.Part, .int .u32 o.Tag, .bool o.Write, .int .i64 o.Sector, .slice o.Dataa o.Data.length o.Datac]
structure BReq.OK (W : World) (o : BReq) : Prop where
  mk ::
  Part : (Lit.int .i64 o.Part).wf = true
  Tag : (Lit.int .u32 o.Tag).wf = true
  Sector : (Lit.int .i64 o.Sector).wf = true
  Datac : o.Data.length ≤ o.Datac
  Data : SlAt W 1 o.Dataa o.Data.length (bytesV o.Data)
  Datam : o.Data.length ≤ reachBytes
theorem BReq.opn (W : World) : Opn Try.prog W 40 (fun cs => ∃ o : BReq, cs = o.cells ∧ o.OK W) := (Opn.of_fields Try.underlying40 (by kernel_rfl) (by kernel_rfl) (.cons (s := 1) (Opn.int Try.underlying3) (.cons (s := 1) (Opn.int Try.underlying35) (.cons (s := 1) (Opn.bool Try.underlying4) (.cons (s := 1) (Opn.int Try.underlying3) (.cons (s := 1) (Opn.bytes Try.underlying36 Try.underlying5 (by kernel_rfl) (by kernel_rfl)) .nil)))))).mono fun cs h => by
  obtain ⟨_, _, rfl, _, ⟨xPart, rfl, wPart⟩, ⟨_, _, rfl, _, ⟨xTag, rfl, wTag⟩, ⟨_, _, rfl, _, ⟨xWrite, rfl⟩, ⟨_, _, rfl, _, ⟨xSector, rfl, wSector⟩, ⟨_, _, rfl, _, ⟨xDataa, xDatac, xData, rfl, wDatac, wData, wDatam⟩, rfl⟩⟩⟩⟩⟩ := h
  exact ⟨⟨xPart, xTag, xWrite, xSector, xDataa, xDatac, xData⟩, rfl, ⟨wPart, wTag, wSector, wDatac, wData, wDatam⟩⟩
theorem BReq.len (o : BReq) : o.cells.length = 5 := rfl
theorem BReq.ones (o : BReq) : ∀ v ∈ o.cells, one v = true := by simp [BReq.cells, one]
theorem BReq.list (W : World) : Opn Try.prog W 32 (fun cs => ∃ a c, ∃ xs : List BReq, cs = [.slice a xs.length c] ∧ xs.length ≤ c ∧ (∀ x ∈ xs, BReq.OK W x) ∧ SlAt W 5 a xs.length ((xs.map BReq.cells).flatten) ∧ xs.length * 48 ≤ reachBytes) :=
  Opn.recs (sz := 5) (by' := 48) Try.underlying32 (by kernel_rfl) (by decide) (by kernel_rfl) (BReq.opn W)
def BAct.rq (a : BAct) : CR := ⟨a.R_Part, a.R_Tag, a.R_Write, a.R_Sector, ⟨a.R_Dataa, a.R_Datac, a.R_Data⟩⟩
def md (k x : Int) : Int := IntKind.u64.wrap x % k
theorem md_range {k : Int} (h : 0 < k) (x : Int) : 0 ≤ md k x ∧ md k x < k := ⟨Int.emod_nonneg _ (by omega), Int.emod_lt_of_pos _ h⟩
theorem any_no {l : List Int} (h : ∀ x ∈ l, 0 ≤ x ∧ x ≤ 1048576) : l.any badD = false := by
  rw [List.any_eq_false]
  intro x hx
  obtain ⟨h1, h2⟩ := h x hx
  unfold badD
  rw [decide_eq_false (p := x < 0) (by omega), decide_eq_false (p := 1048576 < x) (by omega)]; decide
theorem newE_zero {n len : Nat} {l : List Int} (h1 : n ≤ 1024) (h2 : len ≤ 64 * n) (h : ∀ x ∈ l, 0 ≤ x ∧ x ≤ 1048576) : newE n len l = 0 := by
  unfold newE
  rw [if_neg (by rw [any_no h]; simp; omega), if_neg (by omega)]
theorem pollL_all {now : Int} : ∀ (q : List Jb) (bs : B), (∀ j ∈ q, j.done ≤ now) → (pollL now bs q).2.2 = [] ∧ (pollL now bs q).1.length = q.length
  | [], bs, h => ⟨rfl, rfl⟩
  | j :: q, bs, h => by
    rw [pollL_yes (h j List.mem_cons_self)]
    have := pollL_all q (doJ bs j) fun i hi => h i (List.mem_cons_of_mem _ hi)
    exact ⟨this.1, by simp [this.2]⟩
theorem pollL_sub {now : Int} : ∀ (q : List Jb) (bs : B), (∀ j ∈ (pollL now bs q).2.2, j ∈ q) ∧ (pollL now bs q).1.length ≤ q.length
  | [], bs => ⟨fun j h => h, Nat.le_refl _⟩
  | j :: q, bs => by
    rcases (show now < j.done ∨ j.done ≤ now by omega) with h | h
    · rw [pollL_no h]; exact ⟨fun j h => h, Nat.zero_le _⟩
    · rw [pollL_yes h]
      have := pollL_sub q (doJ bs j) (now := now)
      exact ⟨fun i hi => List.mem_cons_of_mem _ (this.1 i hi), by simp only [List.length_cons]; omega⟩
theorem mem_pool {W0 : World} {G R : List HProp} {r : Rqs} (x : Ext G (pool r.ms) R) : ∀ m ∈ r.ms, RdB W0 G m.a m.c m.b := fun m hm => pool_rd x hm
theorem row_sub {W0 : World} {G : List HProp} {b o : Nat} {xs ys : List Value} (h : Row W0 G b o xs) (k : Nat) (hy : (xs.drop k).take ys.length = ys) : Row W0 G b (o + k) ys := fun j v hj => by
  have hx : xs[k + j]? = some v := by
    rw [← hy, List.getElem?_take] at hj
    split at hj
    · rw [List.getElem?_drop] at hj; exact hj
    · cases hj
  have := h (k + j) v hx
  rwa [← Nat.add_assoc] at this
theorem delayR_to {l : List Int} {taken m : Int} (h : ∀ x ∈ l, 0 ≤ x ∧ x ≤ m) (ht : 0 ≤ taken) (hm : 0 ≤ m) : 0 ≤ delayR l taken ∧ delayR l taken ≤ m := by
  unfold delayR
  split
  · omega
  · rename_i h0
    refine h _ ?_
    rw [List.getD_eq_getElem?_getD, List.getElem?_eq_getElem (by omega)]
    exact List.getElem_mem _
/-- The disk behind a request, taken or not; what it is answered. -/
def subS (s : Bs) (r : Rq) (now : Int) : Bs := if subBE s r.write r.sector r.data.length now = 0 then subBR s r now else s
section
variable (W0 : World) (Fr : List HProp)
theorem submit_spec {b : Nat} {s : Bs} {r : CR} {now : Int} (hr : RdB W0 Fr r.m.a r.m.c r.m.b) (hd : r.m.b.length ≤ dmax) (ht2 : s.taken ≤ 1073741824) :
    Ctr Try.prog W0 21 [.pointer (some ⟨b, 0, none⟩), .agg r.cells.toArray, .int .i64 now] (Bl b s :: Fr) (fun _ : Unit => True) (fun _ => .int .i64 (subBE s r.write r.sector r.m.b.length now)) (fun _ => Bl b (subS s r.abs now) :: Fr) := by
  by_cases h : subBE s r.write r.sector r.m.b.length now = 0
  · rw [h, show subS s r.abs now = subBR s r.abs now from if_pos h]
    exact submit_ok W0 Fr hr hd ht2 h
  · rw [show subS s r.abs now = s from if_neg h]
    exact submit_bad W0 Fr h
theorem num_spec (n : Int) : Ctr Try.prog W0 19 [.int .i64 n] Fr (fun _ : Unit => True) (fun _ => .int .i64 n) (fun _ => Fr) := by
  refine Ctr.of_body Try.func19 rfl Try.ntmps19 rfl ?_
  refine CG.seq ?_
  refine CG.region ?_
  refine OG.yield (Yield.assign rfl) rfl ?_
  refine OG.nil ?_
  refine QG.then ?_
  refine CG.seq ?_
  refine CG.region ?_
  refine OG.yield (Yield.move rfl) rfl ?_
  refine OG.yield (Yield.assign rfl) rfl ?_
  refine OG.nil ?_
  refine QG.then ?_
  refine CG.ret ?_
  exact QG.ret1 rfl rfl () trivial rfl (Imp.refl _)
def cz : CR := ⟨0, 0, false, 0, Msg.nil⟩
def wk0 : Bs := ⟨newB 2 [97, 98], [5, 3], 0, 0, []⟩
def wk1 : Bs := ⟨newB 2 [97, 98], [5, 3], 1, 15, [⟨cz.abs, 15⟩]⟩
def wk2 : Bs := ⟨newB 2 [97, 98], [5, 3], 1, 15, []⟩
set_option maxHeartbeats 100000 in
theorem works_spec : Ctr Try.prog W0 17 [] Fr (fun _ : Unit => True) (fun _ => .bool true) (fun _ => Fr) := by
  refine Ctr.of_body Try.func17 rfl Try.ntmps17 rfl ?_
  refine CG.seq ?_
  refine CG.region ?_
  refine OG.yield (Yield.assign rfl) rfl ?_
  refine OG.nil ?_
  refine QG.then ?_
  refine CG.seq ?_
  refine CG.region ?_
  refine OG.effd (Eff.lit [.const (.int .u8 97), .const (.int .u8 98)] (vs := [.int .u8 97, .int .u8 98]) (cells := bytesV [97, 98]) Try.underlying36 ti5 rfl rfl rfl rfl (by decide) (by simp [Value.cells]) (by simp [Value.cells]; rfl)) rfl ?_
  rintro b7 -
  refine OG.effd (Eff.convBytes (b := b7) Try.underlying36 Try.underlying5 rfl (by repeat (first | exact Foc.here | apply Foc.there))) rfl ?_
  rintro ⟨⟩ -
  refine OG.effd (Eff.lit [.const (.int .i64 5), .const (.int .i64 3)] (vs := [.int .i64 5, .int .i64 3]) (cells := intsV .i64 [5, 3]) Try.underlying23 ti3 rfl rfl rfl rfl (by decide) (by simp [Value.cells]) (by simp [Value.cells]; rfl)) rfl ?_
  rintro b9 -
  refine OG.callo call18 rfl ((by repeat (first | exact Imp.refl _ | exact Imp.none _ | apply Imp.pull (by repeat (first | exact Ext.here | apply Ext.there)) | apply Imp.trans Imp.drop))) (bnew_ok W0 _ (a := some ⟨b7, 0, none⟩) (c := 2) (da := some ⟨b9, 0, none⟩) (dc := 2) (n := 2) (delays := [5, 3]) (img := [97, 98]) (SlR.of_osl (E := 5) (by repeat (first | exact Ext.here | apply Ext.there))) (SlR.of_osl (E := 3) (by repeat (first | exact Ext.here | apply Ext.there))) (by decide) (by decide)) rfl ?_
  rintro b -
  rw [show (⟨newB 2 [97, 98], [5, 3], 0, 0, []⟩ : Bs) = wk0 from rfl]
  refine OG.yield (Yield.move rfl) rfl ?_
  refine OG.yield (Yield.extract rfl rfl) rfl ?_
  refine OG.yield (Yield.extract rfl rfl) rfl ?_
  refine OG.yield (Yield.assign rfl) rfl ?_
  refine OG.yield (Yield.assign rfl) rfl ?_
  refine OG.nil ?_
  refine QG.then ?_
  refine CG.seq ?_
  refine CG.seq ?_
  refine CG.region ?_
  refine OG.yield (Yield.move rfl) rfl ?_
  refine OG.callo call19 rfl (Imp.refl _) (num_spec W0 _ 0) rfl ?_
  rintro ⟨⟩ -
  refine OG.yield (by first | exact Yield.as (Yield.neq rfl rfl) (bT (by omega)) | exact Yield.as (Yield.neq rfl rfl) (bF (by omega)) | exact Yield.neq rfl rfl) rfl ?_
  refine OG.yield (Yield.move rfl) rfl ?_
  refine OG.guard_yes rfl rfl rfl (by decide) ?_
  refine OG.yield (Yield.move rfl) rfl ?_
  refine OG.guard_yes rfl rfl rfl (by decide) ?_
  refine OG.yield (by first | exact Yield.ptr_nil Try.underlying51 rfl rfl | exact Yield.nil_nil Try.underlying51 rfl rfl) rfl ?_
  refine OG.yield (by first | exact Yield.pick_t rfl rfl | exact Yield.pick_f rfl rfl | exact Yield.pick rfl (fun _ => rfl) (fun _ => rfl)) rfl ?_
  refine OG.yield (Yield.move rfl) rfl ?_
  refine OG.guard_yes rfl rfl rfl (by decide) ?_
  refine OG.yield (Yield.move rfl) rfl ?_
  refine OG.guard_yes rfl rfl rfl (by decide) ?_
  refine OG.yield (Yield.build (pvs := []) bu40 ti40 rfl (cells := cz.cells) rfl) rfl ?_
  refine OG.guard_yes rfl rfl rfl (by decide) ?_
  refine OG.callo call21 rfl ((by repeat (first | exact Imp.refl _ | exact Imp.none _ | apply Imp.pull (by repeat (first | exact Ext.here | apply Ext.there)) | apply Imp.trans Imp.drop))) (submit_ok W0 _ (b := b) (s := wk0) (r := cz) (now := 10) (RdB.of_slR SlR.nil (Nat.le_refl _)) (by decide) (by decide) (by decide)) rfl ?_
  rintro ⟨⟩ -
  rw [show subBR wk0 cz.abs 10 = wk1 from rfl]
  refine OG.guard_yes rfl rfl rfl (by decide) ?_
  refine OG.callo call19 rfl (Imp.refl _) (num_spec W0 _ 0) rfl ?_
  rintro ⟨⟩ -
  refine OG.guard_yes rfl rfl rfl (by decide) ?_
  refine OG.yield (by first | exact Yield.as (Yield.neq rfl rfl) (bT (by omega)) | exact Yield.as (Yield.neq rfl rfl) (bF (by omega)) | exact Yield.neq rfl rfl) rfl ?_
  refine OG.yield (by first | exact Yield.pick_t rfl rfl | exact Yield.pick_f rfl rfl | exact Yield.pick rfl (fun _ => rfl) (fun _ => rfl)) rfl ?_
  refine OG.nil ?_
  refine QG.then ?_
  refine CG.cond_f rfl ?_
  refine CG.skip ?_
  refine QG.then ?_
  refine CG.seq ?_
  refine CG.region ?_
  refine OG.yield (Yield.move rfl) rfl ?_
  refine OG.callo call41 rfl ((by repeat (first | exact Imp.refl _ | exact Imp.none _ | apply Imp.pull (by repeat (first | exact Ext.here | apply Ext.there)) | apply Imp.trans Imp.drop))) (next_spec W0 _ (b := b) (s := wk1)) rfl ?_
  rintro ⟨⟩ -
  rw [show nextR wk1.q = (15, true) from rfl]
  refine OG.yield (Yield.move rfl) rfl ?_
  refine OG.yield (Yield.extract rfl rfl) rfl ?_
  refine OG.yield (Yield.extract rfl rfl) rfl ?_
  refine OG.yield (Yield.assign rfl) rfl ?_
  refine OG.yield (Yield.assign rfl) rfl ?_
  refine OG.nil ?_
  refine QG.then ?_
  refine CG.seq ?_
  refine CG.region ?_
  refine OG.yield (Yield.move rfl) rfl ?_
  refine OG.callo call20 rfl ((by repeat (first | exact Imp.refl _ | exact Imp.none _ | apply Imp.pull (by repeat (first | exact Ext.here | apply Ext.there)) | apply Imp.trans Imp.drop))) (poll_spec W0 _ (b := b) (s := wk1) 15) rfl ?_
  rintro ⟨l, la, lc⟩ hl
  dsimp only at hl
  obtain ⟨cr, rfl, hcr⟩ := map_one (y := (⟨0, 0, false, 0, getS (newB 2 [97, 98]) 0⟩ : Rq)) (hl.trans (by rfl))
  obtain ⟨part, tag, write, sector, ma, mc, mb⟩ := cr
  have hcb : mb = getS (newB 2 [97, 98]) 0 := congrArg Rq.data hcr
  have hcl : mb.length = 64 := by rw [hcb]; decide
  have hc1 : mb[1]? = some 98 := by rw [hcb]; decide
  dsimp only [Rqs.G, Rqs.ms, List.cons_append, List.nil_append]
  rw [show pollR wk1 15 = wk2 by rfl]
  refine OG.yield (Yield.assign rfl) rfl ?_
  refine OG.nil ?_
  refine QG.then ?_
  refine CG.seq ?_
  refine CG.pure (fun w hw => SlR.elem_shape (W0 := W0) (f := CR.cells) (xs := [⟨part, tag, write, sector, ⟨ma, mc, mb⟩⟩]) (i := 0) (SlR.of_osl (E := 40) (a := la) (c := lc) (by repeat (first | exact Ext.here | apply Ext.there))) CR.len (by decide) Nat.zero_lt_one w hw) ?_
  rintro ⟨bl, ol, rfl⟩
  refine CG.pure (fun w hw => SlR.shape (W0 := W0) (pool_rd (ms := [(⟨part, tag, write, sector, ⟨ma, mc, mb⟩⟩ : CR)].map CR.m) (m := ⟨ma, mc, mb⟩) (by repeat (first | exact Ext.here | apply Ext.there)) (by simp)).slR (by intro q; have := congrArg List.length q; rw [bytesV_length] at this; simp only [List.length_nil] at this; omega) w hw) ?_
  rintro ⟨bm, om, hma⟩
  dsimp only at hma
  subst hma
  refine CG.region ?_
  refine OG.yield (Yield.move rfl) rfl ?_
  refine OG.yield (by first | exact Yield.as (Yield.eql rfl rfl) (bT (by omega)) | exact Yield.as (Yield.eql rfl rfl) (bF (by omega)) | exact Yield.eql rfl rfl) rfl ?_
  refine OG.yield (Yield.move rfl) rfl ?_
  refine OG.guard_yes rfl rfl rfl (by decide) ?_
  refine OG.yield (Yield.move rfl) rfl ?_
  refine OG.yield (by first | exact Yield.pick_t rfl rfl | exact Yield.pick_f rfl rfl | exact Yield.pick rfl (fun _ => rfl) (fun _ => rfl)) rfl ?_
  refine OG.yield (Yield.move rfl) rfl ?_
  refine OG.guard_yes rfl rfl rfl (by decide) ?_
  refine OG.yield (Yield.move rfl) rfl ?_
  refine OG.guard_yes rfl rfl rfl (by decide) ?_
  refine OG.yield (Yield.len_slice (a := some ⟨bl, ol, none⟩) (m := 1) (c := lc) Try.underlying32 rfl rfl) rfl ?_
  refine OG.guard_yes rfl rfl rfl (by decide) ?_
  refine OG.yield (by first | exact Yield.as (Yield.eql rfl rfl) (bT (by omega)) | exact Yield.as (Yield.eql rfl rfl) (bF (by omega)) | exact Yield.eql rfl rfl) rfl ?_
  refine OG.yield (by first | exact Yield.pick_t rfl rfl | exact Yield.pick_f rfl rfl | exact Yield.pick rfl (fun _ => rfl) (fun _ => rfl)) rfl ?_
  refine OG.yield (Yield.move rfl) rfl ?_
  refine OG.guard_yes rfl rfl rfl (by decide) ?_
  refine OG.yield (Yield.move rfl) rfl ?_
  refine OG.guard_yes rfl rfl rfl (by decide) ?_
  refine OG.yield (Yield.index_slice (b := bl) (o := ol) (m := 1) (c := lc) Try.underlying32 ti40 rfl rfl (by omega) (by omega)) rfl ?_
  refine OG.guard_yes rfl rfl rfl (by decide) ?_
  refine OG.yield (Yield.fieldAddr fa40_4 rfl) rfl ?_
  refine OG.guard_yes rfl rfl rfl (by decide) ?_
  refine OG.yield (Yield.load (v := .slice (some ⟨bm, om, none⟩) mb.length mc) ti36 rfl ((SlR.elem (f := CR.cells) (xs := [⟨part, tag, write, sector, ⟨some ⟨bm, om, none⟩, mc, mb⟩⟩]) (i := 0) (SlR.of_osl (E := 40) (a := some ⟨bl, ol, none⟩) (c := lc) (by repeat (first | exact Ext.here | apply Ext.there))) CR.len rfl) 4 _ rfl)) rfl ?_
  refine OG.guard_yes rfl rfl rfl (by decide) ?_
  refine OG.yield (Yield.len_slice (a := some ⟨bm, om, none⟩) (m := mb.length) (c := mc) Try.underlying36 rfl rfl) rfl ?_
  refine OG.guard_yes rfl rfl rfl (by decide) ?_
  refine OG.yield (Yield.as (Yield.eql rfl rfl) (bT (by rw [hcl]; rfl))) rfl ?_
  refine OG.yield (by first | exact Yield.pick_t rfl rfl | exact Yield.pick_f rfl rfl | exact Yield.pick rfl (fun _ => rfl) (fun _ => rfl)) rfl ?_
  refine OG.yield (Yield.move rfl) rfl ?_
  refine OG.guard_yes rfl rfl rfl (by decide) ?_
  refine OG.yield (Yield.move rfl) rfl ?_
  refine OG.guard_yes rfl rfl rfl (by decide) ?_
  refine OG.yield (Yield.index_slice (b := bl) (o := ol) (m := 1) (c := lc) Try.underlying32 ti40 rfl rfl (by omega) (by omega)) rfl ?_
  refine OG.guard_yes rfl rfl rfl (by decide) ?_
  refine OG.yield (Yield.fieldAddr fa40_4 rfl) rfl ?_
  refine OG.guard_yes rfl rfl rfl (by decide) ?_
  refine OG.yield (Yield.load (v := .slice (some ⟨bm, om, none⟩) mb.length mc) ti36 rfl ((SlR.elem (f := CR.cells) (xs := [⟨part, tag, write, sector, ⟨some ⟨bm, om, none⟩, mc, mb⟩⟩]) (i := 0) (SlR.of_osl (E := 40) (a := some ⟨bl, ol, none⟩) (c := lc) (by repeat (first | exact Ext.here | apply Ext.there))) CR.len rfl) 4 _ rfl)) rfl ?_
  refine OG.guard_yes rfl rfl rfl (by decide) ?_
  refine OG.yield (Yield.index_slice (b := bm) (o := om) (m := mb.length) (c := mc) Try.underlying36 ti5 rfl rfl (by omega) (by omega)) rfl ?_
  refine OG.guard_yes rfl rfl rfl (by decide) ?_
  refine OG.yield (Yield.load (v := byteV 98) ti5 rfl (by exact (SlR.cel (pool_rd (ms := [(⟨part, tag, write, sector, ⟨some ⟨bm, om, none⟩, mc, mb⟩⟩ : CR)].map CR.m) (m := ⟨some ⟨bm, om, none⟩, mc, mb⟩) (by repeat (first | exact Ext.here | apply Ext.there)) (by simp)).slR (bytesV_get hc1)))) rfl ?_
  refine OG.guard_yes rfl rfl rfl (by decide) ?_
  refine OG.yield (by first | exact Yield.as (Yield.eql rfl rfl) (bT (by omega)) | exact Yield.as (Yield.eql rfl rfl) (bF (by omega)) | exact Yield.eql rfl rfl) rfl ?_
  refine OG.yield (by first | exact Yield.pick_t rfl rfl | exact Yield.pick_f rfl rfl | exact Yield.pick rfl (fun _ => rfl) (fun _ => rfl)) rfl ?_
  refine OG.yield (Yield.move rfl) rfl ?_
  refine OG.guard_yes rfl rfl rfl (by decide) ?_
  refine OG.yield (Yield.move rfl) rfl ?_
  refine OG.guard_yes rfl rfl rfl (by decide) ?_
  refine OG.yield (Yield.build (pvs := [(3, .int .i64 2)]) bu40 ti40 rfl (cells := CR.cells ⟨0, 0, false, 2, Msg.nil⟩) rfl) rfl ?_
  refine OG.guard_yes rfl rfl rfl (by decide) ?_
  refine OG.callo call21 rfl ((by repeat (first | exact Imp.refl _ | exact Imp.none _ | apply Imp.pull (by repeat (first | exact Ext.here | apply Ext.there)) | apply Imp.trans Imp.drop))) (submit_bad W0 _ (b := b) (s := wk2) (r := ⟨0, 0, false, 2, Msg.nil⟩) (now := 20) (by decide)) rfl ?_
  rintro ⟨⟩ -
  rw [show subBE wk2 (CR.mk 0 0 false 2 Msg.nil).write (CR.mk 0 0 false 2 Msg.nil).sector (CR.mk 0 0 false 2 Msg.nil).m.b.length 20 = 2 by decide]
  refine OG.guard_yes rfl rfl rfl (by decide) ?_
  refine OG.callo call19 rfl (Imp.refl _) (num_spec W0 _ 2) rfl ?_
  rintro ⟨⟩ -
  refine OG.guard_yes rfl rfl rfl (by decide) ?_
  refine OG.yield (by first | exact Yield.as (Yield.eql rfl rfl) (bT (by omega)) | exact Yield.as (Yield.eql rfl rfl) (bF (by omega)) | exact Yield.eql rfl rfl) rfl ?_
  refine OG.yield (by first | exact Yield.pick_t rfl rfl | exact Yield.pick_f rfl rfl | exact Yield.pick rfl (fun _ => rfl) (fun _ => rfl)) rfl ?_
  refine OG.yield (Yield.assign rfl) rfl ?_
  refine OG.nil ?_
  refine QG.then ?_
  refine CG.ret ?_
  exact QG.ret1 rfl rfl () trivial rfl (by repeat (first | exact Imp.refl _ | exact Imp.none _ | apply Imp.pull (by repeat (first | exact Ext.here | apply Ext.there)) | apply Imp.trans Imp.drop))
end
end Go.Proofs.Ytoejnhfcegchhaa.Bk
