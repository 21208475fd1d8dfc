/- TlbFlushes: a flush takes all of its own partition's translations and none of another one's: the law returns true and changes nothing that was there. -/
import Derived.Test.YtjdaglakhiifjaaTkw
namespace Go.Proofs.Ytjdaglakhiifjaa.tlbFlushes
open Go Go.Sl Go.RowKit Go.Proofs Go.Proofs.Ytjdaglakhiifjaa.T Go.Proofs.Ytjdaglakhiifjaa.Tl
set_option linter.unusedVariables false
set_option linter.unusedSimpArgs false
set_option maxRecDepth 100000
structure TAct where
  Kind : Int
  Tag : Int
  Page : Int
  Frame : Int
  Perm : Int
def TAct.cells (o : TAct) : List Value := [.int .i64 o.Kind, .int .i64 o.Tag, .int .i64 o.Page, .int .i64 o.Frame, .int .i64 o.Perm]
structure TAct.OK (W : World) (o : TAct) : Prop where
  mk ::
  Kind : (Lit.int .i64 o.Kind).wf = true
  Tag : (Lit.int .i64 o.Tag).wf = true
  Page : (Lit.int .i64 o.Page).wf = true
  Frame : (Lit.int .i64 o.Frame).wf = true
  Perm : (Lit.int .i64 o.Perm).wf = true
theorem TAct.opn (W : World) : Opn Try.prog W 72 (fun cs => ∃ o : TAct, cs = o.cells ∧ o.OK W) := (Opn.of_fields Try.underlying72 (by kernel_rfl) (by kernel_rfl) (.cons (s := 1) (Opn.int Try.underlying3) (.cons (s := 1) (Opn.int Try.underlying3) (.cons (s := 1) (Opn.int Try.underlying3) (.cons (s := 1) (Opn.int Try.underlying3) (.cons (s := 1) (Opn.int Try.underlying3) .nil)))))).mono fun cs h => by
  obtain ⟨_, _, rfl, _, ⟨xKind, rfl, wKind⟩, ⟨_, _, rfl, _, ⟨xTag, rfl, wTag⟩, ⟨_, _, rfl, _, ⟨xPage, rfl, wPage⟩, ⟨_, _, rfl, _, ⟨xFrame, rfl, wFrame⟩, ⟨_, _, rfl, _, ⟨xPerm, rfl, wPerm⟩, rfl⟩⟩⟩⟩⟩ := h
  exact ⟨⟨xKind, xTag, xPage, xFrame, xPerm⟩, rfl, ⟨wKind, wTag, wPage, wFrame, wPerm⟩⟩
theorem TAct.len (o : TAct) : o.cells.length = 5 := rfl
theorem TAct.ones (o : TAct) : ∀ v ∈ o.cells, one v = true := by simp [TAct.cells, one]
theorem TAct.list (W : World) : Opn Try.prog W 69 (fun cs => ∃ a c, ∃ xs : List TAct, cs = [.slice a xs.length c] ∧ xs.length ≤ c ∧ (∀ x ∈ xs, TAct.OK W x) ∧ SlAt W 5 a xs.length ((xs.map TAct.cells).flatten) ∧ xs.length * 40 ≤ reachBytes) :=
  Opn.recs (sz := 5) (by' := 40) Try.underlying69 (by kernel_rfl) (by decide) (by kernel_rfl) (TAct.opn W)
theorem put_len (l : List Slot) (hand : Nat) (s : Slot) : (putL l hand s).1.length = l.length := by
  unfold putL; split
  · simp
  · split <;> simp
theorem put_hand {l : List Slot} {hand : Nat} (s : Slot) (h : hand < l.length) : (putL l hand s).2 < l.length := by
  unfold putL; split
  · exact h
  · split
    · exact h
    · exact Nat.mod_lt _ (by omega)
theorem held_flush (l : List Slot) (tag : Int) : heldL (flushL l tag) = (heldL l).filter (fun s => decide (s.tag ≠ tag)) := by
  induction l with
  | nil => rfl
  | cons x l ih =>
    unfold heldL flushL at *
    simp only [List.map_cons, List.filter_cons]
    by_cases h : x.tag = tag
    · rw [if_pos h]
      rw [if_neg (by decide), ih]
      cases hu : x.used <;> simp [hu, h]
    · rw [if_neg h]
      cases hu : x.used <;> simp [hu, h, ih]
theorem take_filter {α : Type} (p : α → Bool) (l : List α) (i : Nat) : (l.filter p).take ((l.take i).filter p).length = (l.take i).filter p := by
  conv => lhs; rw [← List.take_append_drop i l, List.filter_append]
  simp
theorem filter_get {α : Type} {p : α → Bool} {l : List α} {i : Nat} {x : α} (h : l[i]? = some x) (hp : p x = true) : (l.filter p)[((l.take i).filter p).length]? = some x := by
  obtain ⟨hi, rfl⟩ := List.getElem?_eq_some_iff.1 h
  have e : l.filter p = (l.take i).filter p ++ l[i] :: (l.drop (i + 1)).filter p := by
    conv => lhs; rw [← List.take_append_drop i l, List.filter_append, List.drop_eq_getElem_cons hi, List.filter_cons, if_pos hp]
  rw [e, List.getElem?_append_right (by omega), Nat.sub_self]; rfl
structure St where
  i : Nat
  l : List Slot
  hand : Nat
def St.env (a1 : Option Addr) (m c1 t : Nat) (tag : Int) (s : St) : Env := [(1, .slice a1 m c1), (2, .int .i64 tag), (7, .pointer (some ⟨t, 0, none⟩)), (9, .int .i64 s.i)]
abbrev St.G (W : World) (t : Nat) (s : St) : List HProp := [T t s.l s.hand 0 0, old W]
set_option maxHeartbeats 4000000 in
theorem walk (W : World) {n0 tag : Int} {a1 : Option Addr} {c1 : Nat} {ops : List TAct} (hops : SlAt W 5 a1 ops.length ((ops.map TAct.cells).flatten)) :
    Ctr Try.prog W 10 [.int .i64 n0, .slice a1 ops.length c1, .int .i64 tag] [old W] (fun _ : Unit => True) (fun _ => .bool true) (fun _ => [old W]) := by
  have hw := wrap_u64_range n0
  refine Ctr.of_body Try.func10 rfl Try.ntmps10 rfl ?_
  refine CG.seq ?_
  refine CG.region ?_
  refine OG.yield (Yield.assign rfl) rfl ?_
  refine OG.nil ?_
  refine QG.then ?_
  refine CG.seq ?_
  refine CG.seq ?_
  refine CG.region ?_
  refine OG.callo call13 rfl (Imp.refl _) (works_spec W _) rfl ?_
  rintro ⟨⟩ -
  refine OG.yield (Yield.not rfl) rfl ?_
  refine OG.nil ?_
  refine QG.then ?_
  refine CG.cond_f rfl ?_
  refine CG.skip ?_
  refine QG.then ?_
  refine CG.seq ?_
  refine CG.region ?_
  refine OG.yield (Yield.move rfl) rfl ?_
  refine OG.yield (Yield.conv Try.underlying24 rfl rfl rfl) rfl ?_
  generalize IntKind.u64.wrap n0 = wr at hw ⊢
  refine OG.yield (Yield.rem rfl rfl (by omega) (tmod_pos (by omega) (by omega))) rfl ?_
  refine OG.yield (Yield.conv (c := wr % 64) Try.underlying3 rfl rfl (w64 (by omega) (by omega))) rfl ?_
  refine OG.yield (Yield.add rfl rfl (w64 (by omega) (by omega))) rfl ?_
  obtain ⟨n, hn⟩ : ∃ n : Nat, 1 + wr % 64 = (n : Int) := ⟨(1 + wr % 64).toNat, by omega⟩
  rw [hn]
  have hn1 : 1 ≤ n ∧ n ≤ 64 := by omega
  refine OG.callo call14 rfl ((by repeat (first | exact Imp.refl _ | exact Imp.none _ | apply Imp.pull (by repeat (first | exact Ext.here | apply Ext.there)) | apply Imp.trans Imp.drop))) (new_spec W _ hn1.1 (by omega)) rfl ?_
  rintro t -
  refine OG.yield (Yield.move rfl) rfl ?_
  refine OG.yield (Yield.extract rfl rfl) rfl ?_
  refine OG.yield (Yield.extract rfl rfl) rfl ?_
  refine OG.yield (Yield.assign rfl) rfl ?_
  refine OG.yield (Yield.assign rfl) rfl ?_
  refine OG.nil ?_
  refine QG.then ?_
  refine CG.seq ?_
  refine CG.seq ?_
  rcases (show ops.length ≤ 500 ∨ 500 < ops.length by omega) with hp | hp
  · skip
    refine CG.region ?_
    refine OG.yield (Yield.move rfl) rfl ?_
    refine OG.callo call15 rfl (Imp.refl _) (num_spec W _ _) rfl ?_
    rintro ⟨⟩ -
    refine OG.yield (by first | exact Yield.as (Yield.neq rfl rfl) (bT (by omega)) | exact Yield.as (Yield.neq rfl rfl) (bF (by omega)) | exact Yield.neq rfl rfl) rfl ?_
    refine OG.yield (Yield.move rfl) rfl ?_
    refine OG.guard_yes rfl rfl rfl (by decide) ?_
    refine OG.yield (Yield.move rfl) rfl ?_
    refine OG.guard_yes rfl rfl rfl (by decide) ?_
    refine OG.yield (by first | exact Yield.ptr_nil Try.underlying25 rfl rfl | exact Yield.nil_nil Try.underlying25 rfl rfl) rfl ?_
    refine OG.yield (by first | exact Yield.pick_t rfl rfl | exact Yield.pick_f rfl rfl | exact Yield.pick rfl (fun _ => rfl) (fun _ => rfl)) rfl ?_
    refine OG.yield (Yield.move rfl) rfl ?_
    refine OG.guard_yes rfl rfl rfl (by decide) ?_
    refine OG.yield (Yield.move rfl) rfl ?_
    refine OG.guard_yes rfl rfl rfl (by decide) ?_
    refine OG.yield (Yield.len_slice Try.underlying69 rfl rfl) rfl ?_
    refine OG.guard_yes rfl rfl rfl (by decide) ?_
    refine OG.yield (by first | exact Yield.as (Yield.gtr rfl rfl) (bT (by omega)) | exact Yield.as (Yield.gtr rfl rfl) (bF (by omega)) | exact Yield.gtr rfl rfl) rfl ?_
    refine OG.yield (by first | exact Yield.pick_t rfl rfl | exact Yield.pick_f rfl rfl | exact Yield.pick rfl (fun _ => rfl) (fun _ => rfl)) rfl ?_
    refine OG.nil ?_
    refine QG.then ?_
    refine CG.cond_f rfl ?_
    refine CG.skip ?_
    refine QG.then ?_
    refine CG.seq ?_
    refine CG.seq ?_
    refine CG.region ?_
    refine OG.yield (Yield.assign rfl) rfl ?_
    refine OG.nil ?_
    refine QG.then ?_
    refine CG.block ?_
    refine CG.loop (fun s : St => s.i ≤ ops.length ∧ s.l.length = n ∧ s.hand < n) (St.env a1 ops.length c1 t tag) (St.G W t) (fun s => ops.length - s.i) ⟨0, List.replicate n Slot.zero, 0⟩ ⟨Nat.zero_le _, by simp, by simp only; omega⟩ (by repeat (first | exact Env.sub_nil _ | refine Env.sub_cons rfl ?_)) (Imp.refl _) ?_
    rintro ⟨i, l, hand⟩ ⟨hi, hl, hh⟩
    unfold St.env
    dsimp only at hi hl hh ⊢
    refine CG.seq ?_
    refine CG.seq ?_
    refine CG.region ?_
    refine OG.yield (Yield.move rfl) rfl ?_
    refine OG.yield (Yield.move rfl) rfl ?_
    refine OG.yield (Yield.len_slice Try.underlying69 rfl rfl) rfl ?_
    refine OG.yield (by first | exact Yield.as (Yield.lss rfl rfl) (bT (by omega)) | exact Yield.as (Yield.lss rfl rfl) (bF (by omega)) | exact Yield.lss rfl rfl) rfl ?_
    refine OG.nil ?_
    refine QG.then ?_
    refine CG.cond rfl (fun hc => ?_) (fun hc => ?_)
    · try replace hc := of_decide_eq_true hc
      refine CG.skip ?_
      refine QG.then ?_
      refine CG.seq ?_
      refine CG.block ?_
      have h1 : i < ops.length := by omega
      have hget : ops[i]? = some ops[i] := by simp [h1]
      generalize ops[i] = op at hget
      refine CG.pure (fun w hw => (hops.old (G := St.G W t ⟨i, l, hand⟩) (by repeat (first | exact Ext.here | apply Ext.there))).elem_shape TAct.len (by decide) h1 w hw) ?_
      rintro ⟨b, o, rfl⟩
      have hrow : ∀ {G R : List HProp}, Ext G (old W) R → Row W G b (o + i * 5) op.cells := fun x => (hops.old x).elem TAct.len hget
      refine CG.draw (.look 0 1 (.look 1 1 (.look 2 1 (.look 3 1 (.look 4 1 (.look 5 1 (.look 6 1 (.look 7 1 (.look 8 1 (.look 9 1 (.look 10 1 (.look 11 1 (.look 12 1 (.look 13 1 (.look 14 1 (.look 15 1 (.look 16 1 (.look 17 1 (.look 18 1 (.look 19 1 (.look 20 1 (.eff1 21 false (.done))))))))))))))))))))))) [21] [] ([]) ([]) mixed (by kernel_rfl) (Imp.none _) (Imp.none _) ?_
      refine DG.look rfl rfl (Yield.move rfl) rfl ?_
      refine DG.look rfl rfl (Yield.move rfl) rfl ?_
      refine DG.look rfl rfl (Yield.move rfl) rfl ?_
      refine DG.look rfl rfl (Yield.index_slice Try.underlying69 ti72 rfl rfl (by omega) (by omega)) rfl ?_
      refine DG.look rfl rfl (Yield.fieldAddr fa72_1 rfl) rfl ?_
      refine DG.look rfl rfl (Yield.load ti3 rfl (by first | exact Cel.of_blk (by repeat (first | exact Ext.here | apply Ext.there)) rfl | exact (hrow (by repeat (first | exact Ext.here | apply Ext.there))) _ _ rfl)) rfl ?_
      refine DG.look rfl rfl (Yield.move rfl) rfl ?_
      refine DG.look rfl rfl (Yield.move rfl) rfl ?_
      refine DG.look rfl rfl (Yield.index_slice Try.underlying69 ti72 rfl rfl (by omega) (by omega)) rfl ?_
      refine DG.look rfl rfl (Yield.fieldAddr fa72_2 rfl) rfl ?_
      refine DG.look rfl rfl (Yield.load ti3 rfl (by first | exact Cel.of_blk (by repeat (first | exact Ext.here | apply Ext.there)) rfl | exact (hrow (by repeat (first | exact Ext.here | apply Ext.there))) _ _ rfl)) rfl ?_
      refine DG.look rfl rfl (Yield.move rfl) rfl ?_
      refine DG.look rfl rfl (Yield.move rfl) rfl ?_
      refine DG.look rfl rfl (Yield.index_slice Try.underlying69 ti72 rfl rfl (by omega) (by omega)) rfl ?_
      refine DG.look rfl rfl (Yield.fieldAddr fa72_3 rfl) rfl ?_
      refine DG.look rfl rfl (Yield.load ti3 rfl (by first | exact Cel.of_blk (by repeat (first | exact Ext.here | apply Ext.there)) rfl | exact (hrow (by repeat (first | exact Ext.here | apply Ext.there))) _ _ rfl)) rfl ?_
      refine DG.look rfl rfl (Yield.move rfl) rfl ?_
      refine DG.look rfl rfl (Yield.move rfl) rfl ?_
      refine DG.look rfl rfl (Yield.index_slice Try.underlying69 ti72 rfl rfl (by omega) (by omega)) rfl ?_
      refine DG.look rfl rfl (Yield.fieldAddr fa72_4 rfl) rfl ?_
      refine DG.look rfl rfl (Yield.load ti3 rfl (by first | exact Cel.of_blk (by repeat (first | exact Ext.here | apply Ext.there)) rfl | exact (hrow (by repeat (first | exact Ext.here | apply Ext.there))) _ _ rfl)) rfl ?_
      refine DG.eff1 ?_
      refine Chg.callo rfl rfl call16 rfl ((by repeat (first | exact Imp.refl _ | exact Imp.none _ | apply Imp.pull (by repeat (first | exact Ext.here | apply Ext.there)) | apply Imp.trans Imp.drop))) (put_spec W _ (l := l) (hand := hand) op.Tag op.Page op.Frame op.Perm (by omega) (by omega)) rfl (fun _ => (by repeat (first | exact Imp.refl _ | exact Imp.none _ | apply Imp.pull (by repeat (first | exact Ext.here | apply Ext.there)) | apply Imp.trans Imp.drop))) (fun _ => Imp.refl _) (fun _ => (by repeat (first | exact Imp.refl _ | exact Imp.none _ | apply Imp.pull (by repeat (first | exact Ext.here | apply Ext.there)) | apply Imp.trans Imp.drop))) ?_
      rintro ⟨⟩ -
      refine DG.done ?_
      refine QG.block_normal ?_
      refine QG.then ?_
      refine CG.region ?_
      refine OG.yield (Yield.move rfl) rfl ?_
      refine OG.yield (Yield.add rfl rfl (w64 (by omega) (by omega))) rfl ?_
      refine OG.yield (Yield.assign rfl) rfl ?_
      refine OG.nil ?_
      exact QG.next ⟨i + 1, (putL l hand ⟨true, op.Tag, op.Page, op.Frame, op.Perm⟩).1, (putL l hand ⟨true, op.Tag, op.Page, op.Frame, op.Perm⟩).2⟩ ⟨by simp only; omega, by simp only; rw [put_len]; exact hl, by simp only; rw [← hl]; exact put_hand _ (by omega)⟩ (by simp only; omega) (by repeat (first | exact Env.sub_nil _ | refine Env.sub_cons rfl ?_)) (by repeat (first | exact Imp.refl _ | exact Imp.none _ | apply Imp.pull (by repeat (first | exact Ext.here | apply Ext.there)) | apply Imp.trans Imp.drop))
    · try replace hc := of_decide_eq_false hc
      refine CG.exit ?_
      refine QG.pass_exit ?_
      refine QG.pass_exit ?_
      refine QG.block_exit ?_
      refine QG.then ?_
      refine CG.seq ?_
      refine CG.region ?_
      refine OG.yield (Yield.move rfl) rfl ?_
      refine OG.callo call43 rfl ((by repeat (first | exact Imp.refl _ | exact Imp.none _ | apply Imp.pull (by repeat (first | exact Ext.here | apply Ext.there)) | apply Imp.trans Imp.drop))) (held_spec W _ (l := l) (by omega)) rfl ?_
      rintro ⟨a68, c68⟩ -
      refine OG.yield (Yield.assign rfl) rfl ?_
      refine OG.nil ?_
      refine QG.then ?_
      refine CG.seq ?_
      refine CG.region ?_
      refine OG.yield (Yield.move rfl) rfl ?_
      refine OG.yield (Yield.move rfl) rfl ?_
      refine OG.callo call40 rfl ((by repeat (first | exact Imp.refl _ | exact Imp.none _ | apply Imp.pull (by repeat (first | exact Ext.here | apply Ext.there)) | apply Imp.trans Imp.drop))) (flushTag_spec W _ (l := l) tag (by omega)) rfl ?_
      rintro ⟨⟩ -
      refine OG.nil ?_
      refine QG.then ?_
      refine CG.seq ?_
      refine CG.region ?_
      refine OG.yield (Yield.move rfl) rfl ?_
      refine OG.callo call43 rfl ((by repeat (first | exact Imp.refl _ | exact Imp.none _ | apply Imp.pull (by repeat (first | exact Ext.here | apply Ext.there)) | apply Imp.trans Imp.drop))) (held_spec W _ (l := flushL l tag) (by simp [flushL]; omega)) rfl ?_
      rintro ⟨a73, c73⟩ -
      rw [held_flush]
      have hlw : (heldL l).length ≤ 64 := Nat.le_trans (List.length_filter_le _ _) (by omega)
      generalize heldL l = ws at hlw ⊢
      refine OG.yield (Yield.assign rfl) rfl ?_
      refine OG.nil ?_
      refine QG.then ?_
      refine CG.seq ?_
      refine CG.region ?_
      refine OG.yield (Yield.assign rfl) rfl ?_
      refine OG.nil ?_
      refine QG.then ?_
      refine CG.seq ?_
      refine CG.seq ?_
      refine CG.region ?_
      refine OG.yield (Yield.assign rfl) rfl ?_
      refine OG.nil ?_
      refine QG.then ?_
      refine CG.block ?_
      refine CG.loop (fun k : Nat => k ≤ ws.length) (fun k => [(2, .int .i64 tag), (10, .slice a68 ws.length c68), (11, .slice a73 (ws.filter (fun s => decide (s.tag ≠ tag))).length c73), (12, .int .i64 ((ws.take k).filter (fun s => decide (s.tag ≠ tag))).length), (13, .int .i64 k)]) (fun _ => [oln a68 c68 ws, oln a73 c73 (ws.filter (fun s => decide (s.tag ≠ tag))), old W]) (fun k => ws.length - k) 0 (Nat.zero_le _) (by repeat (first | exact Env.sub_nil _ | refine Env.sub_cons rfl ?_)) (by repeat (first | exact Imp.refl _ | exact Imp.none _ | apply Imp.pull (by repeat (first | exact Ext.here | apply Ext.there)) | apply Imp.trans Imp.drop)) ?_
      intro k hk
      refine CG.seq ?_
      refine CG.seq ?_
      refine CG.region ?_
      refine OG.yield (Yield.move rfl) rfl ?_
      refine OG.yield (Yield.move rfl) rfl ?_
      refine OG.yield (Yield.len_slice Try.underlying79 rfl rfl) rfl ?_
      refine OG.yield (by first | exact Yield.as (Yield.lss rfl rfl) (bT (by omega)) | exact Yield.as (Yield.lss rfl rfl) (bF (by omega)) | exact Yield.lss rfl rfl) rfl ?_
      refine OG.nil ?_
      refine QG.then ?_
      refine CG.cond rfl (fun hc => ?_) (fun hc => ?_)
      · try replace hc := of_decide_eq_true hc
        have hk3 : k < ws.length := by omega
        have hgk : ws[k]? = some ws[k] := by simp [hk3]
        generalize ws[k] = x at hgk
        have hfl : ((ws.take k).filter (fun s => decide (s.tag ≠ tag))).length ≤ 64 := Nat.le_trans (List.length_filter_le _ _) (by simp; omega)
        refine CG.pure (fun w hw => (SlR.of_osl (W0 := W) (E := 82) (sz := 4) (a := a68) (c := c68) (m := ws.length) (xs := (ws.map Slot.lcells).flatten) (by repeat (first | exact Ext.here | apply Ext.there))).elem_shape Slot.llen (by decide) hk3 w hw) ?_
        rintro ⟨b2, o2, rfl⟩
        refine CG.skip ?_
        refine QG.then ?_
        refine CG.seq ?_
        refine CG.block ?_
        refine CG.seq ?_
        refine CG.seq ?_
        refine CG.region ?_
        refine OG.yield (Yield.move rfl) rfl ?_
        refine OG.yield (Yield.move rfl) rfl ?_
        refine OG.yield (Yield.index_slice Try.underlying79 ti82 rfl rfl (by omega) (by omega)) rfl ?_
        refine OG.yield (Yield.fieldAddr fa82_0 rfl) rfl ?_
        refine OG.yield (Yield.load (v := .int .i64 x.tag) ti3 rfl (((SlR.of_osl (by repeat (first | exact Ext.here | apply Ext.there))).elem (f := Slot.lcells) Slot.llen hgk) 0 _ rfl)) rfl ?_
        refine OG.yield (Yield.move rfl) rfl ?_
        refine OG.yield (Yield.eql rfl rfl) rfl ?_
        refine OG.nil ?_
        refine QG.then ?_
        refine CG.cond rfl (fun hc => ?_) (fun hc => ?_)
        · try replace hc := of_decide_eq_true hc
          refine CG.exit ?_
          refine QG.pass_exit ?_
          refine QG.block_exit ?_
          refine QG.then ?_
          refine CG.region ?_
          refine OG.yield (Yield.move rfl) rfl ?_
          refine OG.yield (Yield.add rfl rfl (w64 (by omega) (by omega))) rfl ?_
          refine OG.yield (Yield.assign rfl) rfl ?_
          refine OG.nil ?_
          refine QG.next (k + 1) (show k + 1 ≤ ws.length by omega) (show ws.length - (k + 1) < ws.length - k by omega) ?_ (by repeat (first | exact Imp.refl _ | exact Imp.none _ | apply Imp.pull (by repeat (first | exact Ext.here | apply Ext.there)) | apply Imp.trans Imp.drop))
          rw [tlbKeeps.take_succ hgk, List.filter_append]
          simp only [List.filter_cons, hc, ne_eq, not_true_eq_false, decide_false, Bool.false_eq_true, if_false, List.filter_nil, List.append_nil]
          exact (by repeat (first | exact Env.sub_nil _ | refine Env.sub_cons rfl ?_))
        · try replace hc := of_decide_eq_false hc
          have hg2 := filter_get (p := fun s => decide (s.tag ≠ tag)) hgk (by simp [hc])
          have hlt : ((ws.take k).filter (fun s => decide (s.tag ≠ tag))).length < (ws.filter (fun s => decide (s.tag ≠ tag))).length := (List.getElem?_eq_some_iff.1 hg2).1
          have hne := hc
          refine CG.pure (fun w hw => (SlR.of_osl (W0 := W) (E := 82) (sz := 4) (a := a73) (c := c73) (m := (ws.filter (fun s => decide (s.tag ≠ tag))).length) (xs := ((ws.filter (fun s => decide (s.tag ≠ tag))).map Slot.lcells).flatten) (by repeat (first | exact Ext.here | apply Ext.there))).elem_shape Slot.llen (by decide) hlt w hw) ?_
          rintro ⟨b3, o3, rfl⟩
          refine CG.skip ?_
          refine QG.then ?_
          refine CG.seq ?_
          refine CG.seq ?_
          refine CG.draw (.look 0 1 (.look 1 1 (.look 2 1 (.look 3 1 (.look 4 1 (.look 5 1 (.look 6 1 (.look 7 1 (.look 8 1 (.look 9 1 (.look 10 1 (.look 11 1 (.look 12 1 (.look 13 1 (.look 14 1 (.done)))))))))))))))) [] [] ([]) ([]) mixed (by kernel_rfl) (Imp.none _) (Imp.none _) ?_
          refine DG.look rfl rfl (Yield.move rfl) rfl ?_
          refine DG.look rfl rfl (Yield.move rfl) rfl ?_
          refine DG.look rfl rfl (Yield.len_slice Try.underlying79 rfl rfl) rfl ?_
          refine DG.look rfl rfl (by first | exact Yield.as (Yield.geq rfl rfl) (bT (by omega)) | exact Yield.as (Yield.geq rfl rfl) (bF (by omega)) | exact Yield.geq rfl rfl) rfl ?_
          refine DG.look rfl rfl (Yield.move rfl) rfl ?_
          refine DG.look rfl rfl (Yield.move rfl) rfl ?_
          refine DG.look rfl rfl (Yield.move rfl) rfl ?_
          refine DG.look rfl rfl (Yield.index_slice Try.underlying79 ti82 rfl rfl (by omega) (by omega)) rfl ?_
          refine DG.look rfl rfl (Yield.load_agg (vs := x.lcells) ti82 rfl (Slot.llen x) ((SlR.of_osl (by repeat (first | exact Ext.here | apply Ext.there))).elem (f := Slot.lcells) Slot.llen hg2)) rfl ?_
          refine DG.look rfl rfl (Yield.move rfl) rfl ?_
          refine DG.look rfl rfl (Yield.move rfl) rfl ?_
          refine DG.look rfl rfl (Yield.index_slice Try.underlying79 ti82 rfl rfl (by omega) (by omega)) rfl ?_
          refine DG.look rfl rfl (Yield.load_agg (vs := x.lcells) ti82 rfl (Slot.llen x) ((SlR.of_osl (by repeat (first | exact Ext.here | apply Ext.there))).elem (f := Slot.lcells) Slot.llen hgk)) rfl ?_
          refine DG.look rfl rfl (Yield.agg_neq 6 (xs := x.lcells) (ys := x.lcells) rfl rfl (by decide) flat82 guard82 rfl rfl (b := false) (by simp [Slot.lcells, eqCells, cellEq])) rfl ?_
          refine DG.look rfl rfl (by first | exact Yield.pick_t rfl rfl | exact Yield.pick_f rfl rfl | exact Yield.pick rfl (fun _ => rfl) (fun _ => rfl)) rfl ?_
          refine DG.done ?_
          refine QG.then ?_
          refine CG.cond_f rfl ?_
          refine CG.skip ?_
          refine QG.then ?_
          refine CG.region ?_
          refine OG.yield (Yield.move rfl) rfl ?_
          refine OG.yield (Yield.add rfl rfl (w64 (by omega) (by omega))) rfl ?_
          refine OG.yield (Yield.assign rfl) rfl ?_
          refine OG.nil ?_
          refine QG.block_normal ?_
          refine QG.then ?_
          refine CG.region ?_
          refine OG.yield (Yield.move rfl) rfl ?_
          refine OG.yield (Yield.add rfl rfl (w64 (by omega) (by omega))) rfl ?_
          refine OG.yield (Yield.assign rfl) rfl ?_
          refine OG.nil ?_
          refine QG.next (k + 1) (show k + 1 ≤ ws.length by omega) (show ws.length - (k + 1) < ws.length - k by omega) ?_ (by repeat (first | exact Imp.refl _ | exact Imp.none _ | apply Imp.pull (by repeat (first | exact Ext.here | apply Ext.there)) | apply Imp.trans Imp.drop))
          rw [tlbKeeps.take_succ hgk, List.filter_append, List.length_append]
          simp only [List.filter_cons, hne, ne_eq, not_false_eq_true, decide_true, if_true, List.filter_nil, List.length_cons, List.length_nil]
          exact (by repeat (first | exact Env.sub_nil _ | refine Env.sub_cons rfl ?_))
      · try replace hc := of_decide_eq_false hc
        refine CG.exit ?_
        refine QG.pass_exit ?_
        refine QG.pass_exit ?_
        refine QG.block_exit ?_
        refine QG.then ?_
        refine CG.seq ?_
        refine CG.region ?_
        refine OG.yield (Yield.move rfl) rfl ?_
        refine OG.yield (Yield.move rfl) rfl ?_
        refine OG.yield (Yield.len_slice Try.underlying79 rfl rfl) rfl ?_
        refine OG.yield (Yield.as (Yield.eql rfl rfl) (bT (by rw [show k = ws.length by omega, List.take_length]))) rfl ?_
        refine OG.yield (Yield.assign rfl) rfl ?_
        refine OG.nil ?_
        refine QG.then ?_
        refine CG.ret ?_
        exact QG.ret1 rfl rfl () trivial rfl (by repeat (first | exact Imp.refl _ | exact Imp.none _ | apply Imp.pull (by repeat (first | exact Ext.here | apply Ext.there)) | apply Imp.trans Imp.drop))
  · skip
    refine CG.region ?_
    refine OG.yield (Yield.move rfl) rfl ?_
    refine OG.callo call15 rfl (Imp.refl _) (num_spec W _ _) rfl ?_
    rintro ⟨⟩ -
    refine OG.yield (by first | exact Yield.as (Yield.neq rfl rfl) (bT (by omega)) | exact Yield.as (Yield.neq rfl rfl) (bF (by omega)) | exact Yield.neq rfl rfl) rfl ?_
    refine OG.yield (Yield.move rfl) rfl ?_
    refine OG.guard_yes rfl rfl rfl (by decide) ?_
    refine OG.yield (Yield.move rfl) rfl ?_
    refine OG.guard_yes rfl rfl rfl (by decide) ?_
    refine OG.yield (by first | exact Yield.ptr_nil Try.underlying25 rfl rfl | exact Yield.nil_nil Try.underlying25 rfl rfl) rfl ?_
    refine OG.yield (by first | exact Yield.pick_t rfl rfl | exact Yield.pick_f rfl rfl | exact Yield.pick rfl (fun _ => rfl) (fun _ => rfl)) rfl ?_
    refine OG.yield (Yield.move rfl) rfl ?_
    refine OG.guard_yes rfl rfl rfl (by decide) ?_
    refine OG.yield (Yield.move rfl) rfl ?_
    refine OG.guard_yes rfl rfl rfl (by decide) ?_
    refine OG.yield (Yield.len_slice Try.underlying69 rfl rfl) rfl ?_
    refine OG.guard_yes rfl rfl rfl (by decide) ?_
    refine OG.yield (by first | exact Yield.as (Yield.gtr rfl rfl) (bT (by omega)) | exact Yield.as (Yield.gtr rfl rfl) (bF (by omega)) | exact Yield.gtr rfl rfl) rfl ?_
    refine OG.yield (by first | exact Yield.pick_t rfl rfl | exact Yield.pick_f rfl rfl | exact Yield.pick rfl (fun _ => rfl) (fun _ => rfl)) rfl ?_
    refine OG.nil ?_
    refine QG.then ?_
    refine CG.cond_t rfl ?_
    refine CG.seq ?_
    refine CG.region ?_
    refine OG.yield (Yield.move rfl) rfl ?_
    refine OG.yield (by first | exact Yield.ptr_nonnil Try.underlying25 rfl rfl | exact Yield.nil_nonnil Try.underlying25 rfl rfl) rfl ?_
    refine OG.yield (Yield.assign rfl) rfl ?_
    refine OG.nil ?_
    refine QG.then ?_
    refine CG.ret ?_
    refine QG.pass_ret ?_
    exact QG.ret1 rfl rfl () trivial rfl (by repeat (first | exact Imp.refl _ | exact Imp.none _ | apply Imp.pull (by repeat (first | exact Ext.here | apply Ext.there)) | apply Imp.trans Imp.drop))
open Go.ChangeShapes Go.WideShapes Go.ChangeAt
theorem own : ownKnob Try.prog.godebug = none := by kernel_rfl
theorem laid : laidOutB Try.prog = true := by kernel_rfl
set_option maxRecDepth 100000 in
theorem lifted (os : Os) (started : os.Started) (H : Type) (enc : TypeId × Value → H) :
    ReturnsInHanded {} Try.checked os 10 .any (Rows.tlbFlushesSpec.pre6 enc Try.prog Try.f10 Rows.tlbFlushesRow.domain false) (Rows.tlbFlushesSpec.post enc Try.prog Try.f10 false true false false) := by
  refine returnsInHanded_of_change_sized (C := Try.checked) own started (by kernel_rfl) Try.func10
    (ChangeSpec.witness6 (enc := enc) (C := Try.checked) false ⟨#[], #[.int .i64 0, .slice none 0 0, .int .i64 0], []⟩ 8 (by kernel_rfl) (by kernel_rfl) (by kernel_rfl) (by kernel_rfl)) ?_
  intro W base args ds gs before hval0 hW hcnd hsz0 _
  have hsz : (DataW.weightsEach Try.prog (Try.f10.params.toList ++ Rows.tlbFlushesSpec.plain.varTypes Try.prog) (ds ++ gs)).all (· ≤ reachBytes) = true := hsz0
  have hval : ∀ (j : Nat) t v, Try.f10.params[j]? = some t → args[j]? = some v → Value.okWide Try.prog W .any base t v := hval0
  have hW' := hW
  obtain ⟨p, q, hA0, hV, rfl, hfz, hnd⟩ := hW
  have hA : DataW.TrodAll enc Try.prog W 0 (fun _ => true) true Try.f10.params.toList args.toList ds p := hA0
  rw [Try.params10] at hA hval hsz
  obtain ⟨v0, vs0, d0, ds0, p0, q0, hargs, rfl, rfl, h0, r0⟩ := trodAll_cons hA
  obtain ⟨v1, vs1, d1, ds1, p1, q1, rfl, rfl, rfl, h1, r1⟩ := trodAll_cons r0
  obtain ⟨v2, vs2, d2, ds2, p2, q2, rfl, rfl, rfl, h2, r2⟩ := trodAll_cons r1
  obtain ⟨rfl, rfl, rfl⟩ := trodAll_nil r2
  obtain rfl : args = #[v0, v1, v2] := by cases args; simp_all
  obtain ⟨rfl, rfl⟩ := trodVars_none hV
  obtain ⟨a0, rfl, rfl, rfl, w0⟩ := open_int Try.underlying3 (hval 0 3 v0 rfl rfl) h0
  have k1 := weights_le hsz 1 (t := 69) (d := d1) rfl rfl
  have s1 := Opn.param Try.underlying69 (TAct.list W) (hval 1 69 v1 rfl rfl) h1 k1
  obtain ⟨x1, c1, ops, e1, l1, ok1, s1, m1⟩ := s1
  cases e1
  obtain ⟨a2, rfl, rfl, rfl, w2⟩ := open_int Try.underlying3 (hval 2 3 v2 rfl rfl) h2
  clear hA0 hval0 hsz0 hsz
  refine ((walk W s1) W (Sat.start W)).mono fun e W' he => ?_
  obtain ⟨_, _, he, hs⟩ := he
  subst he
  exact ⟨_, rfl, law_post laid (params_ok (by kernel_rfl)) rfl Try.underlying4 hW' rfl rfl (Sat.below (by repeat (first | exact Ext.here | apply Ext.there)) hs)⟩
theorem over : Rows.tlbFlushesRow.holds Try.pinned (OpenSpec.ofChange Rows.tlbFlushesSpec) :=
  OpenClaim.holds_of_wide 10 Try.f10 rfl rfl rfl rfl rfl rfl rfl ⟨rfl, rfl, rfl, rfl, rfl⟩ rfl rfl rfl rfl rfl (by kernel_rfl) Try.func10 (by kernel_rfl)
    (of_decide_eq_true (by kernel_rfl)) (by unfold Func.isWrapper; first | (rw [if_pos (by decide +kernel)]; kernel_rfl) | (rw [if_neg (by decide +kernel)]; exact ⟨rfl, rfl⟩))
    (fun os started H enc _ => lifted os started H enc)
theorem proved : Rows.TlbFlushesSaid := over
#print axioms proved
end Go.Proofs.Ytjdaglakhiifjaa.tlbFlushes
