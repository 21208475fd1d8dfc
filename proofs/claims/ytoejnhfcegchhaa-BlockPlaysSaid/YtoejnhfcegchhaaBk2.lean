/- block.Block: its parts: sectors, delays, the queue. -/
import Derived.Test.YtoejnhfcegchhaaBk
namespace Go.Proofs.Ytoejnhfcegchhaa.Bk
open Go Go.Sl Go.RowKit Go.Proofs Go.Proofs.Ytoejnhfcegchhaa.T Go.Proofs.Ytoejnhfcegchhaa.Ms Go.Proofs.Ytoejnhfcegchhaa.Vd
set_option linter.unusedVariables false
set_option linter.unusedSimpArgs false
set_option maxRecDepth 100000
/-- How long the next request takes. -/
def delayR (l : List Int) (taken : Int) : Int := if l.length = 0 then 0 else l.getD (min taken ((l.length : Int) - 1)).toNat 0
section
variable (W0 : World) (Fr : List HProp)
theorem sectors_spec {b m c : Nat} {a : Option Addr} (h : Cel W0 Fr ⟨b, 0, none⟩ (.slice a m c)) (hm : m ≤ 2 ^ 47) : Ctr Try.prog W0 48 [.pointer (some ⟨b, 0, none⟩)] Fr (fun _ : Unit => True) (fun _ => .int .i64 ((m / 64 : Nat) : Int)) (fun _ => Fr) := by
  refine Ctr.of_body Try.func48 rfl Try.ntmps48 rfl ?_
  refine CG.seq ?_
  refine CG.region ?_
  refine OG.yield (Yield.assign rfl) rfl ?_
  refine OG.nil ?_
  refine QG.then ?_
  refine CG.seq ?_
  refine CG.region ?_
  refine OG.yield (Yield.move rfl) rfl ?_
  refine OG.yield (Yield.nilCheck rfl) rfl ?_
  refine OG.yield (Yield.fieldAddr fa100_0 rfl) rfl ?_
  refine OG.yield (Yield.load ti36 rfl h) rfl ?_
  refine OG.yield (Yield.len_slice (a := a) (m := m) (c := c) Try.underlying36 rfl rfl) rfl ?_
  refine OG.yield (Yield.quo rfl rfl (by omega) (tdiv_pos (by omega) (by omega) (by omega))) rfl ?_
  refine OG.yield (Yield.assign rfl) rfl ?_
  refine OG.nil ?_
  refine QG.then ?_
  refine CG.ret ?_
  exact QG.ret1 rfl rfl () trivial rfl (Imp.refl _)
theorem sector_spec {b m c bb bo n : Nat} (h : Cel W0 Fr ⟨b, 0, none⟩ (.slice (some ⟨bb, bo, none⟩) m c)) (hn : (n + 1) * 64 ≤ m) (hm : m ≤ c) (hb : m ≤ 2 ^ 47) : Ctr Try.prog W0 47 [.pointer (some ⟨b, 0, none⟩), .int .i64 n] Fr (fun _ : Unit => True) (fun _ => .slice (some ⟨bb, bo + 64 * n, none⟩) 64 (c - 64 * n)) (fun _ => Fr) := by
  refine Ctr.of_body Try.func47 rfl Try.ntmps47 rfl ?_
  refine CG.seq ?_
  refine CG.region ?_
  refine OG.yield (Yield.assign rfl) rfl ?_
  refine OG.nil ?_
  refine QG.then ?_
  refine CG.seq ?_
  refine CG.region ?_
  refine OG.yield (Yield.move rfl) rfl ?_
  refine OG.yield (Yield.nilCheck rfl) rfl ?_
  refine OG.yield (Yield.fieldAddr fa100_0 rfl) rfl ?_
  refine OG.yield (Yield.load ti36 rfl h) rfl ?_
  refine OG.yield (Yield.move rfl) rfl ?_
  refine OG.yield (Yield.mul rfl rfl (w64 (by omega) (by omega))) rfl ?_
  refine OG.yield (Yield.move rfl) rfl ?_
  refine OG.yield (Yield.add rfl rfl (w64 (by omega) (by omega))) rfl ?_
  refine OG.yield (Yield.mul rfl rfl (w64 (by omega) (by omega))) rfl ?_
  refine OG.yield (Yield.as (Yield.slice_in (b := bb) (o := bo) (m := m) (c := c) (l := (n : Int) * 64) (h := ((n : Int) + 1) * 64) Try.underlying36 ti5 rfl (Bound.some rfl) (Bound.some rfl) (by omega) (by omega) (by omega) (by omega)) (v' := .slice (some ⟨bb, bo + 64 * n, none⟩) 64 (c - 64 * n)) (by rw [show ((n : Int) * 64).toNat = 64 * n by omega, show (((n : Int) + 1) * 64).toNat - 64 * n = 64 by omega, Nat.mul_one])) rfl ?_
  refine OG.yield (Yield.assign rfl) rfl ?_
  refine OG.nil ?_
  refine QG.then ?_
  refine CG.ret ?_
  exact QG.ret1 rfl rfl () trivial rfl (Imp.refl _)
theorem delay_spec {b c : Nat} {a : Option Addr} {l : List Int} {taken : Int} (h1 : Cel W0 Fr ⟨b, 1, none⟩ (.slice a l.length c)) (h2 : Cel W0 Fr ⟨b, 2, none⟩ (.int .i64 taken)) (hs : SlR W0 Fr 1 a l.length (intsV .i64 l)) (ht : 0 ≤ taken) (hl : l.length ≤ 17592186043904) : Ctr Try.prog W0 49 [.pointer (some ⟨b, 0, none⟩)] Fr (fun _ : Unit => True) (fun _ => .int .i64 (delayR l taken)) (fun _ => Fr) := by
  have hol := intsV_len .i64 l
  refine Ctr.of_body Try.func49 rfl Try.ntmps49 rfl ?_
  refine CG.seq ?_
  refine CG.region ?_
  refine OG.yield (Yield.assign rfl) rfl ?_
  refine OG.nil ?_
  refine QG.then ?_
  refine CG.seq ?_
  refine CG.seq ?_
  rcases (show l.length = 0 ∨ 0 < l.length by omega) with hh | hh
  · skip
    skip
    refine CG.region ?_
    refine OG.yield (Yield.move rfl) rfl ?_
    refine OG.yield (Yield.nilCheck rfl) rfl ?_
    refine OG.yield (Yield.fieldAddr fa100_1 rfl) rfl ?_
    refine OG.yield (Yield.load ti23 rfl h1) rfl ?_
    refine OG.yield (Yield.len_slice (m := l.length) (c := c) Try.underlying23 rfl rfl) rfl ?_
    refine OG.yield (by first | exact Yield.as (Yield.eql rfl rfl) (bT (by omega)) | exact Yield.as (Yield.eql rfl rfl) (bF (by omega)) | exact Yield.eql rfl rfl) rfl ?_
    refine OG.nil ?_
    refine QG.then ?_
    refine CG.cond_t rfl ?_
    refine CG.seq ?_
    refine CG.region ?_
    refine OG.yield (Yield.assign rfl) rfl ?_
    refine OG.nil ?_
    refine QG.then ?_
    refine CG.ret ?_
    refine QG.pass_ret ?_
    exact QG.ret1 rfl rfl () trivial (by unfold delayR; rw [if_pos hh]) (Imp.refl _)
  · skip
    refine CG.pure (fun w hw => SlR.shape hs (by intro h; rw [h] at hol; simp only [List.length_nil] at hol; omega) w hw) ?_
    rintro ⟨ba, oa, rfl⟩
    have hx : l[(min taken ((l.length : Int) - 1)).toNat]? = some (l.getD (min taken ((l.length : Int) - 1)).toNat 0) := by
      rw [List.getD_eq_getElem?_getD, List.getElem?_eq_getElem (by omega)]; rfl
    refine CG.region ?_
    refine OG.yield (Yield.move rfl) rfl ?_
    refine OG.yield (Yield.nilCheck rfl) rfl ?_
    refine OG.yield (Yield.fieldAddr fa100_1 rfl) rfl ?_
    refine OG.yield (Yield.load ti23 rfl h1) rfl ?_
    refine OG.yield (Yield.len_slice (m := l.length) (c := c) Try.underlying23 rfl rfl) rfl ?_
    refine OG.yield (by first | exact Yield.as (Yield.eql rfl rfl) (bT (by omega)) | exact Yield.as (Yield.eql rfl rfl) (bF (by omega)) | exact Yield.eql rfl rfl) rfl ?_
    refine OG.nil ?_
    refine QG.then ?_
    refine CG.cond_f rfl ?_
    refine CG.skip ?_
    refine QG.then ?_
    refine CG.seq ?_
    refine CG.draw (.look 0 1 (.look 1 1 (.look 2 1 (.look 3 1 (.look 4 1 (.look 5 1 (.look 6 1 (.look 7 1 (.look 8 1 (.look 9 1 (.look 10 1 (.look 11 1 (.look 12 1 (.look 13 1 (.look 14 1 (.look 15 1 (.look 16 1 (.look 17 1 (.done))))))))))))))))))) [] [] ([]) ([]) mixed (by kernel_rfl) (Imp.none _) (Imp.none _) ?_
    refine DG.look rfl rfl (Yield.move rfl) rfl ?_
    refine DG.look rfl rfl (Yield.nilCheck rfl) rfl ?_
    refine DG.look rfl rfl (Yield.fieldAddr fa100_1 rfl) rfl ?_
    refine DG.look rfl rfl (Yield.load ti23 rfl h1) rfl ?_
    refine DG.look rfl rfl (Yield.move rfl) rfl ?_
    refine DG.look rfl rfl (Yield.nilCheck rfl) rfl ?_
    refine DG.look rfl rfl (Yield.fieldAddr fa100_2 rfl) rfl ?_
    refine DG.look rfl rfl (Yield.load ti3 rfl h2) rfl ?_
    refine DG.look rfl rfl (Yield.move rfl) rfl ?_
    refine DG.look rfl rfl (Yield.nilCheck rfl) rfl ?_
    refine DG.look rfl rfl (Yield.fieldAddr fa100_1 rfl) rfl ?_
    refine DG.look rfl rfl (Yield.load ti23 rfl h1) rfl ?_
    refine DG.look rfl rfl (Yield.len_slice (m := l.length) (c := c) Try.underlying23 rfl rfl) rfl ?_
    refine DG.look rfl rfl (Yield.sub rfl rfl (w64 (by omega) (by omega))) rfl ?_
    refine DG.look rfl rfl (Yield.min2 rfl rfl) rfl ?_
    refine DG.look rfl rfl (Yield.index_slice (b := ba) (o := oa) (m := l.length) (c := c) (j := min taken ((l.length : Int) - 1)) Try.underlying23 ti3 rfl rfl (by omega) (by omega)) rfl ?_
    refine DG.look rfl rfl (Yield.load (v := .int .i64 (delayR l taken)) ti3 rfl (by rw [Nat.mul_one]; refine hs.cel ?_; rw [intsV_get hx]; unfold delayR; rw [if_neg (by omega)])) rfl ?_
    refine DG.look rfl rfl (Yield.assign rfl) rfl ?_
    refine DG.done ?_
    refine QG.then ?_
    refine CG.ret ?_
    exact QG.ret1 rfl rfl () trivial rfl (Imp.refl _)
theorem first_none {b c : Nat} {a : Option Addr} (h : Cel W0 Fr ⟨b, 4, none⟩ (.slice a 0 c)) : Ctr Try.prog W0 45 [.pointer (some ⟨b, 4, none⟩)] Fr (fun _ : Unit => True) (fun _ => .tuple #[.agg jz.cells.toArray, .bool false]) (fun _ => Fr) := by
  refine Ctr.of_body Try.func45 rfl Try.ntmps45 rfl ?_
  refine CG.seq ?_
  refine CG.region ?_
  refine OG.effd (Eff.alloc ti102) rfl ?_
  rintro b2 -
  refine OG.yield (Yield.assign rfl) rfl ?_
  refine OG.nil ?_
  refine QG.then ?_
  refine CG.seq ?_
  refine CG.seq ?_
  refine CG.region ?_
  refine OG.yield (Yield.move rfl) rfl ?_
  refine OG.yield (Yield.nilCheck rfl) rfl ?_
  refine OG.yield (Yield.fieldAddr fa98_0 rfl) rfl ?_
  refine OG.yield (Yield.load (v := .slice a 0 c) ti96 rfl (fun w hw => h w (hw.imp (by repeat (first | exact Imp.refl _ | exact Imp.none _ | apply Imp.pull (by repeat (first | exact Ext.here | apply Ext.there)) | apply Imp.trans Imp.drop))))) rfl ?_
  refine OG.yield (Yield.len_slice (a := a) (m := 0) (c := c) Try.underlying96 rfl rfl) rfl ?_
  refine OG.yield (by first | exact Yield.as (Yield.eql rfl rfl) (bT (by omega)) | exact Yield.as (Yield.eql rfl rfl) (bF (by omega)) | exact Yield.eql rfl rfl) rfl ?_
  refine OG.nil ?_
  refine QG.then ?_
  refine CG.cond_t rfl ?_
  refine CG.seq ?_
  refine CG.region ?_
  refine OG.effd (Eff.alloc ti102) rfl ?_
  rintro b4 -
  refine OG.nil ?_
  refine QG.then ?_
  refine CG.seq ?_
  refine CG.region ?_
  refine OG.yield (Yield.load_agg (vs := jz.cells) ti102 rfl rfl (Row.of_blk (b := b4) (by repeat (first | exact Ext.here | apply Ext.there)) rfl)) rfl ?_
  refine OG.eff (Eff.storeAll ti102 rfl rfl (by repeat (first | exact Foc.here | apply Foc.there)) (CJ.len jz) (CJ.ones jz) rfl) rfl ?_
  rintro ⟨⟩ -
  refine OG.yield (Yield.assign rfl) rfl ?_
  refine OG.nil ?_
  refine QG.then ?_
  refine CG.ret ?_
  refine QG.pass_ret ?_
  exact QG.rets [.agg jz.cells.toArray, .bool false] rfl ⟨ResP.agg ti102 rfl rfl (Row.of_blk (b := b2) (by repeat (first | exact Ext.here | apply Ext.there)) rfl), rfl, trivial⟩ () trivial rfl (by repeat (first | exact Imp.refl _ | exact Imp.none _ | apply Imp.pull (by repeat (first | exact Ext.here | apply Ext.there)) | apply Imp.trans Imp.drop))
theorem first_some {b c : Nat} {a : Option Addr} {j : CJ} {js : List CJ} (h : Cel W0 Fr ⟨b, 4, none⟩ (.slice a (j :: js).length c)) (hs : SlR W0 Fr 6 a (j :: js).length (((j :: js).map CJ.cells).flatten)) (hl : js.length ≤ 2 ^ 20) : Ctr Try.prog W0 45 [.pointer (some ⟨b, 4, none⟩)] Fr (fun _ : Unit => True) (fun _ => .tuple #[.agg j.cells.toArray, .bool true]) (fun _ => Fr) := by
  have hll : (j :: js).length = js.length + 1 := rfl
  refine Ctr.pure (fun w hw => hs.elem_shape (i := 0) CJ.len (by decide) (by omega) w hw) ?_
  rintro ⟨ba, oa, rfl⟩
  refine Ctr.of_body Try.func45 rfl Try.ntmps45 rfl ?_
  refine CG.seq ?_
  refine CG.region ?_
  refine OG.effd (Eff.alloc ti102) rfl ?_
  rintro b2 -
  refine OG.yield (Yield.assign rfl) rfl ?_
  refine OG.nil ?_
  refine QG.then ?_
  refine CG.seq ?_
  refine CG.seq ?_
  refine CG.region ?_
  refine OG.yield (Yield.move rfl) rfl ?_
  refine OG.yield (Yield.nilCheck rfl) rfl ?_
  refine OG.yield (Yield.fieldAddr fa98_0 rfl) rfl ?_
  refine OG.yield (Yield.load (v := .slice (some ⟨ba, oa, none⟩) (j :: js).length c) ti96 rfl (fun w hw => h w (hw.imp (by repeat (first | exact Imp.refl _ | exact Imp.none _ | apply Imp.pull (by repeat (first | exact Ext.here | apply Ext.there)) | apply Imp.trans Imp.drop))))) rfl ?_
  refine OG.yield (Yield.len_slice (a := some ⟨ba, oa, none⟩) (m := (j :: js).length) (c := c) Try.underlying96 rfl rfl) rfl ?_
  refine OG.yield (by first | exact Yield.as (Yield.eql rfl rfl) (bT (by omega)) | exact Yield.as (Yield.eql rfl rfl) (bF (by omega)) | exact Yield.eql rfl rfl) rfl ?_
  refine OG.nil ?_
  refine QG.then ?_
  refine CG.cond_f rfl ?_
  refine CG.skip ?_
  refine QG.then ?_
  refine CG.seq ?_
  refine CG.region ?_
  refine OG.yield (Yield.move rfl) rfl ?_
  refine OG.yield (Yield.nilCheck rfl) rfl ?_
  refine OG.yield (Yield.fieldAddr fa98_0 rfl) rfl ?_
  refine OG.yield (Yield.load (v := .slice (some ⟨ba, oa, none⟩) (j :: js).length c) ti96 rfl (fun w hw => h w (hw.imp (by repeat (first | exact Imp.refl _ | exact Imp.none _ | apply Imp.pull (by repeat (first | exact Ext.here | apply Ext.there)) | apply Imp.trans Imp.drop))))) rfl ?_
  refine OG.yield (Yield.index_slice (b := ba) (o := oa) (m := (j :: js).length) (c := c) Try.underlying96 ti102 rfl rfl (by omega) (by omega)) rfl ?_
  refine OG.yield (Yield.load_agg (vs := j.cells) ti102 rfl (CJ.len j) ((hs.imp (by repeat (first | exact Imp.refl _ | exact Imp.none _ | apply Imp.pull (by repeat (first | exact Ext.here | apply Ext.there)) | apply Imp.trans Imp.drop))).elem (i := 0) CJ.len rfl)) rfl ?_
  refine OG.eff (Eff.storeAll ti102 rfl rfl (by repeat (first | exact Foc.here | apply Foc.there)) (CJ.len j) (CJ.ones j) rfl) rfl ?_
  rintro ⟨⟩ -
  refine OG.yield (Yield.assign rfl) rfl ?_
  refine OG.nil ?_
  refine QG.then ?_
  refine CG.ret ?_
  exact QG.rets [.agg j.cells.toArray, .bool true] rfl ⟨ResP.agg ti102 rfl rfl (Row.of_blk (b := b2) (by repeat (first | exact Ext.here | apply Ext.there)) rfl), rfl, trivial⟩ () trivial rfl (by repeat (first | exact Imp.refl _ | exact Imp.none _ | apply Imp.pull (by repeat (first | exact Ext.here | apply Ext.there)) | apply Imp.trans Imp.drop))
theorem shift_cells {j : CJ} {js : List CJ} {zs : List Value} (hz : zs.length = 6) :
    (Sl.over (Sl.over (((j :: js).map CJ.cells).flatten) (0 * 6) ((js.map CJ.cells).flatten)) (js.length * 6) zs).take (js.length * 6) = (js.map CJ.cells).flatten := by
  have hl : ((js.map CJ.cells).flatten).length = js.length * 6 := flat_len CJ.len js
  have hl2 : (((j :: js).map CJ.cells).flatten).length = js.length * 6 + 6 := by rw [flat_len CJ.len]; simp only [List.length_cons]; omega
  have h1 : Sl.over (((j :: js).map CJ.cells).flatten) (0 * 6) ((js.map CJ.cells).flatten) = (js.map CJ.cells).flatten ++ (((j :: js).map CJ.cells).flatten).drop (js.length * 6) := by
    unfold Sl.over; rw [Nat.zero_mul, List.take_zero, List.nil_append, Nat.zero_add, hl]
  rw [h1]
  unfold Sl.over
  rw [List.append_assoc, List.take_left' (by rw [List.length_take, List.length_append, hl]; omega), List.take_append_of_le_length (by omega), List.take_of_length_le (by omega)]
set_option maxHeartbeats 1000000 in
theorem delete_spec {ba oa c : Nat} {j : CJ} {js : List CJ} (hl : js.length ≤ 2 ^ 20) : Ctr Try.prog W0 67 [.slice (some ⟨ba, oa, none⟩) (j :: js).length c, .int .i64 0, .int .i64 1] (ojobs (some ⟨ba, oa, none⟩) c (j :: js) :: Fr) (fun _ : Unit => True) (fun _ => .slice (some ⟨ba, oa, none⟩) js.length c) (fun _ => ojobs (some ⟨ba, oa, none⟩) c js :: Fr) := by
  have hll : (j :: js).length = js.length + 1 := rfl
  refine Ctr.pure (fun w hw => osl_facts (W0 := W0) (E := 102) (a := some ⟨ba, oa, none⟩) (c := c) Ext.here w hw) ?_
  rintro ⟨hfl, hcap⟩
  have hfj : ((js.map CJ.cells).flatten).length = js.length * 6 := flat_len CJ.len js
  refine Ctr.of_body Try.func67 rfl Try.ntmps67 rfl ?_
  refine CG.seq ?_
  refine CG.region ?_
  refine OG.yield (Yield.assign rfl) rfl ?_
  refine OG.nil ?_
  refine QG.then ?_
  refine CG.seq ?_
  refine CG.region ?_
  refine OG.yield (Yield.move rfl) rfl ?_
  refine OG.yield (Yield.move rfl) rfl ?_
  refine OG.yield (Yield.move rfl) rfl ?_
  refine OG.yield (Yield.move rfl) rfl ?_
  refine OG.yield (Yield.len_slice (a := some ⟨ba, oa, none⟩) (m := (j :: js).length) (c := c) Try.underlying96 rfl rfl) rfl ?_
  refine OG.yield (Yield.slice3 (a := some ⟨ba, oa, none⟩) (m := (j :: js).length) (c := c) Try.underlying96 ti102 rfl rfl rfl rfl (by omega) (by omega) (by omega) (by omega)) rfl ?_
  refine OG.nil ?_
  refine QG.then ?_
  refine CG.seq ?_
  refine CG.seq ?_
  refine CG.region ?_
  refine OG.yield (Yield.move rfl) rfl ?_
  refine OG.yield (Yield.move rfl) rfl ?_
  refine OG.yield (by first | exact Yield.as (Yield.eql rfl rfl) (bT (by omega)) | exact Yield.as (Yield.eql rfl rfl) (bF (by omega)) | exact Yield.eql rfl rfl) rfl ?_
  refine OG.nil ?_
  refine QG.then ?_
  refine CG.cond_f rfl ?_
  refine CG.skip ?_
  refine QG.then ?_
  refine CG.seq ?_
  refine CG.region ?_
  refine OG.yield (Yield.move rfl) rfl ?_
  refine OG.yield (Yield.len_slice (a := some ⟨ba, oa, none⟩) (m := (j :: js).length) (c := c) Try.underlying96 rfl rfl) rfl ?_
  refine OG.yield (Yield.assign rfl) rfl ?_
  refine OG.nil ?_
  refine QG.then ?_
  refine CG.seq ?_
  refine CG.draw (.look 0 1 (.look 1 1 (.look 2 1 (.look 3 1 (.look 4 1 (.look 5 1 (.eff1 6 false (.look 7 1 (.done))))))))) [6] [] ([]) ([]) mixed (by kernel_rfl) (Imp.none _) (Imp.none _) ?_
  refine DG.look rfl rfl (Yield.move rfl) rfl ?_
  refine DG.look rfl rfl (Yield.move rfl) rfl ?_
  refine DG.look rfl rfl (Yield.slice_hi (a := some ⟨ba, oa, none⟩) (m := (j :: js).length) (c := c) (h := 0) Try.underlying96 ti102 rfl (Bound.some rfl) (by omega) (by omega)) rfl ?_
  refine DG.look rfl rfl (Yield.move rfl) rfl ?_
  refine DG.look rfl rfl (Yield.move rfl) rfl ?_
  refine DG.look rfl rfl (Yield.slice (a := some ⟨ba, oa, none⟩) (m := (j :: js).length) (c := c) (l := 1) (h := ((j :: js).length : Int)) Try.underlying96 ti102 rfl (Bound.some rfl) Bound.none (by omega) (by omega) (by omega)) rfl ?_
  refine DG.eff1 ?_
  refine Chg.eff rfl rfl (Eff.appendOver (b := ba) (o := oa) (m0 := 0) (c := c) (k := js.length) (ys := (js.map CJ.cells).flatten) rfl (by rfl) rfl Try.underlying96 Try.underlying96 ti102 (by repeat (first | exact Foc.here | apply Foc.there)) (by omega) (by exact SlR.cut (l := 1) (h := (j :: js).length) (cc := c) (SlR.of_osl (E := 102) (a := some ⟨ba, oa, none⟩) (by repeat (first | exact Ext.here | apply Ext.there))) (by omega) (Nat.le_refl _) hcap (by simp only [List.map_cons, List.flatten_cons]; rw [Nat.one_mul, List.drop_left' (CJ.len j), hll, Nat.add_sub_cancel, List.take_of_length_le (by omega)])) (flat_ones CJ.ones js)) rfl (fun _ => (by repeat (first | exact Imp.refl _ | exact Imp.none _ | apply Imp.pull (by repeat (first | exact Ext.here | apply Ext.there)) | apply Imp.trans Imp.drop))) (fun _ => Imp.refl _) (fun _ => (by repeat (first | exact Imp.refl _ | exact Imp.none _ | apply Imp.pull (by repeat (first | exact Ext.here | apply Ext.there)) | apply Imp.trans Imp.drop))) ?_
  rintro ⟨⟩ -
  refine DG.look rfl rfl (Yield.assign rfl) rfl ?_
  refine DG.done ?_
  refine QG.then ?_
  refine CG.seq ?_
  refine CG.region ?_
  refine OG.yield (Yield.move rfl) rfl ?_
  refine OG.yield (Yield.move rfl) rfl ?_
  refine OG.yield (Yield.len_slice (a := some ⟨ba, oa, none⟩) (m := 0 + js.length) (c := c) Try.underlying96 rfl rfl) rfl ?_
  refine OG.yield (Yield.move rfl) rfl ?_
  refine OG.yield (Yield.as (Yield.slice_in (b := ba) (o := oa) (m := 0 + js.length) (c := c) (l := ((0 + js.length : Nat) : Int)) (h := ((j :: js).length : Int)) Try.underlying96 ti102 rfl (Bound.some rfl) (Bound.some rfl) (by omega) (by omega) (by omega) (by omega)) (v' := .slice (some ⟨ba, oa + js.length * 6, none⟩) 1 (c - js.length)) (by simp only [Int.toNat_natCast, Nat.zero_add, hll]; rw [Nat.add_sub_cancel_left])) rfl ?_
  refine OG.eff (Eff.clearAt (b := ba) (o := oa) (j := js.length * 6) (n := 1) (cn := c - js.length) (zs := jz.cells) rfl rfl Try.underlying96 ti102 (by decide) (by rw [zeroCells_flat (sz := 6) rfl]; simp [List.replicate]; rfl) rfl (CJ.ones jz) (by repeat (first | exact Foc.here | apply Foc.there)) (by omega)) rfl ?_
  rintro ⟨⟩ -
  refine OG.nil ?_
  refine QG.then ?_
  refine CG.seq ?_
  refine CG.region ?_
  refine OG.yield (Yield.move rfl) rfl ?_
  refine OG.yield (Yield.assign rfl) rfl ?_
  refine OG.nil ?_
  refine QG.then ?_
  refine CG.ret ?_
  refine QG.ret1 rfl rfl () trivial (by rw [Nat.zero_add]) ?_
  refine Imp.trans (Imp.trans (by repeat (first | exact Imp.refl _ | exact Imp.none _ | apply Imp.pull (by repeat (first | exact Ext.here | apply Ext.there)) | apply Imp.trans Imp.drop)) (Imp.head fun x hx => osl_take (h := js.length) (by omega) x hx)) ?_
  rw [shift_cells rfl]
  exact (by repeat (first | exact Imp.refl _ | exact Imp.none _ | apply Imp.pull (by repeat (first | exact Ext.here | apply Ext.there)) | apply Imp.trans Imp.drop))
end
end Go.Proofs.Ytoejnhfcegchhaa.Bk
