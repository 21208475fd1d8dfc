/- block.Block: put, drop, Submit, Next, Waiting, Image. -/
import Derived.Test.YtoejnhfcegchhaaBk2
namespace Go.Proofs.Ytoejnhfcegchhaa.Bk
open Go Go.Sl Go.RowKit Go.Proofs Go.Proofs.Ytoejnhfcegchhaa.T Go.Proofs.Ytoejnhfcegchhaa.Ms Go.Proofs.Ytoejnhfcegchhaa.Vd
set_option linter.unusedVariables false
set_option linter.unusedSimpArgs false
set_option maxRecDepth 100000
/-- What a submission is answered. -/
def subBE (s : Bs) (write : Bool) (sector : Int) (len : Nat) (now : Int) : Int :=
  if ¬(0 ≤ now ∧ now ≤ 281474976710656) ∨ ¬(0 ≤ sector ∧ sector < s.n) then 2 else if write = true ∧ len ≠ 64 then 6 else if 32 ≤ s.q.length then 4 else 0
def freeR (s : Bs) (now : Int) : Int := max s.free now + delayR s.delays s.taken
/-- The disk behind a request that was taken. -/
def subBR (s : Bs) (r : Rq) (now : Int) : Bs := { s with taken := s.taken + 1, free := freeR s now, q := s.q ++ [⟨r, freeR s now⟩] }
theorem delayR_le {s : Bs} (h : s.OK) : 0 ≤ delayR s.delays s.taken ∧ delayR s.delays s.taken ≤ 1048576 := by
  unfold delayR
  split
  · omega
  · rename_i h0
    have ht := h.taken
    refine h.del _ ?_
    rw [List.getD_eq_getElem?_getD, List.getElem?_eq_getElem (by omega)]
    exact List.getElem_mem _
theorem subBE_bad {s : Bs} {write : Bool} {sector now : Int} {len : Nat} (he : subBE s write sector len now ≠ 0) :
    now < 0 ∨ (0 ≤ now ∧ 281474976710656 < now) ∨ ((0 ≤ now ∧ now ≤ 281474976710656) ∧ sector < 0) ∨ ((0 ≤ now ∧ now ≤ 281474976710656) ∧ 0 ≤ sector ∧ s.n ≤ sector) ∨ ((0 ≤ now ∧ now ≤ 281474976710656) ∧ (0 ≤ sector ∧ sector < s.n) ∧ write = true ∧ len ≠ 64) ∨ ((0 ≤ now ∧ now ≤ 281474976710656) ∧ (0 ≤ sector ∧ sector < s.n) ∧ write = false ∧ 32 ≤ s.q.length) ∨ ((0 ≤ now ∧ now ≤ 281474976710656) ∧ (0 ≤ sector ∧ sector < s.n) ∧ (write = true ∧ len = 64) ∧ 32 ≤ s.q.length) := by
  unfold subBE at he
  cases write <;> (simp only [true_and, false_and, if_false, reduceCtorEq] at he ⊢; (repeat' split at he) <;> first | omega | exact absurd rfl he)
section
variable (W0 : World) (Fr : List HProp)
theorem put_spec {b bm bc dm dc qc : Nat} {ba da qa : Option Addr} {taken free : Int} {js : List CJ} {j : CJ} (hl : js.length ≤ 2 ^ 20) :
    Ctr Try.prog W0 50 [.pointer (some ⟨b, 4, none⟩), .agg j.cells.toArray] (BH b ba bm bc da dm dc taken free qa js.length qc :: ojobs qa qc js :: Fr) (fun _ : Option Addr × Nat => True) (fun _ => .tuple #[]) (fun q => BH b ba bm bc da dm dc taken free q.1 (js.length + 1) q.2 :: ojobs q.1 q.2 (js ++ [j]) :: Fr) := by
  refine Ctr.of_body Try.func50 rfl Try.ntmps50 rfl ?_
  refine CG.seq ?_
  refine CG.region ?_
  refine OG.effd (Eff.box rfl) rfl ?_
  rintro b3 -
  refine OG.nil ?_
  refine QG.then ?_
  refine CG.draw (.look 0 0 (.look 1 0 (.look 2 0 (.look 3 0 (.look 4 2 (.look 5 1 (.eff1 6 false (.eff1 7 false (.look 8 1 (.look 9 1 (.eff1 10 true (.done)))))))))))) [6, 7, 10] [4] ([]) ([BH b ba bm bc da dm dc taken free qa js.length qc]) mixed (by kernel_rfl) (Imp.none _) ((by repeat (first | exact Imp.refl _ | exact Imp.none _ | apply Imp.pull (by repeat (first | exact Ext.here | apply Ext.there)) | apply Imp.trans Imp.drop))) ?_
  refine DG.look rfl rfl (Yield.move rfl) rfl ?_
  refine DG.look rfl rfl (Yield.move rfl) rfl ?_
  refine DG.look rfl rfl (Yield.nilCheck rfl) rfl ?_
  refine DG.look rfl rfl (Yield.fieldAddr fa98_0 rfl) rfl ?_
  refine DG.look rfl rfl (Yield.load (v := .slice qa js.length qc) ti96 rfl (Cel.of_blk (b := b) (by repeat (first | exact Ext.here | apply Ext.there)) rfl)) rfl ?_
  refine DG.look rfl rfl (Yield.load_agg (vs := j.cells) ti102 rfl (CJ.len j) (Row.of_blk (b := b3) (by repeat (first | exact Ext.here | apply Ext.there)) rfl)) rfl ?_
  refine DG.eff1 ?_
  refine Chg.eff rfl rfl (Eff.lit [.tmp 9] (vs := [.agg j.cells.toArray]) (cells := j.cells) Try.underlying96 ti102 rfl rfl rfl rfl (by decide) (by simp [Value.cells, CJ.cells]) (by simp [Value.cells])) rfl (fun _ => (by repeat (first | exact Imp.refl _ | exact Imp.none _ | apply Imp.pull (by repeat (first | exact Ext.here | apply Ext.there)) | apply Imp.trans Imp.drop))) (fun _ => Imp.refl _) (fun _ => (by repeat (first | exact Imp.refl _ | exact Imp.none _ | apply Imp.pull (by repeat (first | exact Ext.here | apply Ext.there)) | apply Imp.trans Imp.drop))) ?_
  rintro b10 -
  refine DG.eff1 ?_
  refine Chg.eff rfl rfl (Eff.append (a := qa) (c := qc) (m := js.length) (xs := (js.map CJ.cells).flatten) (k := 1) (ys := j.cells) rfl rfl rfl Try.underlying96 Try.underlying96 ti102 rfl (by decide) (by repeat (first | exact Foc.here | apply Foc.there)) (SlR.of_osl (a := some ⟨b10, 0, none⟩) (by repeat (first | exact Ext.here | apply Ext.there))) (CJ.ones _) (by omega)) rfl (fun _ => (by repeat (first | exact Imp.refl _ | exact Imp.none _ | apply Imp.pull (by repeat (first | exact Ext.here | apply Ext.there)) | apply Imp.trans Imp.drop))) (fun _ => Imp.refl _) (fun _ => (by repeat (first | exact Imp.refl _ | exact Imp.none _ | apply Imp.pull (by repeat (first | exact Ext.here | apply Ext.there)) | apply Imp.trans Imp.drop))) ?_
  rintro ⟨a11, c11⟩ -
  refine DG.look rfl rfl (Yield.nilCheck rfl) rfl ?_
  refine DG.look rfl rfl (Yield.fieldAddr fa98_0 rfl) rfl ?_
  refine DG.eff1 ?_
  refine Chg.eff rfl rfl (Eff.store1 ti96 rfl rfl (by repeat (first | exact Foc.here | apply Foc.there)) rfl (by dsimp only [List.length]; decide)) rfl (fun _ => (by repeat (first | exact Imp.refl _ | exact Imp.none _ | apply Imp.pull (by repeat (first | exact Ext.here | apply Ext.there)) | apply Imp.trans Imp.drop))) (fun _ => Imp.refl _) (fun _ => (by repeat (first | exact Imp.refl _ | exact Imp.none _ | apply Imp.pull (by repeat (first | exact Ext.here | apply Ext.there)) | apply Imp.trans Imp.drop))) ?_
  rintro ⟨⟩ -
  refine DG.done ?_
  refine QG.ret0 rfl (a11, c11) trivial rfl ?_
  dsimp only [ojobs]
  rw [List.length_append, flat_app]
  exact (by repeat (first | exact Imp.refl _ | exact Imp.none _ | apply Imp.pull (by repeat (first | exact Ext.here | apply Ext.there)) | apply Imp.trans Imp.drop))
theorem drop_spec {b ba' oa bm bc dm dc qc : Nat} {ba da : Option Addr} {taken free : Int} {js : List CJ} {j : CJ} (hl : js.length ≤ 2 ^ 20) :
    Ctr Try.prog W0 46 [.pointer (some ⟨b, 4, none⟩)] (BH b ba bm bc da dm dc taken free (some ⟨ba', oa, none⟩) (j :: js).length qc :: ojobs (some ⟨ba', oa, none⟩) qc (j :: js) :: Fr) (fun _ : Unit => True) (fun _ => .tuple #[]) (fun _ => BH b ba bm bc da dm dc taken free (some ⟨ba', oa, none⟩) js.length qc :: ojobs (some ⟨ba', oa, none⟩) qc js :: Fr) := by
  refine Ctr.of_body Try.func46 rfl Try.ntmps46 rfl ?_
  refine CG.region ?_
  refine OG.yield (Yield.move rfl) rfl ?_
  refine OG.yield (Yield.move rfl) rfl ?_
  refine OG.yield (Yield.nilCheck rfl) rfl ?_
  refine OG.yield (Yield.fieldAddr fa98_0 rfl) rfl ?_
  refine OG.yield (Yield.load (v := .slice (some ⟨ba', oa, none⟩) (j :: js).length qc) ti96 rfl (Cel.of_blk (b := b) (by repeat (first | exact Ext.here | apply Ext.there)) rfl)) rfl ?_
  refine OG.callo call67 rfl (Imp.pull (A := ojobs (some ⟨ba', oa, none⟩) qc (j :: js)) (by repeat (first | exact Ext.here | apply Ext.there)) (Imp.refl _)) (delete_spec W0 _ (ba := ba') (oa := oa) (c := qc) (j := j) (js := js) hl) rfl ?_
  rintro ⟨⟩ -
  refine OG.yield (Yield.nilCheck rfl) rfl ?_
  refine OG.yield (Yield.fieldAddr fa98_0 rfl) rfl ?_
  refine OG.eff (Eff.store1 ti96 rfl rfl (by repeat (first | exact Foc.here | apply Foc.there)) rfl (by dsimp only [List.length]; decide)) rfl ?_
  rintro ⟨⟩ -
  refine OG.nil ?_
  exact QG.ret0 rfl () trivial rfl (by repeat (first | exact Imp.refl _ | exact Imp.none _ | apply Imp.pull (by repeat (first | exact Ext.here | apply Ext.there)) | apply Imp.trans Imp.drop))
set_option maxHeartbeats 1000000 in
theorem submit_bad {b : Nat} {s : Bs} {r : CR} {now : Int} (he : subBE s r.write r.sector r.m.b.length now ≠ 0) :
    Ctr Try.prog W0 21 [.pointer (some ⟨b, 0, none⟩), .agg r.cells.toArray, .int .i64 now] (Bl b s :: Fr) (fun _ : Unit => True) (fun _ => .int .i64 (subBE s r.write r.sector r.m.b.length now)) (fun _ => Bl b s :: Fr) := by
  refine Ctr.ex Ext.here bl_open ?_
  intro x hx
  refine Ctr.imp star_open ?_
  have hln := hx.len
  have hok := hx.ok
  have hnd : s.n = s.bytes.length / 64 := rfl
  obtain ⟨nn, hbl, hnn⟩ := hok.len
  have hcl := bl_close (b := b) (G := Fr) x hx
  obtain ⟨part, tag, write, sector, m⟩ := r
  dsimp only [BO, List.cons_append, List.nil_append] at he hcl ⊢
  refine Ctr.of_body Try.func21 rfl Try.ntmps21 rfl ?_
  refine CG.seq ?_
  refine CG.region ?_
  refine OG.effd (Eff.box rfl) rfl ?_
  rintro b4 -
  refine OG.yield (Yield.assign rfl) rfl ?_
  refine OG.nil ?_
  refine QG.then ?_
  refine CG.seq ?_
  refine CG.block ?_
  refine CG.seq ?_
  rcases subBE_bad he with hh | hh | hh | hh | ⟨hh1, hh2, rfl, hh⟩ | ⟨hh1, hh2, rfl, hh⟩ | ⟨hh1, hh2, ⟨rfl, hh3⟩, hh⟩
  · skip
    refine CG.draw (.look 0 1 (.look 1 1 (.look 2 1 (.look 3 1 (.look 4 1 (.look 5 1 (.look 6 1 (.look 7 1 (.look 8 1 (.look 9 1 (.look 10 1 (.look 11 1 (.look 12 0 (.look 13 0 (.look 14 1 (.eff1 15 false (.look 16 1 (.look 17 1 (.look 18 1 (.done)))))))))))))))))))) [15] [] ([]) ([]) mixed (by kernel_rfl) (Imp.none _) (Imp.none _) ?_
    refine DG.look rfl rfl (Yield.move rfl) rfl ?_
    refine DG.look rfl rfl (by first | exact Yield.as (Yield.lss rfl rfl) (bT (by omega)) | exact Yield.as (Yield.lss rfl rfl) (bF (by omega)) | exact Yield.lss rfl rfl) rfl ?_
    refine DG.look rfl rfl (Yield.move rfl) rfl ?_
    refine DG.pass rfl rfl rfl ?_
    refine DG.pass rfl rfl rfl ?_
    refine DG.look rfl rfl (by first | exact Yield.pick_t rfl rfl | exact Yield.pick_f rfl rfl | exact Yield.pick rfl (fun _ => rfl) (fun _ => rfl)) rfl ?_
    refine DG.look rfl rfl (Yield.move rfl) rfl ?_
    refine DG.pass rfl rfl rfl ?_
    refine DG.pass rfl rfl rfl ?_
    refine DG.pass rfl rfl rfl ?_
    refine DG.look rfl rfl (by first | exact Yield.pick_t rfl rfl | exact Yield.pick_f rfl rfl | exact Yield.pick rfl (fun _ => rfl) (fun _ => rfl)) rfl ?_
    refine DG.look rfl rfl (Yield.move rfl) rfl ?_
    refine DG.pass rfl rfl rfl ?_
    refine DG.pass rfl rfl rfl ?_
    refine DG.pass rfl rfl rfl ?_
    refine DG.eff1 ?_
    refine Chg.pass rfl rfl rfl ?_ (by repeat (first | exact Imp.refl _ | exact Imp.none _ | apply Imp.pull (by repeat (first | exact Ext.here | apply Ext.there)) | apply Imp.trans Imp.drop)) (by repeat (first | exact Imp.refl _ | exact Imp.none _ | apply Imp.pull (by repeat (first | exact Ext.here | apply Ext.there)) | apply Imp.trans Imp.drop))
    refine DG.pass rfl rfl rfl ?_
    refine DG.look rfl rfl (by first | exact Yield.pick_t rfl rfl | exact Yield.pick_f rfl rfl | exact Yield.pick rfl (fun _ => rfl) (fun _ => rfl)) rfl ?_
    refine DG.look rfl rfl (Yield.assign rfl) rfl ?_
    refine DG.done ?_
    refine QG.then ?_
    refine CG.cond_t rfl ?_
    refine CG.seq ?_
    refine CG.region ?_
    refine OG.yield (Yield.assign rfl) rfl ?_
    refine OG.nil ?_
    refine QG.then ?_
    refine CG.ret ?_
    refine QG.block_ret ?_
    refine QG.pass_ret ?_
    exact QG.ret1 rfl rfl () trivial (by unfold subBE; rw [if_pos (by omega)]) (Imp.trans (by repeat (first | exact Imp.refl _ | exact Imp.none _ | apply Imp.pull (by repeat (first | exact Ext.here | apply Ext.there)) | apply Imp.trans Imp.drop)) hcl)
  · skip
    refine CG.draw (.look 0 1 (.look 1 1 (.look 2 1 (.look 3 1 (.look 4 1 (.look 5 1 (.look 6 1 (.look 7 1 (.look 8 1 (.look 9 1 (.look 10 1 (.look 11 1 (.look 12 0 (.look 13 0 (.look 14 1 (.eff1 15 false (.look 16 1 (.look 17 1 (.look 18 1 (.done)))))))))))))))))))) [15] [] ([]) ([]) mixed (by kernel_rfl) (Imp.none _) (Imp.none _) ?_
    refine DG.look rfl rfl (Yield.move rfl) rfl ?_
    refine DG.look rfl rfl (by first | exact Yield.as (Yield.lss rfl rfl) (bT (by omega)) | exact Yield.as (Yield.lss rfl rfl) (bF (by omega)) | exact Yield.lss rfl rfl) rfl ?_
    refine DG.look rfl rfl (Yield.move rfl) rfl ?_
    refine DG.look rfl rfl (Yield.move rfl) rfl ?_
    refine DG.look rfl rfl (by first | exact Yield.as (Yield.gtr rfl rfl) (bT (by omega)) | exact Yield.as (Yield.gtr rfl rfl) (bF (by omega)) | exact Yield.gtr rfl rfl) rfl ?_
    refine DG.look rfl rfl (by first | exact Yield.pick_t rfl rfl | exact Yield.pick_f rfl rfl | exact Yield.pick rfl (fun _ => rfl) (fun _ => rfl)) rfl ?_
    refine DG.look rfl rfl (Yield.move rfl) rfl ?_
    refine DG.pass rfl rfl rfl ?_
    refine DG.pass rfl rfl rfl ?_
    refine DG.pass rfl rfl rfl ?_
    refine DG.look rfl rfl (by first | exact Yield.pick_t rfl rfl | exact Yield.pick_f rfl rfl | exact Yield.pick rfl (fun _ => rfl) (fun _ => rfl)) rfl ?_
    refine DG.look rfl rfl (Yield.move rfl) rfl ?_
    refine DG.pass rfl rfl rfl ?_
    refine DG.pass rfl rfl rfl ?_
    refine DG.pass rfl rfl rfl ?_
    refine DG.eff1 ?_
    refine Chg.pass rfl rfl rfl ?_ (by repeat (first | exact Imp.refl _ | exact Imp.none _ | apply Imp.pull (by repeat (first | exact Ext.here | apply Ext.there)) | apply Imp.trans Imp.drop)) (by repeat (first | exact Imp.refl _ | exact Imp.none _ | apply Imp.pull (by repeat (first | exact Ext.here | apply Ext.there)) | apply Imp.trans Imp.drop))
    refine DG.pass rfl rfl rfl ?_
    refine DG.look rfl rfl (by first | exact Yield.pick_t rfl rfl | exact Yield.pick_f rfl rfl | exact Yield.pick rfl (fun _ => rfl) (fun _ => rfl)) rfl ?_
    refine DG.look rfl rfl (Yield.assign rfl) rfl ?_
    refine DG.done ?_
    refine QG.then ?_
    refine CG.cond_t rfl ?_
    refine CG.seq ?_
    refine CG.region ?_
    refine OG.yield (Yield.assign rfl) rfl ?_
    refine OG.nil ?_
    refine QG.then ?_
    refine CG.ret ?_
    refine QG.block_ret ?_
    refine QG.pass_ret ?_
    exact QG.ret1 rfl rfl () trivial (by unfold subBE; rw [if_pos (by omega)]) (Imp.trans (by repeat (first | exact Imp.refl _ | exact Imp.none _ | apply Imp.pull (by repeat (first | exact Ext.here | apply Ext.there)) | apply Imp.trans Imp.drop)) hcl)
  · skip
    refine CG.draw (.look 0 1 (.look 1 1 (.look 2 1 (.look 3 1 (.look 4 1 (.look 5 1 (.look 6 1 (.look 7 1 (.look 8 1 (.look 9 1 (.look 10 1 (.look 11 1 (.look 12 0 (.look 13 0 (.look 14 1 (.eff1 15 false (.look 16 1 (.look 17 1 (.look 18 1 (.done)))))))))))))))))))) [15] [] ([blk b4 (CR.cells ⟨part, tag, write, sector, m⟩) 40]) ([]) mixed (by kernel_rfl) ((by repeat (first | exact Imp.refl _ | exact Imp.none _ | apply Imp.pull (by repeat (first | exact Ext.here | apply Ext.there)) | apply Imp.trans Imp.drop))) (Imp.none _) ?_
    refine DG.look rfl rfl (Yield.move rfl) rfl ?_
    refine DG.look rfl rfl (by first | exact Yield.as (Yield.lss rfl rfl) (bT (by omega)) | exact Yield.as (Yield.lss rfl rfl) (bF (by omega)) | exact Yield.lss rfl rfl) rfl ?_
    refine DG.look rfl rfl (Yield.move rfl) rfl ?_
    refine DG.look rfl rfl (Yield.move rfl) rfl ?_
    refine DG.look rfl rfl (by first | exact Yield.as (Yield.gtr rfl rfl) (bT (by omega)) | exact Yield.as (Yield.gtr rfl rfl) (bF (by omega)) | exact Yield.gtr rfl rfl) rfl ?_
    refine DG.look rfl rfl (by first | exact Yield.pick_t rfl rfl | exact Yield.pick_f rfl rfl | exact Yield.pick rfl (fun _ => rfl) (fun _ => rfl)) rfl ?_
    refine DG.look rfl rfl (Yield.move rfl) rfl ?_
    refine DG.look rfl rfl (Yield.fieldAddr fa40_3 rfl) rfl ?_
    refine DG.look rfl rfl (Yield.load (v := .int .i64 sector) ti3 rfl (Cel.of_blk (b := b4) (by repeat (first | exact Ext.here | apply Ext.there)) rfl)) rfl ?_
    refine DG.look rfl rfl (by first | exact Yield.as (Yield.lss rfl rfl) (bT (by omega)) | exact Yield.as (Yield.lss rfl rfl) (bF (by omega)) | exact Yield.lss rfl rfl) rfl ?_
    refine DG.look rfl rfl (by first | exact Yield.pick_t rfl rfl | exact Yield.pick_f rfl rfl | exact Yield.pick rfl (fun _ => rfl) (fun _ => rfl)) rfl ?_
    refine DG.look rfl rfl (Yield.move rfl) rfl ?_
    refine DG.pass rfl rfl rfl ?_
    refine DG.pass rfl rfl rfl ?_
    refine DG.pass rfl rfl rfl ?_
    refine DG.eff1 ?_
    refine Chg.pass rfl rfl rfl ?_ (by repeat (first | exact Imp.refl _ | exact Imp.none _ | apply Imp.pull (by repeat (first | exact Ext.here | apply Ext.there)) | apply Imp.trans Imp.drop)) (by repeat (first | exact Imp.refl _ | exact Imp.none _ | apply Imp.pull (by repeat (first | exact Ext.here | apply Ext.there)) | apply Imp.trans Imp.drop))
    refine DG.pass rfl rfl rfl ?_
    refine DG.look rfl rfl (by first | exact Yield.pick_t rfl rfl | exact Yield.pick_f rfl rfl | exact Yield.pick rfl (fun _ => rfl) (fun _ => rfl)) rfl ?_
    refine DG.look rfl rfl (Yield.assign rfl) rfl ?_
    refine DG.done ?_
    refine QG.then ?_
    refine CG.cond_t rfl ?_
    refine CG.seq ?_
    refine CG.region ?_
    refine OG.yield (Yield.assign rfl) rfl ?_
    refine OG.nil ?_
    refine QG.then ?_
    refine CG.ret ?_
    refine QG.block_ret ?_
    refine QG.pass_ret ?_
    exact QG.ret1 rfl rfl () trivial (by unfold subBE; rw [if_pos (by omega)]) (Imp.trans (by repeat (first | exact Imp.refl _ | exact Imp.none _ | apply Imp.pull (by repeat (first | exact Ext.here | apply Ext.there)) | apply Imp.trans Imp.drop)) hcl)
  · skip
    refine CG.draw (.look 0 1 (.look 1 1 (.look 2 1 (.look 3 1 (.look 4 1 (.look 5 1 (.look 6 1 (.look 7 1 (.look 8 1 (.look 9 1 (.look 10 1 (.look 11 1 (.look 12 0 (.look 13 0 (.look 14 1 (.eff1 15 false (.look 16 1 (.look 17 1 (.look 18 1 (.done)))))))))))))))))))) [15] [] ([blk b4 (CR.cells ⟨part, tag, write, sector, m⟩) 40]) ([]) mixed (by kernel_rfl) ((by repeat (first | exact Imp.refl _ | exact Imp.none _ | apply Imp.pull (by repeat (first | exact Ext.here | apply Ext.there)) | apply Imp.trans Imp.drop))) (Imp.none _) ?_
    refine DG.look rfl rfl (Yield.move rfl) rfl ?_
    refine DG.look rfl rfl (by first | exact Yield.as (Yield.lss rfl rfl) (bT (by omega)) | exact Yield.as (Yield.lss rfl rfl) (bF (by omega)) | exact Yield.lss rfl rfl) rfl ?_
    refine DG.look rfl rfl (Yield.move rfl) rfl ?_
    refine DG.look rfl rfl (Yield.move rfl) rfl ?_
    refine DG.look rfl rfl (by first | exact Yield.as (Yield.gtr rfl rfl) (bT (by omega)) | exact Yield.as (Yield.gtr rfl rfl) (bF (by omega)) | exact Yield.gtr rfl rfl) rfl ?_
    refine DG.look rfl rfl (by first | exact Yield.pick_t rfl rfl | exact Yield.pick_f rfl rfl | exact Yield.pick rfl (fun _ => rfl) (fun _ => rfl)) rfl ?_
    refine DG.look rfl rfl (Yield.move rfl) rfl ?_
    refine DG.look rfl rfl (Yield.fieldAddr fa40_3 rfl) rfl ?_
    refine DG.look rfl rfl (Yield.load (v := .int .i64 sector) ti3 rfl (Cel.of_blk (b := b4) (by repeat (first | exact Ext.here | apply Ext.there)) rfl)) rfl ?_
    refine DG.look rfl rfl (by first | exact Yield.as (Yield.lss rfl rfl) (bT (by omega)) | exact Yield.as (Yield.lss rfl rfl) (bF (by omega)) | exact Yield.lss rfl rfl) rfl ?_
    refine DG.look rfl rfl (by first | exact Yield.pick_t rfl rfl | exact Yield.pick_f rfl rfl | exact Yield.pick rfl (fun _ => rfl) (fun _ => rfl)) rfl ?_
    refine DG.look rfl rfl (Yield.move rfl) rfl ?_
    refine DG.look rfl rfl (Yield.fieldAddr fa40_3 rfl) rfl ?_
    refine DG.look rfl rfl (Yield.load (v := .int .i64 sector) ti3 rfl (Cel.of_blk (b := b4) (by repeat (first | exact Ext.here | apply Ext.there)) rfl)) rfl ?_
    refine DG.look rfl rfl (Yield.move rfl) rfl ?_
    refine DG.eff1 ?_
    refine Chg.callo rfl rfl call48 rfl (Imp.refl _) (sectors_spec W0 _ (b := b) (m := s.bytes.length) (Cel.of_blk (b := b) (by repeat (first | exact Ext.here | apply Ext.there)) rfl) (by omega)) rfl (fun _ => (by repeat (first | exact Imp.refl _ | exact Imp.none _ | apply Imp.pull (by repeat (first | exact Ext.here | apply Ext.there)) | apply Imp.trans Imp.drop))) (fun _ => Imp.refl _) (fun _ => (by repeat (first | exact Imp.refl _ | exact Imp.none _ | apply Imp.pull (by repeat (first | exact Ext.here | apply Ext.there)) | apply Imp.trans Imp.drop))) ?_
    rintro ⟨⟩ -
    refine DG.look rfl rfl (by first | exact Yield.as (Yield.geq rfl rfl) (bT (by omega)) | exact Yield.as (Yield.geq rfl rfl) (bF (by omega)) | exact Yield.geq rfl rfl) rfl ?_
    refine DG.look rfl rfl (by first | exact Yield.pick_t rfl rfl | exact Yield.pick_f rfl rfl | exact Yield.pick rfl (fun _ => rfl) (fun _ => rfl)) rfl ?_
    refine DG.look rfl rfl (Yield.assign rfl) rfl ?_
    refine DG.done ?_
    refine QG.then ?_
    refine CG.cond_t rfl ?_
    refine CG.seq ?_
    refine CG.region ?_
    refine OG.yield (Yield.assign rfl) rfl ?_
    refine OG.nil ?_
    refine QG.then ?_
    refine CG.ret ?_
    refine QG.block_ret ?_
    refine QG.pass_ret ?_
    exact QG.ret1 rfl rfl () trivial (by unfold subBE; rw [if_pos (by omega)]) (Imp.trans (by repeat (first | exact Imp.refl _ | exact Imp.none _ | apply Imp.pull (by repeat (first | exact Ext.here | apply Ext.there)) | apply Imp.trans Imp.drop)) hcl)
  · skip
    refine CG.draw (.look 0 1 (.look 1 1 (.look 2 1 (.look 3 1 (.look 4 1 (.look 5 1 (.look 6 1 (.look 7 1 (.look 8 1 (.look 9 1 (.look 10 1 (.look 11 1 (.look 12 0 (.look 13 0 (.look 14 1 (.eff1 15 false (.look 16 1 (.look 17 1 (.look 18 1 (.done)))))))))))))))))))) [15] [] ([blk b4 (CR.cells ⟨part, tag, true, sector, m⟩) 40]) ([]) mixed (by kernel_rfl) ((by repeat (first | exact Imp.refl _ | exact Imp.none _ | apply Imp.pull (by repeat (first | exact Ext.here | apply Ext.there)) | apply Imp.trans Imp.drop))) (Imp.none _) ?_
    refine DG.look rfl rfl (Yield.move rfl) rfl ?_
    refine DG.look rfl rfl (by first | exact Yield.as (Yield.lss rfl rfl) (bT (by omega)) | exact Yield.as (Yield.lss rfl rfl) (bF (by omega)) | exact Yield.lss rfl rfl) rfl ?_
    refine DG.look rfl rfl (Yield.move rfl) rfl ?_
    refine DG.look rfl rfl (Yield.move rfl) rfl ?_
    refine DG.look rfl rfl (by first | exact Yield.as (Yield.gtr rfl rfl) (bT (by omega)) | exact Yield.as (Yield.gtr rfl rfl) (bF (by omega)) | exact Yield.gtr rfl rfl) rfl ?_
    refine DG.look rfl rfl (by first | exact Yield.pick_t rfl rfl | exact Yield.pick_f rfl rfl | exact Yield.pick rfl (fun _ => rfl) (fun _ => rfl)) rfl ?_
    refine DG.look rfl rfl (Yield.move rfl) rfl ?_
    refine DG.look rfl rfl (Yield.fieldAddr fa40_3 rfl) rfl ?_
    refine DG.look rfl rfl (Yield.load (v := .int .i64 sector) ti3 rfl (Cel.of_blk (b := b4) (by repeat (first | exact Ext.here | apply Ext.there)) rfl)) rfl ?_
    refine DG.look rfl rfl (by first | exact Yield.as (Yield.lss rfl rfl) (bT (by omega)) | exact Yield.as (Yield.lss rfl rfl) (bF (by omega)) | exact Yield.lss rfl rfl) rfl ?_
    refine DG.look rfl rfl (by first | exact Yield.pick_t rfl rfl | exact Yield.pick_f rfl rfl | exact Yield.pick rfl (fun _ => rfl) (fun _ => rfl)) rfl ?_
    refine DG.look rfl rfl (Yield.move rfl) rfl ?_
    refine DG.look rfl rfl (Yield.fieldAddr fa40_3 rfl) rfl ?_
    refine DG.look rfl rfl (Yield.load (v := .int .i64 sector) ti3 rfl (Cel.of_blk (b := b4) (by repeat (first | exact Ext.here | apply Ext.there)) rfl)) rfl ?_
    refine DG.look rfl rfl (Yield.move rfl) rfl ?_
    refine DG.eff1 ?_
    refine Chg.callo rfl rfl call48 rfl (Imp.refl _) (sectors_spec W0 _ (b := b) (m := s.bytes.length) (Cel.of_blk (b := b) (by repeat (first | exact Ext.here | apply Ext.there)) rfl) (by omega)) rfl (fun _ => (by repeat (first | exact Imp.refl _ | exact Imp.none _ | apply Imp.pull (by repeat (first | exact Ext.here | apply Ext.there)) | apply Imp.trans Imp.drop))) (fun _ => Imp.refl _) (fun _ => (by repeat (first | exact Imp.refl _ | exact Imp.none _ | apply Imp.pull (by repeat (first | exact Ext.here | apply Ext.there)) | apply Imp.trans Imp.drop))) ?_
    rintro ⟨⟩ -
    refine DG.look rfl rfl (by first | exact Yield.as (Yield.geq rfl rfl) (bT (by omega)) | exact Yield.as (Yield.geq rfl rfl) (bF (by omega)) | exact Yield.geq rfl rfl) rfl ?_
    refine DG.look rfl rfl (by first | exact Yield.pick_t rfl rfl | exact Yield.pick_f rfl rfl | exact Yield.pick rfl (fun _ => rfl) (fun _ => rfl)) rfl ?_
    refine DG.look rfl rfl (Yield.assign rfl) rfl ?_
    refine DG.done ?_
    refine QG.then ?_
    refine CG.cond_f rfl ?_
    refine CG.seq ?_
    refine CG.region ?_
    refine OG.yield (Yield.fieldAddr fa40_2 rfl) rfl ?_
    refine OG.yield (Yield.load (v := .bool true) ti4 rfl (Cel.of_blk (b := b4) (by repeat (first | exact Ext.here | apply Ext.there)) rfl)) rfl ?_
    refine OG.yield (Yield.move rfl) rfl ?_
    refine OG.guard_yes rfl rfl rfl (by decide) ?_
    refine OG.yield (Yield.fieldAddr fa40_4 rfl) rfl ?_
    refine OG.guard_yes rfl rfl rfl (by decide) ?_
    refine OG.yield (Yield.load (v := m.cell) ti36 rfl (Cel.of_blk (b := b4) (by repeat (first | exact Ext.here | apply Ext.there)) rfl)) rfl ?_
    refine OG.guard_yes rfl rfl rfl (by decide) ?_
    refine OG.yield (Yield.len_slice (a := m.a) (m := m.b.length) (c := m.c) Try.underlying36 rfl rfl) rfl ?_
    refine OG.guard_yes rfl rfl rfl (by decide) ?_
    refine OG.yield (by first | exact Yield.as (Yield.neq rfl rfl) (bT (by omega)) | exact Yield.as (Yield.neq rfl rfl) (bF (by omega)) | exact Yield.neq rfl rfl) rfl ?_
    refine OG.yield (by first | exact Yield.pick_t rfl rfl | exact Yield.pick_f rfl rfl | exact Yield.pick rfl (fun _ => rfl) (fun _ => rfl)) rfl ?_
    refine OG.yield (Yield.assign rfl) rfl ?_
    refine OG.nil ?_
    refine QG.then ?_
    refine CG.cond_t rfl ?_
    refine CG.seq ?_
    refine CG.region ?_
    refine OG.yield (Yield.assign rfl) rfl ?_
    refine OG.nil ?_
    refine QG.then ?_
    refine CG.ret ?_
    refine QG.block_ret ?_
    refine QG.pass_ret ?_
    exact QG.ret1 rfl rfl () trivial (by unfold subBE; rw [if_neg (by omega), if_pos ⟨rfl, hh⟩]) (Imp.trans (by repeat (first | exact Imp.refl _ | exact Imp.none _ | apply Imp.pull (by repeat (first | exact Ext.here | apply Ext.there)) | apply Imp.trans Imp.drop)) hcl)
  · skip
    refine CG.draw (.look 0 1 (.look 1 1 (.look 2 1 (.look 3 1 (.look 4 1 (.look 5 1 (.look 6 1 (.look 7 1 (.look 8 1 (.look 9 1 (.look 10 1 (.look 11 1 (.look 12 0 (.look 13 0 (.look 14 1 (.eff1 15 false (.look 16 1 (.look 17 1 (.look 18 1 (.done)))))))))))))))))))) [15] [] ([blk b4 (CR.cells ⟨part, tag, false, sector, m⟩) 40]) ([]) mixed (by kernel_rfl) ((by repeat (first | exact Imp.refl _ | exact Imp.none _ | apply Imp.pull (by repeat (first | exact Ext.here | apply Ext.there)) | apply Imp.trans Imp.drop))) (Imp.none _) ?_
    refine DG.look rfl rfl (Yield.move rfl) rfl ?_
    refine DG.look rfl rfl (by first | exact Yield.as (Yield.lss rfl rfl) (bT (by omega)) | exact Yield.as (Yield.lss rfl rfl) (bF (by omega)) | exact Yield.lss rfl rfl) rfl ?_
    refine DG.look rfl rfl (Yield.move rfl) rfl ?_
    refine DG.look rfl rfl (Yield.move rfl) rfl ?_
    refine DG.look rfl rfl (by first | exact Yield.as (Yield.gtr rfl rfl) (bT (by omega)) | exact Yield.as (Yield.gtr rfl rfl) (bF (by omega)) | exact Yield.gtr rfl rfl) rfl ?_
    refine DG.look rfl rfl (by first | exact Yield.pick_t rfl rfl | exact Yield.pick_f rfl rfl | exact Yield.pick rfl (fun _ => rfl) (fun _ => rfl)) rfl ?_
    refine DG.look rfl rfl (Yield.move rfl) rfl ?_
    refine DG.look rfl rfl (Yield.fieldAddr fa40_3 rfl) rfl ?_
    refine DG.look rfl rfl (Yield.load (v := .int .i64 sector) ti3 rfl (Cel.of_blk (b := b4) (by repeat (first | exact Ext.here | apply Ext.there)) rfl)) rfl ?_
    refine DG.look rfl rfl (by first | exact Yield.as (Yield.lss rfl rfl) (bT (by omega)) | exact Yield.as (Yield.lss rfl rfl) (bF (by omega)) | exact Yield.lss rfl rfl) rfl ?_
    refine DG.look rfl rfl (by first | exact Yield.pick_t rfl rfl | exact Yield.pick_f rfl rfl | exact Yield.pick rfl (fun _ => rfl) (fun _ => rfl)) rfl ?_
    refine DG.look rfl rfl (Yield.move rfl) rfl ?_
    refine DG.look rfl rfl (Yield.fieldAddr fa40_3 rfl) rfl ?_
    refine DG.look rfl rfl (Yield.load (v := .int .i64 sector) ti3 rfl (Cel.of_blk (b := b4) (by repeat (first | exact Ext.here | apply Ext.there)) rfl)) rfl ?_
    refine DG.look rfl rfl (Yield.move rfl) rfl ?_
    refine DG.eff1 ?_
    refine Chg.callo rfl rfl call48 rfl (Imp.refl _) (sectors_spec W0 _ (b := b) (m := s.bytes.length) (Cel.of_blk (b := b) (by repeat (first | exact Ext.here | apply Ext.there)) rfl) (by omega)) rfl (fun _ => (by repeat (first | exact Imp.refl _ | exact Imp.none _ | apply Imp.pull (by repeat (first | exact Ext.here | apply Ext.there)) | apply Imp.trans Imp.drop))) (fun _ => Imp.refl _) (fun _ => (by repeat (first | exact Imp.refl _ | exact Imp.none _ | apply Imp.pull (by repeat (first | exact Ext.here | apply Ext.there)) | apply Imp.trans Imp.drop))) ?_
    rintro ⟨⟩ -
    refine DG.look rfl rfl (by first | exact Yield.as (Yield.geq rfl rfl) (bT (by omega)) | exact Yield.as (Yield.geq rfl rfl) (bF (by omega)) | exact Yield.geq rfl rfl) rfl ?_
    refine DG.look rfl rfl (by first | exact Yield.pick_t rfl rfl | exact Yield.pick_f rfl rfl | exact Yield.pick rfl (fun _ => rfl) (fun _ => rfl)) rfl ?_
    refine DG.look rfl rfl (Yield.assign rfl) rfl ?_
    refine DG.done ?_
    refine QG.then ?_
    refine CG.cond_f rfl ?_
    refine CG.seq ?_
    refine CG.region ?_
    refine OG.yield (Yield.fieldAddr fa40_2 rfl) rfl ?_
    refine OG.yield (Yield.load (v := .bool false) ti4 rfl (Cel.of_blk (b := b4) (by repeat (first | exact Ext.here | apply Ext.there)) rfl)) rfl ?_
    refine OG.yield (Yield.move rfl) rfl ?_
    refine OG.guard_no rfl rfl rfl rfl rfl (by decide) (by decide) ?_
    refine OG.guard_no rfl rfl rfl rfl rfl (by decide) (by decide) ?_
    refine OG.guard_no rfl rfl rfl rfl rfl (by decide) (by decide) ?_
    refine OG.guard_no rfl rfl rfl rfl rfl (by decide) (by decide) ?_
    refine OG.yield (by first | exact Yield.pick_t rfl rfl | exact Yield.pick_f rfl rfl | exact Yield.pick rfl (fun _ => rfl) (fun _ => rfl)) rfl ?_
    refine OG.yield (Yield.assign rfl) rfl ?_
    refine OG.nil ?_
    refine QG.then ?_
    refine CG.cond_f rfl ?_
    refine CG.seq ?_
    refine CG.region ?_
    refine OG.yield (Yield.move rfl) rfl ?_
    refine OG.yield (Yield.nilCheck rfl) rfl ?_
    refine OG.yield (Yield.fieldAddr fa100_4 rfl) rfl ?_
    refine OG.yield (Yield.fieldAddr fa98_0 rfl) rfl ?_
    refine OG.yield (Yield.load (v := .slice x.qa x.js.length x.qc) ti96 rfl (Cel.of_blk (b := b) (by repeat (first | exact Ext.here | apply Ext.there)) rfl)) rfl ?_
    refine OG.yield (Yield.len_slice (a := x.qa) (m := x.js.length) (c := x.qc) Try.underlying96 rfl rfl) rfl ?_
    refine OG.yield (by first | exact Yield.as (Yield.geq rfl rfl) (bT (by omega)) | exact Yield.as (Yield.geq rfl rfl) (bF (by omega)) | exact Yield.geq rfl rfl) rfl ?_
    refine OG.yield (Yield.assign rfl) rfl ?_
    refine OG.nil ?_
    refine QG.then ?_
    refine CG.cond_t rfl ?_
    refine CG.seq ?_
    refine CG.region ?_
    refine OG.yield (Yield.assign rfl) rfl ?_
    refine OG.nil ?_
    refine QG.then ?_
    refine CG.ret ?_
    refine QG.block_ret ?_
    refine QG.pass_ret ?_
    exact QG.ret1 rfl rfl () trivial (by unfold subBE; rw [if_neg (by omega), if_neg (by simp), if_pos hh]) (Imp.trans (by repeat (first | exact Imp.refl _ | exact Imp.none _ | apply Imp.pull (by repeat (first | exact Ext.here | apply Ext.there)) | apply Imp.trans Imp.drop)) hcl)
  · skip
    refine CG.draw (.look 0 1 (.look 1 1 (.look 2 1 (.look 3 1 (.look 4 1 (.look 5 1 (.look 6 1 (.look 7 1 (.look 8 1 (.look 9 1 (.look 10 1 (.look 11 1 (.look 12 0 (.look 13 0 (.look 14 1 (.eff1 15 false (.look 16 1 (.look 17 1 (.look 18 1 (.done)))))))))))))))))))) [15] [] ([blk b4 (CR.cells ⟨part, tag, true, sector, m⟩) 40]) ([]) mixed (by kernel_rfl) ((by repeat (first | exact Imp.refl _ | exact Imp.none _ | apply Imp.pull (by repeat (first | exact Ext.here | apply Ext.there)) | apply Imp.trans Imp.drop))) (Imp.none _) ?_
    refine DG.look rfl rfl (Yield.move rfl) rfl ?_
    refine DG.look rfl rfl (by first | exact Yield.as (Yield.lss rfl rfl) (bT (by omega)) | exact Yield.as (Yield.lss rfl rfl) (bF (by omega)) | exact Yield.lss rfl rfl) rfl ?_
    refine DG.look rfl rfl (Yield.move rfl) rfl ?_
    refine DG.look rfl rfl (Yield.move rfl) rfl ?_
    refine DG.look rfl rfl (by first | exact Yield.as (Yield.gtr rfl rfl) (bT (by omega)) | exact Yield.as (Yield.gtr rfl rfl) (bF (by omega)) | exact Yield.gtr rfl rfl) rfl ?_
    refine DG.look rfl rfl (by first | exact Yield.pick_t rfl rfl | exact Yield.pick_f rfl rfl | exact Yield.pick rfl (fun _ => rfl) (fun _ => rfl)) rfl ?_
    refine DG.look rfl rfl (Yield.move rfl) rfl ?_
    refine DG.look rfl rfl (Yield.fieldAddr fa40_3 rfl) rfl ?_
    refine DG.look rfl rfl (Yield.load (v := .int .i64 sector) ti3 rfl (Cel.of_blk (b := b4) (by repeat (first | exact Ext.here | apply Ext.there)) rfl)) rfl ?_
    refine DG.look rfl rfl (by first | exact Yield.as (Yield.lss rfl rfl) (bT (by omega)) | exact Yield.as (Yield.lss rfl rfl) (bF (by omega)) | exact Yield.lss rfl rfl) rfl ?_
    refine DG.look rfl rfl (by first | exact Yield.pick_t rfl rfl | exact Yield.pick_f rfl rfl | exact Yield.pick rfl (fun _ => rfl) (fun _ => rfl)) rfl ?_
    refine DG.look rfl rfl (Yield.move rfl) rfl ?_
    refine DG.look rfl rfl (Yield.fieldAddr fa40_3 rfl) rfl ?_
    refine DG.look rfl rfl (Yield.load (v := .int .i64 sector) ti3 rfl (Cel.of_blk (b := b4) (by repeat (first | exact Ext.here | apply Ext.there)) rfl)) rfl ?_
    refine DG.look rfl rfl (Yield.move rfl) rfl ?_
    refine DG.eff1 ?_
    refine Chg.callo rfl rfl call48 rfl (Imp.refl _) (sectors_spec W0 _ (b := b) (m := s.bytes.length) (Cel.of_blk (b := b) (by repeat (first | exact Ext.here | apply Ext.there)) rfl) (by omega)) rfl (fun _ => (by repeat (first | exact Imp.refl _ | exact Imp.none _ | apply Imp.pull (by repeat (first | exact Ext.here | apply Ext.there)) | apply Imp.trans Imp.drop))) (fun _ => Imp.refl _) (fun _ => (by repeat (first | exact Imp.refl _ | exact Imp.none _ | apply Imp.pull (by repeat (first | exact Ext.here | apply Ext.there)) | apply Imp.trans Imp.drop))) ?_
    rintro ⟨⟩ -
    refine DG.look rfl rfl (by first | exact Yield.as (Yield.geq rfl rfl) (bT (by omega)) | exact Yield.as (Yield.geq rfl rfl) (bF (by omega)) | exact Yield.geq rfl rfl) rfl ?_
    refine DG.look rfl rfl (by first | exact Yield.pick_t rfl rfl | exact Yield.pick_f rfl rfl | exact Yield.pick rfl (fun _ => rfl) (fun _ => rfl)) rfl ?_
    refine DG.look rfl rfl (Yield.assign rfl) rfl ?_
    refine DG.done ?_
    refine QG.then ?_
    refine CG.cond_f rfl ?_
    refine CG.seq ?_
    refine CG.region ?_
    refine OG.yield (Yield.fieldAddr fa40_2 rfl) rfl ?_
    refine OG.yield (Yield.load (v := .bool true) ti4 rfl (Cel.of_blk (b := b4) (by repeat (first | exact Ext.here | apply Ext.there)) rfl)) rfl ?_
    refine OG.yield (Yield.move rfl) rfl ?_
    refine OG.guard_yes rfl rfl rfl (by decide) ?_
    refine OG.yield (Yield.fieldAddr fa40_4 rfl) rfl ?_
    refine OG.guard_yes rfl rfl rfl (by decide) ?_
    refine OG.yield (Yield.load (v := m.cell) ti36 rfl (Cel.of_blk (b := b4) (by repeat (first | exact Ext.here | apply Ext.there)) rfl)) rfl ?_
    refine OG.guard_yes rfl rfl rfl (by decide) ?_
    refine OG.yield (Yield.len_slice (a := m.a) (m := m.b.length) (c := m.c) Try.underlying36 rfl rfl) rfl ?_
    refine OG.guard_yes rfl rfl rfl (by decide) ?_
    refine OG.yield (by first | exact Yield.as (Yield.neq rfl rfl) (bT (by omega)) | exact Yield.as (Yield.neq rfl rfl) (bF (by omega)) | exact Yield.neq rfl rfl) rfl ?_
    refine OG.yield (by first | exact Yield.pick_t rfl rfl | exact Yield.pick_f rfl rfl | exact Yield.pick rfl (fun _ => rfl) (fun _ => rfl)) rfl ?_
    refine OG.yield (Yield.assign rfl) rfl ?_
    refine OG.nil ?_
    refine QG.then ?_
    refine CG.cond_f rfl ?_
    refine CG.seq ?_
    refine CG.region ?_
    refine OG.yield (Yield.move rfl) rfl ?_
    refine OG.yield (Yield.nilCheck rfl) rfl ?_
    refine OG.yield (Yield.fieldAddr fa100_4 rfl) rfl ?_
    refine OG.yield (Yield.fieldAddr fa98_0 rfl) rfl ?_
    refine OG.yield (Yield.load (v := .slice x.qa x.js.length x.qc) ti96 rfl (Cel.of_blk (b := b) (by repeat (first | exact Ext.here | apply Ext.there)) rfl)) rfl ?_
    refine OG.yield (Yield.len_slice (a := x.qa) (m := x.js.length) (c := x.qc) Try.underlying96 rfl rfl) rfl ?_
    refine OG.yield (by first | exact Yield.as (Yield.geq rfl rfl) (bT (by omega)) | exact Yield.as (Yield.geq rfl rfl) (bF (by omega)) | exact Yield.geq rfl rfl) rfl ?_
    refine OG.yield (Yield.assign rfl) rfl ?_
    refine OG.nil ?_
    refine QG.then ?_
    refine CG.cond_t rfl ?_
    refine CG.seq ?_
    refine CG.region ?_
    refine OG.yield (Yield.assign rfl) rfl ?_
    refine OG.nil ?_
    refine QG.then ?_
    refine CG.ret ?_
    refine QG.block_ret ?_
    refine QG.pass_ret ?_
    exact QG.ret1 rfl rfl () trivial (by unfold subBE; rw [if_neg (by omega), if_neg (by simp [hh3]), if_pos hh]) (Imp.trans (by repeat (first | exact Imp.refl _ | exact Imp.none _ | apply Imp.pull (by repeat (first | exact Ext.here | apply Ext.there)) | apply Imp.trans Imp.drop)) hcl)
/-- What the next end is. -/
def nextR : List Jb → Int × Bool
  | [] => (0, false)
  | j :: _ => (j.done, true)
theorem next_spec {b : Nat} {s : Bs} : Ctr Try.prog W0 41 [.pointer (some ⟨b, 0, none⟩)] (Bl b s :: Fr) (fun _ : Unit => True) (fun _ => .tuple #[.int .i64 (nextR s.q).1, .bool (nextR s.q).2]) (fun _ => Bl b s :: Fr) := by
  refine Ctr.ex Ext.here bl_open ?_
  rintro ⟨js, ba, bc, da, dc, qa, qc⟩ hx
  refine Ctr.imp star_open ?_
  have hln := hx.len
  have hok := hx.ok
  have hab := hx.abs
  have hql := hok.ql
  have hcl := bl_close (b := b) (G := Fr) _ hx
  dsimp only [BO, List.cons_append, List.nil_append] at hln hcl hab ⊢
  refine Ctr.of_body Try.func41 rfl Try.ntmps41 rfl ?_
  refine CG.seq ?_
  refine CG.region ?_
  refine OG.yield (Yield.assign rfl) rfl ?_
  refine OG.yield (Yield.assign rfl) rfl ?_
  refine OG.nil ?_
  refine QG.then ?_
  refine CG.seq ?_
  rcases js with _ | ⟨j, js⟩
  · skip
    refine CG.region ?_
    refine OG.yield (Yield.move rfl) rfl ?_
    refine OG.yield (Yield.nilCheck rfl) rfl ?_
    refine OG.yield (Yield.fieldAddr fa100_4 rfl) rfl ?_
    refine OG.callo call45 rfl (Imp.refl _) (first_none W0 _ (b := b) (a := qa) (c := qc) (Cel.of_blk (b := b) (by repeat (first | exact Ext.here | apply Ext.there)) rfl)) rfl ?_
    rintro ⟨⟩ -
    refine OG.yield (Yield.move rfl) rfl ?_
    refine OG.yield (Yield.extract rfl rfl) rfl ?_
    refine OG.yield (Yield.extract rfl rfl) rfl ?_
    refine OG.effd (Eff.alloc ti102) rfl ?_
    rintro b4 -
    refine OG.eff (Eff.storeAll ti102 rfl rfl (by repeat (first | exact Foc.here | apply Foc.there)) (CJ.len jz) (CJ.ones jz) rfl) rfl ?_
    rintro ⟨⟩ -
    refine OG.yield (Yield.assign rfl) rfl ?_
    refine OG.nil ?_
    refine QG.then ?_
    refine CG.seq ?_
    refine CG.region ?_
    refine OG.yield (Yield.fieldAddr fa102_1 rfl) rfl ?_
    refine OG.yield (Yield.load (v := .int .i64 0) ti3 rfl (Cel.of_blk (b := b4) (by repeat (first | exact Ext.here | apply Ext.there)) rfl)) rfl ?_
    refine OG.yield (Yield.move rfl) rfl ?_
    refine OG.yield (Yield.assign rfl) rfl ?_
    refine OG.yield (Yield.assign rfl) rfl ?_
    refine OG.nil ?_
    refine QG.then ?_
    refine CG.ret ?_
    exact QG.ret2 rfl rfl rfl () trivial (by rw [← hab]; rfl) (Imp.trans (by repeat (first | exact Imp.refl _ | exact Imp.none _ | apply Imp.pull (by repeat (first | exact Ext.here | apply Ext.there)) | apply Imp.trans Imp.drop)) hcl)
  · skip
    refine CG.region ?_
    refine OG.yield (Yield.move rfl) rfl ?_
    refine OG.yield (Yield.nilCheck rfl) rfl ?_
    refine OG.yield (Yield.fieldAddr fa100_4 rfl) rfl ?_
    refine OG.callo call45 rfl (Imp.refl _) (first_some W0 _ (b := b) (a := qa) (c := qc) (j := j) (js := js) (Cel.of_blk (b := b) (by repeat (first | exact Ext.here | apply Ext.there)) rfl) (SlR.of_osl (by repeat (first | exact Ext.here | apply Ext.there))) (by simp only [List.length_cons] at hln; omega)) rfl ?_
    rintro ⟨⟩ -
    refine OG.yield (Yield.move rfl) rfl ?_
    refine OG.yield (Yield.extract rfl rfl) rfl ?_
    refine OG.yield (Yield.extract rfl rfl) rfl ?_
    refine OG.effd (Eff.alloc ti102) rfl ?_
    rintro b4 -
    refine OG.eff (Eff.storeAll ti102 rfl rfl (by repeat (first | exact Foc.here | apply Foc.there)) (CJ.len j) (CJ.ones j) rfl) rfl ?_
    rintro ⟨⟩ -
    refine OG.yield (Yield.assign rfl) rfl ?_
    refine OG.nil ?_
    refine QG.then ?_
    refine CG.seq ?_
    refine CG.region ?_
    refine OG.yield (Yield.fieldAddr fa102_1 rfl) rfl ?_
    refine OG.yield (Yield.load (v := .int .i64 j.done) ti3 rfl (Cel.of_blk (b := b4) (by repeat (first | exact Ext.here | apply Ext.there)) rfl)) rfl ?_
    refine OG.yield (Yield.move rfl) rfl ?_
    refine OG.yield (Yield.assign rfl) rfl ?_
    refine OG.yield (Yield.assign rfl) rfl ?_
    refine OG.nil ?_
    refine QG.then ?_
    refine CG.ret ?_
    exact QG.ret2 rfl rfl rfl () trivial (by rw [← hab]; rfl) (Imp.trans (by repeat (first | exact Imp.refl _ | exact Imp.none _ | apply Imp.pull (by repeat (first | exact Ext.here | apply Ext.there)) | apply Imp.trans Imp.drop)) hcl)
theorem waiting_spec {b : Nat} {s : Bs} : Ctr Try.prog W0 22 [.pointer (some ⟨b, 0, none⟩)] (Bl b s :: Fr) (fun _ : Unit => True) (fun _ => .int .i64 s.q.length) (fun _ => Bl b s :: Fr) := by
  refine Ctr.ex Ext.here bl_open ?_
  intro x hx
  refine Ctr.imp star_open ?_
  have hln := hx.len
  have hcl := bl_close (b := b) (G := Fr) _ hx
  dsimp only [BO, List.cons_append, List.nil_append] at hcl ⊢
  refine Ctr.of_body Try.func22 rfl Try.ntmps22 rfl ?_
  refine CG.seq ?_
  refine CG.region ?_
  refine OG.yield (Yield.assign rfl) rfl ?_
  refine OG.nil ?_
  refine QG.then ?_
  refine CG.seq ?_
  refine CG.region ?_
  refine OG.yield (Yield.move rfl) rfl ?_
  refine OG.yield (Yield.nilCheck rfl) rfl ?_
  refine OG.yield (Yield.fieldAddr fa100_4 rfl) rfl ?_
  refine OG.yield (Yield.fieldAddr fa98_0 rfl) rfl ?_
  refine OG.yield (Yield.load (v := .slice x.qa x.js.length x.qc) ti96 rfl (Cel.of_blk (b := b) (by repeat (first | exact Ext.here | apply Ext.there)) rfl)) rfl ?_
  refine OG.yield (Yield.len_slice (a := x.qa) (m := x.js.length) (c := x.qc) Try.underlying96 rfl rfl) rfl ?_
  refine OG.yield (Yield.assign rfl) rfl ?_
  refine OG.nil ?_
  refine QG.then ?_
  refine CG.ret ?_
  exact QG.ret1 rfl rfl () trivial (by rw [hln]) (Imp.trans (by repeat (first | exact Imp.refl _ | exact Imp.none _ | apply Imp.pull (by repeat (first | exact Ext.here | apply Ext.there)) | apply Imp.trans Imp.drop)) hcl)
theorem image_spec {b : Nat} {s : Bs} : Ctr Try.prog W0 36 [.pointer (some ⟨b, 0, none⟩)] (Bl b s :: Fr) (fun m : Msg => m.b = s.bytes) (fun m => m.cell) (fun m => m.own :: Bl b s :: Fr) := by
  refine Ctr.ex Ext.here bl_open ?_
  intro x hx
  refine Ctr.imp star_open ?_
  have hok := hx.ok
  obtain ⟨nn, hbl, hnn⟩ := hok.len
  have hcl := bl_close (b := b) (G := Fr) _ hx
  dsimp only [BO, List.cons_append, List.nil_append] at hcl ⊢
  refine Ctr.of_body Try.func36 rfl Try.ntmps36 rfl ?_
  refine CG.seq ?_
  refine CG.region ?_
  refine OG.yield (Yield.assign rfl) rfl ?_
  refine OG.nil ?_
  refine QG.then ?_
  refine CG.seq ?_
  refine CG.region ?_
  refine OG.yield (Yield.move rfl) rfl ?_
  refine OG.yield (Yield.nilCheck rfl) rfl ?_
  refine OG.yield (Yield.fieldAddr fa100_0 rfl) rfl ?_
  refine OG.yield (Yield.load (v := .slice x.ba s.bytes.length x.bc) ti36 rfl (Cel.of_blk (b := b) (by repeat (first | exact Ext.here | apply Ext.there)) rfl)) rfl ?_
  refine OG.callo call38 rfl (Imp.refl _) (cloneB_spec W0 _ (a := x.ba) (c := x.bc) (bs := s.bytes) (RdB.of_osl (by repeat (first | exact Ext.here | apply Ext.there)) rfl rfl) (by omega)) rfl ?_
  rintro m hm
  refine OG.yield (Yield.assign rfl) rfl ?_
  refine OG.nil ?_
  refine QG.then ?_
  refine CG.ret ?_
  exact QG.ret1 rfl rfl m hm rfl (Imp.trans (Imp.pull (A := m.own) (by repeat (first | exact Ext.here | apply Ext.there)) (Imp.refl _)) (Imp.cons (Imp.trans (by repeat (first | exact Imp.refl _ | exact Imp.none _ | apply Imp.pull (by repeat (first | exact Ext.here | apply Ext.there)) | apply Imp.trans Imp.drop)) hcl)))
end
end Go.Proofs.Ytoejnhfcegchhaa.Bk
