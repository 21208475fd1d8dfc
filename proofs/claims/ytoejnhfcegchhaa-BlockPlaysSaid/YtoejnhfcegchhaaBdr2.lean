/- The document's disk: Submit, Poll. -/
import Derived.Test.YtoejnhfcegchhaaBdr
namespace Go.Proofs.Ytoejnhfcegchhaa.Bk
open Go Go.Sl Go.RowKit Go.Proofs Go.Proofs.Ytoejnhfcegchhaa.T Go.Proofs.Ytoejnhfcegchhaa.Ms Go.Proofs.Ytoejnhfcegchhaa.Vd
set_option linter.unusedVariables false
set_option linter.unusedSimpArgs false
set_option maxRecDepth 100000
structure Qt where
  l : List CR
  a : Option Addr
  c : Nat
  js : List CJ
  bs : B
  qa : Option Addr
  qc : Nat
structure Qt.OK (s : Bs) (now : Int) (t : Qt) : Prop where
  ok : (s.at t.bs (t.js.map CJ.abs)).OK
  len : t.bs.length = s.bytes.length
  ll : t.l.length + t.js.length ≤ 32
  eq : pollL now s.bytes s.q = (t.l.map CR.abs ++ (pollL now t.bs (t.js.map CJ.abs)).1, (pollL now t.bs (t.js.map CJ.abs)).2)
section
variable (W0 : World) (Fr : List HProp)
set_option maxHeartbeats 1000000 in
theorem rsubmit_bad {b : Nat} {s : Bs} {r : CR} {now : Int} (he : subBE s r.write r.sector r.m.b.length now ≠ 0) :
    Ctr Try.prog W0 30 [.pointer (some ⟨b, 0, none⟩), .agg r.cells.toArray, .int .i64 now] (Rl b s :: Fr) (fun _ : Unit => True) (fun _ => .int .i64 (subBE s r.write r.sector r.m.b.length now)) (fun _ => Rl b s :: Fr) := by
  refine Ctr.ex Ext.here rl_open ?_
  intro x hx
  refine Ctr.imp star_open ?_
  have hln := hx.len
  have hok := hx.ok
  have hnd : s.n = s.bytes.length / 64 := rfl
  obtain ⟨nn, hbl, hnn⟩ := hok.len
  have hcl := rl_close (b := b) (G := Fr) x hx
  obtain ⟨part, tag, write, sector, m⟩ := r
  dsimp only [RO, List.cons_append, List.nil_append] at he hcl ⊢
  refine Ctr.of_body Try.func30 rfl Try.ntmps30 rfl ?_
  refine CG.seq ?_
  refine CG.region ?_
  refine OG.effd (Eff.box rfl) rfl ?_
  rintro b4 -
  refine OG.yield (Yield.assign rfl) rfl ?_
  refine OG.nil ?_
  refine QG.then ?_
  refine CG.seq ?_
  refine CG.seq ?_
  rcases subBE_bad he with hh | hh | hh | hh | ⟨hh1, hh2, rfl, hh⟩ | ⟨hh1, hh2, rfl, hh⟩ | ⟨hh1, hh2, ⟨rfl, hh3⟩, hh⟩
  · skip
    refine CG.draw (.look 0 1 (.look 1 1 (.look 2 1 (.look 3 1 (.look 4 1 (.look 5 1 (.look 6 1 (.look 7 1 (.look 8 1 (.look 9 1 (.look 10 1 (.look 11 1 (.look 12 0 (.look 13 0 (.look 14 1 (.eff1 15 false (.look 16 1 (.look 17 1 (.done))))))))))))))))))) [15] [] ([]) ([]) mixed (by kernel_rfl) (Imp.none _) (Imp.none _) ?_
    refine DG.look rfl rfl (Yield.move rfl) rfl ?_
    refine DG.look rfl rfl (by first | exact Yield.as (Yield.lss rfl rfl) (bT (by omega)) | exact Yield.as (Yield.lss rfl rfl) (bF (by omega)) | exact Yield.lss rfl rfl) rfl ?_
    refine DG.look rfl rfl (Yield.move rfl) rfl ?_
    refine DG.pass rfl rfl rfl ?_
    refine DG.pass rfl rfl rfl ?_
    refine DG.look rfl rfl (by first | exact Yield.pick_t rfl rfl | exact Yield.pick_f rfl rfl | exact Yield.pick rfl (fun _ => rfl) (fun _ => rfl)) rfl ?_
    refine DG.look rfl rfl (Yield.move rfl) rfl ?_
    refine DG.pass rfl rfl rfl ?_
    refine DG.pass rfl rfl rfl ?_
    refine DG.pass rfl rfl rfl ?_
    refine DG.look rfl rfl (by first | exact Yield.pick_t rfl rfl | exact Yield.pick_f rfl rfl | exact Yield.pick rfl (fun _ => rfl) (fun _ => rfl)) rfl ?_
    refine DG.look rfl rfl (Yield.move rfl) rfl ?_
    refine DG.pass rfl rfl rfl ?_
    refine DG.pass rfl rfl rfl ?_
    refine DG.pass rfl rfl rfl ?_
    refine DG.eff1 ?_
    refine Chg.pass rfl rfl rfl ?_ (by repeat (first | exact Imp.refl _ | exact Imp.none _ | apply Imp.pull (by repeat (first | exact Ext.here | apply Ext.there)) | apply Imp.trans Imp.drop)) (by repeat (first | exact Imp.refl _ | exact Imp.none _ | apply Imp.pull (by repeat (first | exact Ext.here | apply Ext.there)) | apply Imp.trans Imp.drop))
    refine DG.pass rfl rfl rfl ?_
    refine DG.look rfl rfl (by first | exact Yield.pick_t rfl rfl | exact Yield.pick_f rfl rfl | exact Yield.pick rfl (fun _ => rfl) (fun _ => rfl)) rfl ?_
    refine DG.done ?_
    refine QG.then ?_
    refine CG.cond_t rfl ?_
    refine CG.seq ?_
    refine CG.region ?_
    refine OG.yield (Yield.assign rfl) rfl ?_
    refine OG.nil ?_
    refine QG.then ?_
    refine CG.ret ?_
    refine QG.pass_ret ?_
    exact QG.ret1 rfl rfl () trivial (by unfold subBE; rw [if_pos (by omega)]) (Imp.trans (by repeat (first | exact Imp.refl _ | exact Imp.none _ | apply Imp.pull (by repeat (first | exact Ext.here | apply Ext.there)) | apply Imp.trans Imp.drop)) hcl)
  · skip
    refine CG.draw (.look 0 1 (.look 1 1 (.look 2 1 (.look 3 1 (.look 4 1 (.look 5 1 (.look 6 1 (.look 7 1 (.look 8 1 (.look 9 1 (.look 10 1 (.look 11 1 (.look 12 0 (.look 13 0 (.look 14 1 (.eff1 15 false (.look 16 1 (.look 17 1 (.done))))))))))))))))))) [15] [] ([]) ([]) mixed (by kernel_rfl) (Imp.none _) (Imp.none _) ?_
    refine DG.look rfl rfl (Yield.move rfl) rfl ?_
    refine DG.look rfl rfl (by first | exact Yield.as (Yield.lss rfl rfl) (bT (by omega)) | exact Yield.as (Yield.lss rfl rfl) (bF (by omega)) | exact Yield.lss rfl rfl) rfl ?_
    refine DG.look rfl rfl (Yield.move rfl) rfl ?_
    refine DG.look rfl rfl (Yield.move rfl) rfl ?_
    refine DG.look rfl rfl (by first | exact Yield.as (Yield.gtr rfl rfl) (bT (by omega)) | exact Yield.as (Yield.gtr rfl rfl) (bF (by omega)) | exact Yield.gtr rfl rfl) rfl ?_
    refine DG.look rfl rfl (by first | exact Yield.pick_t rfl rfl | exact Yield.pick_f rfl rfl | exact Yield.pick rfl (fun _ => rfl) (fun _ => rfl)) rfl ?_
    refine DG.look rfl rfl (Yield.move rfl) rfl ?_
    refine DG.pass rfl rfl rfl ?_
    refine DG.pass rfl rfl rfl ?_
    refine DG.pass rfl rfl rfl ?_
    refine DG.look rfl rfl (by first | exact Yield.pick_t rfl rfl | exact Yield.pick_f rfl rfl | exact Yield.pick rfl (fun _ => rfl) (fun _ => rfl)) rfl ?_
    refine DG.look rfl rfl (Yield.move rfl) rfl ?_
    refine DG.pass rfl rfl rfl ?_
    refine DG.pass rfl rfl rfl ?_
    refine DG.pass rfl rfl rfl ?_
    refine DG.eff1 ?_
    refine Chg.pass rfl rfl rfl ?_ (by repeat (first | exact Imp.refl _ | exact Imp.none _ | apply Imp.pull (by repeat (first | exact Ext.here | apply Ext.there)) | apply Imp.trans Imp.drop)) (by repeat (first | exact Imp.refl _ | exact Imp.none _ | apply Imp.pull (by repeat (first | exact Ext.here | apply Ext.there)) | apply Imp.trans Imp.drop))
    refine DG.pass rfl rfl rfl ?_
    refine DG.look rfl rfl (by first | exact Yield.pick_t rfl rfl | exact Yield.pick_f rfl rfl | exact Yield.pick rfl (fun _ => rfl) (fun _ => rfl)) rfl ?_
    refine DG.done ?_
    refine QG.then ?_
    refine CG.cond_t rfl ?_
    refine CG.seq ?_
    refine CG.region ?_
    refine OG.yield (Yield.assign rfl) rfl ?_
    refine OG.nil ?_
    refine QG.then ?_
    refine CG.ret ?_
    refine QG.pass_ret ?_
    exact QG.ret1 rfl rfl () trivial (by unfold subBE; rw [if_pos (by omega)]) (Imp.trans (by repeat (first | exact Imp.refl _ | exact Imp.none _ | apply Imp.pull (by repeat (first | exact Ext.here | apply Ext.there)) | apply Imp.trans Imp.drop)) hcl)
  · skip
    refine CG.draw (.look 0 1 (.look 1 1 (.look 2 1 (.look 3 1 (.look 4 1 (.look 5 1 (.look 6 1 (.look 7 1 (.look 8 1 (.look 9 1 (.look 10 1 (.look 11 1 (.look 12 0 (.look 13 0 (.look 14 1 (.eff1 15 false (.look 16 1 (.look 17 1 (.done))))))))))))))))))) [15] [] ([blk b4 (CR.cells ⟨part, tag, write, sector, m⟩) 40]) ([]) mixed (by kernel_rfl) ((by repeat (first | exact Imp.refl _ | exact Imp.none _ | apply Imp.pull (by repeat (first | exact Ext.here | apply Ext.there)) | apply Imp.trans Imp.drop))) (Imp.none _) ?_
    refine DG.look rfl rfl (Yield.move rfl) rfl ?_
    refine DG.look rfl rfl (by first | exact Yield.as (Yield.lss rfl rfl) (bT (by omega)) | exact Yield.as (Yield.lss rfl rfl) (bF (by omega)) | exact Yield.lss rfl rfl) rfl ?_
    refine DG.look rfl rfl (Yield.move rfl) rfl ?_
    refine DG.look rfl rfl (Yield.move rfl) rfl ?_
    refine DG.look rfl rfl (by first | exact Yield.as (Yield.gtr rfl rfl) (bT (by omega)) | exact Yield.as (Yield.gtr rfl rfl) (bF (by omega)) | exact Yield.gtr rfl rfl) rfl ?_
    refine DG.look rfl rfl (by first | exact Yield.pick_t rfl rfl | exact Yield.pick_f rfl rfl | exact Yield.pick rfl (fun _ => rfl) (fun _ => rfl)) rfl ?_
    refine DG.look rfl rfl (Yield.move rfl) rfl ?_
    refine DG.look rfl rfl (Yield.fieldAddr fa40_3 rfl) rfl ?_
    refine DG.look rfl rfl (Yield.load (v := .int .i64 sector) ti3 rfl (Cel.of_blk (b := b4) (by repeat (first | exact Ext.here | apply Ext.there)) rfl)) rfl ?_
    refine DG.look rfl rfl (by first | exact Yield.as (Yield.lss rfl rfl) (bT (by omega)) | exact Yield.as (Yield.lss rfl rfl) (bF (by omega)) | exact Yield.lss rfl rfl) rfl ?_
    refine DG.look rfl rfl (by first | exact Yield.pick_t rfl rfl | exact Yield.pick_f rfl rfl | exact Yield.pick rfl (fun _ => rfl) (fun _ => rfl)) rfl ?_
    refine DG.look rfl rfl (Yield.move rfl) rfl ?_
    refine DG.pass rfl rfl rfl ?_
    refine DG.pass rfl rfl rfl ?_
    refine DG.pass rfl rfl rfl ?_
    refine DG.eff1 ?_
    refine Chg.pass rfl rfl rfl ?_ (by repeat (first | exact Imp.refl _ | exact Imp.none _ | apply Imp.pull (by repeat (first | exact Ext.here | apply Ext.there)) | apply Imp.trans Imp.drop)) (by repeat (first | exact Imp.refl _ | exact Imp.none _ | apply Imp.pull (by repeat (first | exact Ext.here | apply Ext.there)) | apply Imp.trans Imp.drop))
    refine DG.pass rfl rfl rfl ?_
    refine DG.look rfl rfl (by first | exact Yield.pick_t rfl rfl | exact Yield.pick_f rfl rfl | exact Yield.pick rfl (fun _ => rfl) (fun _ => rfl)) rfl ?_
    refine DG.done ?_
    refine QG.then ?_
    refine CG.cond_t rfl ?_
    refine CG.seq ?_
    refine CG.region ?_
    refine OG.yield (Yield.assign rfl) rfl ?_
    refine OG.nil ?_
    refine QG.then ?_
    refine CG.ret ?_
    refine QG.pass_ret ?_
    exact QG.ret1 rfl rfl () trivial (by unfold subBE; rw [if_pos (by omega)]) (Imp.trans (by repeat (first | exact Imp.refl _ | exact Imp.none _ | apply Imp.pull (by repeat (first | exact Ext.here | apply Ext.there)) | apply Imp.trans Imp.drop)) hcl)
  · skip
    refine CG.draw (.look 0 1 (.look 1 1 (.look 2 1 (.look 3 1 (.look 4 1 (.look 5 1 (.look 6 1 (.look 7 1 (.look 8 1 (.look 9 1 (.look 10 1 (.look 11 1 (.look 12 0 (.look 13 0 (.look 14 1 (.eff1 15 false (.look 16 1 (.look 17 1 (.done))))))))))))))))))) [15] [] ([blk b4 (CR.cells ⟨part, tag, write, sector, m⟩) 40]) ([]) mixed (by kernel_rfl) ((by repeat (first | exact Imp.refl _ | exact Imp.none _ | apply Imp.pull (by repeat (first | exact Ext.here | apply Ext.there)) | apply Imp.trans Imp.drop))) (Imp.none _) ?_
    refine DG.look rfl rfl (Yield.move rfl) rfl ?_
    refine DG.look rfl rfl (by first | exact Yield.as (Yield.lss rfl rfl) (bT (by omega)) | exact Yield.as (Yield.lss rfl rfl) (bF (by omega)) | exact Yield.lss rfl rfl) rfl ?_
    refine DG.look rfl rfl (Yield.move rfl) rfl ?_
    refine DG.look rfl rfl (Yield.move rfl) rfl ?_
    refine DG.look rfl rfl (by first | exact Yield.as (Yield.gtr rfl rfl) (bT (by omega)) | exact Yield.as (Yield.gtr rfl rfl) (bF (by omega)) | exact Yield.gtr rfl rfl) rfl ?_
    refine DG.look rfl rfl (by first | exact Yield.pick_t rfl rfl | exact Yield.pick_f rfl rfl | exact Yield.pick rfl (fun _ => rfl) (fun _ => rfl)) rfl ?_
    refine DG.look rfl rfl (Yield.move rfl) rfl ?_
    refine DG.look rfl rfl (Yield.fieldAddr fa40_3 rfl) rfl ?_
    refine DG.look rfl rfl (Yield.load (v := .int .i64 sector) ti3 rfl (Cel.of_blk (b := b4) (by repeat (first | exact Ext.here | apply Ext.there)) rfl)) rfl ?_
    refine DG.look rfl rfl (by first | exact Yield.as (Yield.lss rfl rfl) (bT (by omega)) | exact Yield.as (Yield.lss rfl rfl) (bF (by omega)) | exact Yield.lss rfl rfl) rfl ?_
    refine DG.look rfl rfl (by first | exact Yield.pick_t rfl rfl | exact Yield.pick_f rfl rfl | exact Yield.pick rfl (fun _ => rfl) (fun _ => rfl)) rfl ?_
    refine DG.look rfl rfl (Yield.move rfl) rfl ?_
    refine DG.look rfl rfl (Yield.fieldAddr fa40_3 rfl) rfl ?_
    refine DG.look rfl rfl (Yield.load (v := .int .i64 sector) ti3 rfl (Cel.of_blk (b := b4) (by repeat (first | exact Ext.here | apply Ext.there)) rfl)) rfl ?_
    refine DG.look rfl rfl (Yield.move rfl) rfl ?_
    refine DG.eff1 ?_
    refine Chg.callo rfl rfl call64 rfl (Imp.refl _) (rsectors_spec W0 _ (b := b) (m := s.bytes.length) (Cel.of_blk (b := b) (by repeat (first | exact Ext.here | apply Ext.there)) rfl) (by omega)) rfl (fun _ => (by repeat (first | exact Imp.refl _ | exact Imp.none _ | apply Imp.pull (by repeat (first | exact Ext.here | apply Ext.there)) | apply Imp.trans Imp.drop))) (fun _ => Imp.refl _) (fun _ => (by repeat (first | exact Imp.refl _ | exact Imp.none _ | apply Imp.pull (by repeat (first | exact Ext.here | apply Ext.there)) | apply Imp.trans Imp.drop))) ?_
    rintro ⟨⟩ -
    refine DG.look rfl rfl (by first | exact Yield.as (Yield.geq rfl rfl) (bT (by omega)) | exact Yield.as (Yield.geq rfl rfl) (bF (by omega)) | exact Yield.geq rfl rfl) rfl ?_
    refine DG.look rfl rfl (by first | exact Yield.pick_t rfl rfl | exact Yield.pick_f rfl rfl | exact Yield.pick rfl (fun _ => rfl) (fun _ => rfl)) rfl ?_
    refine DG.done ?_
    refine QG.then ?_
    refine CG.cond_t rfl ?_
    refine CG.seq ?_
    refine CG.region ?_
    refine OG.yield (Yield.assign rfl) rfl ?_
    refine OG.nil ?_
    refine QG.then ?_
    refine CG.ret ?_
    refine QG.pass_ret ?_
    exact QG.ret1 rfl rfl () trivial (by unfold subBE; rw [if_pos (by omega)]) (Imp.trans (by repeat (first | exact Imp.refl _ | exact Imp.none _ | apply Imp.pull (by repeat (first | exact Ext.here | apply Ext.there)) | apply Imp.trans Imp.drop)) hcl)
  · skip
    refine CG.draw (.look 0 1 (.look 1 1 (.look 2 1 (.look 3 1 (.look 4 1 (.look 5 1 (.look 6 1 (.look 7 1 (.look 8 1 (.look 9 1 (.look 10 1 (.look 11 1 (.look 12 0 (.look 13 0 (.look 14 1 (.eff1 15 false (.look 16 1 (.look 17 1 (.done))))))))))))))))))) [15] [] ([blk b4 (CR.cells ⟨part, tag, true, sector, m⟩) 40]) ([]) mixed (by kernel_rfl) ((by repeat (first | exact Imp.refl _ | exact Imp.none _ | apply Imp.pull (by repeat (first | exact Ext.here | apply Ext.there)) | apply Imp.trans Imp.drop))) (Imp.none _) ?_
    refine DG.look rfl rfl (Yield.move rfl) rfl ?_
    refine DG.look rfl rfl (by first | exact Yield.as (Yield.lss rfl rfl) (bT (by omega)) | exact Yield.as (Yield.lss rfl rfl) (bF (by omega)) | exact Yield.lss rfl rfl) rfl ?_
    refine DG.look rfl rfl (Yield.move rfl) rfl ?_
    refine DG.look rfl rfl (Yield.move rfl) rfl ?_
    refine DG.look rfl rfl (by first | exact Yield.as (Yield.gtr rfl rfl) (bT (by omega)) | exact Yield.as (Yield.gtr rfl rfl) (bF (by omega)) | exact Yield.gtr rfl rfl) rfl ?_
    refine DG.look rfl rfl (by first | exact Yield.pick_t rfl rfl | exact Yield.pick_f rfl rfl | exact Yield.pick rfl (fun _ => rfl) (fun _ => rfl)) rfl ?_
    refine DG.look rfl rfl (Yield.move rfl) rfl ?_
    refine DG.look rfl rfl (Yield.fieldAddr fa40_3 rfl) rfl ?_
    refine DG.look rfl rfl (Yield.load (v := .int .i64 sector) ti3 rfl (Cel.of_blk (b := b4) (by repeat (first | exact Ext.here | apply Ext.there)) rfl)) rfl ?_
    refine DG.look rfl rfl (by first | exact Yield.as (Yield.lss rfl rfl) (bT (by omega)) | exact Yield.as (Yield.lss rfl rfl) (bF (by omega)) | exact Yield.lss rfl rfl) rfl ?_
    refine DG.look rfl rfl (by first | exact Yield.pick_t rfl rfl | exact Yield.pick_f rfl rfl | exact Yield.pick rfl (fun _ => rfl) (fun _ => rfl)) rfl ?_
    refine DG.look rfl rfl (Yield.move rfl) rfl ?_
    refine DG.look rfl rfl (Yield.fieldAddr fa40_3 rfl) rfl ?_
    refine DG.look rfl rfl (Yield.load (v := .int .i64 sector) ti3 rfl (Cel.of_blk (b := b4) (by repeat (first | exact Ext.here | apply Ext.there)) rfl)) rfl ?_
    refine DG.look rfl rfl (Yield.move rfl) rfl ?_
    refine DG.eff1 ?_
    refine Chg.callo rfl rfl call64 rfl (Imp.refl _) (rsectors_spec W0 _ (b := b) (m := s.bytes.length) (Cel.of_blk (b := b) (by repeat (first | exact Ext.here | apply Ext.there)) rfl) (by omega)) rfl (fun _ => (by repeat (first | exact Imp.refl _ | exact Imp.none _ | apply Imp.pull (by repeat (first | exact Ext.here | apply Ext.there)) | apply Imp.trans Imp.drop))) (fun _ => Imp.refl _) (fun _ => (by repeat (first | exact Imp.refl _ | exact Imp.none _ | apply Imp.pull (by repeat (first | exact Ext.here | apply Ext.there)) | apply Imp.trans Imp.drop))) ?_
    rintro ⟨⟩ -
    refine DG.look rfl rfl (by first | exact Yield.as (Yield.geq rfl rfl) (bT (by omega)) | exact Yield.as (Yield.geq rfl rfl) (bF (by omega)) | exact Yield.geq rfl rfl) rfl ?_
    refine DG.look rfl rfl (by first | exact Yield.pick_t rfl rfl | exact Yield.pick_f rfl rfl | exact Yield.pick rfl (fun _ => rfl) (fun _ => rfl)) rfl ?_
    refine DG.done ?_
    refine QG.then ?_
    refine CG.cond_f rfl ?_
    refine CG.skip ?_
    refine QG.then ?_
    refine CG.seq ?_
    refine CG.seq ?_
    refine CG.region ?_
    refine OG.yield (Yield.fieldAddr fa40_2 rfl) rfl ?_
    refine OG.yield (Yield.load (v := .bool true) ti4 rfl (Cel.of_blk (b := b4) (by repeat (first | exact Ext.here | apply Ext.there)) rfl)) rfl ?_
    refine OG.yield (Yield.move rfl) rfl ?_
    refine OG.guard_yes rfl rfl rfl (by decide) ?_
    refine OG.yield (Yield.fieldAddr fa40_4 rfl) rfl ?_
    refine OG.guard_yes rfl rfl rfl (by decide) ?_
    refine OG.yield (Yield.load (v := m.cell) ti36 rfl (Cel.of_blk (b := b4) (by repeat (first | exact Ext.here | apply Ext.there)) rfl)) rfl ?_
    refine OG.guard_yes rfl rfl rfl (by decide) ?_
    refine OG.yield (Yield.len_slice (a := m.a) (m := m.b.length) (c := m.c) Try.underlying36 rfl rfl) rfl ?_
    refine OG.guard_yes rfl rfl rfl (by decide) ?_
    refine OG.yield (by first | exact Yield.as (Yield.neq rfl rfl) (bT (by omega)) | exact Yield.as (Yield.neq rfl rfl) (bF (by omega)) | exact Yield.neq rfl rfl) rfl ?_
    refine OG.yield (by first | exact Yield.pick_t rfl rfl | exact Yield.pick_f rfl rfl | exact Yield.pick rfl (fun _ => rfl) (fun _ => rfl)) rfl ?_
    refine OG.nil ?_
    refine QG.then ?_
    refine CG.cond_t rfl ?_
    refine CG.seq ?_
    refine CG.region ?_
    refine OG.yield (Yield.assign rfl) rfl ?_
    refine OG.nil ?_
    refine QG.then ?_
    refine CG.ret ?_
    refine QG.pass_ret ?_
    exact QG.ret1 rfl rfl () trivial (by unfold subBE; rw [if_neg (by omega), if_pos ⟨rfl, hh⟩]) (Imp.trans (by repeat (first | exact Imp.refl _ | exact Imp.none _ | apply Imp.pull (by repeat (first | exact Ext.here | apply Ext.there)) | apply Imp.trans Imp.drop)) hcl)
  · skip
    refine CG.draw (.look 0 1 (.look 1 1 (.look 2 1 (.look 3 1 (.look 4 1 (.look 5 1 (.look 6 1 (.look 7 1 (.look 8 1 (.look 9 1 (.look 10 1 (.look 11 1 (.look 12 0 (.look 13 0 (.look 14 1 (.eff1 15 false (.look 16 1 (.look 17 1 (.done))))))))))))))))))) [15] [] ([blk b4 (CR.cells ⟨part, tag, false, sector, m⟩) 40]) ([]) mixed (by kernel_rfl) ((by repeat (first | exact Imp.refl _ | exact Imp.none _ | apply Imp.pull (by repeat (first | exact Ext.here | apply Ext.there)) | apply Imp.trans Imp.drop))) (Imp.none _) ?_
    refine DG.look rfl rfl (Yield.move rfl) rfl ?_
    refine DG.look rfl rfl (by first | exact Yield.as (Yield.lss rfl rfl) (bT (by omega)) | exact Yield.as (Yield.lss rfl rfl) (bF (by omega)) | exact Yield.lss rfl rfl) rfl ?_
    refine DG.look rfl rfl (Yield.move rfl) rfl ?_
    refine DG.look rfl rfl (Yield.move rfl) rfl ?_
    refine DG.look rfl rfl (by first | exact Yield.as (Yield.gtr rfl rfl) (bT (by omega)) | exact Yield.as (Yield.gtr rfl rfl) (bF (by omega)) | exact Yield.gtr rfl rfl) rfl ?_
    refine DG.look rfl rfl (by first | exact Yield.pick_t rfl rfl | exact Yield.pick_f rfl rfl | exact Yield.pick rfl (fun _ => rfl) (fun _ => rfl)) rfl ?_
    refine DG.look rfl rfl (Yield.move rfl) rfl ?_
    refine DG.look rfl rfl (Yield.fieldAddr fa40_3 rfl) rfl ?_
    refine DG.look rfl rfl (Yield.load (v := .int .i64 sector) ti3 rfl (Cel.of_blk (b := b4) (by repeat (first | exact Ext.here | apply Ext.there)) rfl)) rfl ?_
    refine DG.look rfl rfl (by first | exact Yield.as (Yield.lss rfl rfl) (bT (by omega)) | exact Yield.as (Yield.lss rfl rfl) (bF (by omega)) | exact Yield.lss rfl rfl) rfl ?_
    refine DG.look rfl rfl (by first | exact Yield.pick_t rfl rfl | exact Yield.pick_f rfl rfl | exact Yield.pick rfl (fun _ => rfl) (fun _ => rfl)) rfl ?_
    refine DG.look rfl rfl (Yield.move rfl) rfl ?_
    refine DG.look rfl rfl (Yield.fieldAddr fa40_3 rfl) rfl ?_
    refine DG.look rfl rfl (Yield.load (v := .int .i64 sector) ti3 rfl (Cel.of_blk (b := b4) (by repeat (first | exact Ext.here | apply Ext.there)) rfl)) rfl ?_
    refine DG.look rfl rfl (Yield.move rfl) rfl ?_
    refine DG.eff1 ?_
    refine Chg.callo rfl rfl call64 rfl (Imp.refl _) (rsectors_spec W0 _ (b := b) (m := s.bytes.length) (Cel.of_blk (b := b) (by repeat (first | exact Ext.here | apply Ext.there)) rfl) (by omega)) rfl (fun _ => (by repeat (first | exact Imp.refl _ | exact Imp.none _ | apply Imp.pull (by repeat (first | exact Ext.here | apply Ext.there)) | apply Imp.trans Imp.drop))) (fun _ => Imp.refl _) (fun _ => (by repeat (first | exact Imp.refl _ | exact Imp.none _ | apply Imp.pull (by repeat (first | exact Ext.here | apply Ext.there)) | apply Imp.trans Imp.drop))) ?_
    rintro ⟨⟩ -
    refine DG.look rfl rfl (by first | exact Yield.as (Yield.geq rfl rfl) (bT (by omega)) | exact Yield.as (Yield.geq rfl rfl) (bF (by omega)) | exact Yield.geq rfl rfl) rfl ?_
    refine DG.look rfl rfl (by first | exact Yield.pick_t rfl rfl | exact Yield.pick_f rfl rfl | exact Yield.pick rfl (fun _ => rfl) (fun _ => rfl)) rfl ?_
    refine DG.done ?_
    refine QG.then ?_
    refine CG.cond_f rfl ?_
    refine CG.skip ?_
    refine QG.then ?_
    refine CG.seq ?_
    refine CG.seq ?_
    refine CG.region ?_
    refine OG.yield (Yield.fieldAddr fa40_2 rfl) rfl ?_
    refine OG.yield (Yield.load (v := .bool false) ti4 rfl (Cel.of_blk (b := b4) (by repeat (first | exact Ext.here | apply Ext.there)) rfl)) rfl ?_
    refine OG.yield (Yield.move rfl) rfl ?_
    refine OG.guard_no rfl rfl rfl rfl rfl (by decide) (by decide) ?_
    refine OG.guard_no rfl rfl rfl rfl rfl (by decide) (by decide) ?_
    refine OG.guard_no rfl rfl rfl rfl rfl (by decide) (by decide) ?_
    refine OG.guard_no rfl rfl rfl rfl rfl (by decide) (by decide) ?_
    refine OG.yield (by first | exact Yield.pick_t rfl rfl | exact Yield.pick_f rfl rfl | exact Yield.pick rfl (fun _ => rfl) (fun _ => rfl)) rfl ?_
    refine OG.nil ?_
    refine QG.then ?_
    refine CG.cond_f rfl ?_
    refine CG.skip ?_
    refine QG.then ?_
    refine CG.seq ?_
    refine CG.seq ?_
    refine CG.region ?_
    refine OG.yield (Yield.move rfl) rfl ?_
    refine OG.yield (Yield.nilCheck rfl) rfl ?_
    refine OG.yield (Yield.fieldAddr fa121_4 rfl) rfl ?_
    refine OG.yield (Yield.load (v := .slice x.qa x.js.length x.qc) ti119 rfl (Cel.of_blk (b := b) (by repeat (first | exact Ext.here | apply Ext.there)) rfl)) rfl ?_
    refine OG.yield (Yield.len_slice (a := x.qa) (m := x.js.length) (c := x.qc) Try.underlying119 rfl rfl) rfl ?_
    refine OG.yield (by first | exact Yield.as (Yield.geq rfl rfl) (bT (by omega)) | exact Yield.as (Yield.geq rfl rfl) (bF (by omega)) | exact Yield.geq rfl rfl) rfl ?_
    refine OG.nil ?_
    refine QG.then ?_
    refine CG.cond_t rfl ?_
    refine CG.seq ?_
    refine CG.region ?_
    refine OG.yield (Yield.assign rfl) rfl ?_
    refine OG.nil ?_
    refine QG.then ?_
    refine CG.ret ?_
    refine QG.pass_ret ?_
    exact QG.ret1 rfl rfl () trivial (by unfold subBE; rw [if_neg (by omega), if_neg (by simp), if_pos hh]) (Imp.trans (by repeat (first | exact Imp.refl _ | exact Imp.none _ | apply Imp.pull (by repeat (first | exact Ext.here | apply Ext.there)) | apply Imp.trans Imp.drop)) hcl)
  · skip
    refine CG.draw (.look 0 1 (.look 1 1 (.look 2 1 (.look 3 1 (.look 4 1 (.look 5 1 (.look 6 1 (.look 7 1 (.look 8 1 (.look 9 1 (.look 10 1 (.look 11 1 (.look 12 0 (.look 13 0 (.look 14 1 (.eff1 15 false (.look 16 1 (.look 17 1 (.done))))))))))))))))))) [15] [] ([blk b4 (CR.cells ⟨part, tag, true, sector, m⟩) 40]) ([]) mixed (by kernel_rfl) ((by repeat (first | exact Imp.refl _ | exact Imp.none _ | apply Imp.pull (by repeat (first | exact Ext.here | apply Ext.there)) | apply Imp.trans Imp.drop))) (Imp.none _) ?_
    refine DG.look rfl rfl (Yield.move rfl) rfl ?_
    refine DG.look rfl rfl (by first | exact Yield.as (Yield.lss rfl rfl) (bT (by omega)) | exact Yield.as (Yield.lss rfl rfl) (bF (by omega)) | exact Yield.lss rfl rfl) rfl ?_
    refine DG.look rfl rfl (Yield.move rfl) rfl ?_
    refine DG.look rfl rfl (Yield.move rfl) rfl ?_
    refine DG.look rfl rfl (by first | exact Yield.as (Yield.gtr rfl rfl) (bT (by omega)) | exact Yield.as (Yield.gtr rfl rfl) (bF (by omega)) | exact Yield.gtr rfl rfl) rfl ?_
    refine DG.look rfl rfl (by first | exact Yield.pick_t rfl rfl | exact Yield.pick_f rfl rfl | exact Yield.pick rfl (fun _ => rfl) (fun _ => rfl)) rfl ?_
    refine DG.look rfl rfl (Yield.move rfl) rfl ?_
    refine DG.look rfl rfl (Yield.fieldAddr fa40_3 rfl) rfl ?_
    refine DG.look rfl rfl (Yield.load (v := .int .i64 sector) ti3 rfl (Cel.of_blk (b := b4) (by repeat (first | exact Ext.here | apply Ext.there)) rfl)) rfl ?_
    refine DG.look rfl rfl (by first | exact Yield.as (Yield.lss rfl rfl) (bT (by omega)) | exact Yield.as (Yield.lss rfl rfl) (bF (by omega)) | exact Yield.lss rfl rfl) rfl ?_
    refine DG.look rfl rfl (by first | exact Yield.pick_t rfl rfl | exact Yield.pick_f rfl rfl | exact Yield.pick rfl (fun _ => rfl) (fun _ => rfl)) rfl ?_
    refine DG.look rfl rfl (Yield.move rfl) rfl ?_
    refine DG.look rfl rfl (Yield.fieldAddr fa40_3 rfl) rfl ?_
    refine DG.look rfl rfl (Yield.load (v := .int .i64 sector) ti3 rfl (Cel.of_blk (b := b4) (by repeat (first | exact Ext.here | apply Ext.there)) rfl)) rfl ?_
    refine DG.look rfl rfl (Yield.move rfl) rfl ?_
    refine DG.eff1 ?_
    refine Chg.callo rfl rfl call64 rfl (Imp.refl _) (rsectors_spec W0 _ (b := b) (m := s.bytes.length) (Cel.of_blk (b := b) (by repeat (first | exact Ext.here | apply Ext.there)) rfl) (by omega)) rfl (fun _ => (by repeat (first | exact Imp.refl _ | exact Imp.none _ | apply Imp.pull (by repeat (first | exact Ext.here | apply Ext.there)) | apply Imp.trans Imp.drop))) (fun _ => Imp.refl _) (fun _ => (by repeat (first | exact Imp.refl _ | exact Imp.none _ | apply Imp.pull (by repeat (first | exact Ext.here | apply Ext.there)) | apply Imp.trans Imp.drop))) ?_
    rintro ⟨⟩ -
    refine DG.look rfl rfl (by first | exact Yield.as (Yield.geq rfl rfl) (bT (by omega)) | exact Yield.as (Yield.geq rfl rfl) (bF (by omega)) | exact Yield.geq rfl rfl) rfl ?_
    refine DG.look rfl rfl (by first | exact Yield.pick_t rfl rfl | exact Yield.pick_f rfl rfl | exact Yield.pick rfl (fun _ => rfl) (fun _ => rfl)) rfl ?_
    refine DG.done ?_
    refine QG.then ?_
    refine CG.cond_f rfl ?_
    refine CG.skip ?_
    refine QG.then ?_
    refine CG.seq ?_
    refine CG.seq ?_
    refine CG.region ?_
    refine OG.yield (Yield.fieldAddr fa40_2 rfl) rfl ?_
    refine OG.yield (Yield.load (v := .bool true) ti4 rfl (Cel.of_blk (b := b4) (by repeat (first | exact Ext.here | apply Ext.there)) rfl)) rfl ?_
    refine OG.yield (Yield.move rfl) rfl ?_
    refine OG.guard_yes rfl rfl rfl (by decide) ?_
    refine OG.yield (Yield.fieldAddr fa40_4 rfl) rfl ?_
    refine OG.guard_yes rfl rfl rfl (by decide) ?_
    refine OG.yield (Yield.load (v := m.cell) ti36 rfl (Cel.of_blk (b := b4) (by repeat (first | exact Ext.here | apply Ext.there)) rfl)) rfl ?_
    refine OG.guard_yes rfl rfl rfl (by decide) ?_
    refine OG.yield (Yield.len_slice (a := m.a) (m := m.b.length) (c := m.c) Try.underlying36 rfl rfl) rfl ?_
    refine OG.guard_yes rfl rfl rfl (by decide) ?_
    refine OG.yield (by first | exact Yield.as (Yield.neq rfl rfl) (bT (by omega)) | exact Yield.as (Yield.neq rfl rfl) (bF (by omega)) | exact Yield.neq rfl rfl) rfl ?_
    refine OG.yield (by first | exact Yield.pick_t rfl rfl | exact Yield.pick_f rfl rfl | exact Yield.pick rfl (fun _ => rfl) (fun _ => rfl)) rfl ?_
    refine OG.nil ?_
    refine QG.then ?_
    refine CG.cond_f rfl ?_
    refine CG.skip ?_
    refine QG.then ?_
    refine CG.seq ?_
    refine CG.seq ?_
    refine CG.region ?_
    refine OG.yield (Yield.move rfl) rfl ?_
    refine OG.yield (Yield.nilCheck rfl) rfl ?_
    refine OG.yield (Yield.fieldAddr fa121_4 rfl) rfl ?_
    refine OG.yield (Yield.load (v := .slice x.qa x.js.length x.qc) ti119 rfl (Cel.of_blk (b := b) (by repeat (first | exact Ext.here | apply Ext.there)) rfl)) rfl ?_
    refine OG.yield (Yield.len_slice (a := x.qa) (m := x.js.length) (c := x.qc) Try.underlying119 rfl rfl) rfl ?_
    refine OG.yield (by first | exact Yield.as (Yield.geq rfl rfl) (bT (by omega)) | exact Yield.as (Yield.geq rfl rfl) (bF (by omega)) | exact Yield.geq rfl rfl) rfl ?_
    refine OG.nil ?_
    refine QG.then ?_
    refine CG.cond_t rfl ?_
    refine CG.seq ?_
    refine CG.region ?_
    refine OG.yield (Yield.assign rfl) rfl ?_
    refine OG.nil ?_
    refine QG.then ?_
    refine CG.ret ?_
    refine QG.pass_ret ?_
    exact QG.ret1 rfl rfl () trivial (by unfold subBE; rw [if_neg (by omega), if_neg (by simp [hh3]), if_pos hh]) (Imp.trans (by repeat (first | exact Imp.refl _ | exact Imp.none _ | apply Imp.pull (by repeat (first | exact Ext.here | apply Ext.there)) | apply Imp.trans Imp.drop)) hcl)
set_option maxHeartbeats 2000000 in
theorem rsubmit_ok {b : Nat} {s : Bs} {r : CR} {now : Int} (hr : RdB W0 Fr r.m.a r.m.c r.m.b) (hd : r.m.b.length ≤ dmax) (ht2 : s.taken ≤ 1073741824) (he : subBE s r.write r.sector r.m.b.length now = 0) :
    Ctr Try.prog W0 30 [.pointer (some ⟨b, 0, none⟩), .agg r.cells.toArray, .int .i64 now] (Rl b s :: Fr) (fun _ : Unit => True) (fun _ => .int .i64 0) (fun _ => Rl b (subBR s r.abs now) :: Fr) := by
  refine Ctr.ex Ext.here rl_open ?_
  intro x hx
  refine Ctr.imp star_open ?_
  have hln := hx.len
  have hok := hx.ok
  have hnd : s.n = s.bytes.length / 64 := rfl
  obtain ⟨nn, hbl, hnn⟩ := hok.len
  have hdl := delayR_le hok
  have hfr := hok.free
  have htk := hok.taken
  have hdls := hok.dls
  have hol := intsV_len .i64 s.delays
  have hclose : ∀ (m : Msg) (a' : Option Addr) (c' : Nat), m.b = r.m.b → Imp (RO b (subBR s r.abs now) ⟨x.js ++ [⟨{ r with m := m }, freeR s now⟩], x.ba, x.bc, x.da, x.dc, a', c'⟩ ++ Fr) (Rl b (subBR s r.abs now) :: Fr) := by
    intro m a' c' hm
    refine rl_close _ ⟨?_, subBR_ok (r := r.abs) hok he hd⟩
    dsimp only [subBR]; rw [List.map_append, hx.abs]; simp [CJ.abs, CR.abs, hm]
  have hmax : max now s.free = max s.free now := by omega
  obtain ⟨part, tag, write, sector, m0⟩ := r
  obtain ⟨h1, h2, h3, h4⟩ := subBE_ok he
  dsimp only [RO, subBR, CR.abs, List.cons_append, List.nil_append] at h1 h2 h3 h4 hr hd hclose ⊢
  refine Ctr.of_body Try.func30 rfl Try.ntmps30 rfl ?_
  refine CG.seq ?_
  refine CG.region ?_
  refine OG.effd (Eff.box rfl) rfl ?_
  rintro b4 -
  refine OG.yield (Yield.assign rfl) rfl ?_
  refine OG.nil ?_
  refine QG.then ?_
  refine CG.seq ?_
  refine CG.seq ?_
  refine CG.draw (.look 0 1 (.look 1 1 (.look 2 1 (.look 3 1 (.look 4 1 (.look 5 1 (.look 6 1 (.look 7 1 (.look 8 1 (.look 9 1 (.look 10 1 (.look 11 1 (.look 12 0 (.look 13 0 (.look 14 1 (.eff1 15 false (.look 16 1 (.look 17 1 (.done))))))))))))))))))) [15] [] ([blk b4 (CR.cells ⟨part, tag, write, sector, m0⟩) 40]) ([]) mixed (by kernel_rfl) ((by repeat (first | exact Imp.refl _ | exact Imp.none _ | apply Imp.pull (by repeat (first | exact Ext.here | apply Ext.there)) | apply Imp.trans Imp.drop))) (Imp.none _) ?_
  refine DG.look rfl rfl (Yield.move rfl) rfl ?_
  refine DG.look rfl rfl (by first | exact Yield.as (Yield.lss rfl rfl) (bT (by omega)) | exact Yield.as (Yield.lss rfl rfl) (bF (by omega)) | exact Yield.lss rfl rfl) rfl ?_
  refine DG.look rfl rfl (Yield.move rfl) rfl ?_
  refine DG.look rfl rfl (Yield.move rfl) rfl ?_
  refine DG.look rfl rfl (by first | exact Yield.as (Yield.gtr rfl rfl) (bT (by omega)) | exact Yield.as (Yield.gtr rfl rfl) (bF (by omega)) | exact Yield.gtr rfl rfl) rfl ?_
  refine DG.look rfl rfl (by first | exact Yield.pick_t rfl rfl | exact Yield.pick_f rfl rfl | exact Yield.pick rfl (fun _ => rfl) (fun _ => rfl)) rfl ?_
  refine DG.look rfl rfl (Yield.move rfl) rfl ?_
  refine DG.look rfl rfl (Yield.fieldAddr fa40_3 rfl) rfl ?_
  refine DG.look rfl rfl (Yield.load (v := .int .i64 sector) ti3 rfl (Cel.of_blk (b := b4) (by repeat (first | exact Ext.here | apply Ext.there)) rfl)) rfl ?_
  refine DG.look rfl rfl (by first | exact Yield.as (Yield.lss rfl rfl) (bT (by omega)) | exact Yield.as (Yield.lss rfl rfl) (bF (by omega)) | exact Yield.lss rfl rfl) rfl ?_
  refine DG.look rfl rfl (by first | exact Yield.pick_t rfl rfl | exact Yield.pick_f rfl rfl | exact Yield.pick rfl (fun _ => rfl) (fun _ => rfl)) rfl ?_
  refine DG.look rfl rfl (Yield.move rfl) rfl ?_
  refine DG.look rfl rfl (Yield.fieldAddr fa40_3 rfl) rfl ?_
  refine DG.look rfl rfl (Yield.load (v := .int .i64 sector) ti3 rfl (Cel.of_blk (b := b4) (by repeat (first | exact Ext.here | apply Ext.there)) rfl)) rfl ?_
  refine DG.look rfl rfl (Yield.move rfl) rfl ?_
  refine DG.eff1 ?_
  refine Chg.callo rfl rfl call64 rfl (Imp.refl _) (rsectors_spec W0 _ (b := b) (m := s.bytes.length) (Cel.of_blk (b := b) (by repeat (first | exact Ext.here | apply Ext.there)) rfl) (by omega)) rfl (fun _ => (by repeat (first | exact Imp.refl _ | exact Imp.none _ | apply Imp.pull (by repeat (first | exact Ext.here | apply Ext.there)) | apply Imp.trans Imp.drop))) (fun _ => Imp.refl _) (fun _ => (by repeat (first | exact Imp.refl _ | exact Imp.none _ | apply Imp.pull (by repeat (first | exact Ext.here | apply Ext.there)) | apply Imp.trans Imp.drop))) ?_
  rintro ⟨⟩ -
  refine DG.look rfl rfl (by first | exact Yield.as (Yield.geq rfl rfl) (bT (by omega)) | exact Yield.as (Yield.geq rfl rfl) (bF (by omega)) | exact Yield.geq rfl rfl) rfl ?_
  refine DG.look rfl rfl (by first | exact Yield.pick_t rfl rfl | exact Yield.pick_f rfl rfl | exact Yield.pick rfl (fun _ => rfl) (fun _ => rfl)) rfl ?_
  refine DG.done ?_
  refine QG.then ?_
  refine CG.cond_f rfl ?_
  refine CG.skip ?_
  refine QG.then ?_
  refine CG.seq ?_
  refine CG.seq ?_
  rcases (show write = false ∨ write = true by cases write <;> simp) with hw | hw
  · skip
    refine CG.region ?_
    refine OG.yield (Yield.fieldAddr fa40_2 rfl) rfl ?_
    refine OG.yield (Yield.load (v := .bool false) ti4 rfl (Cel.of_blk (b := b4) (by repeat (first | exact Ext.here | apply Ext.there)) (by rw [← hw]; rfl))) rfl ?_
    refine OG.yield (Yield.move rfl) rfl ?_
    refine OG.guard_no rfl rfl rfl rfl rfl (by decide) (by decide) ?_
    refine OG.guard_no rfl rfl rfl rfl rfl (by decide) (by decide) ?_
    refine OG.guard_no rfl rfl rfl rfl rfl (by decide) (by decide) ?_
    refine OG.guard_no rfl rfl rfl rfl rfl (by decide) (by decide) ?_
    refine OG.yield (by first | exact Yield.pick_t rfl rfl | exact Yield.pick_f rfl rfl | exact Yield.pick rfl (fun _ => rfl) (fun _ => rfl)) rfl ?_
    refine OG.nil ?_
    refine QG.then ?_
    refine CG.cond_f rfl ?_
    refine CG.skip ?_
    refine QG.then ?_
    refine CG.seq ?_
    refine CG.seq ?_
    refine CG.region ?_
    refine OG.yield (Yield.move rfl) rfl ?_
    refine OG.yield (Yield.nilCheck rfl) rfl ?_
    refine OG.yield (Yield.fieldAddr fa121_4 rfl) rfl ?_
    refine OG.yield (Yield.load (v := .slice x.qa x.js.length x.qc) ti119 rfl (Cel.of_blk (b := b) (by repeat (first | exact Ext.here | apply Ext.there)) rfl)) rfl ?_
    refine OG.yield (Yield.len_slice (a := x.qa) (m := x.js.length) (c := x.qc) Try.underlying119 rfl rfl) rfl ?_
    refine OG.yield (by first | exact Yield.as (Yield.geq rfl rfl) (bT (by omega)) | exact Yield.as (Yield.geq rfl rfl) (bF (by omega)) | exact Yield.geq rfl rfl) rfl ?_
    refine OG.nil ?_
    refine QG.then ?_
    refine CG.cond_f rfl ?_
    refine CG.skip ?_
    refine QG.then ?_
    refine CG.seq ?_
    refine CG.region ?_
    refine OG.yield (Yield.assign rfl) rfl ?_
    refine OG.nil ?_
    refine QG.then ?_
    refine CG.cut (fun _ : Unit => True) (fun _ => [(0, .pointer (some ⟨b, 0, none⟩)), (2, .int .i64 now), (4, .pointer (some ⟨b4, 0, none⟩)), (7, .int .i64 (delayR s.delays s.taken))]) (fun _ => blk b4 (CR.cells ⟨part, tag, write, sector, m0⟩) 40 :: RH b x.ba s.bytes.length x.bc x.da s.delays.length x.dc s.taken s.free x.qa x.js.length x.qc :: oby 5 x.ba x.bc s.bytes :: onum 3 .i64 x.da x.dc s.delays :: owait x.qa x.qc x.js :: jpool x.js :: Fr) ?_ ?_
    · skip
      refine CG.seq ?_
      refine CG.region ?_
      refine OG.yield (Yield.move rfl) rfl ?_
      refine OG.yield (Yield.nilCheck rfl) rfl ?_
      refine OG.yield (Yield.fieldAddr fa121_1 rfl) rfl ?_
      refine OG.yield (Yield.load (v := .slice x.da s.delays.length x.dc) ti23 rfl (Cel.of_blk (b := b) (by repeat (first | exact Ext.here | apply Ext.there)) rfl)) rfl ?_
      refine OG.yield (Yield.len_slice (a := x.da) (m := s.delays.length) (c := x.dc) Try.underlying23 rfl rfl) rfl ?_
      refine OG.yield (by first | exact Yield.as (Yield.gtr rfl rfl) (bT (by omega)) | exact Yield.as (Yield.gtr rfl rfl) (bF (by omega)) | exact Yield.gtr rfl rfl) rfl ?_
      refine OG.nil ?_
      refine QG.then ?_
      refine CG.cond rfl (fun hc => ?_) (fun hc => ?_)
      · try replace hc := of_decide_eq_true hc
        have hx0 : s.delays[(min s.taken ((s.delays.length : Int) - 1)).toNat]? = some (s.delays.getD (min s.taken ((s.delays.length : Int) - 1)).toNat 0) := by
          rw [List.getD_eq_getElem?_getD, List.getElem?_eq_getElem (by omega)]; rfl
        refine CG.pure (fun w hw => SlR.shape (SlR.of_osl (W0 := W0) (E := 3) (sz := 1) (a := x.da) (c := x.dc) (m := s.delays.length) (xs := intsV .i64 s.delays) (by repeat (first | exact Ext.here | apply Ext.there))) (by intro h; rw [h] at hol; simp only [List.length_nil] at hol; omega) w hw) ?_
        rintro ⟨bd, od, hxd⟩
        rw [hxd]
        refine CG.draw (.look 0 1 (.look 1 1 (.look 2 1 (.look 3 1 (.look 4 1 (.look 5 1 (.look 6 1 (.look 7 1 (.look 8 1 (.look 9 1 (.look 10 1 (.look 11 1 (.look 12 1 (.look 13 1 (.look 14 1 (.look 15 1 (.look 16 1 (.look 17 1 (.done))))))))))))))))))) [] [] ([]) ([]) mixed (by kernel_rfl) (Imp.none _) (Imp.none _) ?_
        refine DG.look rfl rfl (Yield.move rfl) rfl ?_
        refine DG.look rfl rfl (Yield.nilCheck rfl) rfl ?_
        refine DG.look rfl rfl (Yield.fieldAddr fa121_1 rfl) rfl ?_
        refine DG.look rfl rfl (Yield.load (v := .slice (some ⟨bd, od, none⟩) s.delays.length x.dc) ti23 rfl (Cel.of_blk (b := b) (by repeat (first | exact Ext.here | apply Ext.there)) rfl)) rfl ?_
        refine DG.look rfl rfl (Yield.move rfl) rfl ?_
        refine DG.look rfl rfl (Yield.nilCheck rfl) rfl ?_
        refine DG.look rfl rfl (Yield.fieldAddr fa121_2 rfl) rfl ?_
        refine DG.look rfl rfl (Yield.load (v := .int .i64 s.taken) ti3 rfl (Cel.of_blk (b := b) (by repeat (first | exact Ext.here | apply Ext.there)) rfl)) rfl ?_
        refine DG.look rfl rfl (Yield.move rfl) rfl ?_
        refine DG.look rfl rfl (Yield.nilCheck rfl) rfl ?_
        refine DG.look rfl rfl (Yield.fieldAddr fa121_1 rfl) rfl ?_
        refine DG.look rfl rfl (Yield.load (v := .slice (some ⟨bd, od, none⟩) s.delays.length x.dc) ti23 rfl (Cel.of_blk (b := b) (by repeat (first | exact Ext.here | apply Ext.there)) rfl)) rfl ?_
        refine DG.look rfl rfl (Yield.len_slice (a := some ⟨bd, od, none⟩) (m := s.delays.length) (c := x.dc) Try.underlying23 rfl rfl) rfl ?_
        refine DG.look rfl rfl (Yield.sub rfl rfl (w64 (by omega) (by omega))) rfl ?_
        refine DG.look rfl rfl (Yield.min2 rfl rfl) rfl ?_
        refine DG.look rfl rfl (Yield.index_slice (b := bd) (o := od) (m := s.delays.length) (c := x.dc) (j := min s.taken ((s.delays.length : Int) - 1)) Try.underlying23 ti3 rfl rfl (by omega) (by omega)) rfl ?_
        refine DG.look rfl rfl (Yield.load (v := .int .i64 (delayR s.delays s.taken)) ti3 rfl (by rw [Nat.mul_one]; refine (SlR.of_osl (E := 3) (a := some ⟨bd, od, none⟩) (by repeat (first | exact Ext.here | apply Ext.there))).cel ?_; rw [intsV_get hx0]; unfold delayR; rw [if_neg (by omega)])) rfl ?_
        refine DG.look rfl rfl (Yield.assign rfl) rfl ?_
        refine DG.done ?_
        exact QG.mid () trivial (by repeat (first | exact Env.sub_nil _ | refine Env.sub_cons rfl ?_)) (by repeat (first | exact Imp.refl _ | exact Imp.none _ | apply Imp.pull (by repeat (first | exact Ext.here | apply Ext.there)) | apply Imp.trans Imp.drop))
      · try replace hc := of_decide_eq_false hc
        refine CG.skip ?_
        exact QG.mid () trivial (by rw [show delayR s.delays s.taken = 0 by unfold delayR; rw [if_pos (by omega)]]; exact (by repeat (first | exact Env.sub_nil _ | refine Env.sub_cons rfl ?_))) (by repeat (first | exact Imp.refl _ | exact Imp.none _ | apply Imp.pull (by repeat (first | exact Ext.here | apply Ext.there)) | apply Imp.trans Imp.drop))
    rintro ⟨⟩ -
    refine CG.seq ?_
    refine CG.region ?_
    refine OG.yield (Yield.move rfl) rfl ?_
    refine OG.yield (Yield.nilCheck rfl) rfl ?_
    refine OG.yield (Yield.fieldAddr fa121_2 rfl) rfl ?_
    refine OG.yield (Yield.load (v := .int .i64 s.taken) ti3 rfl (Cel.of_blk (b := b) (by repeat (first | exact Ext.here | apply Ext.there)) rfl)) rfl ?_
    refine OG.yield (Yield.add rfl rfl (w64 (by omega) (by omega))) rfl ?_
    refine OG.yield (Yield.nilCheck rfl) rfl ?_
    refine OG.yield (Yield.fieldAddr fa121_2 rfl) rfl ?_
    refine OG.eff (Eff.store1 ti3 rfl rfl (by repeat (first | exact Foc.here | apply Foc.there)) rfl (by show 2 < 5; decide)) rfl ?_
    rintro ⟨⟩ -
    refine OG.nil ?_
    refine QG.then ?_
    refine CG.seq ?_
    refine CG.region ?_
    refine OG.yield (Yield.move rfl) rfl ?_
    refine OG.yield (Yield.move rfl) rfl ?_
    refine OG.yield (Yield.move rfl) rfl ?_
    refine OG.yield (Yield.nilCheck rfl) rfl ?_
    refine OG.yield (Yield.fieldAddr fa121_3 rfl) rfl ?_
    refine OG.yield (Yield.load (v := .int .i64 s.free) ti3 rfl (Cel.of_blk (b := b) (by repeat (first | exact Ext.here | apply Ext.there)) rfl)) rfl ?_
    refine OG.yield (Yield.max2 rfl rfl) rfl ?_
    refine OG.yield (Yield.move rfl) rfl ?_
    refine OG.yield (Yield.add rfl rfl (w64 (by omega) (by omega))) rfl ?_
    refine OG.yield (Yield.nilCheck rfl) rfl ?_
    refine OG.yield (Yield.fieldAddr fa121_3 rfl) rfl ?_
    refine OG.eff (Eff.store1 (v := .int .i64 (freeR s now)) ti3 rfl (by unfold freeR; rw [← hmax]; rfl) (by repeat (first | exact Foc.here | apply Foc.there)) rfl (by show 3 < 5; decide)) rfl ?_
    rintro ⟨⟩ -
    refine OG.nil ?_
    refine QG.then ?_
    refine CG.seq ?_
    refine CG.draw (.look 0 0 (.look 1 0 (.look 2 0 (.look 3 0 (.look 4 2 (.look 5 1 (.look 7 0 (.look 8 0 (.look 9 0 (.look 10 2 (.eff1 6 false (.look 11 1 (.eff1 12 false (.eff1 13 false (.look 14 1 (.look 15 1 (.eff1 16 true (.done)))))))))))))))))) [6, 12, 13, 16] [4, 10] ([]) ([RH b x.ba s.bytes.length x.bc x.da s.delays.length x.dc (s.taken + 1) (freeR s now) x.qa x.js.length x.qc]) mixed (by kernel_rfl) (Imp.none _) ((by repeat (first | exact Imp.refl _ | exact Imp.none _ | apply Imp.pull (by repeat (first | exact Ext.here | apply Ext.there)) | apply Imp.trans Imp.drop))) ?_
    refine DG.look rfl rfl (Yield.move rfl) rfl ?_
    refine DG.look rfl rfl (Yield.move rfl) rfl ?_
    refine DG.look rfl rfl (Yield.nilCheck rfl) rfl ?_
    refine DG.look rfl rfl (Yield.fieldAddr fa121_4 rfl) rfl ?_
    refine DG.look rfl rfl (Yield.load (v := .slice x.qa x.js.length x.qc) ti119 rfl (Cel.of_blk (b := b) (by repeat (first | exact Ext.here | apply Ext.there)) rfl)) rfl ?_
    refine DG.look rfl rfl (Yield.load_agg (vs := CR.cells ⟨part, tag, write, sector, m0⟩) ti40 rfl (CR.len _) (Row.of_blk (b := b4) (by repeat (first | exact Ext.here | apply Ext.there)) rfl)) rfl ?_
    refine DG.look rfl rfl (Yield.move rfl) rfl ?_
    refine DG.look rfl rfl (Yield.nilCheck rfl) rfl ?_
    refine DG.look rfl rfl (Yield.fieldAddr fa121_3 rfl) rfl ?_
    refine DG.look rfl rfl (Yield.load (v := .int .i64 (freeR s now)) ti3 rfl (Cel.of_blk (b := b) (by repeat (first | exact Ext.here | apply Ext.there)) rfl)) rfl ?_
    refine DG.eff1 ?_
    refine Chg.callo rfl rfl call29 rfl (Imp.refl _) (copy_spec W0 _ (x := ⟨part, tag, write, sector, m0⟩) (by exact hr.imp (by repeat (first | exact Imp.refl _ | exact Imp.none _ | apply Imp.pull (by repeat (first | exact Ext.here | apply Ext.there)) | apply Imp.trans Imp.drop))) hd) rfl (fun _ => (by repeat (first | exact Imp.refl _ | exact Imp.none _ | apply Imp.pull (by repeat (first | exact Ext.here | apply Ext.there)) | apply Imp.trans Imp.drop))) (fun _ => Imp.refl _) (fun _ => (by repeat (first | exact Imp.refl _ | exact Imp.none _ | apply Imp.pull (by repeat (first | exact Ext.here | apply Ext.there)) | apply Imp.trans Imp.drop))) ?_
    rintro m hm
    dsimp only at hm
    refine DG.look rfl rfl (Yield.build (pvs := [(0, .agg (CR.cells ⟨part, tag, write, sector, m⟩).toArray), (1, .int .i64 (freeR s now))]) bu123 ti123 rfl (cells := CJ.cells ⟨⟨part, tag, write, sector, m⟩, freeR s now⟩) rfl) rfl ?_
    refine DG.eff1 ?_
    refine Chg.eff rfl rfl (Eff.lit [.tmp 92] (vs := [.agg (CJ.cells ⟨⟨part, tag, write, sector, m⟩, freeR s now⟩).toArray]) (cells := CJ.cells ⟨⟨part, tag, write, sector, m⟩, freeR s now⟩) Try.underlying119 ti123 rfl rfl rfl rfl (by decide) (by simp [Value.cells, CJ.cells]) (by simp [Value.cells])) rfl (fun _ => (by repeat (first | exact Imp.refl _ | exact Imp.none _ | apply Imp.pull (by repeat (first | exact Ext.here | apply Ext.there)) | apply Imp.trans Imp.drop))) (fun _ => Imp.refl _) (fun _ => (by repeat (first | exact Imp.refl _ | exact Imp.none _ | apply Imp.pull (by repeat (first | exact Ext.here | apply Ext.there)) | apply Imp.trans Imp.drop))) ?_
    rintro b93 -
    refine DG.eff1 ?_
    refine Chg.eff rfl rfl (Eff.append (a := x.qa) (c := x.qc) (m := x.js.length) (xs := (x.js.map CJ.cells).flatten) (k := 1) (ys := CJ.cells ⟨⟨part, tag, write, sector, m⟩, freeR s now⟩) rfl rfl rfl Try.underlying119 Try.underlying119 ti123 rfl (by decide) (by repeat (first | exact Foc.here | apply Foc.there)) (SlR.of_osl (a := some ⟨b93, 0, none⟩) (by repeat (first | exact Ext.here | apply Ext.there))) (CJ.ones _) (by omega)) rfl (fun _ => (by repeat (first | exact Imp.refl _ | exact Imp.none _ | apply Imp.pull (by repeat (first | exact Ext.here | apply Ext.there)) | apply Imp.trans Imp.drop))) (fun _ => Imp.refl _) (fun _ => (by repeat (first | exact Imp.refl _ | exact Imp.none _ | apply Imp.pull (by repeat (first | exact Ext.here | apply Ext.there)) | apply Imp.trans Imp.drop))) ?_
    rintro ⟨a94, c94⟩ -
    refine DG.look rfl rfl (Yield.nilCheck rfl) rfl ?_
    refine DG.look rfl rfl (Yield.fieldAddr fa121_4 rfl) rfl ?_
    refine DG.eff1 ?_
    refine Chg.eff rfl rfl (Eff.store1 ti119 rfl rfl (by repeat (first | exact Foc.here | apply Foc.there)) rfl (by show 4 < 5; decide)) rfl (fun _ => (by repeat (first | exact Imp.refl _ | exact Imp.none _ | apply Imp.pull (by repeat (first | exact Ext.here | apply Ext.there)) | apply Imp.trans Imp.drop))) (fun _ => Imp.refl _) (fun _ => (by repeat (first | exact Imp.refl _ | exact Imp.none _ | apply Imp.pull (by repeat (first | exact Ext.here | apply Ext.there)) | apply Imp.trans Imp.drop))) ?_
    rintro ⟨⟩ -
    refine DG.done ?_
    refine QG.then ?_
    refine CG.seq ?_
    refine CG.region ?_
    refine OG.yield (Yield.assign rfl) rfl ?_
    refine OG.nil ?_
    refine QG.then ?_
    refine CG.ret ?_
    refine QG.ret1 rfl rfl () trivial rfl (Imp.trans ?_ (hclose m a94 c94 hm))
    dsimp only [owait]
    rw [List.length_append, flat_app]
    refine Imp.trans (Imp.pull (A := m.own) (by repeat (first | exact Ext.here | apply Ext.there)) (Imp.pull (A := jpool x.js) (by repeat (first | exact Ext.here | apply Ext.there)) (Imp.refl _))) (Imp.trans pool_add ?_)
    dsimp only [jpool]
    rw [List.map_append]
    exact (by repeat (first | exact Imp.refl _ | exact Imp.none _ | apply Imp.pull (by repeat (first | exact Ext.here | apply Ext.there)) | apply Imp.trans Imp.drop))
  · skip
    refine CG.region ?_
    refine OG.yield (Yield.fieldAddr fa40_2 rfl) rfl ?_
    refine OG.yield (Yield.load (v := .bool true) ti4 rfl (Cel.of_blk (b := b4) (by repeat (first | exact Ext.here | apply Ext.there)) (by rw [← hw]; rfl))) rfl ?_
    refine OG.yield (Yield.move rfl) rfl ?_
    refine OG.guard_yes rfl rfl rfl (by decide) ?_
    refine OG.yield (Yield.fieldAddr fa40_4 rfl) rfl ?_
    refine OG.guard_yes rfl rfl rfl (by decide) ?_
    refine OG.yield (Yield.load (v := m0.cell) ti36 rfl (Cel.of_blk (b := b4) (by repeat (first | exact Ext.here | apply Ext.there)) rfl)) rfl ?_
    refine OG.guard_yes rfl rfl rfl (by decide) ?_
    refine OG.yield (Yield.len_slice (a := m0.a) (m := m0.b.length) (c := m0.c) Try.underlying36 rfl rfl) rfl ?_
    refine OG.guard_yes rfl rfl rfl (by decide) ?_
    refine OG.yield (Yield.as (Yield.neq rfl rfl) (bF (by have := h3 hw; omega))) rfl ?_
    refine OG.yield (by first | exact Yield.pick_t rfl rfl | exact Yield.pick_f rfl rfl | exact Yield.pick rfl (fun _ => rfl) (fun _ => rfl)) rfl ?_
    refine OG.nil ?_
    refine QG.then ?_
    refine CG.cond_f rfl ?_
    refine CG.skip ?_
    refine QG.then ?_
    refine CG.seq ?_
    refine CG.seq ?_
    refine CG.region ?_
    refine OG.yield (Yield.move rfl) rfl ?_
    refine OG.yield (Yield.nilCheck rfl) rfl ?_
    refine OG.yield (Yield.fieldAddr fa121_4 rfl) rfl ?_
    refine OG.yield (Yield.load (v := .slice x.qa x.js.length x.qc) ti119 rfl (Cel.of_blk (b := b) (by repeat (first | exact Ext.here | apply Ext.there)) rfl)) rfl ?_
    refine OG.yield (Yield.len_slice (a := x.qa) (m := x.js.length) (c := x.qc) Try.underlying119 rfl rfl) rfl ?_
    refine OG.yield (by first | exact Yield.as (Yield.geq rfl rfl) (bT (by omega)) | exact Yield.as (Yield.geq rfl rfl) (bF (by omega)) | exact Yield.geq rfl rfl) rfl ?_
    refine OG.nil ?_
    refine QG.then ?_
    refine CG.cond_f rfl ?_
    refine CG.skip ?_
    refine QG.then ?_
    refine CG.seq ?_
    refine CG.region ?_
    refine OG.yield (Yield.assign rfl) rfl ?_
    refine OG.nil ?_
    refine QG.then ?_
    refine CG.cut (fun _ : Unit => True) (fun _ => [(0, .pointer (some ⟨b, 0, none⟩)), (2, .int .i64 now), (4, .pointer (some ⟨b4, 0, none⟩)), (7, .int .i64 (delayR s.delays s.taken))]) (fun _ => blk b4 (CR.cells ⟨part, tag, write, sector, m0⟩) 40 :: RH b x.ba s.bytes.length x.bc x.da s.delays.length x.dc s.taken s.free x.qa x.js.length x.qc :: oby 5 x.ba x.bc s.bytes :: onum 3 .i64 x.da x.dc s.delays :: owait x.qa x.qc x.js :: jpool x.js :: Fr) ?_ ?_
    · skip
      refine CG.seq ?_
      refine CG.region ?_
      refine OG.yield (Yield.move rfl) rfl ?_
      refine OG.yield (Yield.nilCheck rfl) rfl ?_
      refine OG.yield (Yield.fieldAddr fa121_1 rfl) rfl ?_
      refine OG.yield (Yield.load (v := .slice x.da s.delays.length x.dc) ti23 rfl (Cel.of_blk (b := b) (by repeat (first | exact Ext.here | apply Ext.there)) rfl)) rfl ?_
      refine OG.yield (Yield.len_slice (a := x.da) (m := s.delays.length) (c := x.dc) Try.underlying23 rfl rfl) rfl ?_
      refine OG.yield (by first | exact Yield.as (Yield.gtr rfl rfl) (bT (by omega)) | exact Yield.as (Yield.gtr rfl rfl) (bF (by omega)) | exact Yield.gtr rfl rfl) rfl ?_
      refine OG.nil ?_
      refine QG.then ?_
      refine CG.cond rfl (fun hc => ?_) (fun hc => ?_)
      · try replace hc := of_decide_eq_true hc
        have hx0 : s.delays[(min s.taken ((s.delays.length : Int) - 1)).toNat]? = some (s.delays.getD (min s.taken ((s.delays.length : Int) - 1)).toNat 0) := by
          rw [List.getD_eq_getElem?_getD, List.getElem?_eq_getElem (by omega)]; rfl
        refine CG.pure (fun w hw => SlR.shape (SlR.of_osl (W0 := W0) (E := 3) (sz := 1) (a := x.da) (c := x.dc) (m := s.delays.length) (xs := intsV .i64 s.delays) (by repeat (first | exact Ext.here | apply Ext.there))) (by intro h; rw [h] at hol; simp only [List.length_nil] at hol; omega) w hw) ?_
        rintro ⟨bd, od, hxd⟩
        rw [hxd]
        refine CG.draw (.look 0 1 (.look 1 1 (.look 2 1 (.look 3 1 (.look 4 1 (.look 5 1 (.look 6 1 (.look 7 1 (.look 8 1 (.look 9 1 (.look 10 1 (.look 11 1 (.look 12 1 (.look 13 1 (.look 14 1 (.look 15 1 (.look 16 1 (.look 17 1 (.done))))))))))))))))))) [] [] ([]) ([]) mixed (by kernel_rfl) (Imp.none _) (Imp.none _) ?_
        refine DG.look rfl rfl (Yield.move rfl) rfl ?_
        refine DG.look rfl rfl (Yield.nilCheck rfl) rfl ?_
        refine DG.look rfl rfl (Yield.fieldAddr fa121_1 rfl) rfl ?_
        refine DG.look rfl rfl (Yield.load (v := .slice (some ⟨bd, od, none⟩) s.delays.length x.dc) ti23 rfl (Cel.of_blk (b := b) (by repeat (first | exact Ext.here | apply Ext.there)) rfl)) rfl ?_
        refine DG.look rfl rfl (Yield.move rfl) rfl ?_
        refine DG.look rfl rfl (Yield.nilCheck rfl) rfl ?_
        refine DG.look rfl rfl (Yield.fieldAddr fa121_2 rfl) rfl ?_
        refine DG.look rfl rfl (Yield.load (v := .int .i64 s.taken) ti3 rfl (Cel.of_blk (b := b) (by repeat (first | exact Ext.here | apply Ext.there)) rfl)) rfl ?_
        refine DG.look rfl rfl (Yield.move rfl) rfl ?_
        refine DG.look rfl rfl (Yield.nilCheck rfl) rfl ?_
        refine DG.look rfl rfl (Yield.fieldAddr fa121_1 rfl) rfl ?_
        refine DG.look rfl rfl (Yield.load (v := .slice (some ⟨bd, od, none⟩) s.delays.length x.dc) ti23 rfl (Cel.of_blk (b := b) (by repeat (first | exact Ext.here | apply Ext.there)) rfl)) rfl ?_
        refine DG.look rfl rfl (Yield.len_slice (a := some ⟨bd, od, none⟩) (m := s.delays.length) (c := x.dc) Try.underlying23 rfl rfl) rfl ?_
        refine DG.look rfl rfl (Yield.sub rfl rfl (w64 (by omega) (by omega))) rfl ?_
        refine DG.look rfl rfl (Yield.min2 rfl rfl) rfl ?_
        refine DG.look rfl rfl (Yield.index_slice (b := bd) (o := od) (m := s.delays.length) (c := x.dc) (j := min s.taken ((s.delays.length : Int) - 1)) Try.underlying23 ti3 rfl rfl (by omega) (by omega)) rfl ?_
        refine DG.look rfl rfl (Yield.load (v := .int .i64 (delayR s.delays s.taken)) ti3 rfl (by rw [Nat.mul_one]; refine (SlR.of_osl (E := 3) (a := some ⟨bd, od, none⟩) (by repeat (first | exact Ext.here | apply Ext.there))).cel ?_; rw [intsV_get hx0]; unfold delayR; rw [if_neg (by omega)])) rfl ?_
        refine DG.look rfl rfl (Yield.assign rfl) rfl ?_
        refine DG.done ?_
        exact QG.mid () trivial (by repeat (first | exact Env.sub_nil _ | refine Env.sub_cons rfl ?_)) (by repeat (first | exact Imp.refl _ | exact Imp.none _ | apply Imp.pull (by repeat (first | exact Ext.here | apply Ext.there)) | apply Imp.trans Imp.drop))
      · try replace hc := of_decide_eq_false hc
        refine CG.skip ?_
        exact QG.mid () trivial (by rw [show delayR s.delays s.taken = 0 by unfold delayR; rw [if_pos (by omega)]]; exact (by repeat (first | exact Env.sub_nil _ | refine Env.sub_cons rfl ?_))) (by repeat (first | exact Imp.refl _ | exact Imp.none _ | apply Imp.pull (by repeat (first | exact Ext.here | apply Ext.there)) | apply Imp.trans Imp.drop))
    rintro ⟨⟩ -
    refine CG.seq ?_
    refine CG.region ?_
    refine OG.yield (Yield.move rfl) rfl ?_
    refine OG.yield (Yield.nilCheck rfl) rfl ?_
    refine OG.yield (Yield.fieldAddr fa121_2 rfl) rfl ?_
    refine OG.yield (Yield.load (v := .int .i64 s.taken) ti3 rfl (Cel.of_blk (b := b) (by repeat (first | exact Ext.here | apply Ext.there)) rfl)) rfl ?_
    refine OG.yield (Yield.add rfl rfl (w64 (by omega) (by omega))) rfl ?_
    refine OG.yield (Yield.nilCheck rfl) rfl ?_
    refine OG.yield (Yield.fieldAddr fa121_2 rfl) rfl ?_
    refine OG.eff (Eff.store1 ti3 rfl rfl (by repeat (first | exact Foc.here | apply Foc.there)) rfl (by show 2 < 5; decide)) rfl ?_
    rintro ⟨⟩ -
    refine OG.nil ?_
    refine QG.then ?_
    refine CG.seq ?_
    refine CG.region ?_
    refine OG.yield (Yield.move rfl) rfl ?_
    refine OG.yield (Yield.move rfl) rfl ?_
    refine OG.yield (Yield.move rfl) rfl ?_
    refine OG.yield (Yield.nilCheck rfl) rfl ?_
    refine OG.yield (Yield.fieldAddr fa121_3 rfl) rfl ?_
    refine OG.yield (Yield.load (v := .int .i64 s.free) ti3 rfl (Cel.of_blk (b := b) (by repeat (first | exact Ext.here | apply Ext.there)) rfl)) rfl ?_
    refine OG.yield (Yield.max2 rfl rfl) rfl ?_
    refine OG.yield (Yield.move rfl) rfl ?_
    refine OG.yield (Yield.add rfl rfl (w64 (by omega) (by omega))) rfl ?_
    refine OG.yield (Yield.nilCheck rfl) rfl ?_
    refine OG.yield (Yield.fieldAddr fa121_3 rfl) rfl ?_
    refine OG.eff (Eff.store1 (v := .int .i64 (freeR s now)) ti3 rfl (by unfold freeR; rw [← hmax]; rfl) (by repeat (first | exact Foc.here | apply Foc.there)) rfl (by show 3 < 5; decide)) rfl ?_
    rintro ⟨⟩ -
    refine OG.nil ?_
    refine QG.then ?_
    refine CG.seq ?_
    refine CG.draw (.look 0 0 (.look 1 0 (.look 2 0 (.look 3 0 (.look 4 2 (.look 5 1 (.look 7 0 (.look 8 0 (.look 9 0 (.look 10 2 (.eff1 6 false (.look 11 1 (.eff1 12 false (.eff1 13 false (.look 14 1 (.look 15 1 (.eff1 16 true (.done)))))))))))))))))) [6, 12, 13, 16] [4, 10] ([]) ([RH b x.ba s.bytes.length x.bc x.da s.delays.length x.dc (s.taken + 1) (freeR s now) x.qa x.js.length x.qc]) mixed (by kernel_rfl) (Imp.none _) ((by repeat (first | exact Imp.refl _ | exact Imp.none _ | apply Imp.pull (by repeat (first | exact Ext.here | apply Ext.there)) | apply Imp.trans Imp.drop))) ?_
    refine DG.look rfl rfl (Yield.move rfl) rfl ?_
    refine DG.look rfl rfl (Yield.move rfl) rfl ?_
    refine DG.look rfl rfl (Yield.nilCheck rfl) rfl ?_
    refine DG.look rfl rfl (Yield.fieldAddr fa121_4 rfl) rfl ?_
    refine DG.look rfl rfl (Yield.load (v := .slice x.qa x.js.length x.qc) ti119 rfl (Cel.of_blk (b := b) (by repeat (first | exact Ext.here | apply Ext.there)) rfl)) rfl ?_
    refine DG.look rfl rfl (Yield.load_agg (vs := CR.cells ⟨part, tag, write, sector, m0⟩) ti40 rfl (CR.len _) (Row.of_blk (b := b4) (by repeat (first | exact Ext.here | apply Ext.there)) rfl)) rfl ?_
    refine DG.look rfl rfl (Yield.move rfl) rfl ?_
    refine DG.look rfl rfl (Yield.nilCheck rfl) rfl ?_
    refine DG.look rfl rfl (Yield.fieldAddr fa121_3 rfl) rfl ?_
    refine DG.look rfl rfl (Yield.load (v := .int .i64 (freeR s now)) ti3 rfl (Cel.of_blk (b := b) (by repeat (first | exact Ext.here | apply Ext.there)) rfl)) rfl ?_
    refine DG.eff1 ?_
    refine Chg.callo rfl rfl call29 rfl (Imp.refl _) (copy_spec W0 _ (x := ⟨part, tag, write, sector, m0⟩) (by exact hr.imp (by repeat (first | exact Imp.refl _ | exact Imp.none _ | apply Imp.pull (by repeat (first | exact Ext.here | apply Ext.there)) | apply Imp.trans Imp.drop))) hd) rfl (fun _ => (by repeat (first | exact Imp.refl _ | exact Imp.none _ | apply Imp.pull (by repeat (first | exact Ext.here | apply Ext.there)) | apply Imp.trans Imp.drop))) (fun _ => Imp.refl _) (fun _ => (by repeat (first | exact Imp.refl _ | exact Imp.none _ | apply Imp.pull (by repeat (first | exact Ext.here | apply Ext.there)) | apply Imp.trans Imp.drop))) ?_
    rintro m hm
    dsimp only at hm
    refine DG.look rfl rfl (Yield.build (pvs := [(0, .agg (CR.cells ⟨part, tag, write, sector, m⟩).toArray), (1, .int .i64 (freeR s now))]) bu123 ti123 rfl (cells := CJ.cells ⟨⟨part, tag, write, sector, m⟩, freeR s now⟩) rfl) rfl ?_
    refine DG.eff1 ?_
    refine Chg.eff rfl rfl (Eff.lit [.tmp 92] (vs := [.agg (CJ.cells ⟨⟨part, tag, write, sector, m⟩, freeR s now⟩).toArray]) (cells := CJ.cells ⟨⟨part, tag, write, sector, m⟩, freeR s now⟩) Try.underlying119 ti123 rfl rfl rfl rfl (by decide) (by simp [Value.cells, CJ.cells]) (by simp [Value.cells])) rfl (fun _ => (by repeat (first | exact Imp.refl _ | exact Imp.none _ | apply Imp.pull (by repeat (first | exact Ext.here | apply Ext.there)) | apply Imp.trans Imp.drop))) (fun _ => Imp.refl _) (fun _ => (by repeat (first | exact Imp.refl _ | exact Imp.none _ | apply Imp.pull (by repeat (first | exact Ext.here | apply Ext.there)) | apply Imp.trans Imp.drop))) ?_
    rintro b93 -
    refine DG.eff1 ?_
    refine Chg.eff rfl rfl (Eff.append (a := x.qa) (c := x.qc) (m := x.js.length) (xs := (x.js.map CJ.cells).flatten) (k := 1) (ys := CJ.cells ⟨⟨part, tag, write, sector, m⟩, freeR s now⟩) rfl rfl rfl Try.underlying119 Try.underlying119 ti123 rfl (by decide) (by repeat (first | exact Foc.here | apply Foc.there)) (SlR.of_osl (a := some ⟨b93, 0, none⟩) (by repeat (first | exact Ext.here | apply Ext.there))) (CJ.ones _) (by omega)) rfl (fun _ => (by repeat (first | exact Imp.refl _ | exact Imp.none _ | apply Imp.pull (by repeat (first | exact Ext.here | apply Ext.there)) | apply Imp.trans Imp.drop))) (fun _ => Imp.refl _) (fun _ => (by repeat (first | exact Imp.refl _ | exact Imp.none _ | apply Imp.pull (by repeat (first | exact Ext.here | apply Ext.there)) | apply Imp.trans Imp.drop))) ?_
    rintro ⟨a94, c94⟩ -
    refine DG.look rfl rfl (Yield.nilCheck rfl) rfl ?_
    refine DG.look rfl rfl (Yield.fieldAddr fa121_4 rfl) rfl ?_
    refine DG.eff1 ?_
    refine Chg.eff rfl rfl (Eff.store1 ti119 rfl rfl (by repeat (first | exact Foc.here | apply Foc.there)) rfl (by show 4 < 5; decide)) rfl (fun _ => (by repeat (first | exact Imp.refl _ | exact Imp.none _ | apply Imp.pull (by repeat (first | exact Ext.here | apply Ext.there)) | apply Imp.trans Imp.drop))) (fun _ => Imp.refl _) (fun _ => (by repeat (first | exact Imp.refl _ | exact Imp.none _ | apply Imp.pull (by repeat (first | exact Ext.here | apply Ext.there)) | apply Imp.trans Imp.drop))) ?_
    rintro ⟨⟩ -
    refine DG.done ?_
    refine QG.then ?_
    refine CG.seq ?_
    refine CG.region ?_
    refine OG.yield (Yield.assign rfl) rfl ?_
    refine OG.nil ?_
    refine QG.then ?_
    refine CG.ret ?_
    refine QG.ret1 rfl rfl () trivial rfl (Imp.trans ?_ (hclose m a94 c94 hm))
    dsimp only [owait]
    rw [List.length_append, flat_app]
    refine Imp.trans (Imp.pull (A := m.own) (by repeat (first | exact Ext.here | apply Ext.there)) (Imp.pull (A := jpool x.js) (by repeat (first | exact Ext.here | apply Ext.there)) (Imp.refl _))) (Imp.trans pool_add ?_)
    dsimp only [jpool]
    rw [List.map_append]
    exact (by repeat (first | exact Imp.refl _ | exact Imp.none _ | apply Imp.pull (by repeat (first | exact Ext.here | apply Ext.there)) | apply Imp.trans Imp.drop))
end
end Go.Proofs.Ytoejnhfcegchhaa.Bk
