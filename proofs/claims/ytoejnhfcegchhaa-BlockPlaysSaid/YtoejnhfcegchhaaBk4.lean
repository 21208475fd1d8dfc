/- block.Block: Submit that is taken, Clone. -/
import Derived.Test.YtoejnhfcegchhaaBk3
namespace Go.Proofs.Ytoejnhfcegchhaa.Bk
open Go Go.Sl Go.RowKit Go.Proofs Go.Proofs.Ytoejnhfcegchhaa.T Go.Proofs.Ytoejnhfcegchhaa.Ms Go.Proofs.Ytoejnhfcegchhaa.Vd
set_option linter.unusedVariables false
set_option linter.unusedSimpArgs false
set_option maxRecDepth 100000
theorem subBE_ok {s : Bs} {write : Bool} {sector now : Int} {len : Nat} (he : subBE s write sector len now = 0) :
    (0 ≤ now ∧ now ≤ 281474976710656) ∧ (0 ≤ sector ∧ sector < s.n) ∧ (write = true → len = 64) ∧ s.q.length < 32 := by
  unfold subBE at he
  cases write <;> (simp only [true_and, false_and, if_false, reduceCtorEq] at he; (repeat' split at he) <;> first | omega | (refine ⟨by omega, by omega, ?_, by omega⟩; intro _; first | omega | contradiction))
theorem subBR_ok {s : Bs} (h : s.OK) {r : Rq} {now : Int} (he : subBE s r.write r.sector r.data.length now = 0) (hd : r.data.length ≤ dmax) : (subBR s r now).OK := by
  obtain ⟨h1, h2, h3, h4⟩ := subBE_ok he
  have hdl := delayR_le h
  have hf := h.free
  have ht := h.taken
  have e : (s.taken + 1) * 1048576 = s.taken * 1048576 + 1048576 := by omega
  refine ⟨h.len, h.dls, h.del, ?_, ⟨?_, ?_⟩, ?_, fun j hj => ?_, fun j hj => ?_⟩
  · show 0 ≤ s.taken + 1; omega
  · show 0 ≤ max s.free now + delayR s.delays s.taken; omega
  · show max s.free now + delayR s.delays s.taken ≤ 281474976710656 + (s.taken + 1) * 1048576; omega
  · show (s.q ++ [_]).length ≤ 32; rw [List.length_append]; simp only [List.length_cons, List.length_nil]; omega
  · rcases List.mem_append.1 hj with hj | hj
    · exact h.sec j hj
    · simp only [List.mem_cons, List.not_mem_nil, or_false] at hj; subst hj; exact h2
  · rcases List.mem_append.1 hj with hj | hj
    · exact h.dat j hj
    · simp only [List.mem_cons, List.not_mem_nil, or_false] at hj; subst hj; exact ⟨hd, h3⟩
structure Bt where
  l : List CJ
  a : Option Addr
  c : Nat
section
variable (W0 : World) (Fr : List HProp)
set_option maxHeartbeats 2000000 in
theorem submit_ok {b : Nat} {s : Bs} {r : CR} {now : Int} (hr : RdB W0 Fr r.m.a r.m.c r.m.b) (hd : r.m.b.length ≤ dmax) (ht2 : s.taken ≤ 1073741824) (he : subBE s r.write r.sector r.m.b.length now = 0) :
    Ctr Try.prog W0 21 [.pointer (some ⟨b, 0, none⟩), .agg r.cells.toArray, .int .i64 now] (Bl b s :: Fr) (fun _ : Unit => True) (fun _ => .int .i64 0) (fun _ => Bl b (subBR s r.abs now) :: Fr) := by
  refine Ctr.ex Ext.here bl_open ?_
  intro x hx
  refine Ctr.imp star_open ?_
  have hln := hx.len
  have hok := hx.ok
  have hnd : s.n = s.bytes.length / 64 := rfl
  obtain ⟨nn, hbl, hnn⟩ := hok.len
  have hdl := delayR_le hok
  have hfr := hok.free
  have htk := hok.taken
  have hdls := hok.dls
  have hclose : ∀ (m : Msg) (a' : Option Addr) (c' : Nat), m.b = r.m.b → Imp (BO b (subBR s r.abs now) ⟨x.js ++ [⟨{ r with m := m }, freeR s now⟩], x.ba, x.bc, x.da, x.dc, a', c'⟩ ++ Fr) (Bl b (subBR s r.abs now) :: Fr) := by
    intro m a' c' hm
    refine bl_close _ ⟨?_, subBR_ok (r := r.abs) hok he hd⟩
    dsimp only [subBR]; rw [List.map_append, hx.abs]; simp [CJ.abs, CR.abs, hm]
  obtain ⟨part, tag, write, sector, m0⟩ := r
  obtain ⟨h1, h2, h3, h4⟩ := subBE_ok he
  dsimp only [BO, subBR, CR.abs, List.cons_append, List.nil_append] at h1 h2 h3 h4 hr hd hclose ⊢
  refine Ctr.of_body Try.func21 rfl Try.ntmps21 rfl ?_
  refine CG.seq ?_
  refine CG.region ?_
  refine OG.effd (Eff.box rfl) rfl ?_
  rintro b4 -
  refine OG.yield (Yield.assign rfl) rfl ?_
  refine OG.nil ?_
  refine QG.then ?_
  refine CG.seq ?_
  refine CG.block ?_
  refine CG.seq ?_
  refine CG.draw (.look 0 1 (.look 1 1 (.look 2 1 (.look 3 1 (.look 4 1 (.look 5 1 (.look 6 1 (.look 7 1 (.look 8 1 (.look 9 1 (.look 10 1 (.look 11 1 (.look 12 0 (.look 13 0 (.look 14 1 (.eff1 15 false (.look 16 1 (.look 17 1 (.look 18 1 (.done)))))))))))))))))))) [15] [] ([blk b4 (CR.cells ⟨part, tag, write, sector, m0⟩) 40]) ([]) mixed (by kernel_rfl) ((by repeat (first | exact Imp.refl _ | exact Imp.none _ | apply Imp.pull (by repeat (first | exact Ext.here | apply Ext.there)) | apply Imp.trans Imp.drop))) (Imp.none _) ?_
  refine DG.look rfl rfl (Yield.move rfl) rfl ?_
  refine DG.look rfl rfl (by first | exact Yield.as (Yield.lss rfl rfl) (bT (by omega)) | exact Yield.as (Yield.lss rfl rfl) (bF (by omega)) | exact Yield.lss rfl rfl) rfl ?_
  refine DG.look rfl rfl (Yield.move rfl) rfl ?_
  refine DG.look rfl rfl (Yield.move rfl) rfl ?_
  refine DG.look rfl rfl (by first | exact Yield.as (Yield.gtr rfl rfl) (bT (by omega)) | exact Yield.as (Yield.gtr rfl rfl) (bF (by omega)) | exact Yield.gtr rfl rfl) rfl ?_
  refine DG.look rfl rfl (by first | exact Yield.pick_t rfl rfl | exact Yield.pick_f rfl rfl | exact Yield.pick rfl (fun _ => rfl) (fun _ => rfl)) rfl ?_
  refine DG.look rfl rfl (Yield.move rfl) rfl ?_
  refine DG.look rfl rfl (Yield.fieldAddr fa40_3 rfl) rfl ?_
  refine DG.look rfl rfl (Yield.load (v := .int .i64 sector) ti3 rfl (Cel.of_blk (b := b4) (by repeat (first | exact Ext.here | apply Ext.there)) rfl)) rfl ?_
  refine DG.look rfl rfl (by first | exact Yield.as (Yield.lss rfl rfl) (bT (by omega)) | exact Yield.as (Yield.lss rfl rfl) (bF (by omega)) | exact Yield.lss rfl rfl) rfl ?_
  refine DG.look rfl rfl (by first | exact Yield.pick_t rfl rfl | exact Yield.pick_f rfl rfl | exact Yield.pick rfl (fun _ => rfl) (fun _ => rfl)) rfl ?_
  refine DG.look rfl rfl (Yield.move rfl) rfl ?_
  refine DG.look rfl rfl (Yield.fieldAddr fa40_3 rfl) rfl ?_
  refine DG.look rfl rfl (Yield.load (v := .int .i64 sector) ti3 rfl (Cel.of_blk (b := b4) (by repeat (first | exact Ext.here | apply Ext.there)) rfl)) rfl ?_
  refine DG.look rfl rfl (Yield.move rfl) rfl ?_
  refine DG.eff1 ?_
  refine Chg.callo rfl rfl call48 rfl (Imp.refl _) (sectors_spec W0 _ (b := b) (m := s.bytes.length) (Cel.of_blk (b := b) (by repeat (first | exact Ext.here | apply Ext.there)) rfl) (by omega)) rfl (fun _ => (by repeat (first | exact Imp.refl _ | exact Imp.none _ | apply Imp.pull (by repeat (first | exact Ext.here | apply Ext.there)) | apply Imp.trans Imp.drop))) (fun _ => Imp.refl _) (fun _ => (by repeat (first | exact Imp.refl _ | exact Imp.none _ | apply Imp.pull (by repeat (first | exact Ext.here | apply Ext.there)) | apply Imp.trans Imp.drop))) ?_
  rintro ⟨⟩ -
  refine DG.look rfl rfl (by first | exact Yield.as (Yield.geq rfl rfl) (bT (by omega)) | exact Yield.as (Yield.geq rfl rfl) (bF (by omega)) | exact Yield.geq rfl rfl) rfl ?_
  refine DG.look rfl rfl (by first | exact Yield.pick_t rfl rfl | exact Yield.pick_f rfl rfl | exact Yield.pick rfl (fun _ => rfl) (fun _ => rfl)) rfl ?_
  refine DG.look rfl rfl (Yield.assign rfl) rfl ?_
  refine DG.done ?_
  refine QG.then ?_
  refine CG.cond_f rfl ?_
  refine CG.seq ?_
  cases write
  · skip
    refine CG.region ?_
    refine OG.yield (Yield.fieldAddr fa40_2 rfl) rfl ?_
    refine OG.yield (Yield.load (v := .bool false) ti4 rfl (Cel.of_blk (b := b4) (by repeat (first | exact Ext.here | apply Ext.there)) rfl)) rfl ?_
    refine OG.yield (Yield.move rfl) rfl ?_
    refine OG.guard_no rfl rfl rfl rfl rfl (by decide) (by decide) ?_
    refine OG.guard_no rfl rfl rfl rfl rfl (by decide) (by decide) ?_
    refine OG.guard_no rfl rfl rfl rfl rfl (by decide) (by decide) ?_
    refine OG.guard_no rfl rfl rfl rfl rfl (by decide) (by decide) ?_
    refine OG.yield (by first | exact Yield.pick_t rfl rfl | exact Yield.pick_f rfl rfl | exact Yield.pick rfl (fun _ => rfl) (fun _ => rfl)) rfl ?_
    refine OG.yield (Yield.assign rfl) rfl ?_
    refine OG.nil ?_
    refine QG.then ?_
    refine CG.cond_f rfl ?_
    refine CG.seq ?_
    refine CG.region ?_
    refine OG.yield (Yield.move rfl) rfl ?_
    refine OG.yield (Yield.nilCheck rfl) rfl ?_
    refine OG.yield (Yield.fieldAddr fa100_4 rfl) rfl ?_
    refine OG.yield (Yield.fieldAddr fa98_0 rfl) rfl ?_
    refine OG.yield (Yield.load (v := .slice x.qa x.js.length x.qc) ti96 rfl (Cel.of_blk (b := b) (by repeat (first | exact Ext.here | apply Ext.there)) rfl)) rfl ?_
    refine OG.yield (Yield.len_slice (a := x.qa) (m := x.js.length) (c := x.qc) Try.underlying96 rfl rfl) rfl ?_
    refine OG.yield (by first | exact Yield.as (Yield.geq rfl rfl) (bT (by omega)) | exact Yield.as (Yield.geq rfl rfl) (bF (by omega)) | exact Yield.geq rfl rfl) rfl ?_
    refine OG.yield (Yield.assign rfl) rfl ?_
    refine OG.nil ?_
    refine QG.then ?_
    refine CG.cond_f rfl ?_
    refine CG.skip ?_
    refine QG.block_normal ?_
    refine QG.then ?_
    refine CG.seq ?_
    refine CG.region ?_
    refine OG.yield (Yield.fieldAddr fa40_4 rfl) rfl ?_
    refine OG.yield (Yield.load (v := m0.cell) ti36 rfl (Cel.of_blk (b := b4) (by repeat (first | exact Ext.here | apply Ext.there)) rfl)) rfl ?_
    refine OG.callo call38 rfl (Imp.refl _) (cloneB_spec W0 _ (a := m0.a) (c := m0.c) (bs := m0.b) (by exact hr.imp (by repeat (first | exact Imp.refl _ | exact Imp.none _ | apply Imp.pull (by repeat (first | exact Ext.here | apply Ext.there)) | apply Imp.trans Imp.drop))) (by unfold dmax at hd; omega)) rfl ?_
    rintro m hm
    refine OG.yield (Yield.fieldAddr fa40_4 rfl) rfl ?_
    refine OG.eff (Eff.store1 ti36 rfl rfl (by repeat (first | exact Foc.here | apply Foc.there)) rfl (by show 4 < 5; decide)) rfl ?_
    rintro ⟨⟩ -
    refine OG.nil ?_
    refine QG.then ?_
    refine CG.seq ?_
    refine CG.draw (.look 0 0 (.look 1 0 (.look 2 0 (.look 3 0 (.look 4 2 (.look 5 0 (.look 6 0 (.look 7 1 (.eff1 8 false (.look 9 1 (.look 10 1 (.look 11 1 (.eff1 12 true (.done)))))))))))))) [8, 12] [4] ([]) ([BH b x.ba s.bytes.length x.bc x.da s.delays.length x.dc s.taken s.free x.qa x.js.length x.qc]) mixed (by kernel_rfl) (Imp.none _) ((by repeat (first | exact Imp.refl _ | exact Imp.none _ | apply Imp.pull (by repeat (first | exact Ext.here | apply Ext.there)) | apply Imp.trans Imp.drop))) ?_
    refine DG.look rfl rfl (Yield.move rfl) rfl ?_
    refine DG.look rfl rfl (Yield.move rfl) rfl ?_
    refine DG.look rfl rfl (Yield.nilCheck rfl) rfl ?_
    refine DG.look rfl rfl (Yield.fieldAddr fa100_3 rfl) rfl ?_
    refine DG.look rfl rfl (Yield.load (v := .int .i64 s.free) ti3 rfl (Cel.of_blk (b := b) (by repeat (first | exact Ext.here | apply Ext.there)) rfl)) rfl ?_
    refine DG.look rfl rfl (Yield.move rfl) rfl ?_
    refine DG.look rfl rfl (Yield.max2 rfl rfl) rfl ?_
    refine DG.look rfl rfl (Yield.move rfl) rfl ?_
    refine DG.eff1 ?_
    refine Chg.callo rfl rfl call49 rfl (Imp.refl _) (delay_spec W0 _ (b := b) (c := x.dc) (a := x.da) (l := s.delays) (taken := s.taken) (Cel.of_blk (b := b) (by repeat (first | exact Ext.here | apply Ext.there)) rfl) (Cel.of_blk (b := b) (by repeat (first | exact Ext.here | apply Ext.there)) rfl) (SlR.of_osl (E := 3) (by repeat (first | exact Ext.here | apply Ext.there))) htk hdls) rfl (fun _ => (by repeat (first | exact Imp.refl _ | exact Imp.none _ | apply Imp.pull (by repeat (first | exact Ext.here | apply Ext.there)) | apply Imp.trans Imp.drop))) (fun _ => Imp.refl _) (fun _ => (by repeat (first | exact Imp.refl _ | exact Imp.none _ | apply Imp.pull (by repeat (first | exact Ext.here | apply Ext.there)) | apply Imp.trans Imp.drop))) ?_
    rintro ⟨⟩ -
    refine DG.look rfl rfl (Yield.add rfl rfl (w64 (by omega) (by omega))) rfl ?_
    refine DG.look rfl rfl (Yield.nilCheck rfl) rfl ?_
    refine DG.look rfl rfl (Yield.fieldAddr fa100_3 rfl) rfl ?_
    refine DG.eff1 ?_
    refine Chg.eff rfl rfl (Eff.store1 ti3 rfl rfl (by repeat (first | exact Foc.here | apply Foc.there)) rfl (by show 3 < 5; decide)) rfl (fun _ => (by repeat (first | exact Imp.refl _ | exact Imp.none _ | apply Imp.pull (by repeat (first | exact Ext.here | apply Ext.there)) | apply Imp.trans Imp.drop))) (fun _ => Imp.refl _) (fun _ => (by repeat (first | exact Imp.refl _ | exact Imp.none _ | apply Imp.pull (by repeat (first | exact Ext.here | apply Ext.there)) | apply Imp.trans Imp.drop))) ?_
    rintro ⟨⟩ -
    refine DG.done ?_
    refine QG.then ?_
    refine CG.seq ?_
    refine CG.region ?_
    refine OG.yield (Yield.move rfl) rfl ?_
    refine OG.yield (Yield.nilCheck rfl) rfl ?_
    refine OG.yield (Yield.fieldAddr fa100_2 rfl) rfl ?_
    refine OG.yield (Yield.load (v := .int .i64 s.taken) ti3 rfl (Cel.of_blk (b := b) (by repeat (first | exact Ext.here | apply Ext.there)) rfl)) rfl ?_
    refine OG.yield (Yield.add rfl rfl (w64 (by omega) (by omega))) rfl ?_
    refine OG.yield (Yield.nilCheck rfl) rfl ?_
    refine OG.yield (Yield.fieldAddr fa100_2 rfl) rfl ?_
    refine OG.eff (Eff.store1 ti3 rfl rfl (by repeat (first | exact Foc.here | apply Foc.there)) rfl (by show 2 < 5; decide)) rfl ?_
    rintro ⟨⟩ -
    refine OG.nil ?_
    refine QG.then ?_
    refine CG.seq ?_
    refine CG.draw (.look 0 1 (.look 1 1 (.look 2 1 (.look 3 1 (.look 4 1 (.look 5 1 (.look 6 1 (.look 7 1 (.look 8 1 (.eff1 9 false (.done))))))))))) [9] [] ([]) ([]) mixed (by kernel_rfl) (Imp.none _) (Imp.none _) ?_
    refine DG.look rfl rfl (Yield.move rfl) rfl ?_
    refine DG.look rfl rfl (Yield.nilCheck rfl) rfl ?_
    refine DG.look rfl rfl (Yield.fieldAddr fa100_4 rfl) rfl ?_
    refine DG.look rfl rfl (Yield.load_agg (vs := CR.cells ⟨part, tag, false, sector, m⟩) ti40 rfl (CR.len _) (Row.of_blk (b := b4) (by repeat (first | exact Ext.here | apply Ext.there)) rfl)) rfl ?_
    refine DG.look rfl rfl (Yield.move rfl) rfl ?_
    refine DG.look rfl rfl (Yield.nilCheck rfl) rfl ?_
    refine DG.look rfl rfl (Yield.fieldAddr fa100_3 rfl) rfl ?_
    refine DG.look rfl rfl (Yield.load (v := .int .i64 (freeR s now)) ti3 rfl (Cel.of_blk (b := b) (by repeat (first | exact Ext.here | apply Ext.there)) rfl)) rfl ?_
    refine DG.look rfl rfl (Yield.build (pvs := [(0, .agg (CR.cells ⟨part, tag, false, sector, m⟩).toArray), (1, .int .i64 (freeR s now))]) bu102 ti102 rfl (cells := CJ.cells ⟨⟨part, tag, false, sector, m⟩, freeR s now⟩) rfl) rfl ?_
    refine DG.eff1 ?_
    refine Chg.callo rfl rfl call50 rfl (Imp.pull (A := BH b x.ba s.bytes.length x.bc x.da s.delays.length x.dc (s.taken + 1) (freeR s now) x.qa x.js.length x.qc) (by repeat (first | exact Ext.here | apply Ext.there)) (Imp.pull (A := ojobs x.qa x.qc x.js) (by repeat (first | exact Ext.here | apply Ext.there)) (Imp.refl _))) (put_spec W0 _ (b := b) (ba := x.ba) (bm := s.bytes.length) (bc := x.bc) (da := x.da) (dm := s.delays.length) (dc := x.dc) (taken := s.taken + 1) (free := freeR s now) (qa := x.qa) (qc := x.qc) (js := x.js) (j := ⟨⟨part, tag, false, sector, m⟩, freeR s now⟩) (by omega)) rfl (fun _ => (by repeat (first | exact Imp.refl _ | exact Imp.none _ | apply Imp.pull (by repeat (first | exact Ext.here | apply Ext.there)) | apply Imp.trans Imp.drop))) (fun _ => Imp.refl _) (fun _ => (by repeat (first | exact Imp.refl _ | exact Imp.none _ | apply Imp.pull (by repeat (first | exact Ext.here | apply Ext.there)) | apply Imp.trans Imp.drop))) ?_
    rintro ⟨a75, c75⟩ -
    refine DG.done ?_
    refine QG.then ?_
    refine CG.seq ?_
    refine CG.region ?_
    refine OG.yield (Yield.assign rfl) rfl ?_
    refine OG.nil ?_
    refine QG.then ?_
    refine CG.ret ?_
    refine QG.ret1 rfl rfl () trivial rfl (Imp.trans ?_ (hclose m a75 c75 hm))
    rw [List.length_append]
    refine Imp.trans (Imp.pull (A := m.own) (by repeat (first | exact Ext.here | apply Ext.there)) (Imp.pull (A := jpool x.js) (by repeat (first | exact Ext.here | apply Ext.there)) (Imp.refl _))) (Imp.trans pool_add ?_)
    dsimp only [jpool]
    rw [List.map_append]
    exact (by repeat (first | exact Imp.refl _ | exact Imp.none _ | apply Imp.pull (by repeat (first | exact Ext.here | apply Ext.there)) | apply Imp.trans Imp.drop))
  · skip
    refine CG.region ?_
    refine OG.yield (Yield.fieldAddr fa40_2 rfl) rfl ?_
    refine OG.yield (Yield.load (v := .bool true) ti4 rfl (Cel.of_blk (b := b4) (by repeat (first | exact Ext.here | apply Ext.there)) rfl)) rfl ?_
    refine OG.yield (Yield.move rfl) rfl ?_
    refine OG.guard_yes rfl rfl rfl (by decide) ?_
    refine OG.yield (Yield.fieldAddr fa40_4 rfl) rfl ?_
    refine OG.guard_yes rfl rfl rfl (by decide) ?_
    refine OG.yield (Yield.load (v := m0.cell) ti36 rfl (Cel.of_blk (b := b4) (by repeat (first | exact Ext.here | apply Ext.there)) rfl)) rfl ?_
    refine OG.guard_yes rfl rfl rfl (by decide) ?_
    refine OG.yield (Yield.len_slice (a := m0.a) (m := m0.b.length) (c := m0.c) Try.underlying36 rfl rfl) rfl ?_
    refine OG.guard_yes rfl rfl rfl (by decide) ?_
    refine OG.yield (Yield.as (Yield.neq rfl rfl) (bF (by have := h3 rfl; omega))) rfl ?_
    refine OG.yield (by first | exact Yield.pick_t rfl rfl | exact Yield.pick_f rfl rfl | exact Yield.pick rfl (fun _ => rfl) (fun _ => rfl)) rfl ?_
    refine OG.yield (Yield.assign rfl) rfl ?_
    refine OG.nil ?_
    refine QG.then ?_
    refine CG.cond_f rfl ?_
    refine CG.seq ?_
    refine CG.region ?_
    refine OG.yield (Yield.move rfl) rfl ?_
    refine OG.yield (Yield.nilCheck rfl) rfl ?_
    refine OG.yield (Yield.fieldAddr fa100_4 rfl) rfl ?_
    refine OG.yield (Yield.fieldAddr fa98_0 rfl) rfl ?_
    refine OG.yield (Yield.load (v := .slice x.qa x.js.length x.qc) ti96 rfl (Cel.of_blk (b := b) (by repeat (first | exact Ext.here | apply Ext.there)) rfl)) rfl ?_
    refine OG.yield (Yield.len_slice (a := x.qa) (m := x.js.length) (c := x.qc) Try.underlying96 rfl rfl) rfl ?_
    refine OG.yield (by first | exact Yield.as (Yield.geq rfl rfl) (bT (by omega)) | exact Yield.as (Yield.geq rfl rfl) (bF (by omega)) | exact Yield.geq rfl rfl) rfl ?_
    refine OG.yield (Yield.assign rfl) rfl ?_
    refine OG.nil ?_
    refine QG.then ?_
    refine CG.cond_f rfl ?_
    refine CG.skip ?_
    refine QG.block_normal ?_
    refine QG.then ?_
    refine CG.seq ?_
    refine CG.region ?_
    refine OG.yield (Yield.fieldAddr fa40_4 rfl) rfl ?_
    refine OG.yield (Yield.load (v := m0.cell) ti36 rfl (Cel.of_blk (b := b4) (by repeat (first | exact Ext.here | apply Ext.there)) rfl)) rfl ?_
    refine OG.callo call38 rfl (Imp.refl _) (cloneB_spec W0 _ (a := m0.a) (c := m0.c) (bs := m0.b) (by exact hr.imp (by repeat (first | exact Imp.refl _ | exact Imp.none _ | apply Imp.pull (by repeat (first | exact Ext.here | apply Ext.there)) | apply Imp.trans Imp.drop))) (by unfold dmax at hd; omega)) rfl ?_
    rintro m hm
    refine OG.yield (Yield.fieldAddr fa40_4 rfl) rfl ?_
    refine OG.eff (Eff.store1 ti36 rfl rfl (by repeat (first | exact Foc.here | apply Foc.there)) rfl (by show 4 < 5; decide)) rfl ?_
    rintro ⟨⟩ -
    refine OG.nil ?_
    refine QG.then ?_
    refine CG.seq ?_
    refine CG.draw (.look 0 0 (.look 1 0 (.look 2 0 (.look 3 0 (.look 4 2 (.look 5 0 (.look 6 0 (.look 7 1 (.eff1 8 false (.look 9 1 (.look 10 1 (.look 11 1 (.eff1 12 true (.done)))))))))))))) [8, 12] [4] ([]) ([BH b x.ba s.bytes.length x.bc x.da s.delays.length x.dc s.taken s.free x.qa x.js.length x.qc]) mixed (by kernel_rfl) (Imp.none _) ((by repeat (first | exact Imp.refl _ | exact Imp.none _ | apply Imp.pull (by repeat (first | exact Ext.here | apply Ext.there)) | apply Imp.trans Imp.drop))) ?_
    refine DG.look rfl rfl (Yield.move rfl) rfl ?_
    refine DG.look rfl rfl (Yield.move rfl) rfl ?_
    refine DG.look rfl rfl (Yield.nilCheck rfl) rfl ?_
    refine DG.look rfl rfl (Yield.fieldAddr fa100_3 rfl) rfl ?_
    refine DG.look rfl rfl (Yield.load (v := .int .i64 s.free) ti3 rfl (Cel.of_blk (b := b) (by repeat (first | exact Ext.here | apply Ext.there)) rfl)) rfl ?_
    refine DG.look rfl rfl (Yield.move rfl) rfl ?_
    refine DG.look rfl rfl (Yield.max2 rfl rfl) rfl ?_
    refine DG.look rfl rfl (Yield.move rfl) rfl ?_
    refine DG.eff1 ?_
    refine Chg.callo rfl rfl call49 rfl (Imp.refl _) (delay_spec W0 _ (b := b) (c := x.dc) (a := x.da) (l := s.delays) (taken := s.taken) (Cel.of_blk (b := b) (by repeat (first | exact Ext.here | apply Ext.there)) rfl) (Cel.of_blk (b := b) (by repeat (first | exact Ext.here | apply Ext.there)) rfl) (SlR.of_osl (E := 3) (by repeat (first | exact Ext.here | apply Ext.there))) htk hdls) rfl (fun _ => (by repeat (first | exact Imp.refl _ | exact Imp.none _ | apply Imp.pull (by repeat (first | exact Ext.here | apply Ext.there)) | apply Imp.trans Imp.drop))) (fun _ => Imp.refl _) (fun _ => (by repeat (first | exact Imp.refl _ | exact Imp.none _ | apply Imp.pull (by repeat (first | exact Ext.here | apply Ext.there)) | apply Imp.trans Imp.drop))) ?_
    rintro ⟨⟩ -
    refine DG.look rfl rfl (Yield.add rfl rfl (w64 (by omega) (by omega))) rfl ?_
    refine DG.look rfl rfl (Yield.nilCheck rfl) rfl ?_
    refine DG.look rfl rfl (Yield.fieldAddr fa100_3 rfl) rfl ?_
    refine DG.eff1 ?_
    refine Chg.eff rfl rfl (Eff.store1 ti3 rfl rfl (by repeat (first | exact Foc.here | apply Foc.there)) rfl (by show 3 < 5; decide)) rfl (fun _ => (by repeat (first | exact Imp.refl _ | exact Imp.none _ | apply Imp.pull (by repeat (first | exact Ext.here | apply Ext.there)) | apply Imp.trans Imp.drop))) (fun _ => Imp.refl _) (fun _ => (by repeat (first | exact Imp.refl _ | exact Imp.none _ | apply Imp.pull (by repeat (first | exact Ext.here | apply Ext.there)) | apply Imp.trans Imp.drop))) ?_
    rintro ⟨⟩ -
    refine DG.done ?_
    refine QG.then ?_
    refine CG.seq ?_
    refine CG.region ?_
    refine OG.yield (Yield.move rfl) rfl ?_
    refine OG.yield (Yield.nilCheck rfl) rfl ?_
    refine OG.yield (Yield.fieldAddr fa100_2 rfl) rfl ?_
    refine OG.yield (Yield.load (v := .int .i64 s.taken) ti3 rfl (Cel.of_blk (b := b) (by repeat (first | exact Ext.here | apply Ext.there)) rfl)) rfl ?_
    refine OG.yield (Yield.add rfl rfl (w64 (by omega) (by omega))) rfl ?_
    refine OG.yield (Yield.nilCheck rfl) rfl ?_
    refine OG.yield (Yield.fieldAddr fa100_2 rfl) rfl ?_
    refine OG.eff (Eff.store1 ti3 rfl rfl (by repeat (first | exact Foc.here | apply Foc.there)) rfl (by show 2 < 5; decide)) rfl ?_
    rintro ⟨⟩ -
    refine OG.nil ?_
    refine QG.then ?_
    refine CG.seq ?_
    refine CG.draw (.look 0 1 (.look 1 1 (.look 2 1 (.look 3 1 (.look 4 1 (.look 5 1 (.look 6 1 (.look 7 1 (.look 8 1 (.eff1 9 false (.done))))))))))) [9] [] ([]) ([]) mixed (by kernel_rfl) (Imp.none _) (Imp.none _) ?_
    refine DG.look rfl rfl (Yield.move rfl) rfl ?_
    refine DG.look rfl rfl (Yield.nilCheck rfl) rfl ?_
    refine DG.look rfl rfl (Yield.fieldAddr fa100_4 rfl) rfl ?_
    refine DG.look rfl rfl (Yield.load_agg (vs := CR.cells ⟨part, tag, true, sector, m⟩) ti40 rfl (CR.len _) (Row.of_blk (b := b4) (by repeat (first | exact Ext.here | apply Ext.there)) rfl)) rfl ?_
    refine DG.look rfl rfl (Yield.move rfl) rfl ?_
    refine DG.look rfl rfl (Yield.nilCheck rfl) rfl ?_
    refine DG.look rfl rfl (Yield.fieldAddr fa100_3 rfl) rfl ?_
    refine DG.look rfl rfl (Yield.load (v := .int .i64 (freeR s now)) ti3 rfl (Cel.of_blk (b := b) (by repeat (first | exact Ext.here | apply Ext.there)) rfl)) rfl ?_
    refine DG.look rfl rfl (Yield.build (pvs := [(0, .agg (CR.cells ⟨part, tag, true, sector, m⟩).toArray), (1, .int .i64 (freeR s now))]) bu102 ti102 rfl (cells := CJ.cells ⟨⟨part, tag, true, sector, m⟩, freeR s now⟩) rfl) rfl ?_
    refine DG.eff1 ?_
    refine Chg.callo rfl rfl call50 rfl (Imp.pull (A := BH b x.ba s.bytes.length x.bc x.da s.delays.length x.dc (s.taken + 1) (freeR s now) x.qa x.js.length x.qc) (by repeat (first | exact Ext.here | apply Ext.there)) (Imp.pull (A := ojobs x.qa x.qc x.js) (by repeat (first | exact Ext.here | apply Ext.there)) (Imp.refl _))) (put_spec W0 _ (b := b) (ba := x.ba) (bm := s.bytes.length) (bc := x.bc) (da := x.da) (dm := s.delays.length) (dc := x.dc) (taken := s.taken + 1) (free := freeR s now) (qa := x.qa) (qc := x.qc) (js := x.js) (j := ⟨⟨part, tag, true, sector, m⟩, freeR s now⟩) (by omega)) rfl (fun _ => (by repeat (first | exact Imp.refl _ | exact Imp.none _ | apply Imp.pull (by repeat (first | exact Ext.here | apply Ext.there)) | apply Imp.trans Imp.drop))) (fun _ => Imp.refl _) (fun _ => (by repeat (first | exact Imp.refl _ | exact Imp.none _ | apply Imp.pull (by repeat (first | exact Ext.here | apply Ext.there)) | apply Imp.trans Imp.drop))) ?_
    rintro ⟨a75, c75⟩ -
    refine DG.done ?_
    refine QG.then ?_
    refine CG.seq ?_
    refine CG.region ?_
    refine OG.yield (Yield.assign rfl) rfl ?_
    refine OG.nil ?_
    refine QG.then ?_
    refine CG.ret ?_
    refine QG.ret1 rfl rfl () trivial rfl (Imp.trans ?_ (hclose m a75 c75 hm))
    rw [List.length_append]
    refine Imp.trans (Imp.pull (A := m.own) (by repeat (first | exact Ext.here | apply Ext.there)) (Imp.pull (A := jpool x.js) (by repeat (first | exact Ext.here | apply Ext.there)) (Imp.refl _))) (Imp.trans pool_add ?_)
    dsimp only [jpool]
    rw [List.map_append]
    exact (by repeat (first | exact Imp.refl _ | exact Imp.none _ | apply Imp.pull (by repeat (first | exact Ext.here | apply Ext.there)) | apply Imp.trans Imp.drop))
set_option maxHeartbeats 2000000 in
theorem bclone_spec {b : Nat} {s : Bs} : Ctr Try.prog W0 34 [.pointer (some ⟨b, 0, none⟩)] (Bl b s :: Fr) (fun _ : Nat => True) (fun c => .pointer (some ⟨c, 0, none⟩)) (fun c => Bl c s :: Bl b s :: Fr) := by
  refine Ctr.ex Ext.here bl_open ?_
  rintro ⟨js, ba, bc, da, dc, qa, qc⟩ hx
  refine Ctr.imp star_open ?_
  have hln := hx.len
  have hok := hx.ok
  have hab := hx.abs
  have hql := hok.ql
  have hdls := hok.dls
  obtain ⟨nn, hbl, hnn⟩ := hok.len
  have hcl := bl_close (b := b) (G := Fr) _ hx
  dsimp only [BO, List.cons_append, List.nil_append] at hln hcl hab ⊢
  refine Ctr.of_body Try.func34 rfl Try.ntmps34 rfl ?_
  refine CG.seq ?_
  refine CG.region ?_
  refine OG.yield (Yield.assign rfl) rfl ?_
  refine OG.nil ?_
  refine QG.then ?_
  refine CG.seq ?_
  refine CG.region ?_
  refine OG.yield (Yield.move rfl) rfl ?_
  refine OG.yield (Yield.nilCheck rfl) rfl ?_
  refine OG.yield (Yield.load_agg (vs := [.slice ba s.bytes.length bc, .slice da s.delays.length dc, .int .i64 s.taken, .int .i64 s.free, .slice qa js.length qc]) ti100 rfl rfl (Row.of_blk (b := b) (by repeat (first | exact Ext.here | apply Ext.there)) rfl)) rfl ?_
  refine OG.effd (Eff.alloc ti100) rfl ?_
  rintro b3 -
  refine OG.eff (Eff.storeAll ti100 rfl rfl (by repeat (first | exact Foc.here | apply Foc.there)) rfl (by simp [one]) rfl) rfl ?_
  rintro ⟨⟩ -
  refine OG.nil ?_
  refine QG.then ?_
  refine CG.seq ?_
  refine CG.draw (.look 0 1 (.look 1 1 (.look 2 1 (.look 3 1 (.look 5 0 (.look 6 0 (.look 7 0 (.look 8 0 (.eff1 4 false (.eff1 9 false (.look 10 1 (.eff1 11 false (.look 12 1 (.eff1 13 false (.done))))))))))))))) [4, 9, 11, 13] [] ([BH b ba s.bytes.length bc da s.delays.length dc s.taken s.free qa js.length qc]) ([]) mixed (by kernel_rfl) ((by repeat (first | exact Imp.refl _ | exact Imp.none _ | apply Imp.pull (by repeat (first | exact Ext.here | apply Ext.there)) | apply Imp.trans Imp.drop))) (Imp.none _) ?_
  refine DG.look rfl rfl (Yield.move rfl) rfl ?_
  refine DG.look rfl rfl (Yield.nilCheck rfl) rfl ?_
  refine DG.look rfl rfl (Yield.fieldAddr fa100_0 rfl) rfl ?_
  refine DG.look rfl rfl (Yield.load (v := .slice ba s.bytes.length bc) ti36 rfl (Cel.of_blk (b := b) (by repeat (first | exact Ext.here | apply Ext.there)) rfl)) rfl ?_
  refine DG.look rfl rfl (Yield.move rfl) rfl ?_
  refine DG.look rfl rfl (Yield.nilCheck rfl) rfl ?_
  refine DG.look rfl rfl (Yield.fieldAddr fa100_1 rfl) rfl ?_
  refine DG.look rfl rfl (Yield.load (v := .slice da s.delays.length dc) ti23 rfl (Cel.of_blk (b := b) (by repeat (first | exact Ext.here | apply Ext.there)) rfl)) rfl ?_
  refine DG.eff1 ?_
  refine Chg.callo rfl rfl call38 rfl (Imp.refl _) (cloneB_spec W0 _ (a := ba) (c := bc) (bs := s.bytes) (RdB.of_osl (by repeat (first | exact Ext.here | apply Ext.there)) rfl rfl) (by omega)) rfl (fun _ => (by repeat (first | exact Imp.refl _ | exact Imp.none _ | apply Imp.pull (by repeat (first | exact Ext.here | apply Ext.there)) | apply Imp.trans Imp.drop))) (fun _ => Imp.refl _) (fun _ => (by repeat (first | exact Imp.refl _ | exact Imp.none _ | apply Imp.pull (by repeat (first | exact Ext.here | apply Ext.there)) | apply Imp.trans Imp.drop))) ?_
  rintro ⟨a13, c13, b13⟩ hm13
  dsimp only at hm13
  subst hm13
  refine DG.eff1 ?_
  refine Chg.callo rfl rfl call44 rfl (Imp.refl _) (cloneI_spec W0 _ (a := da) (c := dc) (l := s.delays) (SlR.of_osl (E := 3) (by repeat (first | exact Ext.here | apply Ext.there))) hdls) rfl (fun _ => (by repeat (first | exact Imp.refl _ | exact Imp.none _ | apply Imp.pull (by repeat (first | exact Ext.here | apply Ext.there)) | apply Imp.trans Imp.drop))) (fun _ => Imp.refl _) (fun _ => (by repeat (first | exact Imp.refl _ | exact Imp.none _ | apply Imp.pull (by repeat (first | exact Ext.here | apply Ext.there)) | apply Imp.trans Imp.drop))) ?_
  rintro ⟨a18, c18⟩ -
  refine DG.look rfl rfl (Yield.fieldAddr fa100_0 rfl) rfl ?_
  refine DG.eff1 ?_
  refine Chg.eff rfl rfl (Eff.store1 ti36 rfl rfl (by repeat (first | exact Foc.here | apply Foc.there)) rfl (by show 0 < 5; decide)) rfl (fun _ => (by repeat (first | exact Imp.refl _ | exact Imp.none _ | apply Imp.pull (by repeat (first | exact Ext.here | apply Ext.there)) | apply Imp.trans Imp.drop))) (fun _ => Imp.refl _) (fun _ => (by repeat (first | exact Imp.refl _ | exact Imp.none _ | apply Imp.pull (by repeat (first | exact Ext.here | apply Ext.there)) | apply Imp.trans Imp.drop))) ?_
  rintro ⟨⟩ -
  refine DG.look rfl rfl (Yield.fieldAddr fa100_1 rfl) rfl ?_
  refine DG.eff1 ?_
  refine Chg.eff rfl rfl (Eff.store1 ti23 rfl rfl (by repeat (first | exact Foc.here | apply Foc.there)) rfl (by show 1 < 5; decide)) rfl (fun _ => (by repeat (first | exact Imp.refl _ | exact Imp.none _ | apply Imp.pull (by repeat (first | exact Ext.here | apply Ext.there)) | apply Imp.trans Imp.drop))) (fun _ => Imp.refl _) (fun _ => (by repeat (first | exact Imp.refl _ | exact Imp.none _ | apply Imp.pull (by repeat (first | exact Ext.here | apply Ext.there)) | apply Imp.trans Imp.drop))) ?_
  rintro ⟨⟩ -
  refine DG.done ?_
  refine QG.then ?_
  refine CG.seq ?_
  refine CG.region ?_
  refine OG.yield (Yield.build (pvs := []) bu98 ti98 rfl (cells := [.slice none 0 0]) rfl) rfl ?_
  refine OG.yield (Yield.fieldAddr fa100_4 rfl) rfl ?_
  refine OG.eff (Eff.store (v := .agg #[.slice none 0 0]) (cs' := [.slice a13 s.bytes.length c13, .slice a18 s.delays.length c18, .int .i64 s.taken, .int .i64 s.free, .slice none 0 0]) ti98 rfl rfl (by repeat (first | exact Foc.here | apply Foc.there)) rfl (by simp [Value.cells, one]) (by show 4 + 1 ≤ 5; decide) rfl) rfl ?_
  rintro ⟨⟩ -
  refine OG.nil ?_
  refine QG.then ?_
  refine CG.seq ?_
  refine CG.seq ?_
  refine CG.region ?_
  refine OG.yield (Yield.move rfl) rfl ?_
  refine OG.yield (Yield.nilCheck rfl) rfl ?_
  refine OG.yield (Yield.fieldAddr fa100_4 rfl) rfl ?_
  refine OG.yield (Yield.fieldAddr fa98_0 rfl) rfl ?_
  refine OG.yield (Yield.load (v := .slice qa js.length qc) ti96 rfl (Cel.of_blk (b := b) (by repeat (first | exact Ext.here | apply Ext.there)) rfl)) rfl ?_
  refine OG.yield (Yield.len_slice (a := qa) (m := js.length) (c := qc) Try.underlying96 rfl rfl) rfl ?_
  refine OG.yield (Yield.move rfl) rfl ?_
  refine OG.nil ?_
  refine QG.then ?_
  refine CG.block ?_
  refine CG.loop (fun t : Bt => t.l.length ≤ js.length ∧ t.l.map CJ.abs = (js.take t.l.length).map CJ.abs) (fun t => [(0, .pointer (some ⟨b, 0, none⟩)), (3, .pointer (some ⟨b3, 0, none⟩)), (27, .slice qa js.length qc), (28, .int .i64 js.length), (29, .int .i64 t.l.length)]) (fun t => BH b3 a13 s.bytes.length c13 a18 s.delays.length c18 s.taken s.free t.a t.l.length t.c :: ojobs t.a t.c t.l :: jpool t.l :: onum 3 .i64 a18 c18 s.delays :: oby 5 a13 c13 s.bytes :: BH b ba s.bytes.length bc da s.delays.length dc s.taken s.free qa js.length qc :: oby 5 ba bc s.bytes :: onum 3 .i64 da dc s.delays :: ojobs qa qc js :: jpool js :: Fr) (fun t => js.length - t.l.length) ⟨[], none, 0⟩ ⟨Nat.zero_le _, rfl⟩ (by repeat (first | exact Env.sub_nil _ | refine Env.sub_cons rfl ?_)) (Imp.trans pool_nil (Imp.trans (osl_nil (E := 102) (sz := 6)) (Imp.pull (A := BH b3 a13 s.bytes.length c13 a18 s.delays.length c18 s.taken s.free none 0 0) (by repeat (first | exact Ext.here | apply Ext.there)) (Imp.pull (A := ojobs none 0 []) (by repeat (first | exact Ext.here | apply Ext.there)) (Imp.pull (A := jpool []) (by repeat (first | exact Ext.here | apply Ext.there)) (Imp.pull (A := onum 3 .i64 a18 c18 s.delays) (by repeat (first | exact Ext.here | apply Ext.there)) (Imp.pull (A := oby 5 a13 c13 s.bytes) (by repeat (first | exact Ext.here | apply Ext.there)) (by repeat (first | exact Imp.refl _ | exact Imp.none _ | apply Imp.pull (by repeat (first | exact Ext.here | apply Ext.there)) | apply Imp.trans Imp.drop))))))))) ?_
  rintro ⟨l, la, lc⟩ ⟨hi, hla⟩
  dsimp only at hi hla ⊢
  refine CG.seq ?_
  refine CG.region ?_
  refine OG.yield (by first | exact Yield.as (Yield.lss rfl rfl) (bT (by omega)) | exact Yield.as (Yield.lss rfl rfl) (bF (by omega)) | exact Yield.lss rfl rfl) rfl ?_
  refine OG.nil ?_
  refine QG.then ?_
  refine CG.seq ?_
  refine CG.cond rfl (fun hc => ?_) (fun hc => ?_)
  · try replace hc := of_decide_eq_true hc
    have hi' : l.length < js.length := by omega
    have hgx : js[l.length]? = some js[l.length] := by simp [hi']
    generalize js[l.length] = j at hgx
    have htk : js.take (l.length + 1) = js.take l.length ++ [j] := by obtain ⟨hlt, hq⟩ := List.getElem?_eq_some_iff.1 hgx; rw [List.take_succ_eq_append_getElem hlt, hq]
    have hdat := hok.dat j.abs (by rw [← hab]; exact List.mem_map_of_mem (List.mem_of_getElem? hgx))
    have hjm : j.m ∈ js.map CJ.m := List.mem_map_of_mem (List.mem_of_getElem? hgx)
    refine CG.pure (fun w hw => shape_js (a := qa) (c := qc) (n := l.length) (l := js) hi' (by repeat (first | exact Ext.here | apply Ext.there)) w hw) ?_
    rintro ⟨qb, qo, rfl⟩
    refine CG.skip ?_
    refine QG.then ?_
    refine CG.seq ?_
    refine CG.block ?_
    refine CG.seq ?_
    refine CG.region ?_
    refine OG.yield (Yield.index_slice Try.underlying96 ti102 rfl rfl (by omega) (by omega)) rfl ?_
    refine OG.yield (Yield.load_agg (vs := j.cells) ti102 rfl (CJ.len j) (by rw [show qo + (l.length : Int).toNat * 6 = qo + l.length * 6 by omega]; exact (SlR.of_osl (E := 102) (a := some ⟨qb, qo, none⟩) (by repeat (first | exact Ext.here | apply Ext.there))).elem CJ.len hgx)) rfl ?_
    refine OG.effd (Eff.alloc ti102) rfl ?_
    rintro b5 -
    refine OG.eff (Eff.storeAll ti102 rfl rfl (by repeat (first | exact Foc.here | apply Foc.there)) (CJ.len j) (CJ.ones j) rfl) rfl ?_
    rintro ⟨⟩ -
    refine OG.nil ?_
    refine QG.then ?_
    refine CG.seq ?_
    refine CG.region ?_
    refine OG.yield (Yield.fieldAddr fa102_0 rfl) rfl ?_
    refine OG.yield (Yield.fieldAddr fa40_4 rfl) rfl ?_
    refine OG.yield (Yield.load (v := j.m.cell) ti36 rfl (Cel.of_blk (b := b5) (by repeat (first | exact Ext.here | apply Ext.there)) rfl)) rfl ?_
    refine OG.callo call38 rfl (Imp.refl _) (cloneB_spec W0 _ (a := j.m.a) (c := j.m.c) (bs := j.m.b) (by exact pool_rd (ms := js.map CJ.m) (by repeat (first | exact Ext.here | apply Ext.there)) hjm) (by have h9 : j.abs.r.data = j.m.b := rfl; rw [h9] at hdat; unfold dmax at hdat; omega)) rfl ?_
    rintro m hm
    refine OG.yield (Yield.fieldAddr fa102_0 rfl) rfl ?_
    refine OG.yield (Yield.fieldAddr fa40_4 rfl) rfl ?_
    refine OG.eff (Eff.store1 ti36 rfl rfl (by repeat (first | exact Foc.here | apply Foc.there)) rfl (by show 4 < 6; decide)) rfl ?_
    rintro ⟨⟩ -
    refine OG.nil ?_
    refine QG.then ?_
    refine CG.region ?_
    refine OG.yield (Yield.fieldAddr fa100_4 rfl) rfl ?_
    refine OG.yield (Yield.load_agg (vs := CJ.cells ⟨{ j.r with m := m }, j.done⟩) ti102 rfl (CJ.len _) (Row.of_blk (b := b5) (by repeat (first | exact Ext.here | apply Ext.there)) rfl)) rfl ?_
    refine OG.callo call50 rfl (Imp.pull (A := BH b3 a13 s.bytes.length c13 a18 s.delays.length c18 s.taken s.free la l.length lc) (by repeat (first | exact Ext.here | apply Ext.there)) (Imp.pull (A := ojobs la lc l) (by repeat (first | exact Ext.here | apply Ext.there)) (Imp.refl _))) (put_spec W0 _ (b := b3) (ba := a13) (bm := s.bytes.length) (bc := c13) (da := a18) (dm := s.delays.length) (dc := c18) (taken := s.taken) (free := s.free) (qa := la) (qc := lc) (js := l) (j := ⟨{ j.r with m := m }, j.done⟩) (by omega)) rfl ?_
    rintro ⟨a41, c41⟩ -
    refine OG.nil ?_
    refine QG.block_normal ?_
    refine QG.then ?_
    refine CG.region ?_
    refine OG.yield (Yield.add rfl rfl (w64 (by omega) (by omega))) rfl ?_
    refine OG.yield (Yield.move rfl) rfl ?_
    refine OG.nil ?_
    refine QG.next ⟨l ++ [⟨{ j.r with m := m }, j.done⟩], a41, c41⟩ ⟨by simp only [List.length_append, List.length_cons, List.length_nil]; omega, ?_⟩ (by simp only [List.length_append, List.length_cons, List.length_nil]; omega) (by dsimp only; rw [List.length_append]; exact (by repeat (first | exact Env.sub_nil _ | refine Env.sub_cons rfl ?_))) ?_
    · dsimp only; rw [List.length_append, show l.length + [(⟨{ j.r with m := m }, j.done⟩ : CJ)].length = l.length + 1 from rfl, htk, List.map_append, List.map_append, hla]; simp [CJ.abs, CR.abs, hm, CJ.m] at *
    · dsimp only
      rw [List.length_append]
      refine Imp.trans (Imp.pull (A := m.own) (by repeat (first | exact Ext.here | apply Ext.there)) (Imp.pull (A := jpool l) (by repeat (first | exact Ext.here | apply Ext.there)) (Imp.refl _))) (Imp.trans pool_add ?_)
      dsimp only [jpool]
      rw [List.map_append]
      exact (by repeat (first | exact Imp.refl _ | exact Imp.none _ | apply Imp.pull (by repeat (first | exact Ext.here | apply Ext.there)) | apply Imp.trans Imp.drop))
  · try replace hc := of_decide_eq_false hc
    refine CG.exit ?_
    refine QG.pass_exit ?_
    refine QG.pass_exit ?_
    refine QG.block_exit ?_
    refine QG.then ?_
    refine CG.seq ?_
    refine CG.region ?_
    refine OG.yield (Yield.assign rfl) rfl ?_
    refine OG.nil ?_
    refine QG.then ?_
    refine CG.ret ?_
    have hie : l.length = js.length := by omega
    rw [hie, List.take_length] at hla
    have hcl2 := bl_close (b := b3) (G := Bl b s :: Fr) (s := s) ⟨l, a13, c13, a18, c18, la, lc⟩ ⟨by rw [hla]; exact hab, hok⟩
    dsimp only [BO, List.cons_append, List.nil_append] at hcl2
    exact QG.ret1 rfl rfl b3 trivial rfl (Imp.trans (Imp.cons (Imp.cons (Imp.cons (Imp.cons (Imp.cons (Imp.trans (by repeat (first | exact Imp.refl _ | exact Imp.none _ | apply Imp.pull (by repeat (first | exact Ext.here | apply Ext.there)) | apply Imp.trans Imp.drop)) hcl)))))) (Imp.trans (by repeat (first | exact Imp.refl _ | exact Imp.none _ | apply Imp.pull (by repeat (first | exact Ext.here | apply Ext.there)) | apply Imp.trans Imp.drop)) hcl2))
end
end Go.Proofs.Ytoejnhfcegchhaa.Bk
