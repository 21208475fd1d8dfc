/- The document's disk: Poll. -/
import Derived.Test.YtoejnhfcegchhaaBdr2
namespace Go.Proofs.Ytoejnhfcegchhaa.Bk
open Go Go.Sl Go.RowKit Go.Proofs Go.Proofs.Ytoejnhfcegchhaa.T Go.Proofs.Ytoejnhfcegchhaa.Ms Go.Proofs.Ytoejnhfcegchhaa.Vd
set_option linter.unusedVariables false
set_option linter.unusedSimpArgs false
set_option maxRecDepth 100000
section
variable (W0 : World) (Fr : List HProp)
set_option maxHeartbeats 4000000 in
theorem rpoll_spec {b : Nat} {s : Bs} (now : Int) : Ctr Try.prog W0 33 [.pointer (some ⟨b, 0, none⟩), .int .i64 now] (Rl b s :: Fr) (fun r : Rqs => r.l.map CR.abs = (pollL now s.bytes s.q).1) (fun r => r.cell) (fun r => r.G ++ (Rl b (pollR s now) :: Fr)) := by
  refine Ctr.ex Ext.here rl_open ?_
  rintro ⟨js0, ba, bc, da, dc, qa0, qc0⟩ hx
  refine Ctr.imp star_open ?_
  have hln := hx.len
  have hok0 := hx.ok
  have hab := hx.abs
  have hql0 := hok0.ql
  dsimp only [RO, List.cons_append, List.nil_append] at hln hab ⊢
  refine Ctr.of_body Try.func33 rfl Try.ntmps33 rfl ?_
  refine CG.seq ?_
  refine CG.region ?_
  refine OG.yield (Yield.assign rfl) rfl ?_
  refine OG.nil ?_
  refine QG.then ?_
  refine CG.seq ?_
  refine CG.region ?_
  refine OG.yield (Yield.assign rfl) rfl ?_
  refine OG.nil ?_
  refine QG.then ?_
  refine CG.seq ?_
  refine CG.block ?_
  refine CG.loop (fun t : Qt => t.OK s now) (fun t => [(0, .pointer (some ⟨b, 0, none⟩)), (1, .int .i64 now), (5, .slice t.a t.l.length t.c)]) (fun t => RH b ba s.bytes.length bc da s.delays.length dc s.taken s.free t.qa t.js.length t.qc :: oby 5 ba bc t.bs :: onum 3 .i64 da dc s.delays :: owait t.qa t.qc t.js :: jpool t.js :: oreqs t.a t.c t.l :: pool (t.l.map CR.m) :: Fr) (fun t => t.js.length) ⟨[], none, 0, js0, s.bytes, qa0, qc0⟩ ⟨by rw [hab]; exact hok0, rfl, by dsimp only [List.length_nil]; omega, by rw [hab]; rfl⟩ (by repeat (first | exact Env.sub_nil _ | refine Env.sub_cons rfl ?_)) (Imp.trans pool_nil (Imp.trans (osl_nil (E := 40) (sz := 5)) (by repeat (first | exact Imp.refl _ | exact Imp.none _ | apply Imp.pull (by repeat (first | exact Ext.here | apply Ext.there)) | apply Imp.trans Imp.drop)))) ?_
  rintro ⟨l, la, lc, js, bs, qa, qc⟩ ⟨hok, hbl, hll, heq⟩
  dsimp only at hok hbl hll heq ⊢
  obtain ⟨nn, hbl2, hnn⟩ := hok0.len
  refine CG.seq ?_
  refine CG.seq ?_
  rcases (show js = [] ∨ (∃ j js', js = j :: js' ∧ now < j.done) ∨ (∃ j js', js = j :: js' ∧ j.done ≤ now) by rcases js with _ | ⟨j, js⟩; exact .inl rfl; (rcases (show now < j.done ∨ j.done ≤ now by omega) with h | h; exact .inr (.inl ⟨j, js, rfl, h⟩); exact .inr (.inr ⟨j, js, rfl, h⟩))) with rfl | ⟨j, js, rfl, hh⟩ | ⟨j, js, rfl, hh⟩
  · skip
    skip
    refine CG.region ?_
    refine OG.yield (Yield.move rfl) rfl ?_
    refine OG.yield (Yield.nilCheck rfl) rfl ?_
    refine OG.yield (Yield.fieldAddr fa121_4 rfl) rfl ?_
    refine OG.yield (Yield.load (v := .slice qa 0 qc) ti119 rfl (Cel.of_blk (b := b) (by repeat (first | exact Ext.here | apply Ext.there)) rfl)) rfl ?_
    refine OG.yield (Yield.len_slice (a := qa) (m := 0) (c := qc) Try.underlying119 rfl rfl) rfl ?_
    refine OG.yield (by first | exact Yield.as (Yield.gtr rfl rfl) (bT (by omega)) | exact Yield.as (Yield.gtr rfl rfl) (bF (by omega)) | exact Yield.gtr rfl rfl) rfl ?_
    refine OG.yield (Yield.move rfl) rfl ?_
    refine OG.guard_no rfl rfl rfl rfl rfl (by decide) (by decide) ?_
    refine OG.guard_no rfl rfl rfl rfl rfl (by decide) (by decide) ?_
    refine OG.guard_no rfl rfl rfl rfl rfl (by decide) (by decide) ?_
    refine OG.guard_no rfl rfl rfl rfl rfl (by decide) (by decide) ?_
    refine OG.guard_no rfl rfl rfl rfl rfl (by decide) (by decide) ?_
    refine OG.guard_no rfl rfl rfl rfl rfl (by decide) (by decide) ?_
    refine OG.guard_no rfl rfl rfl rfl rfl (by decide) (by decide) ?_
    refine OG.guard_no rfl rfl rfl rfl rfl (by decide) (by decide) ?_
    refine OG.guard_no rfl rfl rfl rfl rfl (by decide) (by decide) ?_
    refine OG.yield (by first | exact Yield.pick_t rfl rfl | exact Yield.pick_f rfl rfl | exact Yield.pick rfl (fun _ => rfl) (fun _ => rfl)) rfl ?_
    refine OG.nil ?_
    refine QG.then ?_
    refine CG.cond_f rfl ?_
    refine CG.exit ?_
    refine QG.pass_exit ?_
    refine QG.pass_exit ?_
    refine QG.block_exit ?_
    refine QG.then ?_
    refine CG.seq ?_
    refine CG.region ?_
    refine OG.yield (Yield.move rfl) rfl ?_
    refine OG.yield (Yield.assign rfl) rfl ?_
    refine OG.nil ?_
    refine QG.then ?_
    refine CG.ret ?_
    have hcl := rl_close (b := b) (G := Fr) (s := s.at bs []) ⟨[], ba, bc, da, dc, qa, qc⟩ ⟨rfl, hok⟩
    dsimp only [RO, Bs.at, List.cons_append, List.nil_append] at hcl
    rw [hbl] at hcl
    have he : pollL now s.bytes s.q = (l.map CR.abs, bs, []) := by rw [heq]; simp [pollL]
    exact QG.ret1 rfl rfl ⟨l, la, lc⟩ (by rw [he]) rfl (Imp.trans (Imp.pull (A := oreqs la lc l) (by repeat (first | exact Ext.here | apply Ext.there)) (Imp.pull (A := pool (l.map CR.m)) (by repeat (first | exact Ext.here | apply Ext.there)) (Imp.trans (by repeat (first | exact Imp.refl _ | exact Imp.none _ | apply Imp.pull (by repeat (first | exact Ext.here | apply Ext.there)) | apply Imp.trans Imp.drop)) hcl))) (Imp.cons (Imp.cons (by rw [show pollR s now = s.at bs [] by unfold pollR Bs.at; rw [he]]; exact Imp.refl _))))
  · skip
    simp only [List.length_cons] at hll
    refine CG.pure (fun w hw => shape_ws (a := qa) (c := qc) (n := 0) (l := j :: js) (Nat.succ_pos _) (by repeat (first | exact Ext.here | apply Ext.there)) w hw) ?_
    rintro ⟨qb, qo, rfl⟩
    refine CG.region ?_
    refine OG.yield (Yield.move rfl) rfl ?_
    refine OG.yield (Yield.nilCheck rfl) rfl ?_
    refine OG.yield (Yield.fieldAddr fa121_4 rfl) rfl ?_
    refine OG.yield (Yield.load (v := .slice (some ⟨qb, qo, none⟩) (j :: js).length qc) ti119 rfl (Cel.of_blk (b := b) (by repeat (first | exact Ext.here | apply Ext.there)) rfl)) rfl ?_
    refine OG.yield (Yield.len_slice (a := some ⟨qb, qo, none⟩) (m := (j :: js).length) (c := qc) Try.underlying119 rfl rfl) rfl ?_
    refine OG.yield (Yield.as (Yield.gtr rfl rfl) (bT (by simp only [List.length_cons]; omega))) rfl ?_
    refine OG.yield (Yield.move rfl) rfl ?_
    refine OG.guard_yes rfl rfl rfl (by decide) ?_
    refine OG.yield (Yield.move rfl) rfl ?_
    refine OG.guard_yes rfl rfl rfl (by decide) ?_
    refine OG.yield (Yield.nilCheck rfl) rfl ?_
    refine OG.guard_yes rfl rfl rfl (by decide) ?_
    refine OG.yield (Yield.fieldAddr fa121_4 rfl) rfl ?_
    refine OG.guard_yes rfl rfl rfl (by decide) ?_
    refine OG.yield (Yield.load (v := .slice (some ⟨qb, qo, none⟩) (j :: js).length qc) ti119 rfl (Cel.of_blk (b := b) (by repeat (first | exact Ext.here | apply Ext.there)) rfl)) rfl ?_
    refine OG.guard_yes rfl rfl rfl (by decide) ?_
    refine OG.yield (Yield.index_slice (b := qb) (o := qo) (m := (j :: js).length) (c := qc) Try.underlying119 ti123 rfl rfl (by omega) (by simp only [List.length_cons]; omega)) rfl ?_
    refine OG.guard_yes rfl rfl rfl (by decide) ?_
    refine OG.yield (Yield.fieldAddr fa123_1 rfl) rfl ?_
    refine OG.guard_yes rfl rfl rfl (by decide) ?_
    refine OG.yield (Yield.load (v := .int .i64 j.done) ti3 rfl (by exact ((SlR.of_osl (E := 123) (a := some ⟨qb, qo, none⟩) (by repeat (first | exact Ext.here | apply Ext.there))).elem (f := CJ.cells) (xs := j :: js) (i := 0) CJ.len rfl) 5 _ rfl)) rfl ?_
    refine OG.guard_yes rfl rfl rfl (by decide) ?_
    refine OG.yield (Yield.move rfl) rfl ?_
    refine OG.guard_yes rfl rfl rfl (by decide) ?_
    refine OG.yield (by first | exact Yield.as (Yield.leq rfl rfl) (bT (by omega)) | exact Yield.as (Yield.leq rfl rfl) (bF (by omega)) | exact Yield.leq rfl rfl) rfl ?_
    refine OG.yield (by first | exact Yield.pick_t rfl rfl | exact Yield.pick_f rfl rfl | exact Yield.pick rfl (fun _ => rfl) (fun _ => rfl)) rfl ?_
    refine OG.nil ?_
    refine QG.then ?_
    refine CG.cond_f rfl ?_
    refine CG.exit ?_
    refine QG.pass_exit ?_
    refine QG.pass_exit ?_
    refine QG.block_exit ?_
    refine QG.then ?_
    refine CG.seq ?_
    refine CG.region ?_
    refine OG.yield (Yield.move rfl) rfl ?_
    refine OG.yield (Yield.assign rfl) rfl ?_
    refine OG.nil ?_
    refine QG.then ?_
    refine CG.ret ?_
    have hcl := rl_close (b := b) (G := Fr) (s := s.at bs ((j :: js).map CJ.abs)) ⟨j :: js, ba, bc, da, dc, some ⟨qb, qo, none⟩, qc⟩ ⟨rfl, hok⟩
    dsimp only [RO, Bs.at, List.cons_append, List.nil_append] at hcl
    rw [hbl] at hcl
    have he : pollL now s.bytes s.q = (l.map CR.abs, bs, (j :: js).map CJ.abs) := by rw [heq, List.map_cons, pollL_no (j := j.abs) hh]; simp
    exact QG.ret1 rfl rfl ⟨l, la, lc⟩ (by rw [he]) rfl (Imp.trans (Imp.pull (A := oreqs la lc l) (by repeat (first | exact Ext.here | apply Ext.there)) (Imp.pull (A := pool (l.map CR.m)) (by repeat (first | exact Ext.here | apply Ext.there)) (Imp.trans (by repeat (first | exact Imp.refl _ | exact Imp.none _ | apply Imp.pull (by repeat (first | exact Ext.here | apply Ext.there)) | apply Imp.trans Imp.drop)) hcl))) (Imp.cons (Imp.cons (by rw [show pollR s now = s.at bs ((j :: js).map CJ.abs) by unfold pollR Bs.at; rw [he]]; exact Imp.refl _))))
  · skip
    obtain ⟨n, hn, hnl⟩ := sec_room (j := j.abs) (q := js.map CJ.abs) hok
    have hdat := (hok.dat j.abs List.mem_cons_self).2
    have hdl := doJ_len (j := j.abs) (q := js.map CJ.abs) hok
    have hok2 := doJ_ok (j := j.abs) (q := js.map CJ.abs) hok
    have hpl := pollL_yes (now := now) (bs := bs) (j := j.abs) (q := js.map CJ.abs) hh
    have hll1 : (j :: js).length = js.length + 1 := rfl
    simp only [List.length_cons] at hll
    refine CG.pure (fun w hw => shape_ws (a := qa) (c := qc) (n := 0) (l := j :: js) (Nat.succ_pos _) (by repeat (first | exact Ext.here | apply Ext.there)) w hw) ?_
    rintro ⟨qb, qo, rfl⟩
    refine CG.pure (fun w hw => bytes_shape (a := ba) (c := bc) (bs := bs) (by omega) (by repeat (first | exact Ext.here | apply Ext.there)) w hw) ?_
    rintro ⟨bb, bo, rfl⟩
    refine CG.pure (fun w hw => osl_facts (a := some ⟨bb, bo, none⟩) (c := bc) (m := bs.length) (xs := bytesV bs) (sz := 1) (E := 5) (by repeat (first | exact Ext.here | apply Ext.there)) w hw) ?_
    rintro ⟨-, hbc⟩
    refine CG.pure (fun w hw => osl_facts (W0 := W0) (E := 123) (a := some ⟨qb, qo, none⟩) (c := qc) (m := (j :: js).length) (xs := ((j :: js).map CJ.cells).flatten) (sz := 6) (by repeat (first | exact Ext.here | apply Ext.there)) w hw) ?_
    rintro ⟨-, hcap⟩
    refine CG.region ?_
    refine OG.yield (Yield.move rfl) rfl ?_
    refine OG.yield (Yield.nilCheck rfl) rfl ?_
    refine OG.yield (Yield.fieldAddr fa121_4 rfl) rfl ?_
    refine OG.yield (Yield.load (v := .slice (some ⟨qb, qo, none⟩) (j :: js).length qc) ti119 rfl (Cel.of_blk (b := b) (by repeat (first | exact Ext.here | apply Ext.there)) rfl)) rfl ?_
    refine OG.yield (Yield.len_slice (a := some ⟨qb, qo, none⟩) (m := (j :: js).length) (c := qc) Try.underlying119 rfl rfl) rfl ?_
    refine OG.yield (Yield.as (Yield.gtr rfl rfl) (bT (by simp only [List.length_cons]; omega))) rfl ?_
    refine OG.yield (Yield.move rfl) rfl ?_
    refine OG.guard_yes rfl rfl rfl (by decide) ?_
    refine OG.yield (Yield.move rfl) rfl ?_
    refine OG.guard_yes rfl rfl rfl (by decide) ?_
    refine OG.yield (Yield.nilCheck rfl) rfl ?_
    refine OG.guard_yes rfl rfl rfl (by decide) ?_
    refine OG.yield (Yield.fieldAddr fa121_4 rfl) rfl ?_
    refine OG.guard_yes rfl rfl rfl (by decide) ?_
    refine OG.yield (Yield.load (v := .slice (some ⟨qb, qo, none⟩) (j :: js).length qc) ti119 rfl (Cel.of_blk (b := b) (by repeat (first | exact Ext.here | apply Ext.there)) rfl)) rfl ?_
    refine OG.guard_yes rfl rfl rfl (by decide) ?_
    refine OG.yield (Yield.index_slice (b := qb) (o := qo) (m := (j :: js).length) (c := qc) Try.underlying119 ti123 rfl rfl (by omega) (by simp only [List.length_cons]; omega)) rfl ?_
    refine OG.guard_yes rfl rfl rfl (by decide) ?_
    refine OG.yield (Yield.fieldAddr fa123_1 rfl) rfl ?_
    refine OG.guard_yes rfl rfl rfl (by decide) ?_
    refine OG.yield (Yield.load (v := .int .i64 j.done) ti3 rfl (by exact ((SlR.of_osl (E := 123) (a := some ⟨qb, qo, none⟩) (by repeat (first | exact Ext.here | apply Ext.there))).elem (f := CJ.cells) (xs := j :: js) (i := 0) CJ.len rfl) 5 _ rfl)) rfl ?_
    refine OG.guard_yes rfl rfl rfl (by decide) ?_
    refine OG.yield (Yield.move rfl) rfl ?_
    refine OG.guard_yes rfl rfl rfl (by decide) ?_
    refine OG.yield (by first | exact Yield.as (Yield.leq rfl rfl) (bT (by omega)) | exact Yield.as (Yield.leq rfl rfl) (bF (by omega)) | exact Yield.leq rfl rfl) rfl ?_
    refine OG.yield (by first | exact Yield.pick_t rfl rfl | exact Yield.pick_f rfl rfl | exact Yield.pick rfl (fun _ => rfl) (fun _ => rfl)) rfl ?_
    refine OG.nil ?_
    refine QG.then ?_
    refine CG.cond_t rfl ?_
    refine CG.skip ?_
    refine QG.then ?_
    refine CG.block ?_
    refine CG.seq ?_
    refine CG.region ?_
    refine OG.yield (Yield.move rfl) rfl ?_
    refine OG.yield (Yield.nilCheck rfl) rfl ?_
    refine OG.yield (Yield.fieldAddr fa121_4 rfl) rfl ?_
    refine OG.yield (Yield.load (v := .slice (some ⟨qb, qo, none⟩) (j :: js).length qc) ti119 rfl (Cel.of_blk (b := b) (by repeat (first | exact Ext.here | apply Ext.there)) rfl)) rfl ?_
    refine OG.yield (Yield.index_slice (b := qb) (o := qo) (m := (j :: js).length) (c := qc) Try.underlying119 ti123 rfl rfl (by omega) (by simp only [List.length_cons]; omega)) rfl ?_
    refine OG.yield (Yield.fieldAddr fa123_0 rfl) rfl ?_
    refine OG.yield (Yield.load_agg (vs := j.r.cells) ti40 rfl (CR.len _) (by exact row_sub ((SlR.of_osl (E := 123) (a := some ⟨qb, qo, none⟩) (by repeat (first | exact Ext.here | apply Ext.there))).elem (f := CJ.cells) (xs := j :: js) (i := 0) CJ.len rfl) 0 rfl)) rfl ?_
    refine OG.effd (Eff.alloc ti40) rfl ?_
    rintro b6 -
    refine OG.eff (Eff.storeAll ti40 rfl rfl (by repeat (first | exact Foc.here | apply Foc.there)) (CR.len j.r) (CR.ones _) rfl) rfl ?_
    rintro ⟨⟩ -
    refine OG.nil ?_
    refine QG.then ?_
    refine CG.seq ?_
    refine CG.region ?_
    refine OG.yield (Yield.fieldAddr fa40_3 rfl) rfl ?_
    refine OG.yield (Yield.load (v := .int .i64 (n : Int)) ti3 rfl (Cel.of_blk (b := b6) (by repeat (first | exact Ext.here | apply Ext.there)) (by rw [← hn]; rfl))) rfl ?_
    refine OG.yield (Yield.mul rfl rfl (w64 (by omega) (by omega))) rfl ?_
    refine OG.yield (Yield.assign rfl) rfl ?_
    refine OG.nil ?_
    refine QG.then ?_
    refine CG.imp (Imp.trans (Imp.pull (A := jpool (j :: js)) (by repeat (first | exact Ext.here | apply Ext.there)) (Imp.refl _)) jp_head) ?_
    refine CG.cut (fun t : Msg × B => t.2 = doJ bs j.abs ∧ CR.abs { j.r with m := t.1 } = outJ bs j.abs) (fun _ => [(0, .pointer (some ⟨b, 0, none⟩)), (1, .int .i64 now), (5, .slice la l.length lc), (6, .pointer (some ⟨b6, 0, none⟩))]) (fun t => blk b6 (CR.cells { j.r with m := t.1 }) 40 :: t.1.own :: RH b (some ⟨bb, bo, none⟩) s.bytes.length bc da s.delays.length dc s.taken s.free (some ⟨qb, qo, none⟩) (j :: js).length qc :: oby 5 (some ⟨bb, bo, none⟩) bc t.2 :: onum 3 .i64 da dc s.delays :: owait (some ⟨qb, qo, none⟩) qc (j :: js) :: jpool js :: oreqs la lc l :: pool (l.map CR.m) :: Fr) ?_ ?_
    · skip
      refine CG.seq ?_
      refine CG.region ?_
      refine OG.yield (Yield.fieldAddr fa40_2 rfl) rfl ?_
      refine OG.yield (Yield.load (v := .bool j.r.write) ti4 rfl (Cel.of_blk (b := b6) (by repeat (first | exact Ext.here | apply Ext.there)) rfl)) rfl ?_
      refine OG.nil ?_
      refine QG.then ?_
      refine CG.cond rfl (fun hc => ?_) (fun hc => ?_)
      · try replace hc := of_decide_eq_true hc
        have hwt : j.r.write = true := by simpa using hc
        have hd64 : j.m.b.length = 64 := hdat hwt
        refine CG.draw (.look 0 1 (.look 1 1 (.look 2 1 (.look 3 1 (.look 4 1 (.look 5 1 (.look 6 1 (.look 7 1 (.look 8 1 (.look 9 1 (.eff1 10 false (.done)))))))))))) [10] [] ([]) ([]) mixed (by kernel_rfl) (Imp.none _) (Imp.none _) ?_
        refine DG.look rfl rfl (Yield.move rfl) rfl ?_
        refine DG.look rfl rfl (Yield.nilCheck rfl) rfl ?_
        refine DG.look rfl rfl (Yield.fieldAddr fa121_0 rfl) rfl ?_
        refine DG.look rfl rfl (Yield.load (v := .slice (some ⟨bb, bo, none⟩) s.bytes.length bc) ti36 rfl (Cel.of_blk (b := b) (by repeat (first | exact Ext.here | apply Ext.there)) rfl)) rfl ?_
        refine DG.look rfl rfl (Yield.move rfl) rfl ?_
        refine DG.look rfl rfl (Yield.move rfl) rfl ?_
        refine DG.look rfl rfl (Yield.add rfl rfl (w64 (by omega) (by omega))) rfl ?_
        refine DG.look rfl rfl (Yield.as (Yield.slice_in (b := bb) (o := bo) (m := s.bytes.length) (c := bc) (l := (n : Int) * 64) (h := (n : Int) * 64 + 64) Try.underlying36 ti5 rfl (Bound.some rfl) (Bound.some rfl) (by omega) (by omega) (by omega) (by omega)) (v' := .slice (some ⟨bb, bo + 64 * n, none⟩) 64 (bc - 64 * n)) (by rw [show ((n : Int) * 64).toNat = 64 * n by omega, show ((n : Int) * 64 + 64).toNat - 64 * n = 64 by omega, Nat.mul_one])) rfl ?_
        refine DG.look rfl rfl (Yield.fieldAddr fa40_4 rfl) rfl ?_
        refine DG.look rfl rfl (Yield.load (v := j.m.cell) ti36 rfl (Cel.of_blk (b := b6) (by repeat (first | exact Ext.here | apply Ext.there)) rfl)) rfl ?_
        refine DG.eff1 ?_
        refine Chg.eff rfl rfl (Eff.copyIn (b := bb) (o := bo) (j := 64 * n) (n := 64) (cn := bc - 64 * n) (k := j.m.b.length) (ys := bytesV j.m.b) rfl rfl rfl Try.underlying36 ti5 (by repeat (first | exact Foc.here | apply Foc.there)) (by omega) (SlR.of_osl (E := 5) (by repeat (first | exact Ext.here | apply Ext.there))) bytesV_one) rfl (fun _ => (by repeat (first | exact Imp.refl _ | exact Imp.none _ | apply Imp.pull (by repeat (first | exact Ext.here | apply Ext.there)) | apply Imp.trans Imp.drop))) (fun _ => Imp.refl _) (fun _ => (by repeat (first | exact Imp.refl _ | exact Imp.none _ | apply Imp.pull (by repeat (first | exact Ext.here | apply Ext.there)) | apply Imp.trans Imp.drop))) ?_
        rintro ⟨⟩ -
        rw [setS_eq hd64]
        refine DG.done ?_
        refine QG.mid (j.m, setS bs n j.m.b) ⟨by unfold doJ; rw [if_pos (show j.abs.r.write = true from hwt), hn]; rfl, by unfold outJ; rw [if_pos (show j.abs.r.write = true from hwt)]; rfl⟩ (by repeat (first | exact Env.sub_nil _ | refine Env.sub_cons rfl ?_)) ?_
        unfold oby
        rw [setS_len hd64 hnl]
        exact (by repeat (first | exact Imp.refl _ | exact Imp.none _ | apply Imp.pull (by repeat (first | exact Ext.here | apply Ext.there)) | apply Imp.trans Imp.drop))
      · try replace hc := of_decide_eq_false hc
        have hwf : j.r.write = false := by simpa using hc
        refine CG.region ?_
        refine OG.effd (Eff.lit0 Try.underlying36 ti5 rfl) rfl ?_
        rintro b48 -
        refine OG.yield (Yield.move rfl) rfl ?_
        refine OG.yield (Yield.nilCheck rfl) rfl ?_
        refine OG.yield (Yield.fieldAddr fa121_0 rfl) rfl ?_
        refine OG.yield (Yield.load (v := .slice (some ⟨bb, bo, none⟩) s.bytes.length bc) ti36 rfl (Cel.of_blk (b := b) (by repeat (first | exact Ext.here | apply Ext.there)) rfl)) rfl ?_
        refine OG.yield (Yield.move rfl) rfl ?_
        refine OG.yield (Yield.move rfl) rfl ?_
        refine OG.yield (Yield.add rfl rfl (w64 (by omega) (by omega))) rfl ?_
        refine OG.yield (Yield.as (Yield.slice_in (b := bb) (o := bo) (m := s.bytes.length) (c := bc) (l := (n : Int) * 64) (h := (n : Int) * 64 + 64) Try.underlying36 ti5 rfl (Bound.some rfl) (Bound.some rfl) (by omega) (by omega) (by omega) (by omega)) (v' := .slice (some ⟨bb, bo + 64 * n, none⟩) 64 (bc - 64 * n)) (by rw [show ((n : Int) * 64).toNat = 64 * n by omega, show ((n : Int) * 64 + 64).toNat - 64 * n = 64 by omega, Nat.mul_one])) rfl ?_
        refine OG.effd (Eff.append (a := some ⟨b48, 0, none⟩) (c := 0) (m := 0) (xs := []) (k := 64) (ys := bytesV (getS bs n)) rfl rfl rfl Try.underlying36 Try.underlying36 ti5 rfl (by decide) (by repeat (first | exact Foc.here | apply Foc.there)) (by exact SlR.part (SlR.of_osl (E := 5) (a := some ⟨bb, bo, none⟩) (xs := bytesV bs) (by repeat (first | exact Ext.here | apply Ext.there))) (by rw [bytesV_drop, bytesV_take]; rfl) (by omega)) bytesV_one (by omega)) rfl ?_
        rintro ⟨a57, c57⟩ -
        rw [Nat.zero_add, List.nil_append]
        refine OG.yield (Yield.fieldAddr fa40_4 rfl) rfl ?_
        refine OG.eff (Eff.store1 ti36 rfl rfl (by repeat (first | exact Foc.here | apply Foc.there)) rfl (by show 4 < 5; decide)) rfl ?_
        rintro ⟨⟩ -
        refine OG.nil ?_
        refine QG.mid (⟨a57, c57, getS bs n⟩, bs) ⟨by unfold doJ; rw [if_neg (show ¬ j.abs.r.write = true by show ¬ j.r.write = true; rw [hwf]; decide)], by unfold outJ; rw [if_neg (show ¬ j.abs.r.write = true by show ¬ j.r.write = true; rw [hwf]; decide), hn]; simp [CR.abs, CJ.abs]⟩ (by repeat (first | exact Env.sub_nil _ | refine Env.sub_cons rfl ?_)) ?_
        dsimp only [CR.cells, Msg.cell, Msg.own, oby]
        rw [getS_len hnl]
        exact (by repeat (first | exact Imp.refl _ | exact Imp.none _ | apply Imp.pull (by repeat (first | exact Ext.here | apply Ext.there)) | apply Imp.trans Imp.drop))
    rintro ⟨m, bs'⟩ ⟨hbs, hm⟩
    dsimp only at hbs hm ⊢
    refine CG.seq ?_
    refine CG.region ?_
    refine OG.yield (Yield.move rfl) rfl ?_
    refine OG.yield (Yield.load_agg (vs := CR.cells { j.r with m := m }) ti40 rfl (CR.len _) (Row.of_blk (b := b6) (by repeat (first | exact Ext.here | apply Ext.there)) rfl)) rfl ?_
    refine OG.effd (Eff.lit [.tmp 60] (vs := [.agg (CR.cells { j.r with m := m }).toArray]) (cells := CR.cells { j.r with m := m }) Try.underlying32 ti40 rfl rfl rfl rfl (by decide) (by simp [Value.cells, CR.cells]) (by simp [Value.cells])) rfl ?_
    rintro b61 -
    refine OG.effd (Eff.append (a := la) (c := lc) (m := l.length) (xs := (l.map CR.cells).flatten) (k := 1) (ys := CR.cells { j.r with m := m }) rfl rfl rfl Try.underlying32 Try.underlying32 ti40 rfl (by decide) (by repeat (first | exact Foc.here | apply Foc.there)) (SlR.of_osl (a := some ⟨b61, 0, none⟩) (by repeat (first | exact Ext.here | apply Ext.there))) (CR.ones _) (by omega)) rfl ?_
    rintro ⟨a62, c62⟩ -
    refine OG.yield (Yield.assign rfl) rfl ?_
    refine OG.nil ?_
    refine QG.then ?_
    refine CG.region ?_
    refine OG.yield (Yield.move rfl) rfl ?_
    refine OG.effd (Eff.lit0 Try.underlying119 ti123 rfl) rfl ?_
    rintro b64 -
    refine OG.yield (Yield.move rfl) rfl ?_
    refine OG.yield (Yield.nilCheck rfl) rfl ?_
    refine OG.yield (Yield.fieldAddr fa121_4 rfl) rfl ?_
    refine OG.yield (Yield.load (v := .slice (some ⟨qb, qo, none⟩) (j :: js).length qc) ti119 rfl (Cel.of_blk (b := b) (by repeat (first | exact Ext.here | apply Ext.there)) rfl)) rfl ?_
    refine OG.yield (Yield.slice (a := some ⟨qb, qo, none⟩) (m := (j :: js).length) (c := qc) (l := 1) (h := ((j :: js).length : Int)) Try.underlying119 ti123 rfl (Bound.some rfl) Bound.none (by omega) (by omega) (by omega)) rfl ?_
    refine OG.effd (Eff.append (a := some ⟨b64, 0, none⟩) (c := 0) (m := 0) (xs := []) (k := js.length) (ys := (js.map CJ.cells).flatten) rfl (by rfl) rfl Try.underlying119 Try.underlying119 ti123 rfl (by decide) (by repeat (first | exact Foc.here | apply Foc.there)) (by exact SlR.cut (l := 1) (h := (j :: js).length) (cc := qc) (SlR.of_osl (E := 123) (a := some ⟨qb, qo, none⟩) (by repeat (first | exact Ext.here | apply Ext.there))) (by omega) (Nat.le_refl _) hcap (by simp only [List.map_cons, List.flatten_cons]; rw [Nat.one_mul, List.drop_left' (CJ.len j), hll1, Nat.add_sub_cancel, List.take_of_length_le (by rw [flat_len CJ.len]; omega)])) (flat_ones CJ.ones js) (by omega)) rfl ?_
    rintro ⟨a70, c70⟩ -
    rw [Nat.zero_add, List.nil_append]
    refine OG.yield (Yield.nilCheck rfl) rfl ?_
    refine OG.yield (Yield.fieldAddr fa121_4 rfl) rfl ?_
    refine OG.eff (Eff.store1 ti119 rfl rfl (by repeat (first | exact Foc.here | apply Foc.there)) rfl (by show 4 < 5; decide)) rfl ?_
    rintro ⟨⟩ -
    refine OG.nil ?_
    refine QG.block_normal ?_
    refine QG.next ⟨l ++ [{ j.r with m := m }], a62, c62, js, bs', a70, c70⟩ ⟨by rw [hbs]; exact hok2, by show bs'.length = _; rw [hbs, hdl]; exact hbl, by simp only [List.length_append, List.length_cons, List.length_nil]; omega, ?_⟩ (by simp only [List.length_cons]; omega) (by dsimp only; rw [List.length_append]; exact (by repeat (first | exact Env.sub_nil _ | refine Env.sub_cons rfl ?_))) ?_
    · dsimp only; rw [heq, List.map_cons, hpl, hbs, List.map_append]; simp [hm]
    · dsimp only [oreqs]
      rw [List.length_append, flat_app]
      refine Imp.trans (Imp.pull (A := m.own) (by repeat (first | exact Ext.here | apply Ext.there)) (Imp.pull (A := pool (l.map CR.m)) (by repeat (first | exact Ext.here | apply Ext.there)) (Imp.refl _))) (Imp.trans pool_add ?_)
      rw [List.map_append]
      exact (by repeat (first | exact Imp.refl _ | exact Imp.none _ | apply Imp.pull (by repeat (first | exact Ext.here | apply Ext.there)) | apply Imp.trans Imp.drop))
end
end Go.Proofs.Ytoejnhfcegchhaa.Bk
