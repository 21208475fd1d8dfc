/- The document's slice of the disk: Ready, Waiting; what compares lists. -/
import Derived.Test.YtoejnhfcegchhaaVdr3
namespace Go.Proofs.Ytoejnhfcegchhaa.Vd
open Go Go.Sl Go.RowKit Go.Proofs Go.Proofs.Ytoejnhfcegchhaa.T Go.Proofs.Ytoejnhfcegchhaa.Ms
set_option linter.unusedVariables false
set_option linter.unusedSimpArgs false
set_option maxRecDepth 100000
section
variable (W0 : World) (Fr : List HProp)
set_option maxHeartbeats 2000000 in
theorem rready_spec {d : Nat} {s : Ds} (major : Int) : Ctr Try.prog W0 59 [.pointer (some ⟨d, 0, none⟩), .int .i64 major] (Dd d s :: Fr) (fun r : Dns => r.l.map CD.abs = rdyL s major) (fun r => r.cell) (fun r => r.RG ++ (Dd d (rdyS s major) :: Fr)) := by
  refine Ctr.ex Ext.here rd_open ?_
  intro x hx
  refine Ctr.imp star_open ?_
  have hln := hx.len
  have hok := hx.ok
  have hal := hx.ok.asks
  have hab := hx.abs
  have hlat := hok.lat
  dsimp only [RO, List.cons_append, List.nil_append]
  refine Ctr.of_body Try.func59 rfl Try.ntmps59 rfl ?_
  refine CG.seq ?_
  refine CG.region ?_
  refine OG.yield (Yield.assign rfl) rfl ?_
  refine OG.nil ?_
  refine QG.then ?_
  refine CG.seq ?_
  refine CG.region ?_
  refine OG.yield (Yield.assign rfl) rfl ?_
  refine OG.nil ?_
  refine QG.then ?_
  refine CG.seq ?_
  refine CG.region ?_
  refine OG.yield (Yield.assign rfl) rfl ?_
  refine OG.nil ?_
  refine QG.then ?_
  refine CG.seq ?_
  refine CG.region ?_
  refine OG.yield (Yield.assign rfl) rfl ?_
  refine OG.nil ?_
  refine QG.then ?_
  refine CG.seq ?_
  refine CG.seq ?_
  refine CG.region ?_
  refine OG.yield (Yield.assign rfl) rfl ?_
  refine OG.nil ?_
  refine QG.then ?_
  refine CG.block ?_
  refine CG.loop (fun t : Ru => t.OK s major x.pl) (fun t => [(0, .pointer (some ⟨d, 0, none⟩)), (1, .int .i64 major), (5, t.out.cell), (6, .slice t.ra t.rest.length t.rc), (7, .slice t.ta t.told.length t.tc), (8, .int .i64 t.i)]) (fun t => RH d s s.last x.a x.ras.length x.c x.ta s.told.length x.tc :: oras x.a x.c x.ras :: odn t.out.a t.out.c t.out.l :: pool t.out.ms :: oras t.ra t.rc t.rest :: onum 35 .u32 t.ta t.tc t.told :: pool x.pl :: Fr) (fun t => x.ras.length - t.i) ⟨0, ⟨[], none, 0⟩, [], none, 0, [], none, 0⟩ ⟨Nat.zero_le _, rfl, Nat.le_refl _, rfl, Nat.le_refl _, fun a h => absurd h List.not_mem_nil, rfl, Nat.le_refl _⟩ (by repeat (first | exact Env.sub_nil _ | refine Env.sub_cons rfl ?_)) (Imp.trans pool_nil (Imp.trans (osl_nil (E := 35) (sz := 1)) (Imp.trans (osl_nil (E := 128) (sz := 8)) (Imp.trans (osl_nil (E := 129) (sz := 4)) (Imp.pull (by repeat (first | exact Ext.here | apply Ext.there)) (Imp.pull (A := oras x.a x.c x.ras) (by repeat (first | exact Ext.here | apply Ext.there)) (Imp.pull (A := odn none 0 []) (by repeat (first | exact Ext.here | apply Ext.there)) (Imp.pull (A := pool []) (by repeat (first | exact Ext.here | apply Ext.there)) (Imp.pull (A := oras none 0 []) (by repeat (first | exact Ext.here | apply Ext.there)) (Imp.pull (A := onum 35 .u32 none 0 []) (by repeat (first | exact Ext.here | apply Ext.there)) (Imp.pull (A := pool x.pl) (by repeat (first | exact Ext.here | apply Ext.there)) (by repeat (first | exact Imp.refl _ | exact Imp.none _ | apply Imp.pull (by repeat (first | exact Ext.here | apply Ext.there)) | apply Imp.trans Imp.drop))))))))))))) ?_
  rintro ⟨i, ⟨l, la, lc⟩, rest, ra, rc, told, ta, tc⟩ ⟨hi, hout, hol, hrest, hrl, hall, htold, htl⟩
  dsimp only at hi hout hol hrest hrl hall htold htl ⊢
  refine CG.seq ?_
  refine CG.seq ?_
  refine CG.region ?_
  refine OG.yield (Yield.move rfl) rfl ?_
  refine OG.yield (Yield.move rfl) rfl ?_
  refine OG.yield (Yield.nilCheck rfl) rfl ?_
  refine OG.yield (Yield.fieldAddr fa109_4 rfl) rfl ?_
  refine OG.yield (Yield.load (v := .slice x.a x.ras.length x.c) ti107 rfl (Cel.of_blk (b := d) (by repeat (first | exact Ext.here | apply Ext.there)) rfl)) rfl ?_
  refine OG.yield (Yield.len_slice Try.underlying107 rfl rfl) rfl ?_
  refine OG.yield (by first | exact Yield.as (Yield.lss rfl rfl) (bT (by omega)) | exact Yield.as (Yield.lss rfl rfl) (bF (by omega)) | exact Yield.lss rfl rfl) rfl ?_
  refine OG.nil ?_
  refine QG.then ?_
  refine CG.cond rfl (fun hc => ?_) (fun hc => ?_)
  · try replace hc := of_decide_eq_true hc
    have hi' : i < x.ras.length := by omega
    have hgc : x.ras[i]? = some x.ras[i] := by simp [hi']
    generalize x.ras[i] = ca at hgc
    have hget := hx.get hgc
    have hdat := hok.data _ (List.mem_of_getElem? hget)
    have hro := hx.all ca (List.mem_of_getElem? hgc)
    have hmaj := hro.maj
    have htk := take_snoc hget
    refine CG.pure (fun w hw => shape_rs (a := x.a) (c := x.c) (n := i) (l := x.ras) (by omega) (Ext.there Ext.here) w hw) ?_
    rintro ⟨b, o, hxa⟩
    rw [hxa]
    refine CG.skip ?_
    refine QG.then ?_
    refine CG.seq ?_
    refine CG.block ?_
    refine CG.seq ?_
    refine CG.region ?_
    refine OG.yield (Yield.move rfl) rfl ?_
    refine OG.yield (Yield.nilCheck rfl) rfl ?_
    refine OG.yield (Yield.fieldAddr fa109_4 rfl) rfl ?_
    refine OG.yield (Yield.load (v := .slice (some ⟨b, o, none⟩) x.ras.length x.c) ti107 rfl (Cel.of_blk (b := d) (by repeat (first | exact Ext.here | apply Ext.there)) rfl)) rfl ?_
    refine OG.yield (Yield.move rfl) rfl ?_
    refine OG.yield (Yield.index_slice Try.underlying107 ti128 rfl rfl (by omega) (by omega)) rfl ?_
    refine OG.yield (Yield.load_agg (vs := ca.cells) ti128 rfl (RA.len ca) (by rw [show o + (i : Int).toNat * 8 = o + i * 8 by omega]; exact (SlR.of_osl (E := 128) (a := some ⟨b, o, none⟩) (c := x.c) (by repeat (first | exact Ext.here | apply Ext.there))).elem RA.len hgc)) rfl ?_
    refine OG.effd (Eff.alloc ti128) rfl ?_
    rintro b9 -
    refine OG.eff (Eff.storeAll ti128 rfl rfl (by repeat (first | exact Foc.here | apply Foc.there)) (RA.len ca) (RA.ones ca) rfl) rfl ?_
    rintro ⟨⟩ -
    refine OG.nil ?_
    refine QG.then ?_
    refine CG.seq ?_
    refine CG.seq ?_
    rcases (show ca.com = false ∨ (ca.com = true ∧ major < ca.major + s.latency) ∨ (ca.com = true ∧ ca.major + s.latency ≤ major) by cases ca.com <;> simp <;> omega) with hh | hh | hh
    · skip
      have hov : over major (ca.abs s.latency) = false := over_no1 (by unfold RA.abs; dsimp only; rw [hh]; cases ca.iss <;> simp)
      refine CG.draw (.look 0 1 (.look 1 1 (.look 2 1 (.look 3 1 (.look 4 1 (.look 5 1 (.look 6 1 (.look 7 1 (.look 8 1 (.look 9 1 (.look 10 1 (.look 11 1 (.look 12 1 (.look 13 1 (.done))))))))))))))) [] [] ([]) ([]) mixed (by kernel_rfl) (Imp.none _) (Imp.none _) ?_
      refine DG.look rfl rfl (Yield.fieldAddr fa128_7 rfl) rfl ?_
      refine DG.look rfl rfl (Yield.load (v := .bool false) ti4 rfl (cel_b hh (Cel.of_blk (b := b9) (by repeat (first | exact Ext.here | apply Ext.there)) rfl))) rfl ?_
      refine DG.look rfl rfl (Yield.not rfl) rfl ?_
      refine DG.look rfl rfl (Yield.move rfl) rfl ?_
      refine DG.pass rfl rfl rfl ?_
      refine DG.pass rfl rfl rfl ?_
      refine DG.pass rfl rfl rfl ?_
      refine DG.pass rfl rfl rfl ?_
      refine DG.pass rfl rfl rfl ?_
      refine DG.pass rfl rfl rfl ?_
      refine DG.pass rfl rfl rfl ?_
      refine DG.pass rfl rfl rfl ?_
      refine DG.pass rfl rfl rfl ?_
      refine DG.look rfl rfl (by first | exact Yield.pick_t rfl rfl | exact Yield.pick_f rfl rfl | exact Yield.pick rfl (fun _ => rfl) (fun _ => rfl)) rfl ?_
      refine DG.done ?_
      refine QG.then ?_
      refine CG.cond_t rfl ?_
      refine CG.seq ?_
      refine CG.region ?_
      refine OG.yield (Yield.move rfl) rfl ?_
      refine OG.yield (Yield.load_agg (vs := ca.cells) ti128 rfl (RA.len ca) (Row.of_blk (b := b9) (by repeat (first | exact Ext.here | apply Ext.there)) rfl)) rfl ?_
      refine OG.effd (Eff.lit [.tmp 42] (vs := [.agg ca.cells.toArray]) (cells := ca.cells) Try.underlying107 ti128 rfl rfl rfl rfl (by decide) (by simp [Value.cells, RA.cells]) (by simp [Value.cells])) rfl ?_
      rintro b43 -
      refine OG.effd (Eff.append (a := ra) (c := rc) (m := rest.length) (xs := (rest.map RA.cells).flatten) (k := 1) (ys := ca.cells) rfl rfl rfl Try.underlying107 Try.underlying107 ti128 rfl (by decide) (by repeat (first | exact Foc.here | apply Foc.there)) (SlR.of_osl (a := some ⟨b43, 0, none⟩) (by repeat (first | exact Ext.here | apply Ext.there))) (RA.ones _) (by omega)) rfl ?_
      rintro ⟨a44, c44⟩ -
      refine OG.yield (Yield.assign rfl) rfl ?_
      refine OG.nil ?_
      refine QG.then ?_
      refine CG.exit ?_
      refine QG.pass_exit ?_
      refine QG.block_exit ?_
      refine QG.then ?_
      refine CG.region ?_
      refine OG.yield (Yield.move rfl) rfl ?_
      refine OG.yield (Yield.add rfl rfl (w64 (by omega) (by omega))) rfl ?_
      refine OG.yield (Yield.assign rfl) rfl ?_
      refine OG.nil ?_
      refine QG.next ⟨i + 1, ⟨l, la, lc⟩, rest ++ [ca], a44, c44, told, ta, tc⟩ ⟨by simp only; omega, by dsimp only; rw [htk, List.filter_append, List.map_append, hout]; simp [hov], by simp only; omega, by dsimp only; rw [htk, List.filter_append, List.map_append, hrest]; simp [hov], by simp only [List.length_append, List.length_cons, List.length_nil]; omega, fun a ha => by rcases List.mem_append.1 ha with ha | ha; exact hall a ha; (simp only [List.mem_cons, List.not_mem_nil, or_false] at ha; subst ha; exact hro), by dsimp only; rw [htk, List.filter_append, List.map_append, htold]; simp [hov], by simp only; omega⟩ (show x.ras.length - (i + 1) < x.ras.length - i by omega) (by dsimp only; rw [List.length_append]; exact (by repeat (first | exact Env.sub_nil _ | refine Env.sub_cons rfl ?_))) (by dsimp only [oras]; rw [List.length_append, flat_app]; exact (by repeat (first | exact Imp.refl _ | exact Imp.none _ | apply Imp.pull (by repeat (first | exact Ext.here | apply Ext.there)) | apply Imp.trans Imp.drop)))
    · skip
      have hov : over major (ca.abs s.latency) = false := over_no2 (a := ca.abs s.latency) hh.2
      refine CG.draw (.look 0 1 (.look 1 1 (.look 2 1 (.look 3 1 (.look 4 1 (.look 5 1 (.look 6 1 (.look 7 1 (.look 8 1 (.look 9 1 (.look 10 1 (.look 11 1 (.look 12 1 (.look 13 1 (.done))))))))))))))) [] [] ([]) ([]) mixed (by kernel_rfl) (Imp.none _) (Imp.none _) ?_
      refine DG.look rfl rfl (Yield.fieldAddr fa128_7 rfl) rfl ?_
      refine DG.look rfl rfl (Yield.load (v := .bool true) ti4 rfl (cel_b hh.1 (Cel.of_blk (b := b9) (by repeat (first | exact Ext.here | apply Ext.there)) rfl))) rfl ?_
      refine DG.look rfl rfl (Yield.not rfl) rfl ?_
      refine DG.look rfl rfl (Yield.move rfl) rfl ?_
      refine DG.look rfl rfl (Yield.fieldAddr fa128_5 rfl) rfl ?_
      refine DG.look rfl rfl (Yield.load (v := .int .i64 ca.major) ti3 rfl (Cel.of_blk (b := b9) (by repeat (first | exact Ext.here | apply Ext.there)) rfl)) rfl ?_
      refine DG.look rfl rfl (Yield.move rfl) rfl ?_
      refine DG.look rfl rfl (Yield.nilCheck rfl) rfl ?_
      refine DG.look rfl rfl (Yield.fieldAddr fa109_3 rfl) rfl ?_
      refine DG.look rfl rfl (Yield.load (v := .int .i64 s.latency) ti3 rfl (Cel.of_blk (b := d) (by repeat (first | exact Ext.here | apply Ext.there)) rfl)) rfl ?_
      refine DG.look rfl rfl (Yield.add rfl rfl (w64 (by omega) (by omega))) rfl ?_
      refine DG.look rfl rfl (Yield.move rfl) rfl ?_
      refine DG.look rfl rfl (by first | exact Yield.as (Yield.gtr rfl rfl) (bT (by omega)) | exact Yield.as (Yield.gtr rfl rfl) (bF (by omega)) | exact Yield.gtr rfl rfl) rfl ?_
      refine DG.look rfl rfl (by first | exact Yield.pick_t rfl rfl | exact Yield.pick_f rfl rfl | exact Yield.pick rfl (fun _ => rfl) (fun _ => rfl)) rfl ?_
      refine DG.done ?_
      refine QG.then ?_
      refine CG.cond_t rfl ?_
      refine CG.seq ?_
      refine CG.region ?_
      refine OG.yield (Yield.move rfl) rfl ?_
      refine OG.yield (Yield.load_agg (vs := ca.cells) ti128 rfl (RA.len ca) (Row.of_blk (b := b9) (by repeat (first | exact Ext.here | apply Ext.there)) rfl)) rfl ?_
      refine OG.effd (Eff.lit [.tmp 42] (vs := [.agg ca.cells.toArray]) (cells := ca.cells) Try.underlying107 ti128 rfl rfl rfl rfl (by decide) (by simp [Value.cells, RA.cells]) (by simp [Value.cells])) rfl ?_
      rintro b43 -
      refine OG.effd (Eff.append (a := ra) (c := rc) (m := rest.length) (xs := (rest.map RA.cells).flatten) (k := 1) (ys := ca.cells) rfl rfl rfl Try.underlying107 Try.underlying107 ti128 rfl (by decide) (by repeat (first | exact Foc.here | apply Foc.there)) (SlR.of_osl (a := some ⟨b43, 0, none⟩) (by repeat (first | exact Ext.here | apply Ext.there))) (RA.ones _) (by omega)) rfl ?_
      rintro ⟨a44, c44⟩ -
      refine OG.yield (Yield.assign rfl) rfl ?_
      refine OG.nil ?_
      refine QG.then ?_
      refine CG.exit ?_
      refine QG.pass_exit ?_
      refine QG.block_exit ?_
      refine QG.then ?_
      refine CG.region ?_
      refine OG.yield (Yield.move rfl) rfl ?_
      refine OG.yield (Yield.add rfl rfl (w64 (by omega) (by omega))) rfl ?_
      refine OG.yield (Yield.assign rfl) rfl ?_
      refine OG.nil ?_
      refine QG.next ⟨i + 1, ⟨l, la, lc⟩, rest ++ [ca], a44, c44, told, ta, tc⟩ ⟨by simp only; omega, by dsimp only; rw [htk, List.filter_append, List.map_append, hout]; simp [hov], by simp only; omega, by dsimp only; rw [htk, List.filter_append, List.map_append, hrest]; simp [hov], by simp only [List.length_append, List.length_cons, List.length_nil]; omega, fun a ha => by rcases List.mem_append.1 ha with ha | ha; exact hall a ha; (simp only [List.mem_cons, List.not_mem_nil, or_false] at ha; subst ha; exact hro), by dsimp only; rw [htk, List.filter_append, List.map_append, htold]; simp [hov], by simp only; omega⟩ (show x.ras.length - (i + 1) < x.ras.length - i by omega) (by dsimp only; rw [List.length_append]; exact (by repeat (first | exact Env.sub_nil _ | refine Env.sub_cons rfl ?_))) (by dsimp only [oras]; rw [List.length_append, flat_app]; exact (by repeat (first | exact Imp.refl _ | exact Imp.none _ | apply Imp.pull (by repeat (first | exact Ext.here | apply Ext.there)) | apply Imp.trans Imp.drop)))
    · skip
      have hov : over major (ca.abs s.latency) = true := over_yes (a := ca.abs s.latency) (by unfold RA.abs; dsimp only; rw [hh.1]; rfl) hh.2
      refine CG.draw (.look 0 1 (.look 1 1 (.look 2 1 (.look 3 1 (.look 4 1 (.look 5 1 (.look 6 1 (.look 7 1 (.look 8 1 (.look 9 1 (.look 10 1 (.look 11 1 (.look 12 1 (.look 13 1 (.done))))))))))))))) [] [] ([]) ([]) mixed (by kernel_rfl) (Imp.none _) (Imp.none _) ?_
      refine DG.look rfl rfl (Yield.fieldAddr fa128_7 rfl) rfl ?_
      refine DG.look rfl rfl (Yield.load (v := .bool true) ti4 rfl (cel_b hh.1 (Cel.of_blk (b := b9) (by repeat (first | exact Ext.here | apply Ext.there)) rfl))) rfl ?_
      refine DG.look rfl rfl (Yield.not rfl) rfl ?_
      refine DG.look rfl rfl (Yield.move rfl) rfl ?_
      refine DG.look rfl rfl (Yield.fieldAddr fa128_5 rfl) rfl ?_
      refine DG.look rfl rfl (Yield.load (v := .int .i64 ca.major) ti3 rfl (Cel.of_blk (b := b9) (by repeat (first | exact Ext.here | apply Ext.there)) rfl)) rfl ?_
      refine DG.look rfl rfl (Yield.move rfl) rfl ?_
      refine DG.look rfl rfl (Yield.nilCheck rfl) rfl ?_
      refine DG.look rfl rfl (Yield.fieldAddr fa109_3 rfl) rfl ?_
      refine DG.look rfl rfl (Yield.load (v := .int .i64 s.latency) ti3 rfl (Cel.of_blk (b := d) (by repeat (first | exact Ext.here | apply Ext.there)) rfl)) rfl ?_
      refine DG.look rfl rfl (Yield.add rfl rfl (w64 (by omega) (by omega))) rfl ?_
      refine DG.look rfl rfl (Yield.move rfl) rfl ?_
      refine DG.look rfl rfl (by first | exact Yield.as (Yield.gtr rfl rfl) (bT (by omega)) | exact Yield.as (Yield.gtr rfl rfl) (bF (by omega)) | exact Yield.gtr rfl rfl) rfl ?_
      refine DG.look rfl rfl (by first | exact Yield.pick_t rfl rfl | exact Yield.pick_f rfl rfl | exact Yield.pick rfl (fun _ => rfl) (fun _ => rfl)) rfl ?_
      refine DG.done ?_
      refine QG.then ?_
      refine CG.cond_f rfl ?_
      refine CG.skip ?_
      refine QG.then ?_
      refine CG.seq ?_
      refine CG.region ?_
      refine OG.yield (Yield.fieldAddr fa128_0 rfl) rfl ?_
      refine OG.yield (Yield.load (v := .int .u32 ca.tag) ti35 rfl (Cel.of_blk (b := b9) (by repeat (first | exact Ext.here | apply Ext.there)) rfl)) rfl ?_
      refine OG.yield (Yield.fieldAddr fa128_1 rfl) rfl ?_
      refine OG.yield (Yield.load (v := .bool ca.write) ti4 rfl (Cel.of_blk (b := b9) (by repeat (first | exact Ext.here | apply Ext.there)) rfl)) rfl ?_
      refine OG.yield (Yield.fieldAddr fa128_3 rfl) rfl ?_
      refine OG.yield (Yield.load (v := .int .u32 ca.addr) ti35 rfl (Cel.of_blk (b := b9) (by repeat (first | exact Ext.here | apply Ext.there)) rfl)) rfl ?_
      refine OG.yield (Yield.build (pvs := [(0, .int .u32 ca.tag), (1, .bool ca.write), (2, .int .u32 ca.addr)]) bu129 ti129 rfl (cells := CD.cells ⟨ca.tag, ca.write, ca.addr, Msg.nil⟩) rfl) rfl ?_
      refine OG.effd (Eff.alloc ti129) rfl ?_
      rintro b10 -
      refine OG.eff (Eff.storeAll ti129 rfl rfl (by repeat (first | exact Foc.here | apply Foc.there)) (CD.len ⟨ca.tag, ca.write, ca.addr, Msg.nil⟩) (CD.ones ⟨ca.tag, ca.write, ca.addr, Msg.nil⟩) rfl) rfl ?_
      rintro ⟨⟩ -
      refine OG.nil ?_
      refine QG.then ?_
      refine CG.cut (fun m : Msg => m.b = if ca.write then [] else ca.m.b) (fun _ => [(0, .pointer (some ⟨d, 0, none⟩)), (1, .int .i64 major), (5, .slice la l.length lc), (6, .slice ra rest.length rc), (7, .slice ta told.length tc), (8, .int .i64 i), (9, .pointer (some ⟨b9, 0, none⟩)), (10, .pointer (some ⟨b10, 0, none⟩))]) (fun m => blk b10 (CD.cells ⟨ca.tag, ca.write, ca.addr, m⟩) 129 :: m.own :: blk b9 ca.cells 128 :: RH d s s.last (some ⟨b, o, none⟩) x.ras.length x.c x.ta s.told.length x.tc :: oras (some ⟨b, o, none⟩) x.c x.ras :: odn la lc l :: pool (l.map CD.m) :: oras ra rc rest :: onum 35 .u32 ta tc told :: pool x.pl :: Fr) ?_ ?_
      · skip
        refine CG.seq ?_
        refine CG.region ?_
        refine OG.yield (Yield.fieldAddr fa128_1 rfl) rfl ?_
        refine OG.yield (Yield.load (v := .bool ca.write) ti4 rfl (Cel.of_blk (b := b9) (by repeat (first | exact Ext.here | apply Ext.there)) rfl)) rfl ?_
        refine OG.yield (Yield.not rfl) rfl ?_
        refine OG.nil ?_
        refine QG.then ?_
        refine CG.cond rfl (fun hc => ?_) (fun hc => ?_)
        · try replace hc := of_decide_eq_true hc
          have hwf : ca.write = false := by simpa using hc
          refine CG.region ?_
          refine OG.effd (Eff.lit0 Try.underlying36 ti5 rfl) rfl ?_
          rintro b55 -
          refine OG.yield (Yield.fieldAddr fa128_4 rfl) rfl ?_
          refine OG.yield (Yield.load (v := ca.m.cell) ti36 rfl (Cel.of_blk (b := b9) (by repeat (first | exact Ext.here | apply Ext.there)) rfl)) rfl ?_
          refine OG.effd (Eff.appendB (a := some ⟨b55, 0, none⟩) (c := 0) (bs := []) (ys := ca.m.b) rfl rfl rfl Try.underlying36 Try.underlying36 ti5 (by decide) (by repeat (first | exact Foc.here | apply Foc.there)) (by exact (pool_rd (ms := x.pl) (by repeat (first | exact Ext.here | apply Ext.there)) hro.mem).slR) (by have h9 : (RA.abs s.latency ca).data = ca.m.b := rfl; rw [h9] at hdat; simp only [List.length_nil]; omega)) rfl ?_
          rintro ⟨am, cm⟩ -
          rw [List.nil_append]
          refine OG.yield (Yield.fieldAddr fa129_3 rfl) rfl ?_
          refine OG.eff (Eff.store1 ti36 rfl rfl (by repeat (first | exact Foc.here | apply Foc.there)) rfl (by rw [CD.len]; decide)) rfl ?_
          rintro ⟨⟩ -
          refine OG.nil ?_
          exact QG.mid ⟨am, cm, ca.m.b⟩ (by rw [hwf]; rfl) (by repeat (first | exact Env.sub_nil _ | refine Env.sub_cons rfl ?_)) (by repeat (first | exact Imp.refl _ | exact Imp.none _ | apply Imp.pull (by repeat (first | exact Ext.here | apply Ext.there)) | apply Imp.trans Imp.drop))
        · try replace hc := of_decide_eq_false hc
          have hwt : ca.write = true := by simpa using hc
          refine CG.skip ?_
          exact QG.mid Msg.nil (by rw [hwt]; rfl) (by repeat (first | exact Env.sub_nil _ | refine Env.sub_cons rfl ?_)) (Imp.trans own_nil (by repeat (first | exact Imp.refl _ | exact Imp.none _ | apply Imp.pull (by repeat (first | exact Ext.here | apply Ext.there)) | apply Imp.trans Imp.drop)))
      rintro m hm
      refine CG.seq ?_
      refine CG.region ?_
      refine OG.yield (Yield.move rfl) rfl ?_
      refine OG.yield (Yield.load_agg (vs := CD.cells ⟨ca.tag, ca.write, ca.addr, m⟩) ti129 rfl (CD.len _) (Row.of_blk (b := b10) (by repeat (first | exact Ext.here | apply Ext.there)) rfl)) rfl ?_
      refine OG.effd (Eff.lit [.tmp 61] (vs := [.agg (CD.cells ⟨ca.tag, ca.write, ca.addr, m⟩).toArray]) (cells := CD.cells ⟨ca.tag, ca.write, ca.addr, m⟩) Try.underlying114 ti129 rfl rfl rfl rfl (by decide) (by simp [Value.cells, CD.cells]) (by simp [Value.cells])) rfl ?_
      rintro b62 -
      refine OG.effd (Eff.append (a := la) (c := lc) (m := l.length) (xs := (l.map CD.cells).flatten) (k := 1) (ys := CD.cells ⟨ca.tag, ca.write, ca.addr, m⟩) rfl rfl rfl Try.underlying114 Try.underlying114 ti129 rfl (by decide) (by repeat (first | exact Foc.here | apply Foc.there)) (SlR.of_osl (a := some ⟨b62, 0, none⟩) (by repeat (first | exact Ext.here | apply Ext.there))) (CD.ones _) (by omega)) rfl ?_
      rintro ⟨a63, c63⟩ -
      refine OG.yield (Yield.assign rfl) rfl ?_
      refine OG.nil ?_
      refine QG.then ?_
      refine CG.region ?_
      refine OG.yield (Yield.move rfl) rfl ?_
      refine OG.yield (Yield.fieldAddr fa128_0 rfl) rfl ?_
      refine OG.yield (Yield.load (v := .int .u32 ca.tag) ti35 rfl (Cel.of_blk (b := b9) (by repeat (first | exact Ext.here | apply Ext.there)) rfl)) rfl ?_
      refine OG.effd (Eff.lit1 Try.underlying43 ti35 rfl rfl rfl) rfl ?_
      rintro b67 -
      refine OG.effd (Eff.append (a := ta) (c := tc) (m := told.length) (xs := intsV .u32 told) (k := 1) (ys := [.int .u32 ca.tag]) rfl rfl rfl Try.underlying43 Try.underlying43 ti35 rfl (by decide) (by repeat (first | exact Foc.here | apply Foc.there)) (SlR.of_osl (a := some ⟨b67, 0, none⟩) (by repeat (first | exact Ext.here | apply Ext.there))) (by simp [one]) (by omega)) rfl ?_
      rintro ⟨a68, c68⟩ -
      refine OG.yield (Yield.assign rfl) rfl ?_
      refine OG.nil ?_
      refine QG.block_normal ?_
      refine QG.then ?_
      refine CG.region ?_
      refine OG.yield (Yield.move rfl) rfl ?_
      refine OG.yield (Yield.add rfl rfl (w64 (by omega) (by omega))) rfl ?_
      refine OG.yield (Yield.assign rfl) rfl ?_
      refine OG.nil ?_
      refine QG.next ⟨i + 1, ⟨l ++ [⟨ca.tag, ca.write, ca.addr, m⟩], a63, c63⟩, rest, ra, rc, told ++ [ca.tag], a68, c68⟩ ⟨?_, ?_, ?_, ?_, ?_, hall, ?_, ?_⟩ (show x.ras.length - (i + 1) < x.ras.length - i by omega) (by dsimp only [Dns.cell]; rw [show (l ++ [(⟨ca.tag, ca.write, ca.addr, m⟩ : CD)]).length = l.length + 1 by simp, show (told ++ [ca.tag]).length = told.length + 1 by simp]; exact (by repeat (first | exact Env.sub_nil _ | refine Env.sub_cons rfl ?_))) ?_
      · simp only; omega
      · dsimp only; rw [htk, List.filter_append, List.map_append, List.map_append, hout, show [ca.abs s.latency].filter (over major) = [ca.abs s.latency] by simp [hov]]; simp [CD.abs, done, RA.abs, hm]
      · simp only [List.length_append, List.length_cons, List.length_nil]; omega
      · dsimp only; rw [htk, List.filter_append, hrest]; simp [hov]
      · simp only; omega
      · dsimp only; rw [htk, List.filter_append, List.map_append, htold, show [ca.abs s.latency].filter (over major) = [ca.abs s.latency] by simp [hov]]; rfl
      · simp only [List.length_append, List.length_cons, List.length_nil]; omega
      · dsimp only [Dns.ms, odn]
        rw [show (l ++ [(⟨ca.tag, ca.write, ca.addr, m⟩ : CD)]).length = l.length + 1 by simp, flat_app, List.map_append, onum_app]
        exact Imp.trans (Imp.trans (Imp.pull (A := m.own) (by repeat (first | exact Ext.here | apply Ext.there)) (Imp.pull (A := pool (l.map CD.m)) (by repeat (first | exact Ext.here | apply Ext.there)) (Imp.refl _))) pool_add) (Imp.pull (by repeat (first | exact Ext.here | apply Ext.there)) (Imp.pull (A := oras (some ⟨b, o, none⟩) x.c x.ras) (by repeat (first | exact Ext.here | apply Ext.there)) (Imp.pull (by repeat (first | exact Ext.here | apply Ext.there)) (by repeat (first | exact Imp.refl _ | exact Imp.none _ | apply Imp.pull (by repeat (first | exact Ext.here | apply Ext.there)) | apply Imp.trans Imp.drop)))))
  · try replace hc := of_decide_eq_false hc
    refine CG.exit ?_
    refine QG.pass_exit ?_
    refine QG.pass_exit ?_
    refine QG.block_exit ?_
    refine QG.then ?_
    refine CG.seq ?_
    refine CG.region ?_
    refine OG.yield (Yield.move rfl) rfl ?_
    refine OG.yield (Yield.move rfl) rfl ?_
    refine OG.yield (Yield.nilCheck rfl) rfl ?_
    refine OG.yield (Yield.fieldAddr fa109_4 rfl) rfl ?_
    refine OG.eff (Eff.store1 ti107 rfl rfl (by repeat (first | exact Foc.here | apply Foc.there)) rfl (by simp)) rfl ?_
    rintro ⟨⟩ -
    refine OG.nil ?_
    refine QG.then ?_
    refine CG.seq ?_
    refine CG.region ?_
    refine OG.yield (Yield.move rfl) rfl ?_
    refine OG.yield (Yield.move rfl) rfl ?_
    refine OG.yield (Yield.nilCheck rfl) rfl ?_
    refine OG.yield (Yield.fieldAddr fa109_6 rfl) rfl ?_
    refine OG.eff (Eff.store1 ti43 rfl rfl (by repeat (first | exact Foc.here | apply Foc.there)) rfl (by simp)) rfl ?_
    rintro ⟨⟩ -
    refine OG.nil ?_
    refine QG.then ?_
    refine CG.seq ?_
    refine CG.region ?_
    refine OG.yield (Yield.move rfl) rfl ?_
    refine OG.yield (Yield.assign rfl) rfl ?_
    refine OG.nil ?_
    refine QG.then ?_
    refine CG.ret ?_
    have hie : i = s.asks.length := by omega
    subst hie
    rw [List.take_length] at hout hrest htold
    subst htold
    have hcl2 := rd_close (d := d) (G := Fr) (s := rdyS s major) ⟨rest, x.pl, ra, rc, ta, tc⟩ ⟨hrest, fun a ha => ⟨(hall a ha).mem, (hall a ha).com, (hall a ha).maj⟩, ⟨hok.part, hok.first, hok.count, hok.lat, Nat.le_trans (List.length_filter_le _ _) hok.asks, by dsimp only [rdyS]; omega, fun a ha => hok.data a (List.mem_filter.1 ha).1, fun a ha => hok.sec a (List.mem_filter.1 ha).1⟩⟩
    dsimp only [RO, List.cons_append, List.nil_append] at hcl2
    exact QG.ret1 rfl rfl ⟨l, la, lc⟩ hout rfl (Imp.pull (by repeat (first | exact Ext.here | apply Ext.there)) (Imp.pull (by repeat (first | exact Ext.here | apply Ext.there)) (Imp.trans (Imp.pull (by repeat (first | exact Ext.here | apply Ext.there)) (Imp.pull (A := oras ra rc rest) (by repeat (first | exact Ext.here | apply Ext.there)) (Imp.pull (by repeat (first | exact Ext.here | apply Ext.there)) (Imp.pull (A := pool x.pl) (by repeat (first | exact Ext.here | apply Ext.there)) (by repeat (first | exact Imp.refl _ | exact Imp.none _ | apply Imp.pull (by repeat (first | exact Ext.here | apply Ext.there)) | apply Imp.trans Imp.drop)))))) hcl2)))
theorem rwaiting_spec {d : Nat} {s : Ds} : Ctr Try.prog W0 62 [.pointer (some ⟨d, 0, none⟩)] (Dd d s :: Fr) (fun _ : Option Addr × Nat => True) (fun q => .slice q.1 (s.asks.map Ak.tag).length q.2) (fun q => onum 35 .u32 q.1 q.2 (s.asks.map Ak.tag) :: Dd d s :: Fr) := by
  refine Ctr.ex Ext.here rd_open ?_
  intro x hx
  refine Ctr.imp star_open ?_
  have hln := hx.len
  have hok := hx.ok
  have hal := hx.ok.asks
  have hcl := rd_close (d := d) (G := Fr) x hx
  dsimp only [RO, List.cons_append, List.nil_append] at hcl ⊢
  refine Ctr.of_body Try.func62 rfl Try.ntmps62 rfl ?_
  refine CG.seq ?_
  refine CG.region ?_
  refine OG.yield (Yield.assign rfl) rfl ?_
  refine OG.nil ?_
  refine QG.then ?_
  refine CG.seq ?_
  refine CG.region ?_
  refine OG.yield (Yield.assign rfl) rfl ?_
  refine OG.nil ?_
  refine QG.then ?_
  refine CG.seq ?_
  refine CG.seq ?_
  refine CG.region ?_
  refine OG.yield (Yield.assign rfl) rfl ?_
  refine OG.nil ?_
  refine QG.then ?_
  refine CG.block ?_
  refine CG.loop (fun t : Nat × List Int × Option Addr × Nat => t.1 ≤ s.asks.length ∧ t.2.1 = (s.asks.take t.1).map Ak.tag) (fun t => [(0, .pointer (some ⟨d, 0, none⟩)), (3, .slice t.2.2.1 t.2.1.length t.2.2.2), (4, .int .i64 t.1)]) (fun t => onum 35 .u32 t.2.2.1 t.2.2.2 t.2.1 :: RH d s s.last x.a x.ras.length x.c x.ta s.told.length x.tc :: oras x.a x.c x.ras :: onum 35 .u32 x.ta x.tc s.told :: pool x.pl :: Fr) (fun t => x.ras.length - t.1) (0, [], none, 0) ⟨Nat.zero_le _, rfl⟩ (by repeat (first | exact Env.sub_nil _ | refine Env.sub_cons rfl ?_)) (osl_nil (E := 35) (sz := 1)) ?_
  rintro ⟨i, l, la, lc⟩ ⟨hi, hl⟩
  dsimp only at hi hl ⊢
  have hll : l.length = i := by rw [hl, List.length_map, List.length_take]; omega
  refine CG.seq ?_
  refine CG.seq ?_
  refine CG.region ?_
  refine OG.yield (Yield.move rfl) rfl ?_
  refine OG.yield (Yield.move rfl) rfl ?_
  refine OG.yield (Yield.nilCheck rfl) rfl ?_
  refine OG.yield (Yield.fieldAddr fa109_4 rfl) rfl ?_
  refine OG.yield (Yield.load (v := .slice x.a x.ras.length x.c) ti107 rfl (Cel.of_blk (b := d) (by repeat (first | exact Ext.here | apply Ext.there)) rfl)) rfl ?_
  refine OG.yield (Yield.len_slice Try.underlying107 rfl rfl) rfl ?_
  refine OG.yield (by first | exact Yield.as (Yield.lss rfl rfl) (bT (by omega)) | exact Yield.as (Yield.lss rfl rfl) (bF (by omega)) | exact Yield.lss rfl rfl) rfl ?_
  refine OG.nil ?_
  refine QG.then ?_
  refine CG.cond rfl (fun hc => ?_) (fun hc => ?_)
  · try replace hc := of_decide_eq_true hc
    have hi' : i < x.ras.length := by omega
    have hgc : x.ras[i]? = some x.ras[i] := by simp [hi']
    generalize x.ras[i] = ca at hgc
    have hget := hx.get hgc
    have htk := take_snoc hget
    refine CG.pure (fun w hw => shape_rs (n := i) (l := x.ras) (by omega) (by repeat (first | exact Ext.here | apply Ext.there)) w hw) ?_
    rintro ⟨b, o, hxa⟩
    rw [hxa]
    refine CG.skip ?_
    refine QG.then ?_
    refine CG.seq ?_
    refine CG.block ?_
    refine CG.region ?_
    refine OG.yield (Yield.move rfl) rfl ?_
    refine OG.yield (Yield.move rfl) rfl ?_
    refine OG.yield (Yield.nilCheck rfl) rfl ?_
    refine OG.yield (Yield.fieldAddr fa109_4 rfl) rfl ?_
    refine OG.yield (Yield.load (v := .slice (some ⟨b, o, none⟩) x.ras.length x.c) ti107 rfl (Cel.of_blk (b := d) (by repeat (first | exact Ext.here | apply Ext.there)) rfl)) rfl ?_
    refine OG.yield (Yield.move rfl) rfl ?_
    refine OG.yield (Yield.index_slice Try.underlying107 ti128 rfl rfl (by omega) (by omega)) rfl ?_
    refine OG.yield (Yield.fieldAddr fa128_0 rfl) rfl ?_
    refine OG.yield (Yield.load (v := .int .u32 ca.tag) ti35 rfl (by rw [show o + (i : Int).toNat * 8 = o + i * 8 by omega]; exact (SlR.of_osl (E := 128) (a := some ⟨b, o, none⟩) (c := x.c) (by repeat (first | exact Ext.here | apply Ext.there))).elem RA.len hgc 0 _ rfl)) rfl ?_
    refine OG.effd (Eff.lit1 Try.underlying43 ti35 rfl rfl rfl) rfl ?_
    rintro b23 -
    refine OG.effd (Eff.append (a := la) (c := lc) (m := l.length) (xs := intsV .u32 l) (k := 1) (ys := [.int .u32 ca.tag]) rfl rfl rfl Try.underlying43 Try.underlying43 ti35 rfl (by decide) (by repeat (first | exact Foc.here | apply Foc.there)) (SlR.of_osl (a := some ⟨b23, 0, none⟩) (by repeat (first | exact Ext.here | apply Ext.there))) (by simp [one]) (by omega)) rfl ?_
    rintro ⟨a24, c24⟩ -
    refine OG.yield (Yield.assign rfl) rfl ?_
    refine OG.nil ?_
    refine QG.block_normal ?_
    refine QG.then ?_
    refine CG.region ?_
    refine OG.yield (Yield.move rfl) rfl ?_
    refine OG.yield (Yield.add rfl rfl (w64 (by omega) (by omega))) rfl ?_
    refine OG.yield (Yield.assign rfl) rfl ?_
    refine OG.nil ?_
    refine QG.next (i + 1, l ++ [ca.tag], a24, c24) ⟨by simp only; omega, ?_⟩ (show x.ras.length - (i + 1) < x.ras.length - i by omega) (by dsimp only; rw [List.length_append]; exact (by repeat (first | exact Env.sub_nil _ | refine Env.sub_cons rfl ?_))) (by dsimp only; rw [onum_app]; exact (by repeat (first | exact Imp.refl _ | exact Imp.none _ | apply Imp.pull (by repeat (first | exact Ext.here | apply Ext.there)) | apply Imp.trans Imp.drop)))
    dsimp only; rw [htk, List.map_append, hl]; rfl
  · try replace hc := of_decide_eq_false hc
    refine CG.exit ?_
    refine QG.pass_exit ?_
    refine QG.pass_exit ?_
    refine QG.block_exit ?_
    refine QG.then ?_
    refine CG.seq ?_
    refine CG.region ?_
    refine OG.yield (Yield.move rfl) rfl ?_
    refine OG.yield (Yield.assign rfl) rfl ?_
    refine OG.nil ?_
    refine QG.then ?_
    refine CG.ret ?_
    have hie : i = s.asks.length := by omega
    subst hie
    rw [List.take_length] at hl
    subst hl
    exact QG.ret1 rfl rfl (la, lc) trivial rfl (Imp.pull (by repeat (first | exact Ext.here | apply Ext.there)) (Imp.trans (by repeat (first | exact Imp.refl _ | exact Imp.none _ | apply Imp.pull (by repeat (first | exact Ext.here | apply Ext.there)) | apply Imp.trans Imp.drop)) hcl))
theorem sameTags_spec {a a2 : Option Addr} {c c2 : Nat} {l : List Int} (h1 : SlR W0 Fr 1 a l.length (intsV .u32 l)) (h2 : SlR W0 Fr 1 a2 l.length (intsV .u32 l)) (hl : l.length ≤ 2 ^ 20) : Ctr Try.prog W0 61 [.slice a l.length c, .slice a2 l.length c2] Fr (fun _ : Unit => True) (fun _ => .bool true) (fun _ => Fr) := by
  have hol := intsV_len .u32 l
  refine Ctr.of_body Try.func61 rfl Try.ntmps61 rfl ?_
  refine CG.seq ?_
  refine CG.region ?_
  refine OG.yield (Yield.assign rfl) rfl ?_
  refine OG.nil ?_
  refine QG.then ?_
  refine CG.seq ?_
  refine CG.seq ?_
  refine CG.region ?_
  refine OG.yield (Yield.move rfl) rfl ?_
  refine OG.yield (Yield.len_slice Try.underlying43 rfl rfl) rfl ?_
  refine OG.yield (Yield.move rfl) rfl ?_
  refine OG.yield (Yield.len_slice Try.underlying43 rfl rfl) rfl ?_
  refine OG.yield (by first | exact Yield.as (Yield.neq rfl rfl) (bT (by omega)) | exact Yield.as (Yield.neq rfl rfl) (bF (by omega)) | exact Yield.neq rfl rfl) rfl ?_
  refine OG.nil ?_
  refine QG.then ?_
  refine CG.cond_f rfl ?_
  refine CG.skip ?_
  refine QG.then ?_
  refine CG.seq ?_
  refine CG.seq ?_
  refine CG.region ?_
  refine OG.yield (Yield.assign rfl) rfl ?_
  refine OG.nil ?_
  refine QG.then ?_
  refine CG.block ?_
  refine CG.loop (fun i : Nat => i ≤ l.length) (fun i => [(0, .slice a l.length c), (1, .slice a2 l.length c2), (5, .int .i64 i)]) (fun _ => Fr) (fun i => l.length - i) 0 (Nat.zero_le _) (by repeat (first | exact Env.sub_nil _ | refine Env.sub_cons rfl ?_)) (Imp.refl _) ?_
  intro i hi
  refine CG.seq ?_
  refine CG.seq ?_
  refine CG.region ?_
  refine OG.yield (Yield.move rfl) rfl ?_
  refine OG.yield (Yield.move rfl) rfl ?_
  refine OG.yield (Yield.len_slice Try.underlying43 rfl rfl) rfl ?_
  refine OG.yield (by first | exact Yield.as (Yield.lss rfl rfl) (bT (by omega)) | exact Yield.as (Yield.lss rfl rfl) (bF (by omega)) | exact Yield.lss rfl rfl) rfl ?_
  refine OG.nil ?_
  refine QG.then ?_
  refine CG.cond rfl (fun hc => ?_) (fun hc => ?_)
  · try replace hc := of_decide_eq_true hc
    have hi' : i < l.length := by omega
    have hget : l[i]? = some l[i] := by simp [hi']
    generalize l[i] = y at hget
    refine CG.pure (fun w hw => SlR.shape h1 (by intro h; rw [h] at hol; simp only [List.length_nil] at hol; omega) w hw) ?_
    rintro ⟨b, o, rfl⟩
    refine CG.pure (fun w hw => SlR.shape h2 (by intro h; rw [h] at hol; simp only [List.length_nil] at hol; omega) w hw) ?_
    rintro ⟨b2, o2, rfl⟩
    refine CG.skip ?_
    refine QG.then ?_
    refine CG.seq ?_
    refine CG.block ?_
    refine CG.seq ?_
    refine CG.draw (.look 0 1 (.look 1 1 (.look 2 1 (.look 3 1 (.look 4 1 (.look 5 1 (.look 6 1 (.look 7 1 (.look 8 1 (.done)))))))))) [] [] ([]) ([]) mixed (by kernel_rfl) (Imp.none _) (Imp.none _) ?_
    refine DG.look rfl rfl (Yield.move rfl) rfl ?_
    refine DG.look rfl rfl (Yield.move rfl) rfl ?_
    refine DG.look rfl rfl (Yield.index_slice Try.underlying43 ti35 rfl rfl (by omega) (by omega)) rfl ?_
    refine DG.look rfl rfl (Yield.load (v := .int .u32 y) ti35 rfl (by rw [show o + (i : Int).toNat * 1 = o + i by omega]; exact h1.cel (intsV_get hget))) rfl ?_
    refine DG.look rfl rfl (Yield.move rfl) rfl ?_
    refine DG.look rfl rfl (Yield.move rfl) rfl ?_
    refine DG.look rfl rfl (Yield.index_slice Try.underlying43 ti35 rfl rfl (by omega) (by omega)) rfl ?_
    refine DG.look rfl rfl (Yield.load (v := .int .u32 y) ti35 rfl (by rw [show o2 + (i : Int).toNat * 1 = o2 + i by omega]; exact h2.cel (intsV_get hget))) rfl ?_
    refine DG.look rfl rfl (Yield.as (Yield.neq rfl rfl) (bF (not_not_intro rfl))) rfl ?_
    refine DG.done ?_
    refine QG.then ?_
    refine CG.cond_f rfl ?_
    refine CG.skip ?_
    refine QG.block_normal ?_
    refine QG.then ?_
    refine CG.region ?_
    refine OG.yield (Yield.move rfl) rfl ?_
    refine OG.yield (Yield.add rfl rfl (w64 (by omega) (by omega))) rfl ?_
    refine OG.yield (Yield.assign rfl) rfl ?_
    refine OG.nil ?_
    exact QG.next (i + 1) (show i + 1 ≤ l.length by omega) (show l.length - (i + 1) < l.length - i by omega) (by repeat (first | exact Env.sub_nil _ | refine Env.sub_cons rfl ?_)) (by repeat (first | exact Imp.refl _ | exact Imp.none _ | apply Imp.pull (by repeat (first | exact Ext.here | apply Ext.there)) | apply Imp.trans Imp.drop))
  · try replace hc := of_decide_eq_false hc
    refine CG.exit ?_
    refine QG.pass_exit ?_
    refine QG.pass_exit ?_
    refine QG.block_exit ?_
    refine QG.then ?_
    refine CG.seq ?_
    refine CG.region ?_
    refine OG.yield (Yield.assign rfl) rfl ?_
    refine OG.nil ?_
    refine QG.then ?_
    refine CG.ret ?_
    exact QG.ret1 rfl rfl () trivial rfl (by repeat (first | exact Imp.refl _ | exact Imp.none _ | apply Imp.pull (by repeat (first | exact Ext.here | apply Ext.there)) | apply Imp.trans Imp.drop))
theorem sameDone_spec {x y : Dns} (h1 : SlR W0 Fr 4 x.a x.l.length ((x.l.map CD.cells).flatten)) (h2 : SlR W0 Fr 4 y.a y.l.length ((y.l.map CD.cells).flatten)) (hm1 : ∀ m ∈ x.ms, RdB W0 Fr m.a m.c m.b) (hm2 : ∀ m ∈ y.ms, RdB W0 Fr m.a m.c m.b) (he : x.l.map CD.abs = y.l.map CD.abs) (hb : x.l.length ≤ 2 ^ 20) :
    Ctr Try.prog W0 58 [x.cell, y.cell] Fr (fun _ : Unit => True) (fun _ => .bool true) (fun _ => Fr) := by
  have hl : x.l.length = y.l.length := by have := congrArg List.length he; simpa using this
  obtain ⟨xs, xa, xc⟩ := x
  obtain ⟨ys, ya, yc⟩ := y
  unfold Dns.cell
  dsimp only [Dns.ms] at h1 h2 hm1 hm2 hb hl he ⊢
  refine Ctr.of_body Try.func58 rfl Try.ntmps58 rfl ?_
  refine CG.seq ?_
  refine CG.region ?_
  refine OG.yield (Yield.assign rfl) rfl ?_
  refine OG.nil ?_
  refine QG.then ?_
  refine CG.seq ?_
  refine CG.seq ?_
  refine CG.region ?_
  refine OG.yield (Yield.move rfl) rfl ?_
  refine OG.yield (Yield.len_slice Try.underlying33 rfl rfl) rfl ?_
  refine OG.yield (Yield.move rfl) rfl ?_
  refine OG.yield (Yield.len_slice Try.underlying114 rfl rfl) rfl ?_
  refine OG.yield (by first | exact Yield.as (Yield.neq rfl rfl) (bT (by omega)) | exact Yield.as (Yield.neq rfl rfl) (bF (by omega)) | exact Yield.neq rfl rfl) rfl ?_
  refine OG.nil ?_
  refine QG.then ?_
  refine CG.cond_f rfl ?_
  refine CG.skip ?_
  refine QG.then ?_
  refine CG.seq ?_
  refine CG.seq ?_
  refine CG.region ?_
  refine OG.yield (Yield.assign rfl) rfl ?_
  refine OG.nil ?_
  refine QG.then ?_
  refine CG.block ?_
  refine CG.loop (fun i : Nat => i ≤ xs.length) (fun i => [(0, .slice xa xs.length xc), (1, .slice ya ys.length yc), (5, .int .i64 i)]) (fun _ => Fr) (fun i => xs.length - i) 0 (Nat.zero_le _) (by repeat (first | exact Env.sub_nil _ | refine Env.sub_cons rfl ?_)) (Imp.refl _) ?_
  intro i hi
  refine CG.seq ?_
  refine CG.seq ?_
  refine CG.region ?_
  refine OG.yield (Yield.move rfl) rfl ?_
  refine OG.yield (Yield.move rfl) rfl ?_
  refine OG.yield (Yield.len_slice Try.underlying33 rfl rfl) rfl ?_
  refine OG.yield (by first | exact Yield.as (Yield.lss rfl rfl) (bT (by omega)) | exact Yield.as (Yield.lss rfl rfl) (bF (by omega)) | exact Yield.lss rfl rfl) rfl ?_
  refine OG.nil ?_
  refine QG.then ?_
  refine CG.cond rfl (fun hc => ?_) (fun hc => ?_)
  · try replace hc := of_decide_eq_true hc
    have hi1 : i < xs.length := by omega
    have hi2 : i < ys.length := by omega
    have hg1 : xs[i]? = some xs[i] := by simp [hi1]
    have hg2 : ys[i]? = some ys[i] := by simp [hi2]
    have hr1 := hm1 xs[i].m (List.mem_map_of_mem (List.getElem_mem hi1))
    have hr2 := hm2 ys[i].m (List.mem_map_of_mem (List.getElem_mem hi2))
    have hbb : CD.abs xs[i] = CD.abs ys[i] := by
      have h := congrArg (fun l => l[i]?) he
      simp only [List.getElem?_map, hg1, hg2, Option.map_some, Option.some.injEq] at h
      exact h
    generalize xs[i] = mx at hg1 hr1 hbb
    generalize ys[i] = my at hg2 hr2 hbb
    have e1 : mx.tag = my.tag := congrArg Dn.tag hbb
    have e2 : mx.write = my.write := congrArg Dn.write hbb
    have e3 : mx.addr = my.addr := congrArg Dn.addr hbb
    have e4 : mx.m.b = my.m.b := congrArg Dn.data hbb
    refine CG.pure (fun w hw => h1.elem_shape (i := i) CD.len (by decide) hi1 w hw) ?_
    rintro ⟨b, o, rfl⟩
    refine CG.pure (fun w hw => h2.elem_shape (i := i) CD.len (by decide) hi2 w hw) ?_
    rintro ⟨b2, o2, rfl⟩
    have r1 : Row W0 Fr b (o + (i : Int).toNat * 4) mx.cells := by rw [show o + (i : Int).toNat * 4 = o + i * 4 by omega]; exact h1.elem CD.len hg1
    have r2 : Row W0 Fr b2 (o2 + (i : Int).toNat * 4) my.cells := by rw [show o2 + (i : Int).toNat * 4 = o2 + i * 4 by omega]; exact h2.elem CD.len hg2
    refine CG.skip ?_
    refine QG.then ?_
    refine CG.seq ?_
    refine CG.block ?_
    refine CG.seq ?_
    refine CG.draw (.look 0 1 (.look 1 1 (.look 2 1 (.look 3 1 (.look 4 1 (.look 5 1 (.look 6 1 (.look 7 1 (.look 8 1 (.look 9 1 (.look 10 1 (.look 11 1 (.look 12 1 (.look 13 1 (.look 14 1 (.look 15 1 (.look 16 1 (.look 17 1 (.look 18 1 (.look 19 1 (.look 20 1 (.look 21 1 (.look 22 1 (.look 23 1 (.look 24 1 (.look 25 1 (.look 26 1 (.look 27 1 (.look 28 1 (.look 29 1 (.look 30 1 (.look 31 1 (.look 32 1 (.look 33 1 (.look 34 1 (.look 35 1 (.look 36 1 (.look 37 1 (.look 38 1 (.look 39 1 (.look 40 1 (.look 41 1 (.look 42 1 (.look 43 1 (.look 44 1 (.look 45 1 (.look 46 1 (.look 47 1 (.look 48 1 (.look 49 1 (.look 50 1 (.look 51 1 (.done))))))))))))))))))))))))))))))))))))))))))))))))))))) [] [] ([]) ([]) mixed (by kernel_rfl) (Imp.none _) (Imp.none _) ?_
    refine DG.look rfl rfl (Yield.move rfl) rfl ?_
    refine DG.look rfl rfl (Yield.move rfl) rfl ?_
    refine DG.look rfl rfl (Yield.index_slice Try.underlying33 ti38 rfl rfl (by omega) (by omega)) rfl ?_
    refine DG.look rfl rfl (Yield.fieldAddr fa38_0 rfl) rfl ?_
    refine DG.look rfl rfl (Yield.load (v := .int .u32 mx.tag) ti35 rfl (r1 0 _ rfl)) rfl ?_
    refine DG.look rfl rfl (Yield.move rfl) rfl ?_
    refine DG.look rfl rfl (Yield.move rfl) rfl ?_
    refine DG.look rfl rfl (Yield.index_slice Try.underlying114 ti129 rfl rfl (by omega) (by omega)) rfl ?_
    refine DG.look rfl rfl (Yield.fieldAddr fa129_0 rfl) rfl ?_
    refine DG.look rfl rfl (Yield.load (v := .int .u32 my.tag) ti35 rfl (r2 0 _ rfl)) rfl ?_
    refine DG.look rfl rfl (Yield.as (Yield.neq rfl rfl) (bF (not_not_intro e1))) rfl ?_
    refine DG.look rfl rfl (Yield.move rfl) rfl ?_
    refine DG.look rfl rfl (Yield.move rfl) rfl ?_
    refine DG.look rfl rfl (Yield.move rfl) rfl ?_
    refine DG.look rfl rfl (Yield.index_slice Try.underlying33 ti38 rfl rfl (by omega) (by omega)) rfl ?_
    refine DG.look rfl rfl (Yield.fieldAddr fa38_1 rfl) rfl ?_
    refine DG.look rfl rfl (Yield.load (v := .bool mx.write) ti4 rfl (r1 1 _ rfl)) rfl ?_
    refine DG.look rfl rfl (Yield.move rfl) rfl ?_
    refine DG.look rfl rfl (Yield.move rfl) rfl ?_
    refine DG.look rfl rfl (Yield.index_slice Try.underlying114 ti129 rfl rfl (by omega) (by omega)) rfl ?_
    refine DG.look rfl rfl (Yield.fieldAddr fa129_1 rfl) rfl ?_
    refine DG.look rfl rfl (Yield.load (v := .bool my.write) ti4 rfl (r2 1 _ rfl)) rfl ?_
    refine DG.look rfl rfl (Yield.as (Yield.bool_neq Try.underlying4 rfl rfl) (v' := .bool false) (by rw [e2]; simp)) rfl ?_
    refine DG.look rfl rfl (by first | exact Yield.pick_t rfl rfl | exact Yield.pick_f rfl rfl | exact Yield.pick rfl (fun _ => rfl) (fun _ => rfl)) rfl ?_
    refine DG.look rfl rfl (Yield.move rfl) rfl ?_
    refine DG.look rfl rfl (Yield.move rfl) rfl ?_
    refine DG.look rfl rfl (Yield.move rfl) rfl ?_
    refine DG.look rfl rfl (Yield.index_slice Try.underlying33 ti38 rfl rfl (by omega) (by omega)) rfl ?_
    refine DG.look rfl rfl (Yield.fieldAddr fa38_2 rfl) rfl ?_
    refine DG.look rfl rfl (Yield.load (v := .int .u32 mx.addr) ti35 rfl (r1 2 _ rfl)) rfl ?_
    refine DG.look rfl rfl (Yield.move rfl) rfl ?_
    refine DG.look rfl rfl (Yield.move rfl) rfl ?_
    refine DG.look rfl rfl (Yield.index_slice Try.underlying114 ti129 rfl rfl (by omega) (by omega)) rfl ?_
    refine DG.look rfl rfl (Yield.fieldAddr fa129_2 rfl) rfl ?_
    refine DG.look rfl rfl (Yield.load (v := .int .u32 my.addr) ti35 rfl (r2 2 _ rfl)) rfl ?_
    refine DG.look rfl rfl (Yield.as (Yield.neq rfl rfl) (bF (not_not_intro e3))) rfl ?_
    refine DG.look rfl rfl (by first | exact Yield.pick_t rfl rfl | exact Yield.pick_f rfl rfl | exact Yield.pick rfl (fun _ => rfl) (fun _ => rfl)) rfl ?_
    refine DG.look rfl rfl (Yield.move rfl) rfl ?_
    refine DG.look rfl rfl (Yield.move rfl) rfl ?_
    refine DG.look rfl rfl (Yield.move rfl) rfl ?_
    refine DG.look rfl rfl (Yield.index_slice Try.underlying33 ti38 rfl rfl (by omega) (by omega)) rfl ?_
    refine DG.look rfl rfl (Yield.fieldAddr fa38_3 rfl) rfl ?_
    refine DG.look rfl rfl (Yield.load (v := mx.m.cell) ti36 rfl (r1 3 _ rfl)) rfl ?_
    refine DG.look rfl rfl (Yield.toStr (bs := mx.m.b) Try.underlying36 Try.underlying9 Try.underlying5 rfl hr1.slR) rfl ?_
    refine DG.look rfl rfl (Yield.move rfl) rfl ?_
    refine DG.look rfl rfl (Yield.move rfl) rfl ?_
    refine DG.look rfl rfl (Yield.index_slice Try.underlying114 ti129 rfl rfl (by omega) (by omega)) rfl ?_
    refine DG.look rfl rfl (Yield.fieldAddr fa129_3 rfl) rfl ?_
    refine DG.look rfl rfl (Yield.load (v := my.m.cell) ti36 rfl (r2 3 _ rfl)) rfl ?_
    refine DG.look rfl rfl (Yield.toStr (bs := my.m.b) Try.underlying36 Try.underlying9 Try.underlying5 rfl hr2.slR) rfl ?_
    refine DG.look rfl rfl (Yield.as (Yield.str_neq rfl rfl) (v' := .bool false) (by rw [e4]; simp)) rfl ?_
    refine DG.look rfl rfl (by first | exact Yield.pick_t rfl rfl | exact Yield.pick_f rfl rfl | exact Yield.pick rfl (fun _ => rfl) (fun _ => rfl)) rfl ?_
    refine DG.done ?_
    refine QG.then ?_
    refine CG.cond_f rfl ?_
    refine CG.skip ?_
    refine QG.block_normal ?_
    refine QG.then ?_
    refine CG.region ?_
    refine OG.yield (Yield.move rfl) rfl ?_
    refine OG.yield (Yield.add rfl rfl (w64 (by omega) (by omega))) rfl ?_
    refine OG.yield (Yield.assign rfl) rfl ?_
    refine OG.nil ?_
    exact QG.next (i + 1) (show i + 1 ≤ xs.length by omega) (show xs.length - (i + 1) < xs.length - i by omega) (by repeat (first | exact Env.sub_nil _ | refine Env.sub_cons rfl ?_)) (by repeat (first | exact Imp.refl _ | exact Imp.none _ | apply Imp.pull (by repeat (first | exact Ext.here | apply Ext.there)) | apply Imp.trans Imp.drop))
  · try replace hc := of_decide_eq_false hc
    refine CG.exit ?_
    refine QG.pass_exit ?_
    refine QG.pass_exit ?_
    refine QG.block_exit ?_
    refine QG.then ?_
    refine CG.seq ?_
    refine CG.region ?_
    refine OG.yield (Yield.assign rfl) rfl ?_
    refine OG.nil ?_
    refine QG.then ?_
    refine CG.ret ?_
    exact QG.ret1 rfl rfl () trivial rfl (by repeat (first | exact Imp.refl _ | exact Imp.none _ | apply Imp.pull (by repeat (first | exact Ext.here | apply Ext.there)) | apply Imp.trans Imp.drop))
theorem same_spec {x y : CR} (h1 : RdB W0 Fr x.m.a x.m.c x.m.b) (h2 : RdB W0 Fr y.m.a y.m.c y.m.b) (he : x.abs = y.abs) :
    Ctr Try.prog W0 31 [.agg x.cells.toArray, .agg y.cells.toArray] Fr (fun _ : Unit => True) (fun _ => .bool true) (fun _ => Fr) := by
  have e0 : x.part = y.part := congrArg Rq.part he
  have e1 : x.tag = y.tag := congrArg Rq.tag he
  have e2 : x.write = y.write := congrArg Rq.write he
  have e3 : x.sector = y.sector := congrArg Rq.sector he
  have e4 : x.m.b = y.m.b := congrArg Rq.data he
  refine Ctr.of_body Try.func31 rfl Try.ntmps31 rfl ?_
  refine CG.seq ?_
  refine CG.region ?_
  refine OG.effd (Eff.box rfl) rfl ?_
  rintro b2 -
  refine OG.effd (Eff.box rfl) rfl ?_
  rintro b3 -
  refine OG.yield (Yield.assign rfl) rfl ?_
  refine OG.nil ?_
  refine QG.then ?_
  refine CG.seq ?_
  refine CG.region ?_
  refine OG.yield (Yield.fieldAddr fa40_0 rfl) rfl ?_
  refine OG.yield (Yield.load (v := .int .i64 x.part) ti3 rfl (Cel.of_blk (b := b2) (by repeat (first | exact Ext.here | apply Ext.there)) rfl)) rfl ?_
  refine OG.yield (Yield.fieldAddr fa40_0 rfl) rfl ?_
  refine OG.yield (Yield.load (v := .int .i64 y.part) ti3 rfl (Cel.of_blk (b := b3) (by repeat (first | exact Ext.here | apply Ext.there)) rfl)) rfl ?_
  refine OG.yield (Yield.as (Yield.eql rfl rfl) (bT e0)) rfl ?_
  refine OG.yield (Yield.move rfl) rfl ?_
  refine OG.guard_yes rfl rfl rfl (by decide) ?_
  refine OG.yield (Yield.fieldAddr fa40_1 rfl) rfl ?_
  refine OG.guard_yes rfl rfl rfl (by decide) ?_
  refine OG.yield (Yield.load (v := .int .u32 x.tag) ti35 rfl (Cel.of_blk (b := b2) (by repeat (first | exact Ext.here | apply Ext.there)) rfl)) rfl ?_
  refine OG.guard_yes rfl rfl rfl (by decide) ?_
  refine OG.yield (Yield.fieldAddr fa40_1 rfl) rfl ?_
  refine OG.guard_yes rfl rfl rfl (by decide) ?_
  refine OG.yield (Yield.load (v := .int .u32 y.tag) ti35 rfl (Cel.of_blk (b := b3) (by repeat (first | exact Ext.here | apply Ext.there)) rfl)) rfl ?_
  refine OG.guard_yes rfl rfl rfl (by decide) ?_
  refine OG.yield (Yield.as (Yield.eql rfl rfl) (bT e1)) rfl ?_
  refine OG.yield (by first | exact Yield.pick_t rfl rfl | exact Yield.pick_f rfl rfl | exact Yield.pick rfl (fun _ => rfl) (fun _ => rfl)) rfl ?_
  refine OG.yield (Yield.move rfl) rfl ?_
  refine OG.guard_yes rfl rfl rfl (by decide) ?_
  refine OG.yield (Yield.fieldAddr fa40_2 rfl) rfl ?_
  refine OG.guard_yes rfl rfl rfl (by decide) ?_
  refine OG.yield (Yield.load (v := .bool x.write) ti4 rfl (Cel.of_blk (b := b2) (by repeat (first | exact Ext.here | apply Ext.there)) rfl)) rfl ?_
  refine OG.guard_yes rfl rfl rfl (by decide) ?_
  refine OG.yield (Yield.fieldAddr fa40_2 rfl) rfl ?_
  refine OG.guard_yes rfl rfl rfl (by decide) ?_
  refine OG.yield (Yield.load (v := .bool y.write) ti4 rfl (Cel.of_blk (b := b3) (by repeat (first | exact Ext.here | apply Ext.there)) rfl)) rfl ?_
  refine OG.guard_yes rfl rfl rfl (by decide) ?_
  refine OG.yield (Yield.as (Yield.bool_eql Try.underlying4 rfl rfl) (v' := .bool true) (by rw [e2]; simp)) rfl ?_
  refine OG.yield (by first | exact Yield.pick_t rfl rfl | exact Yield.pick_f rfl rfl | exact Yield.pick rfl (fun _ => rfl) (fun _ => rfl)) rfl ?_
  refine OG.yield (Yield.move rfl) rfl ?_
  refine OG.guard_yes rfl rfl rfl (by decide) ?_
  refine OG.yield (Yield.fieldAddr fa40_3 rfl) rfl ?_
  refine OG.guard_yes rfl rfl rfl (by decide) ?_
  refine OG.yield (Yield.load (v := .int .i64 x.sector) ti3 rfl (Cel.of_blk (b := b2) (by repeat (first | exact Ext.here | apply Ext.there)) rfl)) rfl ?_
  refine OG.guard_yes rfl rfl rfl (by decide) ?_
  refine OG.yield (Yield.fieldAddr fa40_3 rfl) rfl ?_
  refine OG.guard_yes rfl rfl rfl (by decide) ?_
  refine OG.yield (Yield.load (v := .int .i64 y.sector) ti3 rfl (Cel.of_blk (b := b3) (by repeat (first | exact Ext.here | apply Ext.there)) rfl)) rfl ?_
  refine OG.guard_yes rfl rfl rfl (by decide) ?_
  refine OG.yield (Yield.as (Yield.eql rfl rfl) (bT e3)) rfl ?_
  refine OG.yield (by first | exact Yield.pick_t rfl rfl | exact Yield.pick_f rfl rfl | exact Yield.pick rfl (fun _ => rfl) (fun _ => rfl)) rfl ?_
  refine OG.yield (Yield.move rfl) rfl ?_
  refine OG.guard_yes rfl rfl rfl (by decide) ?_
  refine OG.yield (Yield.fieldAddr fa40_4 rfl) rfl ?_
  refine OG.guard_yes rfl rfl rfl (by decide) ?_
  refine OG.yield (Yield.load (v := x.m.cell) ti36 rfl (Cel.of_blk (b := b2) (by repeat (first | exact Ext.here | apply Ext.there)) rfl)) rfl ?_
  refine OG.guard_yes rfl rfl rfl (by decide) ?_
  refine OG.yield (Yield.toStr (bs := x.m.b) Try.underlying36 Try.underlying9 Try.underlying5 rfl (h1.imp (by repeat (first | exact Imp.refl _ | exact Imp.none _ | apply Imp.pull (by repeat (first | exact Ext.here | apply Ext.there)) | apply Imp.trans Imp.drop))).slR) rfl ?_
  refine OG.guard_yes rfl rfl rfl (by decide) ?_
  refine OG.yield (Yield.fieldAddr fa40_4 rfl) rfl ?_
  refine OG.guard_yes rfl rfl rfl (by decide) ?_
  refine OG.yield (Yield.load (v := y.m.cell) ti36 rfl (Cel.of_blk (b := b3) (by repeat (first | exact Ext.here | apply Ext.there)) rfl)) rfl ?_
  refine OG.guard_yes rfl rfl rfl (by decide) ?_
  refine OG.yield (Yield.toStr (bs := y.m.b) Try.underlying36 Try.underlying9 Try.underlying5 rfl (h2.imp (by repeat (first | exact Imp.refl _ | exact Imp.none _ | apply Imp.pull (by repeat (first | exact Ext.here | apply Ext.there)) | apply Imp.trans Imp.drop))).slR) rfl ?_
  refine OG.guard_yes rfl rfl rfl (by decide) ?_
  refine OG.yield (Yield.as (Yield.str_eql rfl rfl) (v' := .bool true) (by rw [e4]; simp)) rfl ?_
  refine OG.yield (by first | exact Yield.pick_t rfl rfl | exact Yield.pick_f rfl rfl | exact Yield.pick rfl (fun _ => rfl) (fun _ => rfl)) rfl ?_
  refine OG.yield (Yield.assign rfl) rfl ?_
  refine OG.nil ?_
  refine QG.then ?_
  refine CG.ret ?_
  exact QG.ret1 rfl rfl () trivial rfl (by repeat (first | exact Imp.refl _ | exact Imp.none _ | apply Imp.pull (by repeat (first | exact Ext.here | apply Ext.there)) | apply Imp.trans Imp.drop))
theorem sameAll_spec {x y : Rqs} (h1 : SlR W0 Fr 5 x.a x.l.length ((x.l.map CR.cells).flatten)) (h2 : SlR W0 Fr 5 y.a y.l.length ((y.l.map CR.cells).flatten)) (hm1 : ∀ m ∈ x.ms, RdB W0 Fr m.a m.c m.b) (hm2 : ∀ m ∈ y.ms, RdB W0 Fr m.a m.c m.b) (he : x.l.map CR.abs = y.l.map CR.abs) (hb : x.l.length ≤ 2 ^ 20) :
    Ctr Try.prog W0 23 [x.cell, y.cell] Fr (fun _ : Unit => True) (fun _ => .bool true) (fun _ => Fr) := by
  have hl : x.l.length = y.l.length := by have := congrArg List.length he; simpa using this
  obtain ⟨xs, xa, xc⟩ := x
  obtain ⟨ys, ya, yc⟩ := y
  unfold Rqs.cell
  dsimp only [Rqs.ms] at h1 h2 hm1 hm2 hb hl he ⊢
  refine Ctr.of_body Try.func23 rfl Try.ntmps23 rfl ?_
  refine CG.seq ?_
  refine CG.region ?_
  refine OG.yield (Yield.assign rfl) rfl ?_
  refine OG.nil ?_
  refine QG.then ?_
  refine CG.seq ?_
  refine CG.seq ?_
  refine CG.region ?_
  refine OG.yield (Yield.move rfl) rfl ?_
  refine OG.yield (Yield.len_slice Try.underlying32 rfl rfl) rfl ?_
  refine OG.yield (Yield.move rfl) rfl ?_
  refine OG.yield (Yield.len_slice Try.underlying32 rfl rfl) rfl ?_
  refine OG.yield (by first | exact Yield.as (Yield.neq rfl rfl) (bT (by omega)) | exact Yield.as (Yield.neq rfl rfl) (bF (by omega)) | exact Yield.neq rfl rfl) rfl ?_
  refine OG.nil ?_
  refine QG.then ?_
  refine CG.cond_f rfl ?_
  refine CG.skip ?_
  refine QG.then ?_
  refine CG.seq ?_
  refine CG.seq ?_
  refine CG.region ?_
  refine OG.yield (Yield.assign rfl) rfl ?_
  refine OG.nil ?_
  refine QG.then ?_
  refine CG.block ?_
  refine CG.loop (fun i : Nat => i ≤ xs.length) (fun i => [(0, .slice xa xs.length xc), (1, .slice ya ys.length yc), (5, .int .i64 i)]) (fun _ => Fr) (fun i => xs.length - i) 0 (Nat.zero_le _) (by repeat (first | exact Env.sub_nil _ | refine Env.sub_cons rfl ?_)) (Imp.refl _) ?_
  intro i hi
  refine CG.seq ?_
  refine CG.seq ?_
  refine CG.region ?_
  refine OG.yield (Yield.move rfl) rfl ?_
  refine OG.yield (Yield.move rfl) rfl ?_
  refine OG.yield (Yield.len_slice Try.underlying32 rfl rfl) rfl ?_
  refine OG.yield (by first | exact Yield.as (Yield.lss rfl rfl) (bT (by omega)) | exact Yield.as (Yield.lss rfl rfl) (bF (by omega)) | exact Yield.lss rfl rfl) rfl ?_
  refine OG.nil ?_
  refine QG.then ?_
  refine CG.cond rfl (fun hc => ?_) (fun hc => ?_)
  · try replace hc := of_decide_eq_true hc
    have hi1 : i < xs.length := by omega
    have hi2 : i < ys.length := by omega
    have hg1 : xs[i]? = some xs[i] := by simp [hi1]
    have hg2 : ys[i]? = some ys[i] := by simp [hi2]
    have hr1 := hm1 xs[i].m (List.mem_map_of_mem (List.getElem_mem hi1))
    have hr2 := hm2 ys[i].m (List.mem_map_of_mem (List.getElem_mem hi2))
    have hbb : CR.abs xs[i] = CR.abs ys[i] := by
      have h := congrArg (fun l => l[i]?) he
      simp only [List.getElem?_map, hg1, hg2, Option.map_some, Option.some.injEq] at h
      exact h
    generalize xs[i] = mx at hg1 hr1 hbb
    generalize ys[i] = my at hg2 hr2 hbb
    refine CG.pure (fun w hw => h1.elem_shape (i := i) CR.len (by decide) hi1 w hw) ?_
    rintro ⟨b, o, rfl⟩
    refine CG.pure (fun w hw => h2.elem_shape (i := i) CR.len (by decide) hi2 w hw) ?_
    rintro ⟨b2, o2, rfl⟩
    have r1 : Row W0 Fr b (o + (i : Int).toNat * 5) mx.cells := by rw [show o + (i : Int).toNat * 5 = o + i * 5 by omega]; exact h1.elem CR.len hg1
    have r2 : Row W0 Fr b2 (o2 + (i : Int).toNat * 5) my.cells := by rw [show o2 + (i : Int).toNat * 5 = o2 + i * 5 by omega]; exact h2.elem CR.len hg2
    refine CG.skip ?_
    refine QG.then ?_
    refine CG.seq ?_
    refine CG.block ?_
    refine CG.seq ?_
    refine CG.draw (.look 0 1 (.look 1 1 (.look 2 1 (.look 3 1 (.look 4 1 (.look 5 1 (.look 6 1 (.look 7 1 (.eff1 8 false (.look 9 1 (.done))))))))))) [8] [] ([]) ([]) mixed (by kernel_rfl) (Imp.none _) (Imp.none _) ?_
    refine DG.look rfl rfl (Yield.move rfl) rfl ?_
    refine DG.look rfl rfl (Yield.move rfl) rfl ?_
    refine DG.look rfl rfl (Yield.index_slice Try.underlying32 ti40 rfl rfl (by omega) (by omega)) rfl ?_
    refine DG.look rfl rfl (Yield.load_agg (vs := mx.cells) ti40 rfl (CR.len mx) r1) rfl ?_
    refine DG.look rfl rfl (Yield.move rfl) rfl ?_
    refine DG.look rfl rfl (Yield.move rfl) rfl ?_
    refine DG.look rfl rfl (Yield.index_slice Try.underlying32 ti40 rfl rfl (by omega) (by omega)) rfl ?_
    refine DG.look rfl rfl (Yield.load_agg (vs := my.cells) ti40 rfl (CR.len my) r2) rfl ?_
    refine DG.eff1 ?_
    refine Chg.callo rfl rfl call31 rfl (Imp.refl _) (same_spec W0 _ (x := mx) (y := my) hr1 hr2 hbb) rfl (fun _ => (by repeat (first | exact Imp.refl _ | exact Imp.none _ | apply Imp.pull (by repeat (first | exact Ext.here | apply Ext.there)) | apply Imp.trans Imp.drop))) (fun _ => Imp.refl _) (fun _ => (by repeat (first | exact Imp.refl _ | exact Imp.none _ | apply Imp.pull (by repeat (first | exact Ext.here | apply Ext.there)) | apply Imp.trans Imp.drop))) ?_
    rintro ⟨⟩ -
    refine DG.look rfl rfl (Yield.not rfl) rfl ?_
    refine DG.done ?_
    refine QG.then ?_
    refine CG.cond_f rfl ?_
    refine CG.skip ?_
    refine QG.block_normal ?_
    refine QG.then ?_
    refine CG.region ?_
    refine OG.yield (Yield.move rfl) rfl ?_
    refine OG.yield (Yield.add rfl rfl (w64 (by omega) (by omega))) rfl ?_
    refine OG.yield (Yield.assign rfl) rfl ?_
    refine OG.nil ?_
    exact QG.next (i + 1) (show i + 1 ≤ xs.length by omega) (show xs.length - (i + 1) < xs.length - i by omega) (by repeat (first | exact Env.sub_nil _ | refine Env.sub_cons rfl ?_)) (by repeat (first | exact Imp.refl _ | exact Imp.none _ | apply Imp.pull (by repeat (first | exact Ext.here | apply Ext.there)) | apply Imp.trans Imp.drop))
  · try replace hc := of_decide_eq_false hc
    refine CG.exit ?_
    refine QG.pass_exit ?_
    refine QG.pass_exit ?_
    refine QG.block_exit ?_
    refine QG.then ?_
    refine CG.seq ?_
    refine CG.region ?_
    refine OG.yield (Yield.assign rfl) rfl ?_
    refine OG.nil ?_
    refine QG.then ?_
    refine CG.ret ?_
    exact QG.ret1 rfl rfl () trivial rfl (by repeat (first | exact Imp.refl _ | exact Imp.none _ | apply Imp.pull (by repeat (first | exact Ext.here | apply Ext.there)) | apply Imp.trans Imp.drop))
theorem copy_spec {x : CR} (h1 : RdB W0 Fr x.m.a x.m.c x.m.b) (hb : x.m.b.length ≤ 140737488351232) :
    Ctr Try.prog W0 29 [.agg x.cells.toArray] Fr (fun m : Msg => m.b = x.m.b) (fun m => .agg (CR.cells { x with m := m }).toArray) (fun m => m.own :: Fr) := by
  refine Ctr.of_body Try.func29 rfl Try.ntmps29 rfl ?_
  refine CG.seq ?_
  refine CG.region ?_
  refine OG.effd (Eff.box rfl) rfl ?_
  rintro b1 -
  refine OG.effd (Eff.alloc ti40) rfl ?_
  rintro b2 -
  refine OG.nil ?_
  refine QG.then ?_
  refine CG.seq ?_
  refine CG.region ?_
  refine OG.effd (Eff.lit0 Try.underlying36 ti5 rfl) rfl ?_
  rintro b3 -
  refine OG.yield (Yield.fieldAddr fa40_4 rfl) rfl ?_
  refine OG.yield (Yield.load (v := x.m.cell) ti36 rfl (Cel.of_blk (b := b1) (by repeat (first | exact Ext.here | apply Ext.there)) rfl)) rfl ?_
  refine OG.effd (Eff.appendB (a := some ⟨b3, 0, none⟩) (c := 0) (bs := []) (ys := x.m.b) rfl rfl rfl Try.underlying36 Try.underlying36 ti5 (by decide) (by repeat (first | exact Foc.here | apply Foc.there)) (h1.imp (by repeat (first | exact Imp.refl _ | exact Imp.none _ | apply Imp.pull (by repeat (first | exact Ext.here | apply Ext.there)) | apply Imp.trans Imp.drop))).slR (by simp only [List.length_nil]; omega)) rfl ?_
  rintro ⟨am, cm⟩ -
  rw [List.nil_append]
  refine OG.yield (Yield.fieldAddr fa40_4 rfl) rfl ?_
  refine OG.eff (Eff.store1 ti36 rfl rfl ((by repeat (first | exact Foc.here | apply Foc.there))) rfl (by simp [Value.cells, CR.cells])) rfl ?_
  rintro ⟨⟩ -
  refine OG.nil ?_
  refine QG.then ?_
  refine CG.seq ?_
  refine CG.region ?_
  refine OG.yield (Yield.load_agg (vs := CR.cells { x with m := ⟨am, cm, x.m.b⟩ }) ti40 rfl (CR.len _) (Row.of_blk (b := b1) (by repeat (first | exact Ext.here | apply Ext.there)) rfl)) rfl ?_
  refine OG.eff (Eff.storeAll ti40 rfl rfl (by repeat (first | exact Foc.here | apply Foc.there)) (CR.len { x with m := ⟨am, cm, x.m.b⟩ }) (CR.ones _) rfl) rfl ?_
  rintro ⟨⟩ -
  refine OG.nil ?_
  refine QG.then ?_
  refine CG.ret ?_
  exact QG.rets [.agg (CR.cells { x with m := ⟨am, cm, x.m.b⟩ }).toArray] rfl ⟨ResP.agg ti40 rfl rfl (Row.of_blk (b := b2) (by repeat (first | exact Ext.here | apply Ext.there)) rfl), trivial⟩ ⟨am, cm, x.m.b⟩ rfl rfl (by repeat (first | exact Imp.refl _ | exact Imp.none _ | apply Imp.pull (by repeat (first | exact Ext.here | apply Ext.there)) | apply Imp.trans Imp.drop))
end
end Go.Proofs.Ytoejnhfcegchhaa.Vd
