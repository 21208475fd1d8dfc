/- The document's slice of the disk: Issue, Complete, Ready, Waiting. -/
import Derived.Test.YtoejnhfcegchhaaVdr
namespace Go.Proofs.Ytoejnhfcegchhaa.Vd
open Go Go.Sl Go.RowKit Go.Proofs Go.Proofs.Ytoejnhfcegchhaa.T Go.Proofs.Ytoejnhfcegchhaa.Ms
set_option linter.unusedVariables false
set_option linter.unusedSimpArgs false
set_option maxRecDepth 100000
structure Jt where
  i : Nat
  ras : List RA
  out : Rqs
structure Jt.OK (s : Ds) (pl : List Msg) (t : Jt) : Prop where
  le : t.i ≤ s.asks.length
  abs : t.ras.map (RA.abs s.latency) = (s.asks.take t.i).map iss ++ s.asks.drop t.i
  all : ∀ a ∈ t.ras, RAs.OK s pl a
  out : t.out.l.map CR.abs = ((s.asks.take t.i).filter fun a => a.st == 0).map (req s)
  outl : t.out.l.length ≤ t.i
theorem take_snoc {α : Type} {l : List α} {i : Nat} {x : α} (h : l[i]? = some x) : l.take (i + 1) = l.take i ++ [x] := by
  obtain ⟨hlt, rfl⟩ := List.getElem?_eq_some_iff.1 h
  exact List.take_succ_eq_append_getElem hlt
section
variable (W0 : World) (Fr : List HProp)
set_option maxHeartbeats 2000000 in
theorem rissue_spec {d : Nat} {s : Ds} : Ctr Try.prog W0 56 [.pointer (some ⟨d, 0, none⟩)] (Dd d s :: Fr) (fun r : Rqs => r.l.map CR.abs = issR s) (fun r => r.cell) (fun r => r.G ++ (Dd d (issS s) :: Fr)) := by
  refine Ctr.ex Ext.here rd_open ?_
  intro x hx
  refine Ctr.imp star_open ?_
  have hln := hx.len
  have hok := hx.ok
  have hal := hx.ok.asks
  have hfst := hx.ok.first
  have hcnt := hx.ok.count
  dsimp only [RO, List.cons_append, List.nil_append]
  refine Ctr.of_body Try.func56 rfl Try.ntmps56 rfl ?_
  refine CG.seq ?_
  refine CG.region ?_
  refine OG.yield (Yield.assign rfl) rfl ?_
  refine OG.nil ?_
  refine QG.then ?_
  refine CG.seq ?_
  refine CG.region ?_
  refine OG.yield (Yield.assign rfl) rfl ?_
  refine OG.nil ?_
  refine QG.then ?_
  refine CG.seq ?_
  refine CG.region ?_
  refine OG.effd (Eff.lit0 Try.underlying107 ti128 rfl) rfl ?_
  rintro b6 -
  refine OG.yield (Yield.move rfl) rfl ?_
  refine OG.yield (Yield.nilCheck rfl) rfl ?_
  refine OG.yield (Yield.fieldAddr fa109_4 rfl) rfl ?_
  refine OG.yield (Yield.load ti107 rfl (by first | exact Cel.of_blk (by repeat (first | exact Ext.here | apply Ext.there)) rfl | exact (hrow (by repeat (first | exact Ext.here | apply Ext.there))) _ _ rfl)) rfl ?_
  refine OG.effd (Eff.append (a := some ⟨b6, 0, none⟩) (c := 0) (m := 0) (xs := []) (a2 := x.a) (c2 := x.c) (k := x.ras.length) (ys := (x.ras.map RA.cells).flatten) rfl rfl rfl Try.underlying107 Try.underlying107 ti128 rfl (by decide) (by repeat (first | exact Foc.here | apply Foc.there)) (SlR.of_osl (E := 128) (by repeat (first | exact Ext.here | apply Ext.there))) (flat_ones RA.ones _) (by omega)) rfl ?_
  rintro ⟨qa, qc⟩ -
  rw [Nat.zero_add x.ras.length, List.nil_append]
  refine OG.yield (Yield.assign rfl) rfl ?_
  refine OG.nil ?_
  refine QG.then ?_
  refine CG.seq ?_
  refine CG.seq ?_
  refine CG.region ?_
  refine OG.yield (Yield.assign rfl) rfl ?_
  refine OG.nil ?_
  refine QG.then ?_
  refine CG.block ?_
  refine CG.loop (fun t : Jt => t.OK s x.pl) (fun t => [(0, .pointer (some ⟨d, 0, none⟩)), (3, t.out.cell), (4, .slice qa s.asks.length qc), (5, .int .i64 t.i)]) (fun t => oras qa qc t.ras :: RH d s s.last x.a s.asks.length x.c x.ta s.told.length x.tc :: oras x.a x.c x.ras :: oreqs t.out.a t.out.c t.out.l :: pool t.out.ms :: onum 35 .u32 x.ta x.tc s.told :: pool x.pl :: Fr) (fun t => s.asks.length - t.i) ⟨0, x.ras, ⟨[], none, 0⟩⟩ ⟨Nat.zero_le _, by rw [List.take_zero, List.drop_zero, hx.abs]; rfl, hx.all, rfl, Nat.le_refl _⟩ (by rw [← hln]; exact (by repeat (first | exact Env.sub_nil _ | refine Env.sub_cons rfl ?_))) (by rw [← hln]; exact Imp.trans pool_nil (Imp.trans (osl_nil (E := 40) (sz := 5)) (Imp.pull (A := oras qa qc x.ras) (by repeat (first | exact Ext.here | apply Ext.there)) (Imp.pull (by repeat (first | exact Ext.here | apply Ext.there)) (Imp.pull (A := oras x.a x.c x.ras) (by repeat (first | exact Ext.here | apply Ext.there)) (Imp.pull (A := oreqs none 0 []) (by repeat (first | exact Ext.here | apply Ext.there)) (Imp.pull (A := pool []) (by repeat (first | exact Ext.here | apply Ext.there)) (Imp.pull (by repeat (first | exact Ext.here | apply Ext.there)) (Imp.pull (A := pool x.pl) (by repeat (first | exact Ext.here | apply Ext.there)) (by repeat (first | exact Imp.refl _ | exact Imp.none _ | apply Imp.pull (by repeat (first | exact Ext.here | apply Ext.there)) | apply Imp.trans Imp.drop))))))))))) ?_
  rintro ⟨i, ras, ⟨l, la, lc⟩⟩ ⟨hi, habs, hall, hout, hol⟩
  dsimp only at hi habs hall hout hol ⊢
  have hcl : ras.length = s.asks.length := by have := congrArg List.length habs; rw [mapto_len hi, List.length_map] at this; exact this
  refine CG.seq ?_
  refine CG.seq ?_
  refine CG.region ?_
  refine OG.yield (Yield.move rfl) rfl ?_
  refine OG.yield (Yield.move rfl) rfl ?_
  refine OG.yield (Yield.len_slice Try.underlying107 rfl rfl) rfl ?_
  refine OG.yield (by first | exact Yield.as (Yield.lss rfl rfl) (bT (by omega)) | exact Yield.as (Yield.lss rfl rfl) (bF (by omega)) | exact Yield.lss rfl rfl) rfl ?_
  refine OG.nil ?_
  refine QG.then ?_
  refine CG.cond rfl (fun hc => ?_) (fun hc => ?_)
  · try replace hc := of_decide_eq_true hc
    have hi' : i < s.asks.length := by omega
    have hget : s.asks[i]? = some s.asks[i] := by simp [hi']
    generalize s.asks[i] = ak at hget
    have hgm := mapto_get (f := iss) hget
    have hst := mapto_step (f := iss) hget
    have hsec := hok.sec ak (List.mem_of_getElem? hget)
    have hdat := hok.data ak (List.mem_of_getElem? hget)
    have htk := take_snoc hget
    obtain ⟨ra, hgc, hca⟩ : ∃ ra, ras[i]? = some ra ∧ ra.abs s.latency = ak := by
      rw [← habs, List.getElem?_map] at hgm
      cases hc : ras[i]? with
      | none => rw [hc] at hgm; cases hgm
      | some c => rw [hc] at hgm; exact ⟨c, rfl, by simpa using hgm⟩
    have hro := hall ra (List.mem_of_getElem? hgc)
    subst hca
    refine CG.pure (fun w hw => shape_rs (a := qa) (c := qc) (n := i) (l := ras) (by omega) (by repeat (first | exact Ext.here | apply Ext.there)) w hw) ?_
    rintro ⟨b, o, rfl⟩
    refine CG.skip ?_
    refine QG.then ?_
    refine CG.seq ?_
    refine CG.block ?_
    refine CG.seq ?_
    cases hiss : ra.iss
    · skip
      have hst0 : (ra.abs s.latency).st = 0 := by
        have hcf : ra.com = false := by cases hcm : ra.com; rfl; exact absurd (hro.com hcm) (by rw [hiss]; decide)
        unfold RA.abs; dsimp only; rw [hcf, hiss]; rfl
      refine CG.region ?_
      refine OG.yield (Yield.move rfl) rfl ?_
      refine OG.yield (Yield.move rfl) rfl ?_
      refine OG.yield (Yield.index_slice Try.underlying107 ti128 rfl rfl (by omega) (by omega)) rfl ?_
      refine OG.yield (Yield.fieldAddr fa128_6 rfl) rfl ?_
      refine OG.yield (Yield.load (v := .bool ra.iss) ti4 rfl (by rw [show o + (i : Int).toNat * 8 = o + i * 8 by omega]; exact ((SlR.of_osl (E := 128) (a := some ⟨b, o, none⟩) (by repeat (first | exact Ext.here | apply Ext.there))).elem RA.len hgc) 6 _ rfl)) rfl ?_
      refine OG.yield (Yield.as (Yield.not rfl) (v' := .bool true) (by rw [hiss]; rfl)) rfl ?_
      refine OG.nil ?_
      refine QG.then ?_
      refine CG.cond_t rfl ?_
      refine CG.seq ?_
      refine CG.draw (.look 0 0 (.look 1 0 (.look 2 0 (.look 3 0 (.look 4 0 (.look 5 0 (.look 6 0 (.look 7 0 (.look 8 0 (.look 9 0 (.look 10 0 (.look 11 0 (.look 12 0 (.look 13 0 (.look 14 0 (.look 15 0 (.look 16 0 (.look 17 0 (.look 18 0 (.look 19 0 (.look 20 0 (.look 21 0 (.look 22 0 (.look 23 0 (.look 24 0 (.look 26 0 (.look 27 0 (.look 28 0 (.look 29 0 (.look 30 0 (.eff1 25 false (.eff1 31 false (.look 32 1 (.eff1 33 false (.eff1 34 false (.look 35 1 (.done))))))))))))))))))))))))))))))))))))) [25, 31, 33, 34] [] ([RH d s s.last x.a s.asks.length x.c x.ta s.told.length x.tc, oras (some ⟨b, o, none⟩) qc ras]) ([]) mixed (by kernel_rfl) ((by repeat (first | exact Imp.refl _ | exact Imp.none _ | apply Imp.pull (by repeat (first | exact Ext.here | apply Ext.there)) | apply Imp.trans Imp.drop))) (Imp.none _) ?_
      refine DG.look rfl rfl (Yield.move rfl) rfl ?_
      refine DG.look rfl rfl (Yield.move rfl) rfl ?_
      refine DG.look rfl rfl (Yield.nilCheck rfl) rfl ?_
      refine DG.look rfl rfl (Yield.fieldAddr fa109_0 rfl) rfl ?_
      refine DG.look rfl rfl (Yield.load (v := .int .i64 s.part) ti3 rfl (Cel.of_blk (b := d) (by repeat (first | exact Ext.here | apply Ext.there)) rfl)) rfl ?_
      refine DG.look rfl rfl (Yield.move rfl) rfl ?_
      refine DG.look rfl rfl (Yield.move rfl) rfl ?_
      refine DG.look rfl rfl (Yield.index_slice Try.underlying107 ti128 rfl rfl (by omega) (by omega)) rfl ?_
      refine DG.look rfl rfl (Yield.fieldAddr fa128_0 rfl) rfl ?_
      refine DG.look rfl rfl (Yield.load (v := .int .u32 ra.tag) ti35 rfl (by rw [show o + (i : Int).toNat * 8 = o + i * 8 by omega]; exact ((SlR.of_osl (E := 128) (a := some ⟨b, o, none⟩) (by repeat (first | exact Ext.here | apply Ext.there))).elem RA.len hgc) 0 _ rfl)) rfl ?_
      refine DG.look rfl rfl (Yield.move rfl) rfl ?_
      refine DG.look rfl rfl (Yield.move rfl) rfl ?_
      refine DG.look rfl rfl (Yield.index_slice Try.underlying107 ti128 rfl rfl (by omega) (by omega)) rfl ?_
      refine DG.look rfl rfl (Yield.fieldAddr fa128_1 rfl) rfl ?_
      refine DG.look rfl rfl (Yield.load (v := .bool ra.write) ti4 rfl (by rw [show o + (i : Int).toNat * 8 = o + i * 8 by omega]; exact ((SlR.of_osl (E := 128) (a := some ⟨b, o, none⟩) (by repeat (first | exact Ext.here | apply Ext.there))).elem RA.len hgc) 1 _ rfl)) rfl ?_
      refine DG.look rfl rfl (Yield.move rfl) rfl ?_
      refine DG.look rfl rfl (Yield.nilCheck rfl) rfl ?_
      refine DG.look rfl rfl (Yield.fieldAddr fa109_1 rfl) rfl ?_
      refine DG.look rfl rfl (Yield.load (v := .int .i64 s.first) ti3 rfl (Cel.of_blk (b := d) (by repeat (first | exact Ext.here | apply Ext.there)) rfl)) rfl ?_
      refine DG.look rfl rfl (Yield.move rfl) rfl ?_
      refine DG.look rfl rfl (Yield.move rfl) rfl ?_
      refine DG.look rfl rfl (Yield.index_slice Try.underlying107 ti128 rfl rfl (by omega) (by omega)) rfl ?_
      refine DG.look rfl rfl (Yield.fieldAddr fa128_2 rfl) rfl ?_
      refine DG.look rfl rfl (Yield.load (v := .int .i64 ra.sector) ti3 rfl (by rw [show o + (i : Int).toNat * 8 = o + i * 8 by omega]; exact ((SlR.of_osl (E := 128) (a := some ⟨b, o, none⟩) (by repeat (first | exact Ext.here | apply Ext.there))).elem RA.len hgc) 2 _ rfl)) rfl ?_
      refine DG.look rfl rfl (Yield.add rfl rfl (w64 (by have := hsec.1; have h9 : (RA.abs s.latency ra).sector = ra.sector := rfl; omega) (by have := hsec.2; have h9 : (RA.abs s.latency ra).sector = ra.sector := rfl; omega))) rfl ?_
      refine DG.look rfl rfl (Yield.move rfl) rfl ?_
      refine DG.look rfl rfl (Yield.move rfl) rfl ?_
      refine DG.look rfl rfl (Yield.index_slice Try.underlying107 ti128 rfl rfl (by omega) (by omega)) rfl ?_
      refine DG.look rfl rfl (Yield.fieldAddr fa128_4 rfl) rfl ?_
      refine DG.look rfl rfl (Yield.load (v := ra.m.cell) ti36 rfl (by rw [show o + (i : Int).toNat * 8 = o + i * 8 by omega]; exact ((SlR.of_osl (E := 128) (a := some ⟨b, o, none⟩) (by repeat (first | exact Ext.here | apply Ext.there))).elem RA.len hgc) 4 _ rfl)) rfl ?_
      refine DG.eff1 ?_
      refine Chg.eff rfl rfl (Eff.lit0 Try.underlying36 ti5 rfl) rfl (fun _ => (by repeat (first | exact Imp.refl _ | exact Imp.none _ | apply Imp.pull (by repeat (first | exact Ext.here | apply Ext.there)) | apply Imp.trans Imp.drop))) (fun _ => Imp.refl _) (fun _ => (by repeat (first | exact Imp.refl _ | exact Imp.none _ | apply Imp.pull (by repeat (first | exact Ext.here | apply Ext.there)) | apply Imp.trans Imp.drop))) ?_
      rintro b49 -
      refine DG.eff1 ?_
      refine Chg.eff rfl rfl (Eff.appendB (a := some ⟨b49, 0, none⟩) (c := 0) (bs := []) (ys := ra.m.b) rfl rfl rfl Try.underlying36 Try.underlying36 ti5 (by decide) (by repeat (first | exact Foc.here | apply Foc.there)) (by exact (pool_rd (ms := x.pl) (by repeat (first | exact Ext.here | apply Ext.there)) hro.mem).slR) (by have h9 : (RA.abs s.latency ra).data = ra.m.b := rfl; rw [h9] at hdat; simp only [List.length_nil]; omega)) rfl (fun _ => (by repeat (first | exact Imp.refl _ | exact Imp.none _ | apply Imp.pull (by repeat (first | exact Ext.here | apply Ext.there)) | apply Imp.trans Imp.drop))) (fun _ => Imp.refl _) (fun _ => (by repeat (first | exact Imp.refl _ | exact Imp.none _ | apply Imp.pull (by repeat (first | exact Ext.here | apply Ext.there)) | apply Imp.trans Imp.drop))) ?_
      rintro ⟨am, cm⟩ -
      rw [List.nil_append]
      refine DG.look rfl rfl (Yield.build (pvs := [(0, .int .i64 s.part), (1, .int .u32 ra.tag), (2, .bool ra.write), (3, .int .i64 (s.first + ra.sector)), (4, Msg.cell ⟨am, cm, ra.m.b⟩)]) bu40 ti40 rfl (cells := CR.cells ⟨s.part, ra.tag, ra.write, s.first + ra.sector, ⟨am, cm, ra.m.b⟩⟩) rfl) rfl ?_
      refine DG.eff1 ?_
      refine Chg.eff rfl rfl (Eff.lit [.tmp 56] (vs := [.agg (CR.cells ⟨s.part, ra.tag, ra.write, s.first + ra.sector, ⟨am, cm, ra.m.b⟩⟩).toArray]) (cells := CR.cells ⟨s.part, ra.tag, ra.write, s.first + ra.sector, ⟨am, cm, ra.m.b⟩⟩) Try.underlying32 ti40 rfl rfl rfl rfl (by decide) (by simp [Value.cells, CR.cells]) (by simp [Value.cells])) rfl (fun _ => (by repeat (first | exact Imp.refl _ | exact Imp.none _ | apply Imp.pull (by repeat (first | exact Ext.here | apply Ext.there)) | apply Imp.trans Imp.drop))) (fun _ => Imp.refl _) (fun _ => (by repeat (first | exact Imp.refl _ | exact Imp.none _ | apply Imp.pull (by repeat (first | exact Ext.here | apply Ext.there)) | apply Imp.trans Imp.drop))) ?_
      rintro b57 -
      refine DG.eff1 ?_
      refine Chg.eff rfl rfl (Eff.append (a := la) (c := lc) (k := 1) (m := l.length) (xs := (l.map CR.cells).flatten) (ys := CR.cells ⟨s.part, ra.tag, ra.write, s.first + ra.sector, ⟨am, cm, ra.m.b⟩⟩) rfl rfl rfl Try.underlying32 Try.underlying32 ti40 rfl (by decide) (by repeat (first | exact Foc.here | apply Foc.there)) (SlR.of_osl (a := some ⟨b57, 0, none⟩) (by repeat (first | exact Ext.here | apply Ext.there))) (CR.ones _) (by omega)) rfl (fun _ => (by repeat (first | exact Imp.refl _ | exact Imp.none _ | apply Imp.pull (by repeat (first | exact Ext.here | apply Ext.there)) | apply Imp.trans Imp.drop))) (fun _ => Imp.refl _) (fun _ => (by repeat (first | exact Imp.refl _ | exact Imp.none _ | apply Imp.pull (by repeat (first | exact Ext.here | apply Ext.there)) | apply Imp.trans Imp.drop))) ?_
      rintro ⟨a58, c58⟩ -
      refine DG.look rfl rfl (Yield.assign rfl) rfl ?_
      refine DG.done ?_
      refine QG.then ?_
      refine CG.region ?_
      refine OG.yield (Yield.move rfl) rfl ?_
      refine OG.yield (Yield.move rfl) rfl ?_
      refine OG.yield (Yield.index_slice Try.underlying107 ti128 rfl rfl (by omega) (by omega)) rfl ?_
      refine OG.yield (Yield.fieldAddr fa128_6 rfl) rfl ?_
      refine OG.eff (Eff.storeFld (i := i) 6 (r := ra) (r' := { ra with iss := true }) (rs := ras) RA.len hgc rfl (by decide) ti4 (by rw [show o + (i : Int).toNat * 8 = o + i * 8 by omega]; rfl) rfl (by repeat (first | exact Foc.here | apply Foc.there)) rfl (by omega)) rfl ?_
      rintro ⟨⟩ -
      refine OG.nil ?_
      refine QG.block_normal ?_
      refine QG.then ?_
      refine CG.region ?_
      refine OG.yield (Yield.move rfl) rfl ?_
      refine OG.yield (Yield.add rfl rfl (w64 (by omega) (by omega))) rfl ?_
      refine OG.yield (Yield.assign rfl) rfl ?_
      refine OG.nil ?_
      refine QG.next ⟨i + 1, ras.set i { ra with iss := true }, ⟨l ++ [⟨s.part, ra.tag, ra.write, s.first + ra.sector, ⟨am, cm, ra.m.b⟩⟩], a58, c58⟩⟩ ⟨by simp only; omega, ?_, ?_, ?_, ?_⟩ (by simp only; omega) ?_ ?_
      · dsimp only; rw [hst, List.map_set, habs, iss_one hst0]; congr 1
        have hcf : ra.com = false := by cases hcm : ra.com; rfl; exact absurd (hro.com hcm) (by rw [hiss]; decide)
        simp [RA.abs, hcf]
      · dsimp only; intro a ha; rcases List.mem_or_eq_of_mem_set ha with ha | rfl; exact hall a ha; exact ⟨hro.mem, fun _ => rfl, hro.maj⟩
      · dsimp only; rw [htk, List.filter_append, List.map_append, List.map_append, hout, show [ra.abs s.latency].filter (fun a => a.st == 0) = [ra.abs s.latency] by simp [hst0]]; rfl
      · simp only [List.length_append, List.length_cons, List.length_nil]; omega
      · dsimp only [Rqs.cell]; rw [List.length_append]; exact (by repeat (first | exact Env.sub_nil _ | refine Env.sub_cons rfl ?_))
      · dsimp only [Rqs.ms, oras, oreqs]
        rw [List.length_append, flat_app, List.length_set, List.map_append]
        exact Imp.trans (Imp.trans (Imp.pull (A := Msg.own ⟨am, cm, ra.m.b⟩) (by repeat (first | exact Ext.here | apply Ext.there)) (Imp.pull (A := pool (l.map CR.m)) (by repeat (first | exact Ext.here | apply Ext.there)) (Imp.refl _))) pool_add) (by repeat (first | exact Imp.refl _ | exact Imp.none _ | apply Imp.pull (by repeat (first | exact Ext.here | apply Ext.there)) | apply Imp.trans Imp.drop))
    · skip
      have hst1 : (ra.abs s.latency).st ≠ 0 := by
        unfold RA.abs; dsimp only; rw [hiss]; cases ra.com <;> decide
      refine CG.region ?_
      refine OG.yield (Yield.move rfl) rfl ?_
      refine OG.yield (Yield.move rfl) rfl ?_
      refine OG.yield (Yield.index_slice Try.underlying107 ti128 rfl rfl (by omega) (by omega)) rfl ?_
      refine OG.yield (Yield.fieldAddr fa128_6 rfl) rfl ?_
      refine OG.yield (Yield.load (v := .bool ra.iss) ti4 rfl (by rw [show o + (i : Int).toNat * 8 = o + i * 8 by omega]; exact ((SlR.of_osl (E := 128) (a := some ⟨b, o, none⟩) (by repeat (first | exact Ext.here | apply Ext.there))).elem RA.len hgc) 6 _ rfl)) rfl ?_
      refine OG.yield (Yield.as (Yield.not rfl) (v' := .bool false) (by rw [hiss]; rfl)) rfl ?_
      refine OG.nil ?_
      refine QG.then ?_
      refine CG.cond_f rfl ?_
      refine CG.skip ?_
      refine QG.block_normal ?_
      refine QG.then ?_
      refine CG.region ?_
      refine OG.yield (Yield.move rfl) rfl ?_
      refine OG.yield (Yield.add rfl rfl (w64 (by omega) (by omega))) rfl ?_
      refine OG.yield (Yield.assign rfl) rfl ?_
      refine OG.nil ?_
      refine QG.next ⟨i + 1, ras, ⟨l, la, lc⟩⟩ ⟨by simp only; omega, ?_, hall, ?_, by simp only; omega⟩ (by simp only; omega) (by repeat (first | exact Env.sub_nil _ | refine Env.sub_cons rfl ?_)) (by repeat (first | exact Imp.refl _ | exact Imp.none _ | apply Imp.pull (by repeat (first | exact Ext.here | apply Ext.there)) | apply Imp.trans Imp.drop))
      · dsimp only; rw [hst, habs]; symm; refine set_self ?_; rw [iss_no hst1]; exact hgm
      · dsimp only; rw [htk, List.filter_append, hout, show [ra.abs s.latency].filter (fun a => a.st == 0) = [] by simp [hst1], List.append_nil]
  · try replace hc := of_decide_eq_false hc
    refine CG.exit ?_
    refine QG.pass_exit ?_
    refine QG.pass_exit ?_
    refine QG.block_exit ?_
    refine QG.then ?_
    refine CG.seq ?_
    refine CG.region ?_
    refine OG.yield (Yield.move rfl) rfl ?_
    refine OG.yield (Yield.move rfl) rfl ?_
    refine OG.yield (Yield.nilCheck rfl) rfl ?_
    refine OG.yield (Yield.fieldAddr fa109_4 rfl) rfl ?_
    refine OG.eff (Eff.store1 ti107 rfl rfl (by repeat (first | exact Foc.here | apply Foc.there)) rfl (by simp)) rfl ?_
    rintro ⟨⟩ -
    refine OG.nil ?_
    refine QG.then ?_
    refine CG.seq ?_
    refine CG.region ?_
    refine OG.yield (Yield.move rfl) rfl ?_
    refine OG.yield (Yield.assign rfl) rfl ?_
    refine OG.nil ?_
    refine QG.then ?_
    refine CG.ret ?_
    have hie : i = s.asks.length := by omega
    subst hie
    rw [List.take_length, List.drop_length, List.append_nil] at habs
    rw [List.take_length] at hout
    have hcl2 := rd_close (d := d) (G := Fr) (s := issS s) ⟨ras, x.pl, qa, qc, x.ta, x.tc⟩ ⟨habs, fun a ha => ⟨(hall a ha).mem, (hall a ha).com, (hall a ha).maj⟩, ⟨hok.part, hok.first, hok.count, hok.lat, by simp only [issS, List.length_map]; exact hok.asks, hok.told, fun a ha => by simp only [issS, List.mem_map] at ha; obtain ⟨q, hq, rfl⟩ := ha; exact hok.data q hq, fun a ha => by simp only [issS, List.mem_map] at ha; obtain ⟨q, hq, rfl⟩ := ha; exact hok.sec q hq⟩⟩
    dsimp only [RO, issS, List.cons_append, List.nil_append] at hcl2
    rw [hcl] at hcl2
    exact QG.ret1 rfl rfl ⟨l, la, lc⟩ hout rfl (Imp.pull (by repeat (first | exact Ext.here | apply Ext.there)) (Imp.pull (by repeat (first | exact Ext.here | apply Ext.there)) (Imp.trans (Imp.pull (A := RH d s s.last qa s.asks.length qc x.ta s.told.length x.tc) (by repeat (first | exact Ext.here | apply Ext.there)) (Imp.pull (A := oras qa qc ras) (by repeat (first | exact Ext.here | apply Ext.there)) (Imp.pull (by repeat (first | exact Ext.here | apply Ext.there)) (Imp.pull (A := pool x.pl) (by repeat (first | exact Ext.here | apply Ext.there)) (by repeat (first | exact Imp.refl _ | exact Imp.none _ | apply Imp.pull (by repeat (first | exact Ext.here | apply Ext.there)) | apply Imp.trans Imp.drop)))))) hcl2)))
end
end Go.Proofs.Ytoejnhfcegchhaa.Vd
