/- The document's slice of the disk: Complete, Ready, Waiting. -/
import Derived.Test.YtoejnhfcegchhaaVdr2
namespace Go.Proofs.Ytoejnhfcegchhaa.Vd
open Go Go.Sl Go.RowKit Go.Proofs Go.Proofs.Ytoejnhfcegchhaa.T Go.Proofs.Ytoejnhfcegchhaa.Ms
set_option linter.unusedVariables false
set_option linter.unusedSimpArgs false
set_option maxRecDepth 100000
theorem isB_no1 {tag : Int} {a : Ak} (h : a.tag ≠ tag) : isB tag a = false := by unfold isB; rw [decide_eq_false h]; rfl
theorem isB_no2 {tag : Int} {a : Ak} (h : a.st ≠ 1) : isB tag a = false := by unfold isB; rw [decide_eq_false h, Bool.and_false]
theorem isB_yes {tag : Int} {a : Ak} (h : a.tag = tag) (h2 : a.st = 1) : isB tag a = true := by unfold isB; rw [decide_eq_true h, decide_eq_true h2]; rfl
theorem cel_b {W0 : World} {G : List HProp} {a : Addr} {x y : Bool} (e : x = y) (h : Cel W0 G a (.bool x)) : Cel W0 G a (.bool y) := e ▸ h
abbrev odn (a : Option Addr) (c : Nat) (l : List CD) : HProp := osl 129 4 a c l.length ((l.map CD.cells).flatten)
abbrev Dns.RG (r : Dns) : List HProp := [odn r.a r.c r.l, pool r.ms]
structure Ru where
  i : Nat
  out : Dns
  rest : List RA
  ra : Option Addr
  rc : Nat
  told : List Int
  ta : Option Addr
  tc : Nat
structure Ru.OK (s : Ds) (major : Int) (pl : List Msg) (t : Ru) : Prop where
  le : t.i ≤ s.asks.length
  out : t.out.l.map CD.abs = ((s.asks.take t.i).filter (over major)).map done
  outl : t.out.l.length ≤ t.i
  rest : t.rest.map (RA.abs s.latency) = (s.asks.take t.i).filter (fun a => !over major a)
  restl : t.rest.length ≤ t.i
  all : ∀ a ∈ t.rest, RAs.OK s pl a
  told : t.told = ((s.asks.take t.i).filter (over major)).map Ak.tag
  toldl : t.told.length ≤ t.i
section
variable (W0 : World) (Fr : List HProp)
set_option maxHeartbeats 2000000 in
theorem rcomplete_spec {d : Nat} {s : Ds} {r : CR} (hr : RdB W0 Fr r.m.a r.m.c r.m.b) (hrl : r.m.b.length ≤ 2 ^ 47) : Ctr Try.prog W0 57 [.pointer (some ⟨d, 0, none⟩), .agg r.cells.toArray] (Dd d s :: Fr) (fun _ : Unit => True) (fun _ => .int .i64 (comR s r.tag r.m.b).1) (fun _ => Dd d (comR s r.tag r.m.b).2 :: Fr) := by
  refine Ctr.ex Ext.here rd_open ?_
  intro x hx
  refine Ctr.imp star_open ?_
  have hln := hx.len
  have hok := hx.ok
  have hal := hx.ok.asks
  have hab := hx.abs
  have hcl := rd_close (d := d) (G := Fr) x hx
  dsimp only [RO, List.cons_append, List.nil_append] at hcl ⊢
  refine Ctr.of_body Try.func57 rfl Try.ntmps57 rfl ?_
  refine CG.seq ?_
  refine CG.region ?_
  refine OG.effd (Eff.box rfl) rfl ?_
  rintro b3 -
  refine OG.yield (Yield.assign rfl) rfl ?_
  refine OG.nil ?_
  refine QG.then ?_
  refine CG.seq ?_
  refine CG.region ?_
  refine OG.effd (Eff.lit0 Try.underlying107 ti128 rfl) rfl ?_
  rintro b7 -
  refine OG.yield (Yield.move rfl) rfl ?_
  refine OG.yield (Yield.nilCheck rfl) rfl ?_
  refine OG.yield (Yield.fieldAddr fa109_4 rfl) rfl ?_
  refine OG.yield (Yield.load ti107 rfl (by first | exact Cel.of_blk (by repeat (first | exact Ext.here | apply Ext.there)) rfl | exact (hrow (by repeat (first | exact Ext.here | apply Ext.there))) _ _ rfl)) rfl ?_
  refine OG.effd (Eff.append (a := some ⟨b7, 0, none⟩) (c := 0) (m := 0) (xs := []) (a2 := x.a) (c2 := x.c) (k := x.ras.length) (ys := (x.ras.map RA.cells).flatten) rfl rfl rfl Try.underlying107 Try.underlying107 ti128 rfl (by decide) (by repeat (first | exact Foc.here | apply Foc.there)) (SlR.of_osl (E := 128) (by repeat (first | exact Ext.here | apply Ext.there))) (flat_ones RA.ones _) (by omega)) rfl ?_
  rintro ⟨qa, qc⟩ -
  rw [Nat.zero_add x.ras.length, List.nil_append]
  refine OG.yield (Yield.assign rfl) rfl ?_
  refine OG.nil ?_
  refine QG.then ?_
  refine CG.seq ?_
  refine CG.seq ?_
  refine CG.region ?_
  refine OG.yield (Yield.assign rfl) rfl ?_
  refine OG.nil ?_
  refine QG.then ?_
  refine CG.block ?_
  refine CG.loop (fun i : Nat => i ≤ x.ras.length ∧ ∀ y ∈ s.asks.take i, isB r.tag y = false) (fun i => [(0, .pointer (some ⟨d, 0, none⟩)), (3, .pointer (some ⟨b3, 0, none⟩)), (5, .slice qa x.ras.length qc), (6, .int .i64 i)]) (fun _ => oras qa qc x.ras :: blk b3 r.cells 40 :: RH d s s.last x.a x.ras.length x.c x.ta s.told.length x.tc :: oras x.a x.c x.ras :: onum 35 .u32 x.ta x.tc s.told :: pool x.pl :: Fr) (fun i => x.ras.length - i) 0 ⟨Nat.zero_le _, fun y h => absurd h (by simp)⟩ (by repeat (first | exact Env.sub_nil _ | refine Env.sub_cons rfl ?_)) (by repeat (first | exact Imp.refl _ | exact Imp.none _ | apply Imp.pull (by repeat (first | exact Ext.here | apply Ext.there)) | apply Imp.trans Imp.drop)) ?_
  rintro i ⟨hi, hno⟩
  refine CG.seq ?_
  refine CG.seq ?_
  refine CG.region ?_
  refine OG.yield (Yield.move rfl) rfl ?_
  refine OG.yield (Yield.move rfl) rfl ?_
  refine OG.yield (Yield.len_slice Try.underlying107 rfl rfl) rfl ?_
  refine OG.yield (by first | exact Yield.as (Yield.lss rfl rfl) (bT (by omega)) | exact Yield.as (Yield.lss rfl rfl) (bF (by omega)) | exact Yield.lss rfl rfl) rfl ?_
  refine OG.nil ?_
  refine QG.then ?_
  refine CG.cond rfl (fun hc => ?_) (fun hc => ?_)
  · try replace hc := of_decide_eq_true hc
    have hi' : i < x.ras.length := by omega
    have hgc : x.ras[i]? = some x.ras[i] := by simp [hi']
    generalize x.ras[i] = ra at hgc
    have hget := hx.get hgc
    have hro := hx.all ra (List.mem_of_getElem? hgc)
    have htk := take_snoc hget
    have hnx : isB r.tag (ra.abs s.latency) = false → ∀ y ∈ s.asks.take (i + 1), isB r.tag y = false := fun h y hy => by
      rw [htk] at hy
      rcases List.mem_append.1 hy with hy | hy
      · exact hno y hy
      · simp only [List.mem_cons, List.not_mem_nil, or_false] at hy; subst hy; exact h
    refine CG.pure (fun w hw => shape_rs (a := qa) (c := qc) (n := i) (l := x.ras) (by omega) (by repeat (first | exact Ext.here | apply Ext.there)) w hw) ?_
    rintro ⟨b, o, rfl⟩
    have hrow : ∀ {G R : List HProp}, Ext G (oras (some ⟨b, o, none⟩) qc x.ras) R → Row W0 G b (o + (i : Int).toNat * 8) ra.cells := fun e => by rw [show o + (i : Int).toNat * 8 = o + i * 8 by omega]; exact (SlR.of_osl (E := 128) e).elem RA.len hgc
    refine CG.skip ?_
    refine QG.then ?_
    refine CG.seq ?_
    refine CG.block ?_
    refine CG.seq ?_
    refine CG.seq ?_
    rcases (show ra.tag ≠ r.tag ∨ (ra.tag = r.tag ∧ ra.iss = false) ∨ (ra.tag = r.tag ∧ ra.iss = true ∧ ra.com = true) ∨ (ra.tag = r.tag ∧ ra.iss = true ∧ ra.com = false) by cases ra.iss <;> cases ra.com <;> simp <;> omega) with hh | hh | hh | hh
    · skip
      refine CG.draw (.look 0 1 (.look 1 1 (.look 2 1 (.look 3 1 (.look 4 1 (.look 5 1 (.look 6 1 (.look 7 1 (.look 8 1 (.look 9 1 (.look 10 1 (.look 11 1 (.look 12 1 (.look 13 1 (.look 14 1 (.look 15 1 (.look 16 1 (.look 17 1 (.look 18 1 (.look 19 1 (.look 20 1 (.look 21 1 (.look 22 1 (.done)))))))))))))))))))))))) [] [] ([]) ([]) mixed (by kernel_rfl) (Imp.none _) (Imp.none _) ?_
      refine DG.look rfl rfl (Yield.move rfl) rfl ?_
      refine DG.look rfl rfl (Yield.move rfl) rfl ?_
      refine DG.look rfl rfl (Yield.index_slice Try.underlying107 ti128 rfl rfl (by omega) (by omega)) rfl ?_
      refine DG.look rfl rfl (Yield.fieldAddr fa128_0 rfl) rfl ?_
      refine DG.look rfl rfl (Yield.load (v := .int .u32 ra.tag) ti35 rfl (hrow (by repeat (first | exact Ext.here | apply Ext.there)) 0 _ rfl)) rfl ?_
      refine DG.look rfl rfl (Yield.fieldAddr fa40_1 rfl) rfl ?_
      refine DG.look rfl rfl (Yield.load (v := .int .u32 r.tag) ti35 rfl (Cel.of_blk (b := b3) (by repeat (first | exact Ext.here | apply Ext.there)) rfl)) rfl ?_
      refine DG.look rfl rfl (Yield.as (Yield.neq rfl rfl) (bT hh)) rfl ?_
      refine DG.look rfl rfl (Yield.move rfl) rfl ?_
      refine DG.pass rfl rfl rfl ?_
      refine DG.pass rfl rfl rfl ?_
      refine DG.pass rfl rfl rfl ?_
      refine DG.pass rfl rfl rfl ?_
      refine DG.pass rfl rfl rfl ?_
      refine DG.pass rfl rfl rfl ?_
      refine DG.look rfl rfl (by first | exact Yield.pick_t rfl rfl | exact Yield.pick_f rfl rfl | exact Yield.pick rfl (fun _ => rfl) (fun _ => rfl)) rfl ?_
      refine DG.look rfl rfl (Yield.move rfl) rfl ?_
      refine DG.pass rfl rfl rfl ?_
      refine DG.pass rfl rfl rfl ?_
      refine DG.pass rfl rfl rfl ?_
      refine DG.pass rfl rfl rfl ?_
      refine DG.pass rfl rfl rfl ?_
      refine DG.look rfl rfl (by first | exact Yield.pick_t rfl rfl | exact Yield.pick_f rfl rfl | exact Yield.pick rfl (fun _ => rfl) (fun _ => rfl)) rfl ?_
      refine DG.done ?_
      refine QG.then ?_
      refine CG.cond_t rfl ?_
      refine CG.exit ?_
      refine QG.pass_exit ?_
      refine QG.block_exit ?_
      refine QG.then ?_
      refine CG.region ?_
      refine OG.yield (Yield.move rfl) rfl ?_
      refine OG.yield (Yield.add rfl rfl (w64 (by omega) (by omega))) rfl ?_
      refine OG.yield (Yield.assign rfl) rfl ?_
      refine OG.nil ?_
      exact QG.next (i + 1) ⟨by omega, hnx (isB_no1 hh)⟩ (by omega) (by repeat (first | exact Env.sub_nil _ | refine Env.sub_cons rfl ?_)) (by repeat (first | exact Imp.refl _ | exact Imp.none _ | apply Imp.pull (by repeat (first | exact Ext.here | apply Ext.there)) | apply Imp.trans Imp.drop))
    · skip
      refine CG.draw (.look 0 1 (.look 1 1 (.look 2 1 (.look 3 1 (.look 4 1 (.look 5 1 (.look 6 1 (.look 7 1 (.look 8 1 (.look 9 1 (.look 10 1 (.look 11 1 (.look 12 1 (.look 13 1 (.look 14 1 (.look 15 1 (.look 16 1 (.look 17 1 (.look 18 1 (.look 19 1 (.look 20 1 (.look 21 1 (.look 22 1 (.done)))))))))))))))))))))))) [] [] ([]) ([]) mixed (by kernel_rfl) (Imp.none _) (Imp.none _) ?_
      refine DG.look rfl rfl (Yield.move rfl) rfl ?_
      refine DG.look rfl rfl (Yield.move rfl) rfl ?_
      refine DG.look rfl rfl (Yield.index_slice Try.underlying107 ti128 rfl rfl (by omega) (by omega)) rfl ?_
      refine DG.look rfl rfl (Yield.fieldAddr fa128_0 rfl) rfl ?_
      refine DG.look rfl rfl (Yield.load (v := .int .u32 ra.tag) ti35 rfl (hrow (by repeat (first | exact Ext.here | apply Ext.there)) 0 _ rfl)) rfl ?_
      refine DG.look rfl rfl (Yield.fieldAddr fa40_1 rfl) rfl ?_
      refine DG.look rfl rfl (Yield.load (v := .int .u32 r.tag) ti35 rfl (Cel.of_blk (b := b3) (by repeat (first | exact Ext.here | apply Ext.there)) rfl)) rfl ?_
      refine DG.look rfl rfl (Yield.as (Yield.neq rfl rfl) (bF (not_not_intro hh.1))) rfl ?_
      refine DG.look rfl rfl (Yield.move rfl) rfl ?_
      refine DG.look rfl rfl (Yield.move rfl) rfl ?_
      refine DG.look rfl rfl (Yield.move rfl) rfl ?_
      refine DG.look rfl rfl (Yield.index_slice Try.underlying107 ti128 rfl rfl (by omega) (by omega)) rfl ?_
      refine DG.look rfl rfl (Yield.fieldAddr fa128_6 rfl) rfl ?_
      refine DG.look rfl rfl (Yield.load (v := .bool ra.iss) ti4 rfl (hrow (by repeat (first | exact Ext.here | apply Ext.there)) 6 _ rfl)) rfl ?_
      refine DG.look rfl rfl (Yield.as (Yield.not rfl) (v' := .bool true) (by rw [hh.2]; rfl)) rfl ?_
      refine DG.look rfl rfl (by first | exact Yield.pick_t rfl rfl | exact Yield.pick_f rfl rfl | exact Yield.pick rfl (fun _ => rfl) (fun _ => rfl)) rfl ?_
      refine DG.look rfl rfl (Yield.move rfl) rfl ?_
      refine DG.pass rfl rfl rfl ?_
      refine DG.pass rfl rfl rfl ?_
      refine DG.pass rfl rfl rfl ?_
      refine DG.pass rfl rfl rfl ?_
      refine DG.pass rfl rfl rfl ?_
      refine DG.look rfl rfl (by first | exact Yield.pick_t rfl rfl | exact Yield.pick_f rfl rfl | exact Yield.pick rfl (fun _ => rfl) (fun _ => rfl)) rfl ?_
      refine DG.done ?_
      refine QG.then ?_
      refine CG.cond_t rfl ?_
      refine CG.exit ?_
      refine QG.pass_exit ?_
      refine QG.block_exit ?_
      refine QG.then ?_
      refine CG.region ?_
      refine OG.yield (Yield.move rfl) rfl ?_
      refine OG.yield (Yield.add rfl rfl (w64 (by omega) (by omega))) rfl ?_
      refine OG.yield (Yield.assign rfl) rfl ?_
      refine OG.nil ?_
      exact QG.next (i + 1) ⟨by omega, hnx (isB_no2 (by unfold RA.abs; dsimp only; rw [hh.2]; cases ra.com <;> decide))⟩ (by omega) (by repeat (first | exact Env.sub_nil _ | refine Env.sub_cons rfl ?_)) (by repeat (first | exact Imp.refl _ | exact Imp.none _ | apply Imp.pull (by repeat (first | exact Ext.here | apply Ext.there)) | apply Imp.trans Imp.drop))
    · skip
      refine CG.draw (.look 0 1 (.look 1 1 (.look 2 1 (.look 3 1 (.look 4 1 (.look 5 1 (.look 6 1 (.look 7 1 (.look 8 1 (.look 9 1 (.look 10 1 (.look 11 1 (.look 12 1 (.look 13 1 (.look 14 1 (.look 15 1 (.look 16 1 (.look 17 1 (.look 18 1 (.look 19 1 (.look 20 1 (.look 21 1 (.look 22 1 (.done)))))))))))))))))))))))) [] [] ([]) ([]) mixed (by kernel_rfl) (Imp.none _) (Imp.none _) ?_
      refine DG.look rfl rfl (Yield.move rfl) rfl ?_
      refine DG.look rfl rfl (Yield.move rfl) rfl ?_
      refine DG.look rfl rfl (Yield.index_slice Try.underlying107 ti128 rfl rfl (by omega) (by omega)) rfl ?_
      refine DG.look rfl rfl (Yield.fieldAddr fa128_0 rfl) rfl ?_
      refine DG.look rfl rfl (Yield.load (v := .int .u32 ra.tag) ti35 rfl (hrow (by repeat (first | exact Ext.here | apply Ext.there)) 0 _ rfl)) rfl ?_
      refine DG.look rfl rfl (Yield.fieldAddr fa40_1 rfl) rfl ?_
      refine DG.look rfl rfl (Yield.load (v := .int .u32 r.tag) ti35 rfl (Cel.of_blk (b := b3) (by repeat (first | exact Ext.here | apply Ext.there)) rfl)) rfl ?_
      refine DG.look rfl rfl (Yield.as (Yield.neq rfl rfl) (bF (not_not_intro hh.1))) rfl ?_
      refine DG.look rfl rfl (Yield.move rfl) rfl ?_
      refine DG.look rfl rfl (Yield.move rfl) rfl ?_
      refine DG.look rfl rfl (Yield.move rfl) rfl ?_
      refine DG.look rfl rfl (Yield.index_slice Try.underlying107 ti128 rfl rfl (by omega) (by omega)) rfl ?_
      refine DG.look rfl rfl (Yield.fieldAddr fa128_6 rfl) rfl ?_
      refine DG.look rfl rfl (Yield.load (v := .bool ra.iss) ti4 rfl (hrow (by repeat (first | exact Ext.here | apply Ext.there)) 6 _ rfl)) rfl ?_
      refine DG.look rfl rfl (Yield.as (Yield.not rfl) (v' := .bool false) (by rw [hh.2.1]; rfl)) rfl ?_
      refine DG.look rfl rfl (by first | exact Yield.pick_t rfl rfl | exact Yield.pick_f rfl rfl | exact Yield.pick rfl (fun _ => rfl) (fun _ => rfl)) rfl ?_
      refine DG.look rfl rfl (Yield.move rfl) rfl ?_
      refine DG.look rfl rfl (Yield.move rfl) rfl ?_
      refine DG.look rfl rfl (Yield.move rfl) rfl ?_
      refine DG.look rfl rfl (Yield.index_slice Try.underlying107 ti128 rfl rfl (by omega) (by omega)) rfl ?_
      refine DG.look rfl rfl (Yield.fieldAddr fa128_7 rfl) rfl ?_
      refine DG.look rfl rfl (Yield.load (v := .bool true) ti4 rfl (cel_b hh.2.2 (hrow (by repeat (first | exact Ext.here | apply Ext.there)) 7 _ rfl))) rfl ?_
      refine DG.look rfl rfl (by first | exact Yield.pick_t rfl rfl | exact Yield.pick_f rfl rfl | exact Yield.pick rfl (fun _ => rfl) (fun _ => rfl)) rfl ?_
      refine DG.done ?_
      refine QG.then ?_
      refine CG.cond_t rfl ?_
      refine CG.exit ?_
      refine QG.pass_exit ?_
      refine QG.block_exit ?_
      refine QG.then ?_
      refine CG.region ?_
      refine OG.yield (Yield.move rfl) rfl ?_
      refine OG.yield (Yield.add rfl rfl (w64 (by omega) (by omega))) rfl ?_
      refine OG.yield (Yield.assign rfl) rfl ?_
      refine OG.nil ?_
      exact QG.next (i + 1) ⟨by omega, hnx (isB_no2 (by unfold RA.abs; dsimp only; rw [hh.2.2]; simp))⟩ (by omega) (by repeat (first | exact Env.sub_nil _ | refine Env.sub_cons rfl ?_)) (by repeat (first | exact Imp.refl _ | exact Imp.none _ | apply Imp.pull (by repeat (first | exact Ext.here | apply Ext.there)) | apply Imp.trans Imp.drop))
    · skip
      refine CG.draw (.look 0 1 (.look 1 1 (.look 2 1 (.look 3 1 (.look 4 1 (.look 5 1 (.look 6 1 (.look 7 1 (.look 8 1 (.look 9 1 (.look 10 1 (.look 11 1 (.look 12 1 (.look 13 1 (.look 14 1 (.look 15 1 (.look 16 1 (.look 17 1 (.look 18 1 (.look 19 1 (.look 20 1 (.look 21 1 (.look 22 1 (.done)))))))))))))))))))))))) [] [] ([]) ([]) mixed (by kernel_rfl) (Imp.none _) (Imp.none _) ?_
      refine DG.look rfl rfl (Yield.move rfl) rfl ?_
      refine DG.look rfl rfl (Yield.move rfl) rfl ?_
      refine DG.look rfl rfl (Yield.index_slice Try.underlying107 ti128 rfl rfl (by omega) (by omega)) rfl ?_
      refine DG.look rfl rfl (Yield.fieldAddr fa128_0 rfl) rfl ?_
      refine DG.look rfl rfl (Yield.load (v := .int .u32 ra.tag) ti35 rfl (hrow (by repeat (first | exact Ext.here | apply Ext.there)) 0 _ rfl)) rfl ?_
      refine DG.look rfl rfl (Yield.fieldAddr fa40_1 rfl) rfl ?_
      refine DG.look rfl rfl (Yield.load (v := .int .u32 r.tag) ti35 rfl (Cel.of_blk (b := b3) (by repeat (first | exact Ext.here | apply Ext.there)) rfl)) rfl ?_
      refine DG.look rfl rfl (Yield.as (Yield.neq rfl rfl) (bF (not_not_intro hh.1))) rfl ?_
      refine DG.look rfl rfl (Yield.move rfl) rfl ?_
      refine DG.look rfl rfl (Yield.move rfl) rfl ?_
      refine DG.look rfl rfl (Yield.move rfl) rfl ?_
      refine DG.look rfl rfl (Yield.index_slice Try.underlying107 ti128 rfl rfl (by omega) (by omega)) rfl ?_
      refine DG.look rfl rfl (Yield.fieldAddr fa128_6 rfl) rfl ?_
      refine DG.look rfl rfl (Yield.load (v := .bool ra.iss) ti4 rfl (hrow (by repeat (first | exact Ext.here | apply Ext.there)) 6 _ rfl)) rfl ?_
      refine DG.look rfl rfl (Yield.as (Yield.not rfl) (v' := .bool false) (by rw [hh.2.1]; rfl)) rfl ?_
      refine DG.look rfl rfl (by first | exact Yield.pick_t rfl rfl | exact Yield.pick_f rfl rfl | exact Yield.pick rfl (fun _ => rfl) (fun _ => rfl)) rfl ?_
      refine DG.look rfl rfl (Yield.move rfl) rfl ?_
      refine DG.look rfl rfl (Yield.move rfl) rfl ?_
      refine DG.look rfl rfl (Yield.move rfl) rfl ?_
      refine DG.look rfl rfl (Yield.index_slice Try.underlying107 ti128 rfl rfl (by omega) (by omega)) rfl ?_
      refine DG.look rfl rfl (Yield.fieldAddr fa128_7 rfl) rfl ?_
      refine DG.look rfl rfl (Yield.load (v := .bool false) ti4 rfl (cel_b hh.2.2 (hrow (by repeat (first | exact Ext.here | apply Ext.there)) 7 _ rfl))) rfl ?_
      refine DG.look rfl rfl (by first | exact Yield.pick_t rfl rfl | exact Yield.pick_f rfl rfl | exact Yield.pick rfl (fun _ => rfl) (fun _ => rfl)) rfl ?_
      refine DG.done ?_
      refine QG.then ?_
      refine CG.cond_f rfl ?_
      refine CG.skip ?_
      refine QG.then ?_
      refine CG.seq ?_
      refine CG.seq ?_
      rcases (show (ra.write = false ∧ r.m.b.length ≠ 64) ∨ (ra.write = false ∧ r.m.b.length = 64) ∨ ra.write = true by cases ra.write <;> simp <;> omega) with hw | hw | hw
      · skip
        have hst : (ra.abs s.latency).st = 1 := by unfold RA.abs; dsimp only; rw [hh.2.1, hh.2.2]; rfl
        have hfi : s.asks.findIdx? (isB r.tag) = some i := find_take hno hget (isB_yes (a := ra.abs s.latency) hh.1 hst)
        have hcr : comR s r.tag r.m.b = if ra.write = false ∧ r.m.b.length ≠ 64 then (6, s) else (0, { s with asks := s.asks.set i { ra.abs s.latency with st := 2, data := if ra.write then ra.m.b else r.m.b } }) := by unfold comR; rw [hfi]; dsimp only; rw [hget]; rfl
        refine CG.region ?_
        refine OG.yield (Yield.move rfl) rfl ?_
        refine OG.yield (Yield.move rfl) rfl ?_
        refine OG.yield (Yield.index_slice Try.underlying107 ti128 rfl rfl (by omega) (by omega)) rfl ?_
        refine OG.yield (Yield.fieldAddr fa128_1 rfl) rfl ?_
        refine OG.yield (Yield.load (v := .bool false) ti4 rfl (cel_b hw.1 (hrow (by repeat (first | exact Ext.here | apply Ext.there)) 1 _ rfl))) rfl ?_
        refine OG.yield (Yield.not rfl) rfl ?_
        refine OG.yield (Yield.move rfl) rfl ?_
        refine OG.guard_yes rfl rfl rfl (by decide) ?_
        refine OG.yield (Yield.fieldAddr fa40_4 rfl) rfl ?_
        refine OG.guard_yes rfl rfl rfl (by decide) ?_
        refine OG.yield (Yield.load (v := r.m.cell) ti36 rfl (Cel.of_blk (b := b3) (by repeat (first | exact Ext.here | apply Ext.there)) rfl)) rfl ?_
        refine OG.guard_yes rfl rfl rfl (by decide) ?_
        refine OG.yield (Yield.len_slice (a := r.m.a) (m := r.m.b.length) (c := r.m.c) Try.underlying36 rfl rfl) rfl ?_
        refine OG.guard_yes rfl rfl rfl (by decide) ?_
        refine OG.yield (by first | exact Yield.as (Yield.neq rfl rfl) (bT (by omega)) | exact Yield.as (Yield.neq rfl rfl) (bF (by omega)) | exact Yield.neq rfl rfl) rfl ?_
        refine OG.yield (by first | exact Yield.pick_t rfl rfl | exact Yield.pick_f rfl rfl | exact Yield.pick rfl (fun _ => rfl) (fun _ => rfl)) rfl ?_
        refine OG.nil ?_
        refine QG.then ?_
        refine CG.cond_t rfl ?_
        refine CG.seq ?_
        refine CG.region ?_
        refine OG.yield (Yield.assign rfl) rfl ?_
        refine OG.nil ?_
        refine QG.then ?_
        refine CG.ret ?_
        refine QG.pass_ret ?_
        refine QG.block_ret ?_
        refine QG.pass_ret ?_
        refine QG.pass_ret ?_
        refine QG.block_ret ?_
        refine QG.pass_ret ?_
        rw [hcr, if_pos hw]
        exact QG.ret1 rfl rfl () trivial rfl (Imp.trans (Imp.pull (A := RH d s s.last x.a x.ras.length x.c x.ta s.told.length x.tc) (by repeat (first | exact Ext.here | apply Ext.there)) (Imp.pull (A := oras x.a x.c x.ras) (by repeat (first | exact Ext.here | apply Ext.there)) (by repeat (first | exact Imp.refl _ | exact Imp.none _ | apply Imp.pull (by repeat (first | exact Ext.here | apply Ext.there)) | apply Imp.trans Imp.drop)))) hcl)
      · skip
        have hst : (ra.abs s.latency).st = 1 := by unfold RA.abs; dsimp only; rw [hh.2.1, hh.2.2]; rfl
        have hfi : s.asks.findIdx? (isB r.tag) = some i := find_take hno hget (isB_yes (a := ra.abs s.latency) hh.1 hst)
        have hcr : comR s r.tag r.m.b = if ra.write = false ∧ r.m.b.length ≠ 64 then (6, s) else (0, { s with asks := s.asks.set i { ra.abs s.latency with st := 2, data := if ra.write then ra.m.b else r.m.b } }) := by unfold comR; rw [hfi]; dsimp only; rw [hget]; rfl
        refine CG.region ?_
        refine OG.yield (Yield.move rfl) rfl ?_
        refine OG.yield (Yield.move rfl) rfl ?_
        refine OG.yield (Yield.index_slice Try.underlying107 ti128 rfl rfl (by omega) (by omega)) rfl ?_
        refine OG.yield (Yield.fieldAddr fa128_1 rfl) rfl ?_
        refine OG.yield (Yield.load (v := .bool false) ti4 rfl (cel_b hw.1 (hrow (by repeat (first | exact Ext.here | apply Ext.there)) 1 _ rfl))) rfl ?_
        refine OG.yield (Yield.not rfl) rfl ?_
        refine OG.yield (Yield.move rfl) rfl ?_
        refine OG.guard_yes rfl rfl rfl (by decide) ?_
        refine OG.yield (Yield.fieldAddr fa40_4 rfl) rfl ?_
        refine OG.guard_yes rfl rfl rfl (by decide) ?_
        refine OG.yield (Yield.load (v := r.m.cell) ti36 rfl (Cel.of_blk (b := b3) (by repeat (first | exact Ext.here | apply Ext.there)) rfl)) rfl ?_
        refine OG.guard_yes rfl rfl rfl (by decide) ?_
        refine OG.yield (Yield.len_slice (a := r.m.a) (m := r.m.b.length) (c := r.m.c) Try.underlying36 rfl rfl) rfl ?_
        refine OG.guard_yes rfl rfl rfl (by decide) ?_
        refine OG.yield (by first | exact Yield.as (Yield.neq rfl rfl) (bT (by omega)) | exact Yield.as (Yield.neq rfl rfl) (bF (by omega)) | exact Yield.neq rfl rfl) rfl ?_
        refine OG.yield (by first | exact Yield.pick_t rfl rfl | exact Yield.pick_f rfl rfl | exact Yield.pick rfl (fun _ => rfl) (fun _ => rfl)) rfl ?_
        refine OG.nil ?_
        refine QG.then ?_
        refine CG.cond_f rfl ?_
        refine CG.skip ?_
        refine QG.then ?_
        refine CG.seq ?_
        refine CG.region ?_
        refine OG.yield (Yield.move rfl) rfl ?_
        refine OG.yield (Yield.move rfl) rfl ?_
        refine OG.yield (Yield.index_slice Try.underlying107 ti128 rfl rfl (by omega) (by omega)) rfl ?_
        refine OG.yield (Yield.fieldAddr fa128_7 rfl) rfl ?_
        refine OG.eff (Eff.storeFld (i := i) 7 (r := ra) (r' := { ra with com := true }) (rs := x.ras) RA.len hgc rfl (by decide) ti4 (by rw [show o + (i : Int).toNat * 8 = o + i * 8 by omega]; rfl) rfl (Foc.here) rfl rfl) rfl ?_
        rintro ⟨⟩ -
        have hgc2 : (x.ras.set i { ra with com := true })[i]? = some { ra with com := true } := by rw [List.getElem?_set_self (by omega)]
        refine OG.nil ?_
        refine QG.then ?_
        refine CG.seq ?_
        refine CG.seq ?_
        refine CG.region ?_
        refine OG.yield (Yield.move rfl) rfl ?_
        refine OG.yield (Yield.move rfl) rfl ?_
        refine OG.yield (Yield.index_slice Try.underlying107 ti128 rfl rfl (by omega) (by omega)) rfl ?_
        refine OG.yield (Yield.fieldAddr fa128_1 rfl) rfl ?_
        refine OG.yield (Yield.load (v := .bool false) ti4 rfl (cel_b hw.1 (by rw [show o + (i : Int).toNat * 8 = o + i * 8 by omega]; exact (SlR.of_osl (E := 128) (a := some ⟨b, o, none⟩) (c := qc) (by repeat (first | exact Ext.here | apply Ext.there))).elem RA.len hgc2 1 _ rfl))) rfl ?_
        refine OG.yield (Yield.not rfl) rfl ?_
        refine OG.nil ?_
        refine QG.then ?_
        refine CG.cond_t rfl ?_
        refine CG.region ?_
        refine OG.yield (Yield.move rfl) rfl ?_
        refine OG.yield (Yield.move rfl) rfl ?_
        refine OG.effd (Eff.lit0 Try.underlying36 ti5 rfl) rfl ?_
        rintro b66 -
        refine OG.yield (Yield.fieldAddr fa40_4 rfl) rfl ?_
        refine OG.yield (Yield.load (v := r.m.cell) ti36 rfl (Cel.of_blk (b := b3) (by repeat (first | exact Ext.here | apply Ext.there)) rfl)) rfl ?_
        refine OG.effd (Eff.appendB (a := some ⟨b66, 0, none⟩) (c := 0) (bs := []) (ys := r.m.b) rfl rfl rfl Try.underlying36 Try.underlying36 ti5 (by decide) (by repeat (first | exact Foc.here | apply Foc.there)) (hr.imp (by repeat (first | exact Imp.refl _ | exact Imp.none _ | apply Imp.pull (by repeat (first | exact Ext.here | apply Ext.there)) | apply Imp.trans Imp.drop))).slR (by simp only [List.length_nil]; omega)) rfl ?_
        rintro ⟨am, cm⟩ -
        rw [List.nil_append]
        refine OG.yield (Yield.index_slice Try.underlying107 ti128 rfl rfl (by omega) (by omega)) rfl ?_
        refine OG.yield (Yield.fieldAddr fa128_4 rfl) rfl ?_
        refine OG.eff (Eff.storeFld (i := i) 4 (r := { ra with com := true }) (r' := { ra with com := true, m := ⟨am, cm, r.m.b⟩ }) (rs := x.ras.set i { ra with com := true }) RA.len hgc2 rfl (by decide) ti36 (by rw [show o + (i : Int).toNat * 8 = o + i * 8 by omega]; rfl) rfl (Foc.there Foc.here) rfl (by rw [List.length_set])) rfl ?_
        rintro ⟨⟩ -
        refine OG.nil ?_
        refine QG.then ?_
        refine CG.seq ?_
        refine CG.region ?_
        refine OG.yield (Yield.move rfl) rfl ?_
        refine OG.yield (Yield.move rfl) rfl ?_
        refine OG.yield (Yield.nilCheck rfl) rfl ?_
        refine OG.yield (Yield.fieldAddr fa109_4 rfl) rfl ?_
        refine OG.eff (Eff.store1 ti107 rfl rfl (by repeat (first | exact Foc.here | apply Foc.there)) rfl (by simp)) rfl ?_
        rintro ⟨⟩ -
        refine OG.nil ?_
        refine QG.then ?_
        refine CG.seq ?_
        refine CG.region ?_
        refine OG.yield (Yield.assign rfl) rfl ?_
        refine OG.nil ?_
        refine QG.then ?_
        refine CG.ret ?_
        refine QG.block_ret ?_
        refine QG.pass_ret ?_
        refine QG.pass_ret ?_
        refine QG.block_ret ?_
        refine QG.pass_ret ?_
        rw [hcr, if_neg (by rw [hw.2]; simp), if_neg (by rw [hw.1]; decide)]
        have hcl2 := rd_close (d := d) (G := Fr) (s := { s with asks := s.asks.set i { ra.abs s.latency with st := 2, data := r.m.b } }) ⟨x.ras.set i { ra with com := true, m := ⟨am, cm, r.m.b⟩ }, x.pl ++ [⟨am, cm, r.m.b⟩], some ⟨b, o, none⟩, qc, x.ta, x.tc⟩ ⟨by dsimp only; rw [List.map_set, hab]; rfl, fun a ha => by rcases List.mem_or_eq_of_mem_set ha with ha | rfl; exact ⟨List.mem_append.2 (.inl (hx.all a ha).mem), (hx.all a ha).com, (hx.all a ha).maj⟩; exact ⟨by simp, fun _ => hh.2.1, hro.maj⟩, ⟨hok.part, hok.first, hok.count, hok.lat, by dsimp only; rw [List.length_set]; exact hok.asks, hok.told, fun a ha => by rcases List.mem_or_eq_of_mem_set ha with ha | rfl; exact hok.data a ha; dsimp only; omega, fun a ha => by rcases List.mem_or_eq_of_mem_set ha with ha | rfl; exact hok.sec a ha; exact hok.sec (ra.abs s.latency) (List.mem_of_getElem? hget)⟩⟩
        dsimp only [RO, oras, List.cons_append, List.nil_append] at hcl2
        rw [List.length_set] at hcl2
        refine QG.ret1 rfl rfl () trivial rfl (Imp.trans ?_ hcl2)
        rw [List.set_set]
        exact Imp.trans (Imp.trans (Imp.pull (A := Msg.own ⟨am, cm, r.m.b⟩) (by repeat (first | exact Ext.here | apply Ext.there)) (Imp.pull (A := pool x.pl) (by repeat (first | exact Ext.here | apply Ext.there)) (Imp.refl _))) pool_add) (Imp.pull (A := RH d s s.last (some ⟨b, o, none⟩) x.ras.length qc x.ta s.told.length x.tc) (by repeat (first | exact Ext.here | apply Ext.there)) (Imp.pull (by repeat (first | exact Ext.here | apply Ext.there)) (Imp.pull (by repeat (first | exact Ext.here | apply Ext.there)) (Imp.pull (by repeat (first | exact Ext.here | apply Ext.there)) (by repeat (first | exact Imp.refl _ | exact Imp.none _ | apply Imp.pull (by repeat (first | exact Ext.here | apply Ext.there)) | apply Imp.trans Imp.drop))))))
      · skip
        have hst : (ra.abs s.latency).st = 1 := by unfold RA.abs; dsimp only; rw [hh.2.1, hh.2.2]; rfl
        have hfi : s.asks.findIdx? (isB r.tag) = some i := find_take hno hget (isB_yes (a := ra.abs s.latency) hh.1 hst)
        have hcr : comR s r.tag r.m.b = if ra.write = false ∧ r.m.b.length ≠ 64 then (6, s) else (0, { s with asks := s.asks.set i { ra.abs s.latency with st := 2, data := if ra.write then ra.m.b else r.m.b } }) := by unfold comR; rw [hfi]; dsimp only; rw [hget]; rfl
        refine CG.region ?_
        refine OG.yield (Yield.move rfl) rfl ?_
        refine OG.yield (Yield.move rfl) rfl ?_
        refine OG.yield (Yield.index_slice Try.underlying107 ti128 rfl rfl (by omega) (by omega)) rfl ?_
        refine OG.yield (Yield.fieldAddr fa128_1 rfl) rfl ?_
        refine OG.yield (Yield.load (v := .bool true) ti4 rfl (cel_b hw (hrow (by repeat (first | exact Ext.here | apply Ext.there)) 1 _ rfl))) rfl ?_
        refine OG.yield (Yield.not rfl) rfl ?_
        refine OG.yield (Yield.move rfl) rfl ?_
        refine OG.guard_no rfl rfl rfl rfl rfl (by decide) (by decide) ?_
        refine OG.guard_no rfl rfl rfl rfl rfl (by decide) (by decide) ?_
        refine OG.guard_no rfl rfl rfl rfl rfl (by decide) (by decide) ?_
        refine OG.guard_no rfl rfl rfl rfl rfl (by decide) (by decide) ?_
        refine OG.yield (by first | exact Yield.pick_t rfl rfl | exact Yield.pick_f rfl rfl | exact Yield.pick rfl (fun _ => rfl) (fun _ => rfl)) rfl ?_
        refine OG.nil ?_
        refine QG.then ?_
        refine CG.cond_f rfl ?_
        refine CG.skip ?_
        refine QG.then ?_
        refine CG.seq ?_
        refine CG.region ?_
        refine OG.yield (Yield.move rfl) rfl ?_
        refine OG.yield (Yield.move rfl) rfl ?_
        refine OG.yield (Yield.index_slice Try.underlying107 ti128 rfl rfl (by omega) (by omega)) rfl ?_
        refine OG.yield (Yield.fieldAddr fa128_7 rfl) rfl ?_
        refine OG.eff (Eff.storeFld (i := i) 7 (r := ra) (r' := { ra with com := true }) (rs := x.ras) RA.len hgc rfl (by decide) ti4 (by rw [show o + (i : Int).toNat * 8 = o + i * 8 by omega]; rfl) rfl (Foc.here) rfl rfl) rfl ?_
        rintro ⟨⟩ -
        have hgc2 : (x.ras.set i { ra with com := true })[i]? = some { ra with com := true } := by rw [List.getElem?_set_self (by omega)]
        refine OG.nil ?_
        refine QG.then ?_
        refine CG.seq ?_
        refine CG.seq ?_
        refine CG.region ?_
        refine OG.yield (Yield.move rfl) rfl ?_
        refine OG.yield (Yield.move rfl) rfl ?_
        refine OG.yield (Yield.index_slice Try.underlying107 ti128 rfl rfl (by omega) (by omega)) rfl ?_
        refine OG.yield (Yield.fieldAddr fa128_1 rfl) rfl ?_
        refine OG.yield (Yield.load (v := .bool true) ti4 rfl (cel_b hw (by rw [show o + (i : Int).toNat * 8 = o + i * 8 by omega]; exact (SlR.of_osl (E := 128) (a := some ⟨b, o, none⟩) (c := qc) (by repeat (first | exact Ext.here | apply Ext.there))).elem RA.len hgc2 1 _ rfl))) rfl ?_
        refine OG.yield (Yield.not rfl) rfl ?_
        refine OG.nil ?_
        refine QG.then ?_
        refine CG.cond_f rfl ?_
        refine CG.skip ?_
        refine QG.then ?_
        refine CG.seq ?_
        refine CG.region ?_
        refine OG.yield (Yield.move rfl) rfl ?_
        refine OG.yield (Yield.move rfl) rfl ?_
        refine OG.yield (Yield.nilCheck rfl) rfl ?_
        refine OG.yield (Yield.fieldAddr fa109_4 rfl) rfl ?_
        refine OG.eff (Eff.store1 ti107 rfl rfl (by repeat (first | exact Foc.here | apply Foc.there)) rfl (by simp)) rfl ?_
        rintro ⟨⟩ -
        refine OG.nil ?_
        refine QG.then ?_
        refine CG.seq ?_
        refine CG.region ?_
        refine OG.yield (Yield.assign rfl) rfl ?_
        refine OG.nil ?_
        refine QG.then ?_
        refine CG.ret ?_
        refine QG.block_ret ?_
        refine QG.pass_ret ?_
        refine QG.pass_ret ?_
        refine QG.block_ret ?_
        refine QG.pass_ret ?_
        rw [hcr, if_neg (by rw [hw]; simp), if_pos hw]
        have hcl2 := rd_close (d := d) (G := Fr) (s := { s with asks := s.asks.set i { ra.abs s.latency with st := 2, data := ra.m.b } }) ⟨x.ras.set i { ra with com := true }, x.pl, some ⟨b, o, none⟩, qc, x.ta, x.tc⟩ ⟨by dsimp only; rw [List.map_set, hab]; rfl, fun a ha => by rcases List.mem_or_eq_of_mem_set ha with ha | rfl; exact ⟨(hx.all a ha).mem, (hx.all a ha).com, (hx.all a ha).maj⟩; exact ⟨hro.mem, fun _ => hh.2.1, hro.maj⟩, ⟨hok.part, hok.first, hok.count, hok.lat, by dsimp only; rw [List.length_set]; exact hok.asks, hok.told, fun a ha => by rcases List.mem_or_eq_of_mem_set ha with ha | rfl; exact hok.data a ha; exact hok.data (ra.abs s.latency) (List.mem_of_getElem? hget), fun a ha => by rcases List.mem_or_eq_of_mem_set ha with ha | rfl; exact hok.sec a ha; exact hok.sec (ra.abs s.latency) (List.mem_of_getElem? hget)⟩⟩
        dsimp only [RO, oras, List.cons_append, List.nil_append] at hcl2
        rw [List.length_set] at hcl2
        exact QG.ret1 rfl rfl () trivial rfl (Imp.trans (Imp.pull (A := RH d s s.last (some ⟨b, o, none⟩) x.ras.length qc x.ta s.told.length x.tc) (by repeat (first | exact Ext.here | apply Ext.there)) (Imp.pull (by repeat (first | exact Ext.here | apply Ext.there)) (Imp.pull (by repeat (first | exact Ext.here | apply Ext.there)) (Imp.pull (by repeat (first | exact Ext.here | apply Ext.there)) (by repeat (first | exact Imp.refl _ | exact Imp.none _ | apply Imp.pull (by repeat (first | exact Ext.here | apply Ext.there)) | apply Imp.trans Imp.drop)))))) hcl2)
  · try replace hc := of_decide_eq_false hc
    refine CG.exit ?_
    refine QG.pass_exit ?_
    refine QG.pass_exit ?_
    refine QG.block_exit ?_
    refine QG.then ?_
    refine CG.seq ?_
    refine CG.region ?_
    refine OG.yield (Yield.assign rfl) rfl ?_
    refine OG.nil ?_
    refine QG.then ?_
    refine CG.ret ?_
    have hie : i = s.asks.length := by omega
    have hcr : comR s r.tag r.m.b = (302, s) := by
      have h1 : s.asks.findIdx? (isB r.tag) = none := by rw [List.findIdx?_eq_none_iff]; intro y hy; exact hno y (by rw [hie, List.take_length]; exact hy)
      unfold comR; rw [h1]
    rw [hcr]
    exact QG.ret1 rfl rfl () trivial rfl (Imp.trans (Imp.pull (A := RH d s s.last x.a x.ras.length x.c x.ta s.told.length x.tc) (by repeat (first | exact Ext.here | apply Ext.there)) (Imp.pull (A := oras x.a x.c x.ras) (by repeat (first | exact Ext.here | apply Ext.there)) (by repeat (first | exact Imp.refl _ | exact Imp.none _ | apply Imp.pull (by repeat (first | exact Ext.here | apply Ext.there)) | apply Imp.trans Imp.drop)))) hcl)
end
end Go.Proofs.Ytoejnhfcegchhaa.Vd
