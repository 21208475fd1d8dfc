/- VconOrder: whatever the operations, what is read and drained comes in the order in which it was fed and written: the law returns true and changes nothing that was there. -/
import Derived.Test.YtmhcdeklfecokaaVops
import Derived.Test.YtmhcdeklfecokaaRows
namespace Go.Proofs.Ytmhcdeklfecokaa.vconOrder
open Go Go.Sl Go.RowKit Go.Proofs Go.Proofs.Ytmhcdeklfecokaa.T Go.Proofs.Ytmhcdeklfecokaa.Vc
set_option linter.unusedVariables false
set_option linter.unusedSimpArgs false
set_option maxRecDepth 100000

/-- What the loop carries. -/
structure St where
  i : Nat
  out : List UInt8
  inn : List UInt8
  a4 : Option Addr
  c4 : Nat
  l4 : List UInt8
  a5 : Option Addr
  c5 : Nat
  l5 : List UInt8
  a6 : Option Addr
  c6 : Nat
  l6 : List UInt8
  a7 : Option Addr
  c7 : Nat
  l7 : List UInt8
def St.env (a0 : Option Addr) (m c0 g : Nat) (s : St) : Env := [(0, .slice a0 m c0), (3, .pointer (some ⟨g, 0, none⟩)), (4, .slice s.a4 s.l4.length s.c4), (5, .slice s.a5 s.l5.length s.c5), (6, .slice s.a6 s.l6.length s.c6), (7, .slice s.a7 s.l7.length s.c7), (8, .int .i64 s.i)]
abbrev St.G (W : World) (g : Nat) (s : St) : List HProp := [Con g s.out s.inn, oby 5 s.a4 s.c4 s.l4, oby 5 s.a5 s.c5 s.l5, oby 5 s.a6 s.c6 s.l6, oby 5 s.a7 s.c7 s.l7, old W]
structure St.OK (m : Nat) (s : St) : Prop where
  ho : s.l6 ++ s.out = s.l4
  hi : s.l7 ++ s.inn = s.l5
  lo : s.out.length ≤ 64
  li : s.inn.length ≤ 64
  b4 : s.l4.length ≤ 64 * s.i
  b5 : s.l5.length ≤ 64 * s.i
  b6 : s.l6.length ≤ 64 * s.i
  b7 : s.l7.length ≤ 64 * s.i
  im : s.i ≤ m ∧ s.i ≤ 200
/-- .. one operation later, before i grows. -/
structure St.OK' (m : Nat) (s : St) : Prop where
  ho : s.l6 ++ s.out = s.l4
  hi : s.l7 ++ s.inn = s.l5
  lo : s.out.length ≤ 64
  li : s.inn.length ≤ 64
  b4 : s.l4.length ≤ 64 * (s.i + 1)
  b5 : s.l5.length ≤ 64 * (s.i + 1)
  b6 : s.l6.length ≤ 64 * (s.i + 1)
  b7 : s.l7.length ≤ 64 * (s.i + 1)
  im : s.i < m ∧ s.i < 200

set_option maxHeartbeats 4000000 in
theorem walk (W : World) {a0 : Option Addr} {c0 : Nat} {ops : List VOp} (hops : SlAt W 3 a0 ops.length ((ops.map VOp.cells).flatten)) (hok : ∀ o ∈ ops, o.OK W) :
    Ctr Try.prog W 7 [.slice a0 ops.length c0] [old W] (fun _ : Unit => True) (fun _ => .bool true) (fun _ => [old W]) := by
  refine Ctr.of_body Try.func7 rfl Try.ntmps7 rfl ?_
  refine CG.seq ?_
  refine CG.region ?_
  refine OG.yield (Yield.assign rfl) rfl ?_
  refine OG.nil ?_
  refine QG.then ?_
  refine CG.seq ?_
  refine CG.region ?_
  refine OG.callo call25 rfl ((by repeat (first | exact Imp.refl _ | exact Imp.none _ | apply Imp.pull (by repeat (first | exact Ext.here | apply Ext.there)) | apply Imp.trans Imp.drop))) (new_spec W _) rfl ?_
  rintro g -
  refine OG.yield (Yield.assign rfl) rfl ?_
  refine OG.nil ?_
  refine QG.then ?_
  refine CG.seq ?_
  refine CG.seq ?_
  refine CG.region ?_
  refine OG.yield (Yield.move rfl) rfl ?_
  refine OG.yield (by first | exact Yield.ptr_nil Try.underlying45 rfl rfl | exact Yield.nil_nil Try.underlying45 rfl rfl) rfl ?_
  refine OG.nil ?_
  refine QG.then ?_
  refine CG.cond_f rfl ?_
  refine CG.skip ?_
  refine QG.then ?_
  refine CG.seq ?_
  refine CG.region ?_
  refine OG.yield (Yield.assign rfl) rfl ?_
  refine OG.yield (Yield.assign rfl) rfl ?_
  refine OG.yield (Yield.assign rfl) rfl ?_
  refine OG.yield (Yield.assign rfl) rfl ?_
  refine OG.nil ?_
  refine QG.then ?_
  refine CG.cut (fun s : St => s.OK ops.length) (St.env a0 ops.length c0 g) (St.G W g) ?_ ?_
  · skip
    refine CG.seq ?_
    refine CG.region ?_
    refine OG.yield (Yield.assign rfl) rfl ?_
    refine OG.nil ?_
    refine QG.then ?_
    refine CG.block ?_
    refine CG.loop (fun s : St => s.OK ops.length) (St.env a0 ops.length c0 g) (St.G W g) (fun s => ops.length - s.i) ⟨0, [], [], none, 0, [], none, 0, [], none, 0, [], none, 0, []⟩ ⟨rfl, rfl, by simp, by simp, by simp, by simp, by simp, by simp, by simp⟩ (by repeat (first | exact Env.sub_nil _ | refine Env.sub_cons rfl ?_)) (Imp.trans oby_nil (Imp.trans oby_nil (Imp.trans oby_nil (Imp.trans oby_nil (by repeat (first | exact Imp.refl _ | exact Imp.none _ | apply Imp.pull (by repeat (first | exact Ext.here | apply Ext.there)) | apply Imp.trans Imp.drop)))))) ?_
    rintro s ⟨ho, hi, lo, li, b4, b5, b6, b7, im⟩
    unfold St.env
    refine CG.seq ?_
    refine CG.seq ?_
    rcases loop_head (s.i) (ops.length) 200 with hh | hh | hh
    · skip
      refine CG.region ?_
      refine OG.yield (Yield.move rfl) rfl ?_
      refine OG.yield (Yield.move rfl) rfl ?_
      refine OG.yield (Yield.len_slice Try.underlying44 rfl rfl) rfl ?_
      refine OG.yield (by first | exact Yield.as (Yield.lss rfl rfl) (bT (by omega)) | exact Yield.as (Yield.lss rfl rfl) (bF (by omega)) | exact Yield.lss rfl rfl) rfl ?_
      refine OG.yield (Yield.move rfl) rfl ?_
      refine OG.guard_yes rfl rfl rfl (by decide) ?_
      refine OG.yield (Yield.move rfl) rfl ?_
      refine OG.guard_yes rfl rfl rfl (by decide) ?_
      refine OG.yield (by first | exact Yield.as (Yield.lss rfl rfl) (bT (by omega)) | exact Yield.as (Yield.lss rfl rfl) (bF (by omega)) | exact Yield.lss rfl rfl) rfl ?_
      refine OG.yield (by first | exact Yield.pick_t rfl rfl | exact Yield.pick_f rfl rfl | exact Yield.pick rfl (fun _ => rfl) (fun _ => rfl)) rfl ?_
      refine OG.nil ?_
      refine QG.then ?_
      refine CG.cond_t rfl ?_
      refine CG.skip ?_
      refine QG.then ?_
      refine CG.seq ?_
      refine CG.block ?_
      refine CG.seq ?_
      obtain ⟨h1, h2⟩ := hh
      have hget : ops[s.i]? = some ops[s.i] := by simp [h1]
      have hko := hok ops[s.i] (List.getElem_mem h1)
      generalize ops[s.i] = op at hget hko
      have hBc := hko.Bc
      have hB := hko.B
      have hBm := hko.Bm
      unfold reachBytes at hBm
      refine CG.pure (fun w hw => (hops.old (G := St.G W g s) (by repeat (first | exact Ext.here | apply Ext.there))).elem_shape VOp.len (by decide) h1 w hw) ?_
      rintro ⟨b, o, rfl⟩
      refine CG.region ?_
      refine OG.yield (Yield.move rfl) rfl ?_
      refine OG.yield (Yield.move rfl) rfl ?_
      refine OG.yield (Yield.index_slice Try.underlying44 ti47 rfl rfl (by omega) (by omega)) rfl ?_
      refine OG.yield (Yield.load_agg ti47 rfl (VOp.len op) ((hops.old (by repeat (first | exact Ext.here | apply Ext.there))).elem VOp.len hget)) rfl ?_
      refine OG.effd (Eff.alloc ti47) rfl ?_
      rintro b9 -
      refine OG.eff (Eff.storeAll ti47 rfl rfl (by repeat (first | exact Foc.here | apply Foc.there)) (VOp.len op) (VOp.ones op) rfl) rfl ?_
      rintro ⟨⟩ -
      refine OG.nil ?_
      refine QG.then ?_
      refine CG.seq ?_
      refine CG.draw (.look 0 true (.look 3 false (.eff1 1 (.look 2 false (.eff1 4 (.look 5 true (.look 6 true (.look 7 true (.done))))))))) [1, 4] ([]) mixed (by kernel_rfl) (Imp.none _) ?_
      refine DG.look rfl rfl (Yield.move rfl) rfl ?_
      refine DG.look rfl rfl (Yield.move rfl) rfl ?_
      refine DG.eff1 ?_
      refine Chg.callo rfl rfl call26 rfl ((by repeat (first | exact Imp.refl _ | exact Imp.none _ | apply Imp.pull (by repeat (first | exact Ext.here | apply Ext.there)) | apply Imp.trans Imp.drop))) (out_spec W _) rfl (K' := fun p => [oby 5 p.1 p.2 s.out]) (fun _ => (by repeat (first | exact Imp.refl _ | exact Imp.none _ | apply Imp.pull (by repeat (first | exact Ext.here | apply Ext.there)) | apply Imp.trans Imp.drop))) (fun _ => Imp.drop) ?_
      rintro ⟨a32, c32⟩ -
      refine DG.look rfl rfl (Yield.toStr Try.underlying30 Try.underlying9 Try.underlying5 rfl (by first | exact SlR.of_osl (by repeat (first | exact Ext.here | apply Ext.there)) | exact SlR.of_osl_eq (by repeat (first | exact Ext.here | apply Ext.there)) rfl rfl | exact SlR.of_osl_eq (by repeat (first | exact Ext.here | apply Ext.there)) rfl (by simp [bytesV, byteV]) | assumption | exact SlAt.old (by assumption) (by repeat (first | exact Ext.here | apply Ext.there)) | exact RdB.slR (by assumption))) rfl ?_
      refine DG.eff1 ?_
      refine Chg.callo rfl rfl call27 rfl ((by repeat (first | exact Imp.refl _ | exact Imp.none _ | apply Imp.pull (by repeat (first | exact Ext.here | apply Ext.there)) | apply Imp.trans Imp.drop))) (in_spec W _) rfl (fun _ => (by repeat (first | exact Imp.refl _ | exact Imp.none _ | apply Imp.pull (by repeat (first | exact Ext.here | apply Ext.there)) | apply Imp.trans Imp.drop))) (fun _ => Imp.refl _) ?_
      rintro ⟨a35, c35⟩ -
      refine DG.look rfl rfl (Yield.toStr Try.underlying30 Try.underlying9 Try.underlying5 rfl (by first | exact SlR.of_osl (by repeat (first | exact Ext.here | apply Ext.there)) | exact SlR.of_osl_eq (by repeat (first | exact Ext.here | apply Ext.there)) rfl rfl | exact SlR.of_osl_eq (by repeat (first | exact Ext.here | apply Ext.there)) rfl (by simp [bytesV, byteV]) | assumption | exact SlAt.old (by assumption) (by repeat (first | exact Ext.here | apply Ext.there)) | exact RdB.slR (by assumption))) rfl ?_
      refine DG.look rfl rfl (Yield.assign rfl) rfl ?_
      refine DG.look rfl rfl (Yield.assign rfl) rfl ?_
      refine DG.done ?_
      refine QG.then ?_
      refine CG.cut (fun s' : St => s'.OK' ops.length ∧ s'.i = s.i) (St.env (some ⟨b, o, none⟩) ops.length c0 g) (St.G W g) ?_ ?_
      · skip
        refine CG.seq ?_
        refine CG.region ?_
        refine OG.yield (Yield.fieldAddr fa47_0 rfl) rfl ?_
        refine OG.yield (Yield.load ti3 rfl (Cel.of_blk (by repeat (first | exact Ext.here | apply Ext.there)) (by rfl))) rfl ?_
        refine OG.nil ?_
        refine QG.then ?_
        refine CG.block ?_
        refine CG.seq ?_
        refine CG.region ?_
        refine OG.yield (by first | exact Yield.as (Yield.eql rfl rfl) (bT (by omega)) | exact Yield.as (Yield.eql rfl rfl) (bF (by omega)) | exact Yield.eql rfl rfl) rfl ?_
        refine OG.yield (Yield.assign rfl) rfl ?_
        refine OG.nil ?_
        refine QG.then ?_
        refine CG.cond rfl (fun hc => ?_) (fun hc => ?_)
        · try replace hc := of_decide_eq_true hc
          refine CG.seq ?_
          refine CG.region ?_
          refine OG.yield (Yield.move rfl) rfl ?_
          refine OG.effd (Eff.lit0 Try.underlying30 ti5 rfl) rfl ?_
          rintro b42 -
          refine OG.yield (Yield.fieldAddr fa47_1 rfl) rfl ?_
          refine OG.yield (Yield.load ti30 rfl (Cel.of_blk (by repeat (first | exact Ext.here | apply Ext.there)) (by rfl))) rfl ?_
          refine OG.effd (by first | exact Eff.appendB0 rfl rfl rfl Try.underlying30 Try.underlying30 ti5 (by decide) (by repeat (first | exact Foc.here | apply Foc.there)) (by first | exact SlR.of_osl (by repeat (first | exact Ext.here | apply Ext.there)) | exact SlR.of_osl_eq (by repeat (first | exact Ext.here | apply Ext.there)) rfl rfl | exact SlR.of_osl_eq (by repeat (first | exact Ext.here | apply Ext.there)) rfl (by simp [bytesV, byteV]) | assumption | exact SlAt.old (by assumption) (by repeat (first | exact Ext.here | apply Ext.there)) | exact RdB.slR (by assumption)) (by omega) | exact Eff.appendB rfl rfl rfl Try.underlying30 Try.underlying30 ti5 (by decide) (by repeat (first | exact Foc.here | apply Foc.there)) (by first | exact SlR.of_osl (by repeat (first | exact Ext.here | apply Ext.there)) | exact SlR.of_osl_eq (by repeat (first | exact Ext.here | apply Ext.there)) rfl rfl | exact SlR.of_osl_eq (by repeat (first | exact Ext.here | apply Ext.there)) rfl (by simp [bytesV, byteV]) | assumption | exact SlAt.old (by assumption) (by repeat (first | exact Ext.here | apply Ext.there)) | exact RdB.slR (by assumption)) (by first | omega | (simp only [List.length_append, List.length_cons, List.length_nil, List.length_take, List.length_drop]; omega))) rfl ?_
          rintro ⟨a45, c45⟩ -
          refine OG.callo call28 rfl ((by repeat (first | exact Imp.refl _ | exact Imp.none _ | apply Imp.pull (by repeat (first | exact Ext.here | apply Ext.there)) | apply Imp.trans Imp.drop))) (writeB W _ (ds := op.B) (by first | exact RdB.of_osl (by repeat (first | exact Ext.here | apply Ext.there)) rfl rfl | exact RdB.of_osl (by repeat (first | exact Ext.here | apply Ext.there)) rfl (by simp [bytesV, byteV]) | assumption | exact RdB.of_slR (SlAt.old (by assumption) (by repeat (first | exact Ext.here | apply Ext.there))) (by assumption)) (by omega)) rfl ?_
          rintro ⟨⟩ -
          refine OG.yield (Yield.assign rfl) rfl ?_
          refine OG.nil ?_
          refine QG.then ?_
          refine CG.cut (fun _ : Unit => True) (fun _ => (12, .int .i64 (min op.B.length (64 - s.out.length) : Nat)) :: (9, .pointer (some ⟨b9, 0, none⟩)) :: St.env (some ⟨b, o, none⟩) ops.length c0 g s) (fun _ => [Con g (s.out ++ op.B.take (64 - s.out.length)) s.inn, blk b9 op.cells 47, oby 5 s.a4 s.c4 s.l4, oby 5 s.a5 s.c5 s.l5, oby 5 s.a6 s.c6 s.l6, oby 5 s.a7 s.c7 s.l7, old W]) ?_ ?_
          · skip
            refine CG.seq ?_
            rcases Nat.lt_or_ge (64 - s.out.length) op.B.length with hf | hf
            · skip
              refine CG.region ?_
              refine OG.yield (Yield.move rfl) rfl ?_
              refine OG.yield (by first | exact Yield.as (Yield.lss rfl rfl) (bT (by omega)) | exact Yield.as (Yield.lss rfl rfl) (bF (by omega)) | exact Yield.lss rfl rfl) rfl ?_
              refine OG.yield (Yield.move rfl) rfl ?_
              refine OG.guard_yes rfl rfl rfl (by decide) ?_
              refine OG.yield (Yield.move rfl) rfl ?_
              refine OG.guard_yes rfl rfl rfl (by decide) ?_
              refine OG.yield (Yield.fieldAddr fa47_1 rfl) rfl ?_
              refine OG.guard_yes rfl rfl rfl (by decide) ?_
              refine OG.yield (Yield.load ti30 rfl (Cel.of_blk (by repeat (first | exact Ext.here | apply Ext.there)) (by rfl))) rfl ?_
              refine OG.guard_yes rfl rfl rfl (by decide) ?_
              refine OG.yield (Yield.len_slice Try.underlying30 rfl rfl) rfl ?_
              refine OG.guard_yes rfl rfl rfl (by decide) ?_
              refine OG.yield (by first | exact Yield.as (Yield.gtr rfl rfl) (bT (by omega)) | exact Yield.as (Yield.gtr rfl rfl) (bF (by omega)) | exact Yield.gtr rfl rfl) rfl ?_
              refine OG.yield (by first | exact Yield.pick_t rfl rfl | exact Yield.pick_f rfl rfl | exact Yield.pick rfl (fun _ => rfl) (fun _ => rfl)) rfl ?_
              refine OG.yield (Yield.move rfl) rfl ?_
              refine OG.guard_yes rfl rfl rfl (by decide) ?_
              refine OG.yield (Yield.move rfl) rfl ?_
              refine OG.guard_yes rfl rfl rfl (by decide) ?_
              refine OG.yield (Yield.fieldAddr fa47_1 rfl) rfl ?_
              refine OG.guard_yes rfl rfl rfl (by decide) ?_
              refine OG.yield (Yield.load ti30 rfl (Cel.of_blk (by repeat (first | exact Ext.here | apply Ext.there)) (by rfl))) rfl ?_
              refine OG.guard_yes rfl rfl rfl (by decide) ?_
              refine OG.yield (Yield.len_slice Try.underlying30 rfl rfl) rfl ?_
              refine OG.guard_yes rfl rfl rfl (by decide) ?_
              refine OG.yield (by first | exact Yield.as (Yield.lss rfl rfl) (bT (by omega)) | exact Yield.as (Yield.lss rfl rfl) (bF (by omega)) | exact Yield.lss rfl rfl) rfl ?_
              refine OG.guard_yes rfl rfl rfl (by decide) ?_
              refine OG.yield (Yield.move rfl) rfl ?_
              refine OG.guard_yes rfl rfl rfl (by decide) ?_
              refine OG.yield (Yield.move rfl) rfl ?_
              refine OG.guard_yes rfl rfl rfl (by decide) ?_
              refine OG.callo call26 rfl ((by repeat (first | exact Imp.refl _ | exact Imp.none _ | apply Imp.pull (by repeat (first | exact Ext.here | apply Ext.there)) | apply Imp.trans Imp.drop))) (out_spec W _) rfl ?_
              rintro ⟨a64, c64⟩ -
              refine OG.guard_yes rfl rfl rfl (by decide) ?_
              refine OG.yield (Yield.len_slice Try.underlying30 rfl rfl) rfl ?_
              refine OG.guard_yes rfl rfl rfl (by decide) ?_
              refine OG.yield (Yield.as (Yield.neq rfl rfl) (bF (by simp; omega))) rfl ?_
              refine OG.guard_yes rfl rfl rfl (by decide) ?_
              refine OG.yield (by first | exact Yield.pick_t rfl rfl | exact Yield.pick_f rfl rfl | exact Yield.pick rfl (fun _ => rfl) (fun _ => rfl)) rfl ?_
              refine OG.yield (by first | exact Yield.pick_t rfl rfl | exact Yield.pick_f rfl rfl | exact Yield.pick rfl (fun _ => rfl) (fun _ => rfl)) rfl ?_
              refine OG.yield (Yield.move rfl) rfl ?_
              refine OG.guard_yes rfl rfl rfl (by decide) ?_
              refine OG.yield (Yield.move rfl) rfl ?_
              refine OG.guard_yes rfl rfl rfl (by decide) ?_
              refine OG.callo call27 rfl ((by repeat (first | exact Imp.refl _ | exact Imp.none _ | apply Imp.pull (by repeat (first | exact Ext.here | apply Ext.there)) | apply Imp.trans Imp.drop))) (in_spec W _) rfl ?_
              rintro ⟨a71, c71⟩ -
              refine OG.guard_yes rfl rfl rfl (by decide) ?_
              refine OG.yield (Yield.toStr Try.underlying30 Try.underlying9 Try.underlying5 rfl (by first | exact SlR.of_osl (by repeat (first | exact Ext.here | apply Ext.there)) | exact SlR.of_osl_eq (by repeat (first | exact Ext.here | apply Ext.there)) rfl rfl | exact SlR.of_osl_eq (by repeat (first | exact Ext.here | apply Ext.there)) rfl (by simp [bytesV, byteV]) | assumption | exact SlAt.old (by assumption) (by repeat (first | exact Ext.here | apply Ext.there)) | exact RdB.slR (by assumption))) rfl ?_
              refine OG.guard_yes rfl rfl rfl (by decide) ?_
              refine OG.yield (Yield.move rfl) rfl ?_
              refine OG.guard_yes rfl rfl rfl (by decide) ?_
              refine OG.yield (by first | exact Yield.str_samen rfl rfl | exact Yield.str_neq rfl rfl) rfl ?_
              refine OG.yield (by first | exact Yield.pick_t rfl rfl | exact Yield.pick_f rfl rfl | exact Yield.pick rfl (fun _ => rfl) (fun _ => rfl)) rfl ?_
              refine OG.nil ?_
              refine QG.then ?_
              refine CG.cond_f rfl ?_
              refine CG.skip ?_
              exact QG.mid () trivial (by repeat (first | exact Env.sub_nil _ | refine Env.sub_cons rfl ?_)) (by repeat (first | exact Imp.refl _ | exact Imp.none _ | apply Imp.pull (by repeat (first | exact Ext.here | apply Ext.there)) | apply Imp.trans Imp.drop))
            · skip
              refine CG.region ?_
              refine OG.yield (Yield.move rfl) rfl ?_
              refine OG.yield (by first | exact Yield.as (Yield.lss rfl rfl) (bT (by omega)) | exact Yield.as (Yield.lss rfl rfl) (bF (by omega)) | exact Yield.lss rfl rfl) rfl ?_
              refine OG.yield (Yield.move rfl) rfl ?_
              refine OG.guard_yes rfl rfl rfl (by decide) ?_
              refine OG.yield (Yield.move rfl) rfl ?_
              refine OG.guard_yes rfl rfl rfl (by decide) ?_
              refine OG.yield (Yield.fieldAddr fa47_1 rfl) rfl ?_
              refine OG.guard_yes rfl rfl rfl (by decide) ?_
              refine OG.yield (Yield.load ti30 rfl (Cel.of_blk (by repeat (first | exact Ext.here | apply Ext.there)) (by rfl))) rfl ?_
              refine OG.guard_yes rfl rfl rfl (by decide) ?_
              refine OG.yield (Yield.len_slice Try.underlying30 rfl rfl) rfl ?_
              refine OG.guard_yes rfl rfl rfl (by decide) ?_
              refine OG.yield (by first | exact Yield.as (Yield.gtr rfl rfl) (bT (by omega)) | exact Yield.as (Yield.gtr rfl rfl) (bF (by omega)) | exact Yield.gtr rfl rfl) rfl ?_
              refine OG.yield (by first | exact Yield.pick_t rfl rfl | exact Yield.pick_f rfl rfl | exact Yield.pick rfl (fun _ => rfl) (fun _ => rfl)) rfl ?_
              refine OG.yield (Yield.move rfl) rfl ?_
              refine OG.guard_yes rfl rfl rfl (by decide) ?_
              refine OG.yield (Yield.move rfl) rfl ?_
              refine OG.guard_yes rfl rfl rfl (by decide) ?_
              refine OG.yield (Yield.fieldAddr fa47_1 rfl) rfl ?_
              refine OG.guard_yes rfl rfl rfl (by decide) ?_
              refine OG.yield (Yield.load ti30 rfl (Cel.of_blk (by repeat (first | exact Ext.here | apply Ext.there)) (by rfl))) rfl ?_
              refine OG.guard_yes rfl rfl rfl (by decide) ?_
              refine OG.yield (Yield.len_slice Try.underlying30 rfl rfl) rfl ?_
              refine OG.guard_yes rfl rfl rfl (by decide) ?_
              refine OG.yield (by first | exact Yield.as (Yield.lss rfl rfl) (bT (by omega)) | exact Yield.as (Yield.lss rfl rfl) (bF (by omega)) | exact Yield.lss rfl rfl) rfl ?_
              refine OG.guard_yes rfl rfl rfl (by decide) ?_
              refine OG.yield (Yield.move rfl) rfl ?_
              refine OG.guard_no rfl rfl rfl rfl rfl (by decide) (by decide) ?_
              refine OG.guard_no rfl rfl rfl rfl rfl (by decide) (by decide) ?_
              refine OG.guard_no rfl rfl rfl rfl rfl (by decide) (by decide) ?_
              refine OG.guard_no rfl rfl rfl rfl rfl (by decide) (by decide) ?_
              refine OG.guard_yes rfl rfl rfl (by decide) ?_
              refine OG.yield (by first | exact Yield.pick_t rfl rfl | exact Yield.pick_f rfl rfl | exact Yield.pick rfl (fun _ => rfl) (fun _ => rfl)) rfl ?_
              refine OG.yield (by first | exact Yield.pick_t rfl rfl | exact Yield.pick_f rfl rfl | exact Yield.pick rfl (fun _ => rfl) (fun _ => rfl)) rfl ?_
              refine OG.yield (Yield.move rfl) rfl ?_
              refine OG.guard_yes rfl rfl rfl (by decide) ?_
              refine OG.yield (Yield.move rfl) rfl ?_
              refine OG.guard_yes rfl rfl rfl (by decide) ?_
              refine OG.callo call27 rfl ((by repeat (first | exact Imp.refl _ | exact Imp.none _ | apply Imp.pull (by repeat (first | exact Ext.here | apply Ext.there)) | apply Imp.trans Imp.drop))) (in_spec W _) rfl ?_
              rintro ⟨a71, c71⟩ -
              refine OG.guard_yes rfl rfl rfl (by decide) ?_
              refine OG.yield (Yield.toStr Try.underlying30 Try.underlying9 Try.underlying5 rfl (by first | exact SlR.of_osl (by repeat (first | exact Ext.here | apply Ext.there)) | exact SlR.of_osl_eq (by repeat (first | exact Ext.here | apply Ext.there)) rfl rfl | exact SlR.of_osl_eq (by repeat (first | exact Ext.here | apply Ext.there)) rfl (by simp [bytesV, byteV]) | assumption | exact SlAt.old (by assumption) (by repeat (first | exact Ext.here | apply Ext.there)) | exact RdB.slR (by assumption))) rfl ?_
              refine OG.guard_yes rfl rfl rfl (by decide) ?_
              refine OG.yield (Yield.move rfl) rfl ?_
              refine OG.guard_yes rfl rfl rfl (by decide) ?_
              refine OG.yield (by first | exact Yield.str_samen rfl rfl | exact Yield.str_neq rfl rfl) rfl ?_
              refine OG.yield (by first | exact Yield.pick_t rfl rfl | exact Yield.pick_f rfl rfl | exact Yield.pick rfl (fun _ => rfl) (fun _ => rfl)) rfl ?_
              refine OG.nil ?_
              refine QG.then ?_
              refine CG.cond_f rfl ?_
              refine CG.skip ?_
              exact QG.mid () trivial (by repeat (first | exact Env.sub_nil _ | refine Env.sub_cons rfl ?_)) (by repeat (first | exact Imp.refl _ | exact Imp.none _ | apply Imp.pull (by repeat (first | exact Ext.here | apply Ext.there)) | apply Imp.trans Imp.drop))
          rintro ⟨⟩ -
          refine CG.region ?_
          refine OG.yield (Yield.move rfl) rfl ?_
          refine OG.yield (Yield.fieldAddr fa47_1 rfl) rfl ?_
          refine OG.yield (Yield.load ti30 rfl (Cel.of_blk (by repeat (first | exact Ext.here | apply Ext.there)) (by rfl))) rfl ?_
          refine OG.yield (Yield.move rfl) rfl ?_
          refine OG.yield (Yield.as (Yield.slice_hi Try.underlying30 ti5 rfl (Bound.some rfl) (by omega) (by omega)) (v' := .slice op.Ba (op.B.take (64 - s.out.length)).length op.Bc) (by rw [List.length_take, Nat.min_comm]; rfl)) rfl ?_
          refine OG.effd (Eff.appendB rfl rfl rfl Try.underlying30 Try.underlying30 ti5 (by decide) (by repeat (first | exact Foc.here | apply Foc.there)) ((hB.old (by repeat (first | exact Ext.here | apply Ext.there))).takeB _) (by simp; omega)) rfl ?_
          rintro ⟨a81, c81⟩ -
          refine OG.yield (Yield.assign rfl) rfl ?_
          refine OG.nil ?_
          refine QG.block_normal ?_
          refine QG.mid ⟨s.i, s.out ++ op.B.take (64 - s.out.length), s.inn, a81, c81, s.l4 ++ op.B.take (64 - s.out.length), s.a5, s.c5, s.l5, s.a6, s.c6, s.l6, s.a7, s.c7, s.l7⟩ ⟨⟨?_, hi, ?_, li, ?_, by simp only; omega, by simp only; omega, by simp only; omega, h1, h2⟩, rfl⟩ (by repeat (first | exact Env.sub_nil _ | refine Env.sub_cons rfl ?_)) (by repeat (first | exact Imp.refl _ | exact Imp.none _ | apply Imp.pull (by repeat (first | exact Ext.here | apply Ext.there)) | apply Imp.trans Imp.drop))
          · rw [← List.append_assoc, ho]
          · simp; omega
          · simp; omega
        · try replace hc := of_decide_eq_false hc
          refine CG.seq ?_
          refine CG.region ?_
          refine OG.yield (by first | exact Yield.as (Yield.eql rfl rfl) (bT (by omega)) | exact Yield.as (Yield.eql rfl rfl) (bF (by omega)) | exact Yield.eql rfl rfl) rfl ?_
          refine OG.yield (Yield.assign rfl) rfl ?_
          refine OG.nil ?_
          refine QG.then ?_
          refine CG.cond rfl (fun hc => ?_) (fun hc => ?_)
          · try replace hc := of_decide_eq_true hc
            refine CG.seq ?_
            refine CG.region ?_
            refine OG.yield (Yield.move rfl) rfl ?_
            refine OG.yield (Yield.move rfl) rfl ?_
            refine OG.yield (Yield.fieldAddr fa47_2 rfl) rfl ?_
            refine OG.yield (Yield.load ti3 rfl (Cel.of_blk (by repeat (first | exact Ext.here | apply Ext.there)) (by rfl))) rfl ?_
            refine OG.callo call29 rfl ((by repeat (first | exact Imp.refl _ | exact Imp.none _ | apply Imp.pull (by repeat (first | exact Ext.here | apply Ext.there)) | apply Imp.trans Imp.drop))) (readB W _ op.N) rfl ?_
            rintro ⟨a88, c88⟩ -
            refine OG.effd (by first | exact Eff.appendB0 rfl rfl rfl Try.underlying30 Try.underlying30 ti5 (by decide) (by repeat (first | exact Foc.here | apply Foc.there)) (by first | exact SlR.of_osl (by repeat (first | exact Ext.here | apply Ext.there)) | exact SlR.of_osl_eq (by repeat (first | exact Ext.here | apply Ext.there)) rfl rfl | exact SlR.of_osl_eq (by repeat (first | exact Ext.here | apply Ext.there)) rfl (by simp [bytesV, byteV]) | assumption | exact SlAt.old (by assumption) (by repeat (first | exact Ext.here | apply Ext.there)) | exact RdB.slR (by assumption)) (by omega) | exact Eff.appendB rfl rfl rfl Try.underlying30 Try.underlying30 ti5 (by decide) (by repeat (first | exact Foc.here | apply Foc.there)) (by first | exact SlR.of_osl (by repeat (first | exact Ext.here | apply Ext.there)) | exact SlR.of_osl_eq (by repeat (first | exact Ext.here | apply Ext.there)) rfl rfl | exact SlR.of_osl_eq (by repeat (first | exact Ext.here | apply Ext.there)) rfl (by simp [bytesV, byteV]) | assumption | exact SlAt.old (by assumption) (by repeat (first | exact Ext.here | apply Ext.there)) | exact RdB.slR (by assumption)) (by first | omega | (simp only [List.length_append, List.length_cons, List.length_nil, List.length_take, List.length_drop]; omega))) rfl ?_
            rintro ⟨a89, c89⟩ -
            refine OG.yield (Yield.assign rfl) rfl ?_
            refine OG.nil ?_
            refine QG.then ?_
            refine CG.seq ?_
            refine CG.region ?_
            refine OG.yield (Yield.move rfl) rfl ?_
            refine OG.callo call26 rfl ((by repeat (first | exact Imp.refl _ | exact Imp.none _ | apply Imp.pull (by repeat (first | exact Ext.here | apply Ext.there)) | apply Imp.trans Imp.drop))) (out_spec W _) rfl ?_
            rintro ⟨a91, c91⟩ -
            refine OG.yield (Yield.toStr Try.underlying30 Try.underlying9 Try.underlying5 rfl (by first | exact SlR.of_osl (by repeat (first | exact Ext.here | apply Ext.there)) | exact SlR.of_osl_eq (by repeat (first | exact Ext.here | apply Ext.there)) rfl rfl | exact SlR.of_osl_eq (by repeat (first | exact Ext.here | apply Ext.there)) rfl (by simp [bytesV, byteV]) | assumption | exact SlAt.old (by assumption) (by repeat (first | exact Ext.here | apply Ext.there)) | exact RdB.slR (by assumption))) rfl ?_
            refine OG.yield (Yield.move rfl) rfl ?_
            refine OG.yield (by first | exact Yield.str_samen rfl rfl | exact Yield.str_neq rfl rfl) rfl ?_
            refine OG.nil ?_
            refine QG.then ?_
            refine CG.cond_f rfl ?_
            refine CG.skip ?_
            refine QG.block_normal ?_
            have hk := kOf_le op.N s.inn.length
            refine QG.mid ⟨s.i, s.out, s.inn.drop (kOf op.N s.inn.length), s.a4, s.c4, s.l4, s.a5, s.c5, s.l5, s.a6, s.c6, s.l6, a89, c89, s.l7 ++ s.inn.take (kOf op.N s.inn.length)⟩ ⟨⟨ho, ?_, lo, ?_, by simp only; omega, by simp only; omega, by simp only; omega, ?_, h1, h2⟩, rfl⟩ (by repeat (first | exact Env.sub_nil _ | refine Env.sub_cons rfl ?_)) (by repeat (first | exact Imp.refl _ | exact Imp.none _ | apply Imp.pull (by repeat (first | exact Ext.here | apply Ext.there)) | apply Imp.trans Imp.drop))
            · rw [List.append_assoc, List.take_append_drop]; exact hi
            · simp; omega
            · simp; omega
          · try replace hc := of_decide_eq_false hc
            refine CG.seq ?_
            refine CG.region ?_
            refine OG.yield (by first | exact Yield.as (Yield.eql rfl rfl) (bT (by omega)) | exact Yield.as (Yield.eql rfl rfl) (bF (by omega)) | exact Yield.eql rfl rfl) rfl ?_
            refine OG.yield (Yield.assign rfl) rfl ?_
            refine OG.nil ?_
            refine QG.then ?_
            refine CG.cond rfl (fun hc => ?_) (fun hc => ?_)
            · try replace hc := of_decide_eq_true hc
              refine CG.seq ?_
              refine CG.region ?_
              refine OG.yield (Yield.move rfl) rfl ?_
              refine OG.effd (Eff.lit0 Try.underlying30 ti5 rfl) rfl ?_
              rintro b98 -
              refine OG.yield (Yield.fieldAddr fa47_1 rfl) rfl ?_
              refine OG.yield (Yield.load ti30 rfl (Cel.of_blk (by repeat (first | exact Ext.here | apply Ext.there)) (by rfl))) rfl ?_
              refine OG.effd (by first | exact Eff.appendB0 rfl rfl rfl Try.underlying30 Try.underlying30 ti5 (by decide) (by repeat (first | exact Foc.here | apply Foc.there)) (by first | exact SlR.of_osl (by repeat (first | exact Ext.here | apply Ext.there)) | exact SlR.of_osl_eq (by repeat (first | exact Ext.here | apply Ext.there)) rfl rfl | exact SlR.of_osl_eq (by repeat (first | exact Ext.here | apply Ext.there)) rfl (by simp [bytesV, byteV]) | assumption | exact SlAt.old (by assumption) (by repeat (first | exact Ext.here | apply Ext.there)) | exact RdB.slR (by assumption)) (by omega) | exact Eff.appendB rfl rfl rfl Try.underlying30 Try.underlying30 ti5 (by decide) (by repeat (first | exact Foc.here | apply Foc.there)) (by first | exact SlR.of_osl (by repeat (first | exact Ext.here | apply Ext.there)) | exact SlR.of_osl_eq (by repeat (first | exact Ext.here | apply Ext.there)) rfl rfl | exact SlR.of_osl_eq (by repeat (first | exact Ext.here | apply Ext.there)) rfl (by simp [bytesV, byteV]) | assumption | exact SlAt.old (by assumption) (by repeat (first | exact Ext.here | apply Ext.there)) | exact RdB.slR (by assumption)) (by first | omega | (simp only [List.length_append, List.length_cons, List.length_nil, List.length_take, List.length_drop]; omega))) rfl ?_
              rintro ⟨a101, c101⟩ -
              refine OG.callo call30 rfl ((by repeat (first | exact Imp.refl _ | exact Imp.none _ | apply Imp.pull (by repeat (first | exact Ext.here | apply Ext.there)) | apply Imp.trans Imp.drop))) (feedB W _ (ds := op.B) (by first | exact RdB.of_osl (by repeat (first | exact Ext.here | apply Ext.there)) rfl rfl | exact RdB.of_osl (by repeat (first | exact Ext.here | apply Ext.there)) rfl (by simp [bytesV, byteV]) | assumption | exact RdB.of_slR (SlAt.old (by assumption) (by repeat (first | exact Ext.here | apply Ext.there))) (by assumption)) (by omega)) rfl ?_
              rintro ⟨⟩ -
              refine OG.yield (Yield.assign rfl) rfl ?_
              refine OG.nil ?_
              refine QG.then ?_
              refine CG.cut (fun _ : Unit => True) (fun _ => (13, .int .i64 (min op.B.length (64 - s.inn.length) : Nat)) :: (9, .pointer (some ⟨b9, 0, none⟩)) :: St.env (some ⟨b, o, none⟩) ops.length c0 g s) (fun _ => [Con g s.out (s.inn ++ op.B.take (64 - s.inn.length)), blk b9 op.cells 47, oby 5 s.a4 s.c4 s.l4, oby 5 s.a5 s.c5 s.l5, oby 5 s.a6 s.c6 s.l6, oby 5 s.a7 s.c7 s.l7, old W]) ?_ ?_
              · skip
                refine CG.seq ?_
                rcases Nat.lt_or_ge (64 - s.inn.length) op.B.length with hf | hf
                · skip
                  refine CG.region ?_
                  refine OG.yield (Yield.move rfl) rfl ?_
                  refine OG.yield (by first | exact Yield.as (Yield.lss rfl rfl) (bT (by omega)) | exact Yield.as (Yield.lss rfl rfl) (bF (by omega)) | exact Yield.lss rfl rfl) rfl ?_
                  refine OG.yield (Yield.move rfl) rfl ?_
                  refine OG.guard_yes rfl rfl rfl (by decide) ?_
                  refine OG.yield (Yield.move rfl) rfl ?_
                  refine OG.guard_yes rfl rfl rfl (by decide) ?_
                  refine OG.yield (Yield.fieldAddr fa47_1 rfl) rfl ?_
                  refine OG.guard_yes rfl rfl rfl (by decide) ?_
                  refine OG.yield (Yield.load ti30 rfl (Cel.of_blk (by repeat (first | exact Ext.here | apply Ext.there)) (by rfl))) rfl ?_
                  refine OG.guard_yes rfl rfl rfl (by decide) ?_
                  refine OG.yield (Yield.len_slice Try.underlying30 rfl rfl) rfl ?_
                  refine OG.guard_yes rfl rfl rfl (by decide) ?_
                  refine OG.yield (by first | exact Yield.as (Yield.gtr rfl rfl) (bT (by omega)) | exact Yield.as (Yield.gtr rfl rfl) (bF (by omega)) | exact Yield.gtr rfl rfl) rfl ?_
                  refine OG.yield (by first | exact Yield.pick_t rfl rfl | exact Yield.pick_f rfl rfl | exact Yield.pick rfl (fun _ => rfl) (fun _ => rfl)) rfl ?_
                  refine OG.yield (Yield.move rfl) rfl ?_
                  refine OG.guard_yes rfl rfl rfl (by decide) ?_
                  refine OG.yield (Yield.move rfl) rfl ?_
                  refine OG.guard_yes rfl rfl rfl (by decide) ?_
                  refine OG.yield (Yield.fieldAddr fa47_1 rfl) rfl ?_
                  refine OG.guard_yes rfl rfl rfl (by decide) ?_
                  refine OG.yield (Yield.load ti30 rfl (Cel.of_blk (by repeat (first | exact Ext.here | apply Ext.there)) (by rfl))) rfl ?_
                  refine OG.guard_yes rfl rfl rfl (by decide) ?_
                  refine OG.yield (Yield.len_slice Try.underlying30 rfl rfl) rfl ?_
                  refine OG.guard_yes rfl rfl rfl (by decide) ?_
                  refine OG.yield (by first | exact Yield.as (Yield.lss rfl rfl) (bT (by omega)) | exact Yield.as (Yield.lss rfl rfl) (bF (by omega)) | exact Yield.lss rfl rfl) rfl ?_
                  refine OG.guard_yes rfl rfl rfl (by decide) ?_
                  refine OG.yield (Yield.move rfl) rfl ?_
                  refine OG.guard_yes rfl rfl rfl (by decide) ?_
                  refine OG.yield (Yield.move rfl) rfl ?_
                  refine OG.guard_yes rfl rfl rfl (by decide) ?_
                  refine OG.callo call27 rfl ((by repeat (first | exact Imp.refl _ | exact Imp.none _ | apply Imp.pull (by repeat (first | exact Ext.here | apply Ext.there)) | apply Imp.trans Imp.drop))) (in_spec W _) rfl ?_
                  rintro ⟨a120, c120⟩ -
                  refine OG.guard_yes rfl rfl rfl (by decide) ?_
                  refine OG.yield (Yield.len_slice Try.underlying30 rfl rfl) rfl ?_
                  refine OG.guard_yes rfl rfl rfl (by decide) ?_
                  refine OG.yield (Yield.as (Yield.neq rfl rfl) (bF (by simp; omega))) rfl ?_
                  refine OG.guard_yes rfl rfl rfl (by decide) ?_
                  refine OG.yield (by first | exact Yield.pick_t rfl rfl | exact Yield.pick_f rfl rfl | exact Yield.pick rfl (fun _ => rfl) (fun _ => rfl)) rfl ?_
                  refine OG.yield (by first | exact Yield.pick_t rfl rfl | exact Yield.pick_f rfl rfl | exact Yield.pick rfl (fun _ => rfl) (fun _ => rfl)) rfl ?_
                  refine OG.yield (Yield.move rfl) rfl ?_
                  refine OG.guard_yes rfl rfl rfl (by decide) ?_
                  refine OG.yield (Yield.move rfl) rfl ?_
                  refine OG.guard_yes rfl rfl rfl (by decide) ?_
                  refine OG.callo call26 rfl ((by repeat (first | exact Imp.refl _ | exact Imp.none _ | apply Imp.pull (by repeat (first | exact Ext.here | apply Ext.there)) | apply Imp.trans Imp.drop))) (out_spec W _) rfl ?_
                  rintro ⟨a127, c127⟩ -
                  refine OG.guard_yes rfl rfl rfl (by decide) ?_
                  refine OG.yield (Yield.toStr Try.underlying30 Try.underlying9 Try.underlying5 rfl (by first | exact SlR.of_osl (by repeat (first | exact Ext.here | apply Ext.there)) | exact SlR.of_osl_eq (by repeat (first | exact Ext.here | apply Ext.there)) rfl rfl | exact SlR.of_osl_eq (by repeat (first | exact Ext.here | apply Ext.there)) rfl (by simp [bytesV, byteV]) | assumption | exact SlAt.old (by assumption) (by repeat (first | exact Ext.here | apply Ext.there)) | exact RdB.slR (by assumption))) rfl ?_
                  refine OG.guard_yes rfl rfl rfl (by decide) ?_
                  refine OG.yield (Yield.move rfl) rfl ?_
                  refine OG.guard_yes rfl rfl rfl (by decide) ?_
                  refine OG.yield (by first | exact Yield.str_samen rfl rfl | exact Yield.str_neq rfl rfl) rfl ?_
                  refine OG.yield (by first | exact Yield.pick_t rfl rfl | exact Yield.pick_f rfl rfl | exact Yield.pick rfl (fun _ => rfl) (fun _ => rfl)) rfl ?_
                  refine OG.nil ?_
                  refine QG.then ?_
                  refine CG.cond_f rfl ?_
                  refine CG.skip ?_
                  exact QG.mid () trivial (by repeat (first | exact Env.sub_nil _ | refine Env.sub_cons rfl ?_)) (by repeat (first | exact Imp.refl _ | exact Imp.none _ | apply Imp.pull (by repeat (first | exact Ext.here | apply Ext.there)) | apply Imp.trans Imp.drop))
                · skip
                  refine CG.region ?_
                  refine OG.yield (Yield.move rfl) rfl ?_
                  refine OG.yield (by first | exact Yield.as (Yield.lss rfl rfl) (bT (by omega)) | exact Yield.as (Yield.lss rfl rfl) (bF (by omega)) | exact Yield.lss rfl rfl) rfl ?_
                  refine OG.yield (Yield.move rfl) rfl ?_
                  refine OG.guard_yes rfl rfl rfl (by decide) ?_
                  refine OG.yield (Yield.move rfl) rfl ?_
                  refine OG.guard_yes rfl rfl rfl (by decide) ?_
                  refine OG.yield (Yield.fieldAddr fa47_1 rfl) rfl ?_
                  refine OG.guard_yes rfl rfl rfl (by decide) ?_
                  refine OG.yield (Yield.load ti30 rfl (Cel.of_blk (by repeat (first | exact Ext.here | apply Ext.there)) (by rfl))) rfl ?_
                  refine OG.guard_yes rfl rfl rfl (by decide) ?_
                  refine OG.yield (Yield.len_slice Try.underlying30 rfl rfl) rfl ?_
                  refine OG.guard_yes rfl rfl rfl (by decide) ?_
                  refine OG.yield (by first | exact Yield.as (Yield.gtr rfl rfl) (bT (by omega)) | exact Yield.as (Yield.gtr rfl rfl) (bF (by omega)) | exact Yield.gtr rfl rfl) rfl ?_
                  refine OG.yield (by first | exact Yield.pick_t rfl rfl | exact Yield.pick_f rfl rfl | exact Yield.pick rfl (fun _ => rfl) (fun _ => rfl)) rfl ?_
                  refine OG.yield (Yield.move rfl) rfl ?_
                  refine OG.guard_yes rfl rfl rfl (by decide) ?_
                  refine OG.yield (Yield.move rfl) rfl ?_
                  refine OG.guard_yes rfl rfl rfl (by decide) ?_
                  refine OG.yield (Yield.fieldAddr fa47_1 rfl) rfl ?_
                  refine OG.guard_yes rfl rfl rfl (by decide) ?_
                  refine OG.yield (Yield.load ti30 rfl (Cel.of_blk (by repeat (first | exact Ext.here | apply Ext.there)) (by rfl))) rfl ?_
                  refine OG.guard_yes rfl rfl rfl (by decide) ?_
                  refine OG.yield (Yield.len_slice Try.underlying30 rfl rfl) rfl ?_
                  refine OG.guard_yes rfl rfl rfl (by decide) ?_
                  refine OG.yield (by first | exact Yield.as (Yield.lss rfl rfl) (bT (by omega)) | exact Yield.as (Yield.lss rfl rfl) (bF (by omega)) | exact Yield.lss rfl rfl) rfl ?_
                  refine OG.guard_yes rfl rfl rfl (by decide) ?_
                  refine OG.yield (Yield.move rfl) rfl ?_
                  refine OG.guard_no rfl rfl rfl rfl rfl (by decide) (by decide) ?_
                  refine OG.guard_no rfl rfl rfl rfl rfl (by decide) (by decide) ?_
                  refine OG.guard_no rfl rfl rfl rfl rfl (by decide) (by decide) ?_
                  refine OG.guard_no rfl rfl rfl rfl rfl (by decide) (by decide) ?_
                  refine OG.guard_yes rfl rfl rfl (by decide) ?_
                  refine OG.yield (by first | exact Yield.pick_t rfl rfl | exact Yield.pick_f rfl rfl | exact Yield.pick rfl (fun _ => rfl) (fun _ => rfl)) rfl ?_
                  refine OG.yield (by first | exact Yield.pick_t rfl rfl | exact Yield.pick_f rfl rfl | exact Yield.pick rfl (fun _ => rfl) (fun _ => rfl)) rfl ?_
                  refine OG.yield (Yield.move rfl) rfl ?_
                  refine OG.guard_yes rfl rfl rfl (by decide) ?_
                  refine OG.yield (Yield.move rfl) rfl ?_
                  refine OG.guard_yes rfl rfl rfl (by decide) ?_
                  refine OG.callo call26 rfl ((by repeat (first | exact Imp.refl _ | exact Imp.none _ | apply Imp.pull (by repeat (first | exact Ext.here | apply Ext.there)) | apply Imp.trans Imp.drop))) (out_spec W _) rfl ?_
                  rintro ⟨a127, c127⟩ -
                  refine OG.guard_yes rfl rfl rfl (by decide) ?_
                  refine OG.yield (Yield.toStr Try.underlying30 Try.underlying9 Try.underlying5 rfl (by first | exact SlR.of_osl (by repeat (first | exact Ext.here | apply Ext.there)) | exact SlR.of_osl_eq (by repeat (first | exact Ext.here | apply Ext.there)) rfl rfl | exact SlR.of_osl_eq (by repeat (first | exact Ext.here | apply Ext.there)) rfl (by simp [bytesV, byteV]) | assumption | exact SlAt.old (by assumption) (by repeat (first | exact Ext.here | apply Ext.there)) | exact RdB.slR (by assumption))) rfl ?_
                  refine OG.guard_yes rfl rfl rfl (by decide) ?_
                  refine OG.yield (Yield.move rfl) rfl ?_
                  refine OG.guard_yes rfl rfl rfl (by decide) ?_
                  refine OG.yield (by first | exact Yield.str_samen rfl rfl | exact Yield.str_neq rfl rfl) rfl ?_
                  refine OG.yield (by first | exact Yield.pick_t rfl rfl | exact Yield.pick_f rfl rfl | exact Yield.pick rfl (fun _ => rfl) (fun _ => rfl)) rfl ?_
                  refine OG.nil ?_
                  refine QG.then ?_
                  refine CG.cond_f rfl ?_
                  refine CG.skip ?_
                  exact QG.mid () trivial (by repeat (first | exact Env.sub_nil _ | refine Env.sub_cons rfl ?_)) (by repeat (first | exact Imp.refl _ | exact Imp.none _ | apply Imp.pull (by repeat (first | exact Ext.here | apply Ext.there)) | apply Imp.trans Imp.drop))
              rintro ⟨⟩ -
              refine CG.region ?_
              refine OG.yield (Yield.move rfl) rfl ?_
              refine OG.yield (Yield.fieldAddr fa47_1 rfl) rfl ?_
              refine OG.yield (Yield.load ti30 rfl (Cel.of_blk (by repeat (first | exact Ext.here | apply Ext.there)) (by rfl))) rfl ?_
              refine OG.yield (Yield.move rfl) rfl ?_
              refine OG.yield (Yield.as (Yield.slice_hi Try.underlying30 ti5 rfl (Bound.some rfl) (by omega) (by omega)) (v' := .slice op.Ba (op.B.take (64 - s.inn.length)).length op.Bc) (by rw [List.length_take, Nat.min_comm]; rfl)) rfl ?_
              refine OG.effd (Eff.appendB rfl rfl rfl Try.underlying30 Try.underlying30 ti5 (by decide) (by repeat (first | exact Foc.here | apply Foc.there)) ((hB.old (by repeat (first | exact Ext.here | apply Ext.there))).takeB _) (by simp; omega)) rfl ?_
              rintro ⟨a137, c137⟩ -
              refine OG.yield (Yield.assign rfl) rfl ?_
              refine OG.nil ?_
              refine QG.block_normal ?_
              refine QG.mid ⟨s.i, s.out, s.inn ++ op.B.take (64 - s.inn.length), s.a4, s.c4, s.l4, a137, c137, s.l5 ++ op.B.take (64 - s.inn.length), s.a6, s.c6, s.l6, s.a7, s.c7, s.l7⟩ ⟨⟨ho, ?_, lo, ?_, by simp only; omega, ?_, by simp only; omega, by simp only; omega, h1, h2⟩, rfl⟩ (by repeat (first | exact Env.sub_nil _ | refine Env.sub_cons rfl ?_)) (by repeat (first | exact Imp.refl _ | exact Imp.none _ | apply Imp.pull (by repeat (first | exact Ext.here | apply Ext.there)) | apply Imp.trans Imp.drop))
              · rw [← List.append_assoc, hi]
              · simp; omega
              · simp; omega
            · try replace hc := of_decide_eq_false hc
              refine CG.seq ?_
              refine CG.region ?_
              refine OG.yield (by first | exact Yield.as (Yield.eql rfl rfl) (bT (by omega)) | exact Yield.as (Yield.eql rfl rfl) (bF (by omega)) | exact Yield.eql rfl rfl) rfl ?_
              refine OG.yield (Yield.assign rfl) rfl ?_
              refine OG.nil ?_
              refine QG.then ?_
              refine CG.cond rfl (fun hc => ?_) (fun hc => ?_)
              · try replace hc := of_decide_eq_true hc
                refine CG.seq ?_
                refine CG.region ?_
                refine OG.yield (Yield.move rfl) rfl ?_
                refine OG.yield (Yield.move rfl) rfl ?_
                refine OG.callo call31 rfl ((by repeat (first | exact Imp.refl _ | exact Imp.none _ | apply Imp.pull (by repeat (first | exact Ext.here | apply Ext.there)) | apply Imp.trans Imp.drop))) (drain_spec W _) rfl ?_
                rintro ⟨a142, c142⟩ -
                refine OG.effd (by first | exact Eff.appendB0 rfl rfl rfl Try.underlying30 Try.underlying30 ti5 (by decide) (by repeat (first | exact Foc.here | apply Foc.there)) (by first | exact SlR.of_osl (by repeat (first | exact Ext.here | apply Ext.there)) | exact SlR.of_osl_eq (by repeat (first | exact Ext.here | apply Ext.there)) rfl rfl | exact SlR.of_osl_eq (by repeat (first | exact Ext.here | apply Ext.there)) rfl (by simp [bytesV, byteV]) | assumption | exact SlAt.old (by assumption) (by repeat (first | exact Ext.here | apply Ext.there)) | exact RdB.slR (by assumption)) (by omega) | exact Eff.appendB rfl rfl rfl Try.underlying30 Try.underlying30 ti5 (by decide) (by repeat (first | exact Foc.here | apply Foc.there)) (by first | exact SlR.of_osl (by repeat (first | exact Ext.here | apply Ext.there)) | exact SlR.of_osl_eq (by repeat (first | exact Ext.here | apply Ext.there)) rfl rfl | exact SlR.of_osl_eq (by repeat (first | exact Ext.here | apply Ext.there)) rfl (by simp [bytesV, byteV]) | assumption | exact SlAt.old (by assumption) (by repeat (first | exact Ext.here | apply Ext.there)) | exact RdB.slR (by assumption)) (by first | omega | (simp only [List.length_append, List.length_cons, List.length_nil, List.length_take, List.length_drop]; omega))) rfl ?_
                rintro ⟨a143, c143⟩ -
                refine OG.yield (Yield.assign rfl) rfl ?_
                refine OG.nil ?_
                refine QG.then ?_
                refine CG.seq ?_
                refine CG.region ?_
                refine OG.yield (Yield.move rfl) rfl ?_
                refine OG.callo call26 rfl ((by repeat (first | exact Imp.refl _ | exact Imp.none _ | apply Imp.pull (by repeat (first | exact Ext.here | apply Ext.there)) | apply Imp.trans Imp.drop))) (out_spec W _) rfl ?_
                rintro ⟨a145, c145⟩ -
                refine OG.yield (Yield.len_slice Try.underlying30 rfl rfl) rfl ?_
                refine OG.yield (Yield.as (Yield.neq rfl rfl) (bF (by simp))) rfl ?_
                refine OG.yield (Yield.move rfl) rfl ?_
                refine OG.guard_yes rfl rfl rfl (by decide) ?_
                refine OG.yield (Yield.move rfl) rfl ?_
                refine OG.guard_yes rfl rfl rfl (by decide) ?_
                refine OG.callo call27 rfl ((by repeat (first | exact Imp.refl _ | exact Imp.none _ | apply Imp.pull (by repeat (first | exact Ext.here | apply Ext.there)) | apply Imp.trans Imp.drop))) (in_spec W _) rfl ?_
                rintro ⟨a150, c150⟩ -
                refine OG.guard_yes rfl rfl rfl (by decide) ?_
                refine OG.yield (Yield.toStr Try.underlying30 Try.underlying9 Try.underlying5 rfl (by first | exact SlR.of_osl (by repeat (first | exact Ext.here | apply Ext.there)) | exact SlR.of_osl_eq (by repeat (first | exact Ext.here | apply Ext.there)) rfl rfl | exact SlR.of_osl_eq (by repeat (first | exact Ext.here | apply Ext.there)) rfl (by simp [bytesV, byteV]) | assumption | exact SlAt.old (by assumption) (by repeat (first | exact Ext.here | apply Ext.there)) | exact RdB.slR (by assumption))) rfl ?_
                refine OG.guard_yes rfl rfl rfl (by decide) ?_
                refine OG.yield (Yield.move rfl) rfl ?_
                refine OG.guard_yes rfl rfl rfl (by decide) ?_
                refine OG.yield (by first | exact Yield.str_samen rfl rfl | exact Yield.str_neq rfl rfl) rfl ?_
                refine OG.yield (by first | exact Yield.pick_t rfl rfl | exact Yield.pick_f rfl rfl | exact Yield.pick rfl (fun _ => rfl) (fun _ => rfl)) rfl ?_
                refine OG.nil ?_
                refine QG.then ?_
                refine CG.cond_f rfl ?_
                refine CG.skip ?_
                refine QG.block_normal ?_
                refine QG.mid ⟨s.i, [], s.inn, s.a4, s.c4, s.l4, s.a5, s.c5, s.l5, a143, c143, s.l6 ++ s.out, s.a7, s.c7, s.l7⟩ ⟨⟨?_, hi, by simp, li, by simp only; omega, by simp only; omega, ?_, by simp only; omega, h1, h2⟩, rfl⟩ (by repeat (first | exact Env.sub_nil _ | refine Env.sub_cons rfl ?_)) (by repeat (first | exact Imp.refl _ | exact Imp.none _ | apply Imp.pull (by repeat (first | exact Ext.here | apply Ext.there)) | apply Imp.trans Imp.drop))
                · simpa using ho
                · simp; omega
              · try replace hc := of_decide_eq_false hc
                refine CG.skip ?_
                refine QG.block_normal ?_
                exact QG.mid s ⟨⟨ho, hi, lo, li, by omega, by omega, by omega, by omega, h1, h2⟩, rfl⟩ (by repeat (first | exact Env.sub_nil _ | refine Env.sub_cons rfl ?_)) (by repeat (first | exact Imp.refl _ | exact Imp.none _ | apply Imp.pull (by repeat (first | exact Ext.here | apply Ext.there)) | apply Imp.trans Imp.drop))
      clear ho hi lo li b4 b5 b6 b7 im hget h1 h2
      generalize s.i = i0
      clear s
      rintro s ⟨⟨ho, hi, lo, li, b4, b5, b6, b7, im⟩, rfl⟩
      refine CG.seq ?_
      refine CG.draw (.look 0 false (.look 1 false (.look 2 true (.look 6 false (.look 7 false (.eff1 3 (.look 4 true (.look 5 true (.look 8 true (.look 9 true (.look 10 false (.look 11 false (.look 12 true (.look 16 false (.look 17 false (.eff1 13 (.look 14 true (.look 15 true (.look 18 true (.look 19 true (.look 20 true (.look 21 true (.eff1 22 (.look 23 true (.look 24 true (.look 25 true (.look 26 true (.look 27 true (.eff1 28 (.look 29 true (.look 30 true (.look 31 true (.done))))))))))))))))))))))))))))))))) [3, 13, 22, 28] ([oby 5 s.a4 s.c4 s.l4, oby 5 s.a5 s.c5 s.l5, oby 5 s.a6 s.c6 s.l6, oby 5 s.a7 s.c7 s.l7]) mixed (by kernel_rfl) ((by repeat (first | exact Imp.refl _ | exact Imp.none _ | apply Imp.pull (by repeat (first | exact Ext.here | apply Ext.there)) | apply Imp.trans Imp.drop))) ?_
      refine DG.look rfl rfl (Yield.move rfl) rfl ?_
      refine DG.look rfl rfl (Yield.toStr Try.underlying30 Try.underlying9 Try.underlying5 rfl (by first | exact SlR.of_osl (by repeat (first | exact Ext.here | apply Ext.there)) | exact SlR.of_osl_eq (by repeat (first | exact Ext.here | apply Ext.there)) rfl rfl | exact SlR.of_osl_eq (by repeat (first | exact Ext.here | apply Ext.there)) rfl (by simp [bytesV, byteV]) | assumption | exact SlAt.old (by assumption) (by repeat (first | exact Ext.here | apply Ext.there)) | exact RdB.slR (by assumption))) rfl ?_
      refine DG.look rfl rfl (Yield.move rfl) rfl ?_
      refine DG.look rfl rfl (Yield.move rfl) rfl ?_
      refine DG.look rfl rfl (Yield.toStr Try.underlying30 Try.underlying9 Try.underlying5 rfl (by first | exact SlR.of_osl (by repeat (first | exact Ext.here | apply Ext.there)) | exact SlR.of_osl_eq (by repeat (first | exact Ext.here | apply Ext.there)) rfl rfl | exact SlR.of_osl_eq (by repeat (first | exact Ext.here | apply Ext.there)) rfl (by simp [bytesV, byteV]) | assumption | exact SlAt.old (by assumption) (by repeat (first | exact Ext.here | apply Ext.there)) | exact RdB.slR (by assumption))) rfl ?_
      refine DG.eff1 ?_
      refine Chg.callo rfl rfl call26 rfl ((by repeat (first | exact Imp.refl _ | exact Imp.none _ | apply Imp.pull (by repeat (first | exact Ext.here | apply Ext.there)) | apply Imp.trans Imp.drop))) (out_spec W _) rfl (fun _ => (by repeat (first | exact Imp.refl _ | exact Imp.none _ | apply Imp.pull (by repeat (first | exact Ext.here | apply Ext.there)) | apply Imp.trans Imp.drop))) (fun _ => Imp.refl _) ?_
      rintro ⟨a158, c158⟩ -
      refine DG.look rfl rfl (Yield.toStr Try.underlying30 Try.underlying9 Try.underlying5 rfl (by first | exact SlR.of_osl (by repeat (first | exact Ext.here | apply Ext.there)) | exact SlR.of_osl_eq (by repeat (first | exact Ext.here | apply Ext.there)) rfl rfl | exact SlR.of_osl_eq (by repeat (first | exact Ext.here | apply Ext.there)) rfl (by simp [bytesV, byteV]) | assumption | exact SlAt.old (by assumption) (by repeat (first | exact Ext.here | apply Ext.there)) | exact RdB.slR (by assumption))) rfl ?_
      refine DG.look rfl rfl (Yield.str_cat rfl rfl (by first | omega | (simp only [List.length_append, List.length_cons, List.length_nil, List.length_take, List.length_drop]; omega))) rfl ?_
      refine DG.look rfl rfl (Yield.as (Yield.str_neq rfl rfl) (v' := .bool false) (by rw [ho]; simp)) rfl ?_
      refine DG.look rfl rfl (Yield.move rfl) rfl ?_
      refine DG.look rfl rfl (Yield.move rfl) rfl ?_
      refine DG.look rfl rfl (Yield.toStr Try.underlying30 Try.underlying9 Try.underlying5 rfl (by first | exact SlR.of_osl (by repeat (first | exact Ext.here | apply Ext.there)) | exact SlR.of_osl_eq (by repeat (first | exact Ext.here | apply Ext.there)) rfl rfl | exact SlR.of_osl_eq (by repeat (first | exact Ext.here | apply Ext.there)) rfl (by simp [bytesV, byteV]) | assumption | exact SlAt.old (by assumption) (by repeat (first | exact Ext.here | apply Ext.there)) | exact RdB.slR (by assumption))) rfl ?_
      refine DG.look rfl rfl (Yield.move rfl) rfl ?_
      refine DG.look rfl rfl (Yield.move rfl) rfl ?_
      refine DG.look rfl rfl (Yield.toStr Try.underlying30 Try.underlying9 Try.underlying5 rfl (by first | exact SlR.of_osl (by repeat (first | exact Ext.here | apply Ext.there)) | exact SlR.of_osl_eq (by repeat (first | exact Ext.here | apply Ext.there)) rfl rfl | exact SlR.of_osl_eq (by repeat (first | exact Ext.here | apply Ext.there)) rfl (by simp [bytesV, byteV]) | assumption | exact SlAt.old (by assumption) (by repeat (first | exact Ext.here | apply Ext.there)) | exact RdB.slR (by assumption))) rfl ?_
      refine DG.eff1 ?_
      refine Chg.callo rfl rfl call27 rfl ((by repeat (first | exact Imp.refl _ | exact Imp.none _ | apply Imp.pull (by repeat (first | exact Ext.here | apply Ext.there)) | apply Imp.trans Imp.drop))) (in_spec W _) rfl (fun _ => (by repeat (first | exact Imp.refl _ | exact Imp.none _ | apply Imp.pull (by repeat (first | exact Ext.here | apply Ext.there)) | apply Imp.trans Imp.drop))) (fun _ => Imp.refl _) ?_
      rintro ⟨a168, c168⟩ -
      refine DG.look rfl rfl (Yield.toStr Try.underlying30 Try.underlying9 Try.underlying5 rfl (by first | exact SlR.of_osl (by repeat (first | exact Ext.here | apply Ext.there)) | exact SlR.of_osl_eq (by repeat (first | exact Ext.here | apply Ext.there)) rfl rfl | exact SlR.of_osl_eq (by repeat (first | exact Ext.here | apply Ext.there)) rfl (by simp [bytesV, byteV]) | assumption | exact SlAt.old (by assumption) (by repeat (first | exact Ext.here | apply Ext.there)) | exact RdB.slR (by assumption))) rfl ?_
      refine DG.look rfl rfl (Yield.str_cat rfl rfl (by first | omega | (simp only [List.length_append, List.length_cons, List.length_nil, List.length_take, List.length_drop]; omega))) rfl ?_
      refine DG.look rfl rfl (Yield.as (Yield.str_neq rfl rfl) (v' := .bool false) (by rw [hi]; simp)) rfl ?_
      refine DG.look rfl rfl (by first | exact Yield.pick_t rfl rfl | exact Yield.pick_f rfl rfl | exact Yield.pick rfl (fun _ => rfl) (fun _ => rfl)) rfl ?_
      refine DG.look rfl rfl (Yield.move rfl) rfl ?_
      refine DG.look rfl rfl (Yield.move rfl) rfl ?_
      refine DG.eff1 ?_
      refine Chg.callo rfl rfl call26 rfl ((by repeat (first | exact Imp.refl _ | exact Imp.none _ | apply Imp.pull (by repeat (first | exact Ext.here | apply Ext.there)) | apply Imp.trans Imp.drop))) (out_spec W _) rfl (fun _ => (by repeat (first | exact Imp.refl _ | exact Imp.none _ | apply Imp.pull (by repeat (first | exact Ext.here | apply Ext.there)) | apply Imp.trans Imp.drop))) (fun _ => Imp.refl _) ?_
      rintro ⟨a177, c177⟩ -
      refine DG.look rfl rfl (Yield.len_slice Try.underlying30 rfl rfl) rfl ?_
      refine DG.look rfl rfl (by first | exact Yield.as (Yield.gtr rfl rfl) (bT (by omega)) | exact Yield.as (Yield.gtr rfl rfl) (bF (by omega)) | exact Yield.gtr rfl rfl) rfl ?_
      refine DG.look rfl rfl (by first | exact Yield.pick_t rfl rfl | exact Yield.pick_f rfl rfl | exact Yield.pick rfl (fun _ => rfl) (fun _ => rfl)) rfl ?_
      refine DG.look rfl rfl (Yield.move rfl) rfl ?_
      refine DG.look rfl rfl (Yield.move rfl) rfl ?_
      refine DG.eff1 ?_
      refine Chg.callo rfl rfl call27 rfl ((by repeat (first | exact Imp.refl _ | exact Imp.none _ | apply Imp.pull (by repeat (first | exact Ext.here | apply Ext.there)) | apply Imp.trans Imp.drop))) (in_spec W _) rfl (fun _ => (by repeat (first | exact Imp.refl _ | exact Imp.none _ | apply Imp.pull (by repeat (first | exact Ext.here | apply Ext.there)) | apply Imp.trans Imp.drop))) (fun _ => Imp.refl _) ?_
      rintro ⟨a183, c183⟩ -
      refine DG.look rfl rfl (Yield.len_slice Try.underlying30 rfl rfl) rfl ?_
      refine DG.look rfl rfl (by first | exact Yield.as (Yield.gtr rfl rfl) (bT (by omega)) | exact Yield.as (Yield.gtr rfl rfl) (bF (by omega)) | exact Yield.gtr rfl rfl) rfl ?_
      refine DG.look rfl rfl (by first | exact Yield.pick_t rfl rfl | exact Yield.pick_f rfl rfl | exact Yield.pick rfl (fun _ => rfl) (fun _ => rfl)) rfl ?_
      refine DG.done ?_
      refine QG.then ?_
      refine CG.cond_f rfl ?_
      refine CG.skip ?_
      refine QG.block_normal ?_
      refine QG.then ?_
      refine CG.region ?_
      refine OG.yield (Yield.move rfl) rfl ?_
      refine OG.yield (Yield.add rfl rfl (w64 (by omega) (by omega))) rfl ?_
      refine OG.yield (Yield.assign rfl) rfl ?_
      refine OG.nil ?_
      exact QG.next ⟨s.i + 1, s.out, s.inn, s.a4, s.c4, s.l4, s.a5, s.c5, s.l5, s.a6, s.c6, s.l6, s.a7, s.c7, s.l7⟩ ⟨ho, hi, lo, li, b4, b5, b6, b7, by simp only; omega⟩ (by simp only; omega) (by repeat (first | exact Env.sub_nil _ | refine Env.sub_cons rfl ?_)) (by repeat (first | exact Imp.refl _ | exact Imp.none _ | apply Imp.pull (by repeat (first | exact Ext.here | apply Ext.there)) | apply Imp.trans Imp.drop))
    · skip
      refine CG.region ?_
      refine OG.yield (Yield.move rfl) rfl ?_
      refine OG.yield (Yield.move rfl) rfl ?_
      refine OG.yield (Yield.len_slice Try.underlying44 rfl rfl) rfl ?_
      refine OG.yield (by first | exact Yield.as (Yield.lss rfl rfl) (bT (by omega)) | exact Yield.as (Yield.lss rfl rfl) (bF (by omega)) | exact Yield.lss rfl rfl) rfl ?_
      refine OG.yield (Yield.move rfl) rfl ?_
      refine OG.guard_yes rfl rfl rfl (by decide) ?_
      refine OG.yield (Yield.move rfl) rfl ?_
      refine OG.guard_yes rfl rfl rfl (by decide) ?_
      refine OG.yield (by first | exact Yield.as (Yield.lss rfl rfl) (bT (by omega)) | exact Yield.as (Yield.lss rfl rfl) (bF (by omega)) | exact Yield.lss rfl rfl) rfl ?_
      refine OG.yield (by first | exact Yield.pick_t rfl rfl | exact Yield.pick_f rfl rfl | exact Yield.pick rfl (fun _ => rfl) (fun _ => rfl)) rfl ?_
      refine OG.nil ?_
      refine QG.then ?_
      refine CG.cond_f rfl ?_
      refine CG.exit ?_
      refine QG.pass_exit ?_
      refine QG.pass_exit ?_
      refine QG.block_exit ?_
      exact QG.mid s ⟨ho, hi, lo, li, b4, b5, b6, b7, im⟩ (by repeat (first | exact Env.sub_nil _ | refine Env.sub_cons rfl ?_)) (Imp.refl _)
    · skip
      refine CG.region ?_
      refine OG.yield (Yield.move rfl) rfl ?_
      refine OG.yield (Yield.move rfl) rfl ?_
      refine OG.yield (Yield.len_slice Try.underlying44 rfl rfl) rfl ?_
      refine OG.yield (by first | exact Yield.as (Yield.lss rfl rfl) (bT (by omega)) | exact Yield.as (Yield.lss rfl rfl) (bF (by omega)) | exact Yield.lss rfl rfl) rfl ?_
      refine OG.yield (Yield.move rfl) rfl ?_
      refine OG.guard_no rfl rfl rfl rfl rfl (by decide) (by decide) ?_
      refine OG.guard_no rfl rfl rfl rfl rfl (by decide) (by decide) ?_
      refine OG.yield (by first | exact Yield.pick_t rfl rfl | exact Yield.pick_f rfl rfl | exact Yield.pick rfl (fun _ => rfl) (fun _ => rfl)) rfl ?_
      refine OG.nil ?_
      refine QG.then ?_
      refine CG.cond_f rfl ?_
      refine CG.exit ?_
      refine QG.pass_exit ?_
      refine QG.pass_exit ?_
      refine QG.block_exit ?_
      exact QG.mid s ⟨ho, hi, lo, li, b4, b5, b6, b7, im⟩ (by repeat (first | exact Env.sub_nil _ | refine Env.sub_cons rfl ?_)) (Imp.refl _)
  rintro s ⟨ho, hi, lo, li, b4, b5, b6, b7, im⟩
  refine CG.seq ?_
  refine CG.draw (.look 0 false (.look 1 false (.look 2 true (.look 6 false (.look 7 false (.eff1 3 (.look 4 true (.look 5 true (.look 8 true (.look 9 true (.look 10 false (.look 11 false (.look 12 true (.look 16 false (.look 17 false (.eff1 13 (.look 14 true (.look 15 true (.look 18 true (.look 19 true (.look 20 true (.done)))))))))))))))))))))) [3, 13] ([oby 5 s.a4 s.c4 s.l4, oby 5 s.a5 s.c5 s.l5, oby 5 s.a6 s.c6 s.l6, oby 5 s.a7 s.c7 s.l7]) mixed (by kernel_rfl) ((by repeat (first | exact Imp.refl _ | exact Imp.none _ | apply Imp.pull (by repeat (first | exact Ext.here | apply Ext.there)) | apply Imp.trans Imp.drop))) ?_
  refine DG.look rfl rfl (Yield.move rfl) rfl ?_
  refine DG.look rfl rfl (Yield.toStr Try.underlying30 Try.underlying9 Try.underlying5 rfl (by first | exact SlR.of_osl (by repeat (first | exact Ext.here | apply Ext.there)) | exact SlR.of_osl_eq (by repeat (first | exact Ext.here | apply Ext.there)) rfl rfl | exact SlR.of_osl_eq (by repeat (first | exact Ext.here | apply Ext.there)) rfl (by simp [bytesV, byteV]) | assumption | exact SlAt.old (by assumption) (by repeat (first | exact Ext.here | apply Ext.there)) | exact RdB.slR (by assumption))) rfl ?_
  refine DG.look rfl rfl (Yield.move rfl) rfl ?_
  refine DG.look rfl rfl (Yield.move rfl) rfl ?_
  refine DG.look rfl rfl (Yield.toStr Try.underlying30 Try.underlying9 Try.underlying5 rfl (by first | exact SlR.of_osl (by repeat (first | exact Ext.here | apply Ext.there)) | exact SlR.of_osl_eq (by repeat (first | exact Ext.here | apply Ext.there)) rfl rfl | exact SlR.of_osl_eq (by repeat (first | exact Ext.here | apply Ext.there)) rfl (by simp [bytesV, byteV]) | assumption | exact SlAt.old (by assumption) (by repeat (first | exact Ext.here | apply Ext.there)) | exact RdB.slR (by assumption))) rfl ?_
  refine DG.eff1 ?_
  refine Chg.callo rfl rfl call31 rfl ((by repeat (first | exact Imp.refl _ | exact Imp.none _ | apply Imp.pull (by repeat (first | exact Ext.here | apply Ext.there)) | apply Imp.trans Imp.drop))) (drain_spec W _) rfl (fun _ => (by repeat (first | exact Imp.refl _ | exact Imp.none _ | apply Imp.pull (by repeat (first | exact Ext.here | apply Ext.there)) | apply Imp.trans Imp.drop))) (fun _ => Imp.refl _) ?_
  rintro ⟨a190, c190⟩ -
  refine DG.look rfl rfl (Yield.toStr Try.underlying30 Try.underlying9 Try.underlying5 rfl (by first | exact SlR.of_osl (by repeat (first | exact Ext.here | apply Ext.there)) | exact SlR.of_osl_eq (by repeat (first | exact Ext.here | apply Ext.there)) rfl rfl | exact SlR.of_osl_eq (by repeat (first | exact Ext.here | apply Ext.there)) rfl (by simp [bytesV, byteV]) | assumption | exact SlAt.old (by assumption) (by repeat (first | exact Ext.here | apply Ext.there)) | exact RdB.slR (by assumption))) rfl ?_
  refine DG.look rfl rfl (Yield.str_cat rfl rfl (by first | omega | (simp only [List.length_append, List.length_cons, List.length_nil, List.length_take, List.length_drop]; omega))) rfl ?_
  refine DG.look rfl rfl (Yield.as (Yield.str_eql rfl rfl) (v' := .bool true) (by rw [ho]; simp)) rfl ?_
  refine DG.look rfl rfl (Yield.move rfl) rfl ?_
  refine DG.look rfl rfl (Yield.move rfl) rfl ?_
  refine DG.look rfl rfl (Yield.toStr Try.underlying30 Try.underlying9 Try.underlying5 rfl (by first | exact SlR.of_osl (by repeat (first | exact Ext.here | apply Ext.there)) | exact SlR.of_osl_eq (by repeat (first | exact Ext.here | apply Ext.there)) rfl rfl | exact SlR.of_osl_eq (by repeat (first | exact Ext.here | apply Ext.there)) rfl (by simp [bytesV, byteV]) | assumption | exact SlAt.old (by assumption) (by repeat (first | exact Ext.here | apply Ext.there)) | exact RdB.slR (by assumption))) rfl ?_
  refine DG.look rfl rfl (Yield.move rfl) rfl ?_
  refine DG.look rfl rfl (Yield.move rfl) rfl ?_
  refine DG.look rfl rfl (Yield.toStr Try.underlying30 Try.underlying9 Try.underlying5 rfl (by first | exact SlR.of_osl (by repeat (first | exact Ext.here | apply Ext.there)) | exact SlR.of_osl_eq (by repeat (first | exact Ext.here | apply Ext.there)) rfl rfl | exact SlR.of_osl_eq (by repeat (first | exact Ext.here | apply Ext.there)) rfl (by simp [bytesV, byteV]) | assumption | exact SlAt.old (by assumption) (by repeat (first | exact Ext.here | apply Ext.there)) | exact RdB.slR (by assumption))) rfl ?_
  refine DG.eff1 ?_
  refine Chg.callo rfl rfl call29 rfl ((by repeat (first | exact Imp.refl _ | exact Imp.none _ | apply Imp.pull (by repeat (first | exact Ext.here | apply Ext.there)) | apply Imp.trans Imp.drop))) (readAll W _ 64 (by omega)) rfl (fun _ => (by repeat (first | exact Imp.refl _ | exact Imp.none _ | apply Imp.pull (by repeat (first | exact Ext.here | apply Ext.there)) | apply Imp.trans Imp.drop))) (fun _ => Imp.refl _) ?_
  rintro ⟨a200, c200⟩ -
  refine DG.look rfl rfl (Yield.toStr Try.underlying30 Try.underlying9 Try.underlying5 rfl (by first | exact SlR.of_osl (by repeat (first | exact Ext.here | apply Ext.there)) | exact SlR.of_osl_eq (by repeat (first | exact Ext.here | apply Ext.there)) rfl rfl | exact SlR.of_osl_eq (by repeat (first | exact Ext.here | apply Ext.there)) rfl (by simp [bytesV, byteV]) | assumption | exact SlAt.old (by assumption) (by repeat (first | exact Ext.here | apply Ext.there)) | exact RdB.slR (by assumption))) rfl ?_
  refine DG.look rfl rfl (Yield.str_cat rfl rfl (by first | omega | (simp only [List.length_append, List.length_cons, List.length_nil, List.length_take, List.length_drop]; omega))) rfl ?_
  refine DG.look rfl rfl (Yield.as (Yield.str_eql rfl rfl) (v' := .bool true) (by rw [hi]; simp)) rfl ?_
  refine DG.look rfl rfl (by first | exact Yield.pick_t rfl rfl | exact Yield.pick_f rfl rfl | exact Yield.pick rfl (fun _ => rfl) (fun _ => rfl)) rfl ?_
  refine DG.look rfl rfl (Yield.assign rfl) rfl ?_
  refine DG.done ?_
  refine QG.then ?_
  refine CG.ret ?_
  exact QG.ret1 rfl rfl () trivial rfl (by repeat (first | exact Imp.refl _ | exact Imp.none _ | apply Imp.pull (by repeat (first | exact Ext.here | apply Ext.there)) | apply Imp.trans Imp.drop))
end Go.Proofs.Ytmhcdeklfecokaa.vconOrder
namespace Go.Proofs.Ytmhcdeklfecokaa.vconOrder
open Go Go.Sl Go.RowKit Go.Proofs Go.ChangeShapes Go.WideShapes Go.ChangeAt Go.Proofs.Ytmhcdeklfecokaa.T Go.Proofs.Ytmhcdeklfecokaa.Vc
theorem own : ownKnob Try.prog.godebug = none := by kernel_rfl
theorem laid : laidOutB Try.prog = true := by kernel_rfl
set_option maxRecDepth 100000 in
theorem lifted (os : Os) (started : os.Started) (H : Type) (enc : TypeId × Value → H) :
    ReturnsInHanded {} Try.checked os 7 .any (Rows.vconOrderSpec.pre6 enc Try.prog Try.f7 Rows.vconOrderRow.domain false) (Rows.vconOrderSpec.post enc Try.prog Try.f7 false true false false) := by
  refine returnsInHanded_of_change_sized (C := Try.checked) own started (by kernel_rfl) Try.func7
    (ChangeSpec.witness6 (enc := enc) (C := Try.checked) false ⟨#[], #[.slice none 0 0], []⟩ 8 (by kernel_rfl) (by kernel_rfl) (by kernel_rfl) (by kernel_rfl)) ?_
  intro W base args ds gs before hval0 hW hcnd hsz0 _
  have hsz : (DataW.weightsEach Try.prog (Try.f7.params.toList ++ Rows.vconOrderSpec.plain.varTypes Try.prog) (ds ++ gs)).all (· ≤ reachBytes) = true := hsz0
  have hval : ∀ (j : Nat) t v, Try.f7.params[j]? = some t → args[j]? = some v → Value.okWide Try.prog W .any base t v := hval0
  have hW' := hW
  obtain ⟨p, q, hA0, hV, rfl, hfz, hnd⟩ := hW
  have hA : DataW.TrodAll enc Try.prog W 0 (fun _ => true) true Try.f7.params.toList args.toList ds p := hA0
  rw [Try.params7] at hA hval hsz
  obtain ⟨v0, vs0, d0, ds0, p0, q0, hargs, rfl, rfl, h0, r0⟩ := trodAll_cons hA
  obtain ⟨rfl, rfl, rfl⟩ := trodAll_nil r0
  obtain rfl : args = #[v0] := by cases args; simp_all
  obtain ⟨rfl, rfl⟩ := trodVars_none hV
  have k0 := weights_le hsz 0 (t := 44) (d := d0) rfl rfl
  have s0 := Opn.param Try.underlying44 (VOp.list W) (hval 0 44 v0 rfl rfl) h0 k0
  obtain ⟨x0, c0, ops, e0, l0, ok0, s0, m0⟩ := s0
  cases e0
  clear hA0 hval0 hsz0 hsz
  refine ((walk W s0 ok0) W (Sat.start W)).mono fun e W' he => ?_
  obtain ⟨_, _, he, hs⟩ := he
  subst he
  exact ⟨_, rfl, law_post laid (params_ok (by kernel_rfl)) rfl Try.underlying4 hW' rfl rfl (Sat.below (by repeat (first | exact Ext.here | apply Ext.there)) hs)⟩
theorem over : Rows.vconOrderRow.holds Try.pinned (OpenSpec.ofChange Rows.vconOrderSpec) :=
  OpenClaim.holds_of_wide 7 Try.f7 rfl rfl rfl rfl rfl rfl rfl ⟨rfl, rfl, rfl, rfl, rfl⟩ rfl rfl rfl rfl rfl (by kernel_rfl) Try.func7 (by kernel_rfl)
    (of_decide_eq_true (by kernel_rfl)) (by unfold Func.isWrapper; first | (rw [if_pos (by decide +kernel)]; kernel_rfl) | (rw [if_neg (by decide +kernel)]; exact ⟨rfl, rfl⟩))
    (fun os started H enc _ => lifted os started H enc)
theorem proved : Rows.VconOrderSaid := over
#print axioms proved
end Go.Proofs.Ytmhcdeklfecokaa.vconOrder
