/- VconPlays: whatever the operations, the console answers as the reference does: the law returns true and changes nothing that was there. -/
import Derived.Test.YtmhcdeklfecokaaVops
import Derived.Test.YtmhcdeklfecokaaVref
import Derived.Test.YtmhcdeklfecokaaSpoil19
import Derived.Test.YtmhcdeklfecokaaRows
namespace Go.Proofs.Ytmhcdeklfecokaa.vconPlays
open Go Go.Sl Go.RowKit Go.Proofs Go.Proofs.Ytmhcdeklfecokaa.T Go.Proofs.Ytmhcdeklfecokaa.Vc Go.Proofs.Ytmhcdeklfecokaa.Sp
set_option linter.unusedVariables false
set_option linter.unusedSimpArgs false
set_option maxRecDepth 100000

/-- What the loop carries. -/
structure St where
  i : Nat
  g : Nat
  out : List UInt8
  inn : List UInt8
def St.env (a0 : Option Addr) (m c0 r : Nat) (s : St) : Env := [(0, .slice a0 m c0), (3, .pointer (some ⟨s.g, 0, none⟩)), (4, .pointer (some ⟨r, 0, none⟩)), (5, .int .i64 s.i)]
abbrev St.G (W : World) (r : Nat) (s : St) : List HProp := [Con s.g s.out s.inn, Rc r s.out s.inn, old W]
structure St.OK (m : Nat) (s : St) : Prop where
  lo : s.out.length ≤ 64
  li : s.inn.length ≤ 64
  im : s.i ≤ m ∧ s.i ≤ 200

set_option maxHeartbeats 4000000 in
theorem walk (W : World) {a0 : Option Addr} {c0 : Nat} {ops : List VOp} (hops : SlAt W 3 a0 ops.length ((ops.map VOp.cells).flatten)) (hok : ∀ o ∈ ops, o.OK W) :
    Ctr Try.prog W 9 [.slice a0 ops.length c0] [old W] (fun _ : Unit => True) (fun _ => .bool true) (fun _ => [old W]) := by
  refine Ctr.of_body Try.func9 rfl Try.ntmps9 rfl ?_
  refine CG.seq ?_
  refine CG.region ?_
  refine OG.yield (Yield.assign rfl) rfl ?_
  refine OG.nil ?_
  refine QG.then ?_
  refine CG.seq ?_
  refine CG.region ?_
  refine OG.callo call25 rfl ((by repeat (first | exact Imp.refl _ | exact Imp.none _ | apply Imp.pull (by repeat (first | exact Ext.here | apply Ext.there)) | apply Imp.trans Imp.drop))) (new_spec W _) rfl ?_
  rintro g -
  refine OG.callo call32 rfl ((by repeat (first | exact Imp.refl _ | exact Imp.none _ | apply Imp.pull (by repeat (first | exact Ext.here | apply Ext.there)) | apply Imp.trans Imp.drop))) (rnew_spec W _) rfl ?_
  rintro r -
  refine OG.yield (Yield.assign rfl) rfl ?_
  refine OG.yield (Yield.assign rfl) rfl ?_
  refine OG.nil ?_
  refine QG.then ?_
  refine CG.seq ?_
  refine CG.seq ?_
  refine CG.region ?_
  refine OG.yield (Yield.move rfl) rfl ?_
  refine OG.yield (by first | exact Yield.ptr_nil Try.underlying45 rfl rfl | exact Yield.nil_nil Try.underlying45 rfl rfl) rfl ?_
  refine OG.nil ?_
  refine QG.then ?_
  refine CG.cond_f rfl ?_
  refine CG.skip ?_
  refine QG.then ?_
  refine CG.cut (fun s : St => s.OK ops.length) (St.env a0 ops.length c0 r) (St.G W r) ?_ ?_
  · skip
    refine CG.seq ?_
    refine CG.region ?_
    refine OG.yield (Yield.assign rfl) rfl ?_
    refine OG.nil ?_
    refine QG.then ?_
    refine CG.block ?_
    refine CG.loop (fun s : St => s.OK ops.length) (St.env a0 ops.length c0 r) (St.G W r) (fun s => ops.length - s.i) ⟨0, g, [], []⟩ ⟨by simp, by simp, by simp⟩ (by repeat (first | exact Env.sub_nil _ | refine Env.sub_cons rfl ?_)) (by repeat (first | exact Imp.refl _ | exact Imp.none _ | apply Imp.pull (by repeat (first | exact Ext.here | apply Ext.there)) | apply Imp.trans Imp.drop)) ?_
    rintro s ⟨lo, li, im⟩
    unfold St.env
    refine CG.seq ?_
    refine CG.seq ?_
    rcases loop_head (s.i) (ops.length) 200 with hh | hh | hh
    · skip
      refine CG.region ?_
      refine OG.yield (Yield.move rfl) rfl ?_
      refine OG.yield (Yield.move rfl) rfl ?_
      refine OG.yield (Yield.len_slice Try.underlying44 rfl rfl) rfl ?_
      refine OG.yield (by first | exact Yield.as (Yield.lss rfl rfl) (bT (by omega)) | exact Yield.as (Yield.lss rfl rfl) (bF (by omega)) | exact Yield.lss rfl rfl) rfl ?_
      refine OG.yield (Yield.move rfl) rfl ?_
      refine OG.guard_yes rfl rfl rfl (by decide) ?_
      refine OG.yield (Yield.move rfl) rfl ?_
      refine OG.guard_yes rfl rfl rfl (by decide) ?_
      refine OG.yield (by first | exact Yield.as (Yield.lss rfl rfl) (bT (by omega)) | exact Yield.as (Yield.lss rfl rfl) (bF (by omega)) | exact Yield.lss rfl rfl) rfl ?_
      refine OG.yield (by first | exact Yield.pick_t rfl rfl | exact Yield.pick_f rfl rfl | exact Yield.pick rfl (fun _ => rfl) (fun _ => rfl)) rfl ?_
      refine OG.nil ?_
      refine QG.then ?_
      refine CG.cond_t rfl ?_
      refine CG.skip ?_
      refine QG.then ?_
      refine CG.seq ?_
      refine CG.block ?_
      refine CG.seq ?_
      obtain ⟨h1, h2⟩ := hh
      have hget : ops[s.i]? = some ops[s.i] := by simp [h1]
      have hko := hok ops[s.i] (List.getElem_mem h1)
      generalize ops[s.i] = op at hget hko
      have hBc := hko.Bc
      have hB := hko.B
      have hBm := hko.Bm
      unfold reachBytes at hBm
      refine CG.pure (fun w hw => (hops.old (G := St.G W r s) (by repeat (first | exact Ext.here | apply Ext.there))).elem_shape VOp.len (by decide) h1 w hw) ?_
      rintro ⟨b, o, rfl⟩
      refine CG.region ?_
      refine OG.yield (Yield.move rfl) rfl ?_
      refine OG.yield (Yield.move rfl) rfl ?_
      refine OG.yield (Yield.index_slice Try.underlying44 ti47 rfl rfl (by omega) (by omega)) rfl ?_
      refine OG.yield (Yield.load_agg ti47 rfl (VOp.len op) ((hops.old (by repeat (first | exact Ext.here | apply Ext.there))).elem VOp.len hget)) rfl ?_
      refine OG.effd (Eff.alloc ti47) rfl ?_
      rintro b6 -
      refine OG.eff (Eff.storeAll ti47 rfl rfl (by repeat (first | exact Foc.here | apply Foc.there)) (VOp.len op) (VOp.ones op) rfl) rfl ?_
      rintro ⟨⟩ -
      refine OG.nil ?_
      refine QG.then ?_
      refine CG.seq ?_
      refine CG.region ?_
      refine OG.effd (Eff.lit0 Try.underlying30 ti5 rfl) rfl ?_
      rintro b32 -
      refine OG.yield (Yield.fieldAddr fa47_1 rfl) rfl ?_
      refine OG.yield (Yield.load ti30 rfl (Cel.of_blk (by repeat (first | exact Ext.here | apply Ext.there)) (by rfl))) rfl ?_
      refine OG.effd (by first | exact Eff.appendB0 rfl rfl rfl Try.underlying30 Try.underlying30 ti5 (by decide) (by repeat (first | exact Foc.here | apply Foc.there)) (by first | exact SlR.of_osl (by repeat (first | exact Ext.here | apply Ext.there)) | exact SlR.of_osl_eq (by repeat (first | exact Ext.here | apply Ext.there)) rfl rfl | exact SlR.of_osl_eq (by repeat (first | exact Ext.here | apply Ext.there)) rfl (by simp [bytesV, byteV]) | assumption | exact SlAt.old (by assumption) (by repeat (first | exact Ext.here | apply Ext.there)) | exact RdB.slR (by assumption)) (by omega) | exact Eff.appendB rfl rfl rfl Try.underlying30 Try.underlying30 ti5 (by decide) (by repeat (first | exact Foc.here | apply Foc.there)) (by first | exact SlR.of_osl (by repeat (first | exact Ext.here | apply Ext.there)) | exact SlR.of_osl_eq (by repeat (first | exact Ext.here | apply Ext.there)) rfl rfl | exact SlR.of_osl_eq (by repeat (first | exact Ext.here | apply Ext.there)) rfl (by simp [bytesV, byteV]) | assumption | exact SlAt.old (by assumption) (by repeat (first | exact Ext.here | apply Ext.there)) | exact RdB.slR (by assumption)) (by first | omega | (simp only [List.length_append, List.length_cons, List.length_nil, List.length_take, List.length_drop]; omega))) rfl ?_
      rintro ⟨a35, c35⟩ -
      refine OG.yield (Yield.assign rfl) rfl ?_
      refine OG.nil ?_
      refine QG.then ?_
      refine CG.seq ?_
      refine CG.region ?_
      refine OG.yield (Yield.assign rfl) rfl ?_
      refine OG.nil ?_
      refine QG.then ?_
      refine CG.cut (fun s' : St => s'.OK ops.length ∧ s'.i = s.i) (fun s' => (6, .pointer (some ⟨b6, 0, none⟩)) :: (7, .slice a35 op.B.length c35) :: (8, .bool true) :: St.env (some ⟨b, o, none⟩) ops.length c0 r s') (fun s' => blk b6 op.cells 47 :: oby 5 a35 c35 op.B :: St.G W r s') ?_ ?_
      · skip
        refine CG.seq ?_
        refine CG.region ?_
        refine OG.yield (Yield.fieldAddr fa47_0 rfl) rfl ?_
        refine OG.yield (Yield.load ti3 rfl (Cel.of_blk (by repeat (first | exact Ext.here | apply Ext.there)) (by rfl))) rfl ?_
        refine OG.nil ?_
        refine QG.then ?_
        refine CG.block ?_
        refine CG.seq ?_
        refine CG.region ?_
        refine OG.yield (by first | exact Yield.as (Yield.eql rfl rfl) (bT (by omega)) | exact Yield.as (Yield.eql rfl rfl) (bF (by omega)) | exact Yield.eql rfl rfl) rfl ?_
        refine OG.yield (Yield.assign rfl) rfl ?_
        refine OG.nil ?_
        refine QG.then ?_
        refine CG.cond rfl (fun hc => ?_) (fun hc => ?_)
        · try replace hc := of_decide_eq_true hc
          refine CG.draw (.look 0 1 (.look 1 1 (.look 3 0 (.look 4 0 (.look 5 0 (.eff1 2 false (.eff1 6 false (.look 7 1 (.look 8 1 (.done)))))))))) [2, 6] [] ([blk b6 op.cells 47]) ([]) mixed (by kernel_rfl) ((by repeat (first | exact Imp.refl _ | exact Imp.none _ | apply Imp.pull (by repeat (first | exact Ext.here | apply Ext.there)) | apply Imp.trans Imp.drop))) (Imp.none _) ?_
          refine DG.look rfl rfl (Yield.move rfl) rfl ?_
          refine DG.look rfl rfl (Yield.move rfl) rfl ?_
          refine DG.look rfl rfl (Yield.move rfl) rfl ?_
          refine DG.look rfl rfl (Yield.fieldAddr fa47_1 rfl) rfl ?_
          refine DG.look rfl rfl (Yield.load ti30 rfl (Cel.of_blk (by repeat (first | exact Ext.here | apply Ext.there)) (by rfl))) rfl ?_
          refine DG.eff1 ?_
          refine Chg.callo rfl rfl call28 rfl ((by repeat (first | exact Imp.refl _ | exact Imp.none _ | apply Imp.pull (by repeat (first | exact Ext.here | apply Ext.there)) | apply Imp.trans Imp.drop))) (writeB W _ (ds := op.B) (by first | exact RdB.of_osl (by repeat (first | exact Ext.here | apply Ext.there)) rfl rfl | exact RdB.of_osl (by repeat (first | exact Ext.here | apply Ext.there)) rfl (by simp [bytesV, byteV]) | assumption | exact RdB.of_slR (SlAt.old (by assumption) (by repeat (first | exact Ext.here | apply Ext.there))) (by assumption)) (by omega)) rfl (fun _ => (by repeat (first | exact Imp.refl _ | exact Imp.none _ | apply Imp.pull (by repeat (first | exact Ext.here | apply Ext.there)) | apply Imp.trans Imp.drop))) (fun _ => Imp.refl _) (fun _ => (by repeat (first | exact Imp.refl _ | exact Imp.none _ | apply Imp.pull (by repeat (first | exact Ext.here | apply Ext.there)) | apply Imp.trans Imp.drop))) ?_
          rintro ⟨⟩ -
          refine DG.eff1 ?_
          refine Chg.callo rfl rfl call33 rfl ((by repeat (first | exact Imp.refl _ | exact Imp.none _ | apply Imp.pull (by repeat (first | exact Ext.here | apply Ext.there)) | apply Imp.trans Imp.drop))) (rwrite_spec W _ (ds := op.B) (by first | exact RdB.of_osl (by repeat (first | exact Ext.here | apply Ext.there)) rfl rfl | exact RdB.of_osl (by repeat (first | exact Ext.here | apply Ext.there)) rfl (by simp [bytesV, byteV]) | assumption | exact RdB.of_slR (SlAt.old (by assumption) (by repeat (first | exact Ext.here | apply Ext.there))) (by assumption)) (by omega) lo) rfl (fun _ => (by repeat (first | exact Imp.refl _ | exact Imp.none _ | apply Imp.pull (by repeat (first | exact Ext.here | apply Ext.there)) | apply Imp.trans Imp.drop))) (fun _ => Imp.refl _) (fun _ => (by repeat (first | exact Imp.refl _ | exact Imp.none _ | apply Imp.pull (by repeat (first | exact Ext.here | apply Ext.there)) | apply Imp.trans Imp.drop))) ?_
          rintro ⟨⟩ -
          refine DG.look rfl rfl (by first | exact Yield.as (Yield.eql rfl rfl) (bT (by omega)) | exact Yield.as (Yield.eql rfl rfl) (bF (by omega)) | exact Yield.eql rfl rfl) rfl ?_
          refine DG.look rfl rfl (Yield.assign rfl) rfl ?_
          refine DG.done ?_
          refine QG.block_normal ?_
          refine QG.mid ⟨s.i, s.g, s.out ++ op.B.take (64 - s.out.length), s.inn⟩ ⟨⟨?_, li, im⟩, rfl⟩ (by repeat (first | exact Env.sub_nil _ | refine Env.sub_cons rfl ?_)) (by repeat (first | exact Imp.refl _ | exact Imp.none _ | apply Imp.pull (by repeat (first | exact Ext.here | apply Ext.there)) | apply Imp.trans Imp.drop))
          simp; omega
        · try replace hc := of_decide_eq_false hc
          refine CG.seq ?_
          refine CG.region ?_
          refine OG.yield (by first | exact Yield.as (Yield.eql rfl rfl) (bT (by omega)) | exact Yield.as (Yield.eql rfl rfl) (bF (by omega)) | exact Yield.eql rfl rfl) rfl ?_
          refine OG.yield (Yield.assign rfl) rfl ?_
          refine OG.nil ?_
          refine QG.then ?_
          refine CG.cond rfl (fun hc => ?_) (fun hc => ?_)
          · try replace hc := of_decide_eq_true hc
            refine CG.seq ?_
            refine CG.region ?_
            refine OG.yield (Yield.move rfl) rfl ?_
            refine OG.yield (Yield.fieldAddr fa47_2 rfl) rfl ?_
            refine OG.yield (Yield.load ti3 rfl (Cel.of_blk (by repeat (first | exact Ext.here | apply Ext.there)) (by rfl))) rfl ?_
            refine OG.callo call29 rfl ((by repeat (first | exact Imp.refl _ | exact Imp.none _ | apply Imp.pull (by repeat (first | exact Ext.here | apply Ext.there)) | apply Imp.trans Imp.drop))) (readB W _ op.N) rfl ?_
            rintro ⟨a68, c68⟩ -
            have hk := kOf_le op.N s.inn.length
            refine OG.yield (Yield.assign rfl) rfl ?_
            refine OG.nil ?_
            refine QG.then ?_
            refine CG.seq ?_
            refine CG.draw (.look 0 0 (.look 1 0 (.look 2 1 (.look 3 1 (.look 4 1 (.eff1 5 false (.look 6 1 (.look 7 1 (.look 8 1 (.done)))))))))) [5] [] ([oby 5 a68 c68 (s.inn.take (kOf op.N s.inn.length))]) ([]) mixed (by kernel_rfl) ((by repeat (first | exact Imp.refl _ | exact Imp.none _ | apply Imp.pull (by repeat (first | exact Ext.here | apply Ext.there)) | apply Imp.trans Imp.drop))) (Imp.none _) ?_
            refine DG.look rfl rfl (Yield.move rfl) rfl ?_
            refine DG.look rfl rfl (Yield.toStr Try.underlying30 Try.underlying9 Try.underlying5 rfl (by first | exact SlR.of_osl (by repeat (first | exact Ext.here | apply Ext.there)) | exact SlR.of_osl_eq (by repeat (first | exact Ext.here | apply Ext.there)) rfl rfl | exact SlR.of_osl_eq (by repeat (first | exact Ext.here | apply Ext.there)) rfl (by simp [bytesV, byteV]) | assumption | exact SlAt.old (by assumption) (by repeat (first | exact Ext.here | apply Ext.there)) | exact RdB.slR (by assumption))) rfl ?_
            refine DG.look rfl rfl (Yield.move rfl) rfl ?_
            refine DG.look rfl rfl (Yield.fieldAddr fa47_2 rfl) rfl ?_
            refine DG.look rfl rfl (Yield.load ti3 rfl (Cel.of_blk (by repeat (first | exact Ext.here | apply Ext.there)) (by rfl))) rfl ?_
            refine DG.eff1 ?_
            refine Chg.callo rfl rfl call34 rfl ((by repeat (first | exact Imp.refl _ | exact Imp.none _ | apply Imp.pull (by repeat (first | exact Ext.here | apply Ext.there)) | apply Imp.trans Imp.drop))) (rread_spec W _ op.N (kOf op.N s.inn.length) (by unfold kOf; omega) li) rfl (fun _ => (by repeat (first | exact Imp.refl _ | exact Imp.none _ | apply Imp.pull (by repeat (first | exact Ext.here | apply Ext.there)) | apply Imp.trans Imp.drop))) (fun _ => Imp.refl _) (fun _ => (by repeat (first | exact Imp.refl _ | exact Imp.none _ | apply Imp.pull (by repeat (first | exact Ext.here | apply Ext.there)) | apply Imp.trans Imp.drop))) ?_
            rintro ⟨a74, c74⟩ -
            refine DG.look rfl rfl (Yield.toStr Try.underlying30 Try.underlying9 Try.underlying5 rfl (by first | exact SlR.of_osl (by repeat (first | exact Ext.here | apply Ext.there)) | exact SlR.of_osl_eq (by repeat (first | exact Ext.here | apply Ext.there)) rfl rfl | exact SlR.of_osl_eq (by repeat (first | exact Ext.here | apply Ext.there)) rfl (by simp [bytesV, byteV]) | assumption | exact SlAt.old (by assumption) (by repeat (first | exact Ext.here | apply Ext.there)) | exact RdB.slR (by assumption))) rfl ?_
            refine DG.look rfl rfl (by first | exact Yield.str_same rfl rfl | exact Yield.str_eql rfl rfl) rfl ?_
            refine DG.look rfl rfl (Yield.assign rfl) rfl ?_
            refine DG.done ?_
            refine QG.then ?_
            refine CG.region ?_
            refine OG.yield (Yield.move rfl) rfl ?_
            refine OG.callo call35 rfl ((by repeat (first | exact Imp.refl _ | exact Imp.none _ | apply Imp.pull (by repeat (first | exact Ext.here | apply Ext.there)) | apply Imp.trans Imp.drop))) (spoil_spec W _ (by simp; omega)) rfl ?_
            rintro ⟨⟩ -
            refine OG.nil ?_
            refine QG.block_normal ?_
            refine QG.mid ⟨s.i, s.g, s.out, s.inn.drop (kOf op.N s.inn.length)⟩ ⟨⟨lo, ?_, im⟩, rfl⟩ (by repeat (first | exact Env.sub_nil _ | refine Env.sub_cons rfl ?_)) (by repeat (first | exact Imp.refl _ | exact Imp.none _ | apply Imp.pull (by repeat (first | exact Ext.here | apply Ext.there)) | apply Imp.trans Imp.drop))
            simp; omega
          · try replace hc := of_decide_eq_false hc
            refine CG.seq ?_
            refine CG.region ?_
            refine OG.yield (by first | exact Yield.as (Yield.eql rfl rfl) (bT (by omega)) | exact Yield.as (Yield.eql rfl rfl) (bF (by omega)) | exact Yield.eql rfl rfl) rfl ?_
            refine OG.yield (Yield.assign rfl) rfl ?_
            refine OG.nil ?_
            refine QG.then ?_
            refine CG.cond rfl (fun hc => ?_) (fun hc => ?_)
            · try replace hc := of_decide_eq_true hc
              refine CG.draw (.look 0 1 (.look 1 1 (.look 3 0 (.look 4 0 (.look 5 0 (.eff1 2 false (.eff1 6 false (.look 7 1 (.look 8 1 (.done)))))))))) [2, 6] [] ([blk b6 op.cells 47]) ([]) mixed (by kernel_rfl) ((by repeat (first | exact Imp.refl _ | exact Imp.none _ | apply Imp.pull (by repeat (first | exact Ext.here | apply Ext.there)) | apply Imp.trans Imp.drop))) (Imp.none _) ?_
              refine DG.look rfl rfl (Yield.move rfl) rfl ?_
              refine DG.look rfl rfl (Yield.move rfl) rfl ?_
              refine DG.look rfl rfl (Yield.move rfl) rfl ?_
              refine DG.look rfl rfl (Yield.fieldAddr fa47_1 rfl) rfl ?_
              refine DG.look rfl rfl (Yield.load ti30 rfl (Cel.of_blk (by repeat (first | exact Ext.here | apply Ext.there)) (by rfl))) rfl ?_
              refine DG.eff1 ?_
              refine Chg.callo rfl rfl call30 rfl ((by repeat (first | exact Imp.refl _ | exact Imp.none _ | apply Imp.pull (by repeat (first | exact Ext.here | apply Ext.there)) | apply Imp.trans Imp.drop))) (feedB W _ (ds := op.B) (by first | exact RdB.of_osl (by repeat (first | exact Ext.here | apply Ext.there)) rfl rfl | exact RdB.of_osl (by repeat (first | exact Ext.here | apply Ext.there)) rfl (by simp [bytesV, byteV]) | assumption | exact RdB.of_slR (SlAt.old (by assumption) (by repeat (first | exact Ext.here | apply Ext.there))) (by assumption)) (by omega)) rfl (fun _ => (by repeat (first | exact Imp.refl _ | exact Imp.none _ | apply Imp.pull (by repeat (first | exact Ext.here | apply Ext.there)) | apply Imp.trans Imp.drop))) (fun _ => Imp.refl _) (fun _ => (by repeat (first | exact Imp.refl _ | exact Imp.none _ | apply Imp.pull (by repeat (first | exact Ext.here | apply Ext.there)) | apply Imp.trans Imp.drop))) ?_
              rintro ⟨⟩ -
              refine DG.eff1 ?_
              refine Chg.callo rfl rfl call36 rfl ((by repeat (first | exact Imp.refl _ | exact Imp.none _ | apply Imp.pull (by repeat (first | exact Ext.here | apply Ext.there)) | apply Imp.trans Imp.drop))) (rfeed_spec W _ (ds := op.B) (by first | exact RdB.of_osl (by repeat (first | exact Ext.here | apply Ext.there)) rfl rfl | exact RdB.of_osl (by repeat (first | exact Ext.here | apply Ext.there)) rfl (by simp [bytesV, byteV]) | assumption | exact RdB.of_slR (SlAt.old (by assumption) (by repeat (first | exact Ext.here | apply Ext.there))) (by assumption)) (by omega) li) rfl (fun _ => (by repeat (first | exact Imp.refl _ | exact Imp.none _ | apply Imp.pull (by repeat (first | exact Ext.here | apply Ext.there)) | apply Imp.trans Imp.drop))) (fun _ => Imp.refl _) (fun _ => (by repeat (first | exact Imp.refl _ | exact Imp.none _ | apply Imp.pull (by repeat (first | exact Ext.here | apply Ext.there)) | apply Imp.trans Imp.drop))) ?_
              rintro ⟨⟩ -
              refine DG.look rfl rfl (by first | exact Yield.as (Yield.eql rfl rfl) (bT (by omega)) | exact Yield.as (Yield.eql rfl rfl) (bF (by omega)) | exact Yield.eql rfl rfl) rfl ?_
              refine DG.look rfl rfl (Yield.assign rfl) rfl ?_
              refine DG.done ?_
              refine QG.block_normal ?_
              refine QG.mid ⟨s.i, s.g, s.out, s.inn ++ op.B.take (64 - s.inn.length)⟩ ⟨⟨lo, ?_, im⟩, rfl⟩ (by repeat (first | exact Env.sub_nil _ | refine Env.sub_cons rfl ?_)) (by repeat (first | exact Imp.refl _ | exact Imp.none _ | apply Imp.pull (by repeat (first | exact Ext.here | apply Ext.there)) | apply Imp.trans Imp.drop))
              simp; omega
            · try replace hc := of_decide_eq_false hc
              refine CG.seq ?_
              refine CG.region ?_
              refine OG.yield (by first | exact Yield.as (Yield.eql rfl rfl) (bT (by omega)) | exact Yield.as (Yield.eql rfl rfl) (bF (by omega)) | exact Yield.eql rfl rfl) rfl ?_
              refine OG.yield (Yield.assign rfl) rfl ?_
              refine OG.nil ?_
              refine QG.then ?_
              refine CG.cond rfl (fun hc => ?_) (fun hc => ?_)
              · try replace hc := of_decide_eq_true hc
                refine CG.seq ?_
                refine CG.region ?_
                refine OG.yield (Yield.move rfl) rfl ?_
                refine OG.callo call31 rfl ((by repeat (first | exact Imp.refl _ | exact Imp.none _ | apply Imp.pull (by repeat (first | exact Ext.here | apply Ext.there)) | apply Imp.trans Imp.drop))) (drain_spec W _) rfl ?_
                rintro ⟨a92, c92⟩ -
                refine OG.yield (Yield.assign rfl) rfl ?_
                refine OG.nil ?_
                refine QG.then ?_
                refine CG.seq ?_
                refine CG.draw (.look 0 0 (.look 1 0 (.look 2 1 (.eff1 3 false (.look 4 1 (.look 5 1 (.look 6 1 (.done)))))))) [3] [] ([oby 5 a92 c92 s.out]) ([]) mixed (by kernel_rfl) ((by repeat (first | exact Imp.refl _ | exact Imp.none _ | apply Imp.pull (by repeat (first | exact Ext.here | apply Ext.there)) | apply Imp.trans Imp.drop))) (Imp.none _) ?_
                refine DG.look rfl rfl (Yield.move rfl) rfl ?_
                refine DG.look rfl rfl (Yield.toStr Try.underlying30 Try.underlying9 Try.underlying5 rfl (by first | exact SlR.of_osl (by repeat (first | exact Ext.here | apply Ext.there)) | exact SlR.of_osl_eq (by repeat (first | exact Ext.here | apply Ext.there)) rfl rfl | exact SlR.of_osl_eq (by repeat (first | exact Ext.here | apply Ext.there)) rfl (by simp [bytesV, byteV]) | assumption | exact SlAt.old (by assumption) (by repeat (first | exact Ext.here | apply Ext.there)) | exact RdB.slR (by assumption))) rfl ?_
                refine DG.look rfl rfl (Yield.move rfl) rfl ?_
                refine DG.eff1 ?_
                refine Chg.callo rfl rfl call37 rfl ((by repeat (first | exact Imp.refl _ | exact Imp.none _ | apply Imp.pull (by repeat (first | exact Ext.here | apply Ext.there)) | apply Imp.trans Imp.drop))) (rdrain_spec W _ lo) rfl (fun _ => (by repeat (first | exact Imp.refl _ | exact Imp.none _ | apply Imp.pull (by repeat (first | exact Ext.here | apply Ext.there)) | apply Imp.trans Imp.drop))) (fun _ => Imp.refl _) (fun _ => (by repeat (first | exact Imp.refl _ | exact Imp.none _ | apply Imp.pull (by repeat (first | exact Ext.here | apply Ext.there)) | apply Imp.trans Imp.drop))) ?_
                rintro ⟨a96, c96⟩ -
                refine DG.look rfl rfl (Yield.toStr Try.underlying30 Try.underlying9 Try.underlying5 rfl (by first | exact SlR.of_osl (by repeat (first | exact Ext.here | apply Ext.there)) | exact SlR.of_osl_eq (by repeat (first | exact Ext.here | apply Ext.there)) rfl rfl | exact SlR.of_osl_eq (by repeat (first | exact Ext.here | apply Ext.there)) rfl (by simp [bytesV, byteV]) | assumption | exact SlAt.old (by assumption) (by repeat (first | exact Ext.here | apply Ext.there)) | exact RdB.slR (by assumption))) rfl ?_
                refine DG.look rfl rfl (by first | exact Yield.str_same rfl rfl | exact Yield.str_eql rfl rfl) rfl ?_
                refine DG.look rfl rfl (Yield.assign rfl) rfl ?_
                refine DG.done ?_
                refine QG.then ?_
                refine CG.region ?_
                refine OG.yield (Yield.move rfl) rfl ?_
                refine OG.callo call35 rfl ((by repeat (first | exact Imp.refl _ | exact Imp.none _ | apply Imp.pull (by repeat (first | exact Ext.here | apply Ext.there)) | apply Imp.trans Imp.drop))) (spoil_spec W _ (by omega)) rfl ?_
                rintro ⟨⟩ -
                refine OG.nil ?_
                refine QG.block_normal ?_
                exact QG.mid ⟨s.i, s.g, [], s.inn⟩ ⟨⟨by simp, li, im⟩, rfl⟩ (by repeat (first | exact Env.sub_nil _ | refine Env.sub_cons rfl ?_)) (by repeat (first | exact Imp.refl _ | exact Imp.none _ | apply Imp.pull (by repeat (first | exact Ext.here | apply Ext.there)) | apply Imp.trans Imp.drop))
              · try replace hc := of_decide_eq_false hc
                refine CG.seq ?_
                refine CG.region ?_
                refine OG.yield (Yield.move rfl) rfl ?_
                refine OG.callo call38 rfl ((by repeat (first | exact Imp.refl _ | exact Imp.none _ | apply Imp.pull (by repeat (first | exact Ext.here | apply Ext.there)) | apply Imp.trans Imp.drop))) (clone_spec W _) rfl ?_
                rintro g39 -
                refine OG.yield (Yield.assign rfl) rfl ?_
                refine OG.nil ?_
                refine QG.then ?_
                refine CG.seq ?_
                refine CG.seq ?_
                refine CG.region ?_
                refine OG.yield (Yield.move rfl) rfl ?_
                refine OG.yield (by first | exact Yield.ptr_nil Try.underlying45 rfl rfl | exact Yield.nil_nil Try.underlying45 rfl rfl) rfl ?_
                refine OG.nil ?_
                refine QG.then ?_
                refine CG.cond_f rfl ?_
                refine CG.skip ?_
                refine QG.then ?_
                refine CG.seq ?_
                refine CG.region ?_
                refine OG.yield (Yield.move rfl) rfl ?_
                refine OG.effd (Eff.lit [(.const (.int .u8 1)), (.const (.int .u8 2))] Try.underlying30 ti5 rfl rfl rfl rfl (by decide) (by simp [Value.cells]) (by simp [Value.cells]; rfl)) rfl ?_
                rintro b43 -
                refine OG.callo call28 rfl ((by repeat (first | exact Imp.refl _ | exact Imp.none _ | apply Imp.pull (by repeat (first | exact Ext.here | apply Ext.there)) | apply Imp.trans Imp.drop))) (writeB W _ (ds := [1, 2]) (by first | exact RdB.of_osl (by repeat (first | exact Ext.here | apply Ext.there)) rfl rfl | exact RdB.of_osl (by repeat (first | exact Ext.here | apply Ext.there)) rfl (by simp [bytesV, byteV]) | assumption | exact RdB.of_slR (SlAt.old (by assumption) (by repeat (first | exact Ext.here | apply Ext.there))) (by assumption)) (by decide)) rfl ?_
                rintro ⟨⟩ -
                refine OG.nil ?_
                refine QG.then ?_
                refine CG.seq ?_
                refine CG.region ?_
                refine OG.yield (Yield.move rfl) rfl ?_
                refine OG.effd (Eff.lit1 Try.underlying30 ti5 rfl rfl rfl) rfl ?_
                rintro b46 -
                refine OG.callo call30 rfl ((by repeat (first | exact Imp.refl _ | exact Imp.none _ | apply Imp.pull (by repeat (first | exact Ext.here | apply Ext.there)) | apply Imp.trans Imp.drop))) (feedB W _ (ds := [3]) (by first | exact RdB.of_osl (by repeat (first | exact Ext.here | apply Ext.there)) rfl rfl | exact RdB.of_osl (by repeat (first | exact Ext.here | apply Ext.there)) rfl (by simp [bytesV, byteV]) | assumption | exact RdB.of_slR (SlAt.old (by assumption) (by repeat (first | exact Ext.here | apply Ext.there))) (by assumption)) (by decide)) rfl ?_
                rintro ⟨⟩ -
                refine OG.nil ?_
                refine QG.then ?_
                refine CG.seq ?_
                refine CG.region ?_
                refine OG.yield (Yield.move rfl) rfl ?_
                refine OG.callo call29 rfl ((by repeat (first | exact Imp.refl _ | exact Imp.none _ | apply Imp.pull (by repeat (first | exact Ext.here | apply Ext.there)) | apply Imp.trans Imp.drop))) (readB W _ 1) rfl ?_
                rintro ⟨a49, c49⟩ -
                refine OG.nil ?_
                refine QG.then ?_
                refine CG.seq ?_
                refine CG.region ?_
                refine OG.yield (Yield.move rfl) rfl ?_
                refine OG.callo call31 rfl ((by repeat (first | exact Imp.refl _ | exact Imp.none _ | apply Imp.pull (by repeat (first | exact Ext.here | apply Ext.there)) | apply Imp.trans Imp.drop))) (drain_spec W _) rfl ?_
                rintro ⟨a51, c51⟩ -
                refine OG.nil ?_
                refine QG.then ?_
                refine CG.region ?_
                refine OG.yield (Yield.move rfl) rfl ?_
                refine OG.yield (Yield.assign rfl) rfl ?_
                refine OG.nil ?_
                refine QG.block_normal ?_
                exact QG.mid ⟨s.i, g39, s.out, s.inn⟩ ⟨⟨lo, li, im⟩, rfl⟩ (by repeat (first | exact Env.sub_nil _ | refine Env.sub_cons rfl ?_)) (by repeat (first | exact Imp.refl _ | exact Imp.none _ | apply Imp.pull (by repeat (first | exact Ext.here | apply Ext.there)) | apply Imp.trans Imp.drop))
      clear lo li im hget
      generalize s.i = i0 at h1 h2 ⊢
      clear s
      rintro s ⟨⟨lo, li, im⟩, rfl⟩
      refine CG.seq ?_
      refine CG.seq ?_
      refine CG.region ?_
      refine OG.yield (Yield.move rfl) rfl ?_
      refine OG.yield (Yield.not rfl) rfl ?_
      refine OG.yield (Yield.move rfl) rfl ?_
      refine OG.guard_yes rfl rfl rfl (by decide) ?_
      refine OG.yield (Yield.move rfl) rfl ?_
      refine OG.guard_yes rfl rfl rfl (by decide) ?_
      refine OG.yield (Yield.toStr Try.underlying30 Try.underlying9 Try.underlying5 rfl (by first | exact SlR.of_osl (by repeat (first | exact Ext.here | apply Ext.there)) | exact SlR.of_osl_eq (by repeat (first | exact Ext.here | apply Ext.there)) rfl rfl | exact SlR.of_osl_eq (by repeat (first | exact Ext.here | apply Ext.there)) rfl (by simp [bytesV, byteV]) | assumption | exact SlAt.old (by assumption) (by repeat (first | exact Ext.here | apply Ext.there)) | exact RdB.slR (by assumption))) rfl ?_
      refine OG.guard_yes rfl rfl rfl (by decide) ?_
      refine OG.yield (Yield.fieldAddr fa47_1 rfl) rfl ?_
      refine OG.guard_yes rfl rfl rfl (by decide) ?_
      refine OG.yield (Yield.load ti30 rfl (Cel.of_blk (by repeat (first | exact Ext.here | apply Ext.there)) (by rfl))) rfl ?_
      refine OG.guard_yes rfl rfl rfl (by decide) ?_
      refine OG.yield (Yield.toStr Try.underlying30 Try.underlying9 Try.underlying5 rfl (by first | exact SlR.of_osl (by repeat (first | exact Ext.here | apply Ext.there)) | exact SlR.of_osl_eq (by repeat (first | exact Ext.here | apply Ext.there)) rfl rfl | exact SlR.of_osl_eq (by repeat (first | exact Ext.here | apply Ext.there)) rfl (by simp [bytesV, byteV]) | assumption | exact SlAt.old (by assumption) (by repeat (first | exact Ext.here | apply Ext.there)) | exact RdB.slR (by assumption))) rfl ?_
      refine OG.guard_yes rfl rfl rfl (by decide) ?_
      refine OG.yield (by first | exact Yield.str_samen rfl rfl | exact Yield.str_neq rfl rfl) rfl ?_
      refine OG.yield (by first | exact Yield.pick_t rfl rfl | exact Yield.pick_f rfl rfl | exact Yield.pick rfl (fun _ => rfl) (fun _ => rfl)) rfl ?_
      refine OG.nil ?_
      refine QG.then ?_
      refine CG.cond_f rfl ?_
      refine CG.skip ?_
      refine QG.then ?_
      refine CG.seq ?_
      refine CG.region ?_
      refine OG.yield (Yield.move rfl) rfl ?_
      refine OG.callo call35 rfl ((by repeat (first | exact Imp.refl _ | exact Imp.none _ | apply Imp.pull (by repeat (first | exact Ext.here | apply Ext.there)) | apply Imp.trans Imp.drop))) (spoil_spec W _ (by omega)) rfl ?_
      rintro ⟨⟩ -
      refine OG.nil ?_
      refine QG.then ?_
      refine CG.seq ?_
      refine CG.region ?_
      refine OG.yield (Yield.move rfl) rfl ?_
      refine OG.callo call26 rfl ((by repeat (first | exact Imp.refl _ | exact Imp.none _ | apply Imp.pull (by repeat (first | exact Ext.here | apply Ext.there)) | apply Imp.trans Imp.drop))) (out_spec W _) rfl ?_
      rintro ⟨a114, c114⟩ -
      refine OG.yield (Yield.move rfl) rfl ?_
      refine OG.callo call27 rfl ((by repeat (first | exact Imp.refl _ | exact Imp.none _ | apply Imp.pull (by repeat (first | exact Ext.here | apply Ext.there)) | apply Imp.trans Imp.drop))) (in_spec W _) rfl ?_
      rintro ⟨a116, c116⟩ -
      refine OG.yield (Yield.assign rfl) rfl ?_
      refine OG.yield (Yield.assign rfl) rfl ?_
      refine OG.nil ?_
      refine QG.then ?_
      refine CG.seq ?_
      refine CG.seq ?_
      refine CG.ex (A := Rc r s.out s.inn) (by repeat (first | exact Ext.here | apply Ext.there)) rc_open ?_
      rintro ⟨⟨ra, rc⟩, ra', rc'⟩ -
      refine CG.imp star_open ?_
      dsimp only [RcO, List.cons_append, List.nil_append]
      refine CG.draw (.look 0 1 (.look 1 1 (.look 2 1 (.look 3 1 (.look 4 1 (.look 5 1 (.look 6 1 (.look 7 1 (.look 8 1 (.look 9 1 (.look 10 1 (.look 11 1 (.look 12 1 (.look 13 1 (.look 14 1 (.look 15 1 (.look 16 1 (.look 17 1 (.done))))))))))))))))))) [] [] ([]) ([]) mixed (by kernel_rfl) (Imp.none _) (Imp.none _) ?_
      refine DG.look rfl rfl (Yield.move rfl) rfl ?_
      refine DG.look rfl rfl (Yield.toStr Try.underlying30 Try.underlying9 Try.underlying5 rfl (by first | exact SlR.of_osl (by repeat (first | exact Ext.here | apply Ext.there)) | exact SlR.of_osl_eq (by repeat (first | exact Ext.here | apply Ext.there)) rfl rfl | exact SlR.of_osl_eq (by repeat (first | exact Ext.here | apply Ext.there)) rfl (by simp [bytesV, byteV]) | assumption | exact SlAt.old (by assumption) (by repeat (first | exact Ext.here | apply Ext.there)) | exact RdB.slR (by assumption))) rfl ?_
      refine DG.look rfl rfl (Yield.move rfl) rfl ?_
      refine DG.look rfl rfl (Yield.nilCheck rfl) rfl ?_
      refine DG.look rfl rfl (Yield.fieldAddr fa55_0 rfl) rfl ?_
      refine DG.look rfl rfl (Yield.load ti30 rfl (Cel.of_blk (by repeat (first | exact Ext.here | apply Ext.there)) (by rfl))) rfl ?_
      refine DG.look rfl rfl (Yield.toStr Try.underlying30 Try.underlying9 Try.underlying5 rfl (by first | exact SlR.of_osl (by repeat (first | exact Ext.here | apply Ext.there)) | exact SlR.of_osl_eq (by repeat (first | exact Ext.here | apply Ext.there)) rfl rfl | exact SlR.of_osl_eq (by repeat (first | exact Ext.here | apply Ext.there)) rfl (by simp [bytesV, byteV]) | assumption | exact SlAt.old (by assumption) (by repeat (first | exact Ext.here | apply Ext.there)) | exact RdB.slR (by assumption))) rfl ?_
      refine DG.look rfl rfl (by first | exact Yield.str_samen rfl rfl | exact Yield.str_neq rfl rfl) rfl ?_
      refine DG.look rfl rfl (Yield.move rfl) rfl ?_
      refine DG.look rfl rfl (Yield.move rfl) rfl ?_
      refine DG.look rfl rfl (Yield.toStr Try.underlying30 Try.underlying9 Try.underlying5 rfl (by first | exact SlR.of_osl (by repeat (first | exact Ext.here | apply Ext.there)) | exact SlR.of_osl_eq (by repeat (first | exact Ext.here | apply Ext.there)) rfl rfl | exact SlR.of_osl_eq (by repeat (first | exact Ext.here | apply Ext.there)) rfl (by simp [bytesV, byteV]) | assumption | exact SlAt.old (by assumption) (by repeat (first | exact Ext.here | apply Ext.there)) | exact RdB.slR (by assumption))) rfl ?_
      refine DG.look rfl rfl (Yield.move rfl) rfl ?_
      refine DG.look rfl rfl (Yield.nilCheck rfl) rfl ?_
      refine DG.look rfl rfl (Yield.fieldAddr fa55_1 rfl) rfl ?_
      refine DG.look rfl rfl (Yield.load ti30 rfl (Cel.of_blk (by repeat (first | exact Ext.here | apply Ext.there)) (by rfl))) rfl ?_
      refine DG.look rfl rfl (Yield.toStr Try.underlying30 Try.underlying9 Try.underlying5 rfl (by first | exact SlR.of_osl (by repeat (first | exact Ext.here | apply Ext.there)) | exact SlR.of_osl_eq (by repeat (first | exact Ext.here | apply Ext.there)) rfl rfl | exact SlR.of_osl_eq (by repeat (first | exact Ext.here | apply Ext.there)) rfl (by simp [bytesV, byteV]) | assumption | exact SlAt.old (by assumption) (by repeat (first | exact Ext.here | apply Ext.there)) | exact RdB.slR (by assumption))) rfl ?_
      refine DG.look rfl rfl (by first | exact Yield.str_samen rfl rfl | exact Yield.str_neq rfl rfl) rfl ?_
      refine DG.look rfl rfl (by first | exact Yield.pick_t rfl rfl | exact Yield.pick_f rfl rfl | exact Yield.pick rfl (fun _ => rfl) (fun _ => rfl)) rfl ?_
      refine DG.done ?_
      refine QG.then ?_
      refine CG.cond_f rfl ?_
      refine CG.skip ?_
      refine QG.then ?_
      refine CG.seq ?_
      refine CG.region ?_
      refine OG.yield (Yield.move rfl) rfl ?_
      refine OG.callo call35 rfl ((by repeat (first | exact Imp.refl _ | exact Imp.none _ | apply Imp.pull (by repeat (first | exact Ext.here | apply Ext.there)) | apply Imp.trans Imp.drop))) (spoil_spec W _ (by omega)) rfl ?_
      rintro ⟨⟩ -
      refine OG.nil ?_
      refine QG.then ?_
      refine CG.region ?_
      refine OG.yield (Yield.move rfl) rfl ?_
      refine OG.callo call35 rfl ((by repeat (first | exact Imp.refl _ | exact Imp.none _ | apply Imp.pull (by repeat (first | exact Ext.here | apply Ext.there)) | apply Imp.trans Imp.drop))) (spoil_spec W _ (by omega)) rfl ?_
      rintro ⟨⟩ -
      refine OG.nil ?_
      refine QG.block_normal ?_
      refine QG.then ?_
      refine CG.region ?_
      refine OG.yield (Yield.move rfl) rfl ?_
      refine OG.yield (Yield.add rfl rfl (w64 (by omega) (by omega))) rfl ?_
      refine OG.yield (Yield.assign rfl) rfl ?_
      refine OG.nil ?_
      exact QG.next ⟨s.i + 1, s.g, s.out, s.inn⟩ ⟨lo, li, by simp only; omega⟩ (by simp only; omega) (by repeat (first | exact Env.sub_nil _ | refine Env.sub_cons rfl ?_)) (Imp.trans (Imp.trans (by repeat (first | exact Imp.refl _ | exact Imp.none _ | apply Imp.pull (by repeat (first | exact Ext.here | apply Ext.there)) | apply Imp.trans Imp.drop)) (rc_close (G := [Con s.g s.out s.inn, old W]) ((ra, rc), (ra', rc')))) (by repeat (first | exact Imp.refl _ | exact Imp.none _ | apply Imp.pull (by repeat (first | exact Ext.here | apply Ext.there)) | apply Imp.trans Imp.drop)))
    · skip
      refine CG.region ?_
      refine OG.yield (Yield.move rfl) rfl ?_
      refine OG.yield (Yield.move rfl) rfl ?_
      refine OG.yield (Yield.len_slice Try.underlying44 rfl rfl) rfl ?_
      refine OG.yield (by first | exact Yield.as (Yield.lss rfl rfl) (bT (by omega)) | exact Yield.as (Yield.lss rfl rfl) (bF (by omega)) | exact Yield.lss rfl rfl) rfl ?_
      refine OG.yield (Yield.move rfl) rfl ?_
      refine OG.guard_yes rfl rfl rfl (by decide) ?_
      refine OG.yield (Yield.move rfl) rfl ?_
      refine OG.guard_yes rfl rfl rfl (by decide) ?_
      refine OG.yield (by first | exact Yield.as (Yield.lss rfl rfl) (bT (by omega)) | exact Yield.as (Yield.lss rfl rfl) (bF (by omega)) | exact Yield.lss rfl rfl) rfl ?_
      refine OG.yield (by first | exact Yield.pick_t rfl rfl | exact Yield.pick_f rfl rfl | exact Yield.pick rfl (fun _ => rfl) (fun _ => rfl)) rfl ?_
      refine OG.nil ?_
      refine QG.then ?_
      refine CG.cond_f rfl ?_
      refine CG.exit ?_
      refine QG.pass_exit ?_
      refine QG.pass_exit ?_
      refine QG.block_exit ?_
      exact QG.mid s ⟨lo, li, im⟩ (by repeat (first | exact Env.sub_nil _ | refine Env.sub_cons rfl ?_)) (Imp.refl _)
    · skip
      refine CG.region ?_
      refine OG.yield (Yield.move rfl) rfl ?_
      refine OG.yield (Yield.move rfl) rfl ?_
      refine OG.yield (Yield.len_slice Try.underlying44 rfl rfl) rfl ?_
      refine OG.yield (by first | exact Yield.as (Yield.lss rfl rfl) (bT (by omega)) | exact Yield.as (Yield.lss rfl rfl) (bF (by omega)) | exact Yield.lss rfl rfl) rfl ?_
      refine OG.yield (Yield.move rfl) rfl ?_
      refine OG.guard_no rfl rfl rfl rfl rfl (by decide) (by decide) ?_
      refine OG.guard_no rfl rfl rfl rfl rfl (by decide) (by decide) ?_
      refine OG.yield (by first | exact Yield.pick_t rfl rfl | exact Yield.pick_f rfl rfl | exact Yield.pick rfl (fun _ => rfl) (fun _ => rfl)) rfl ?_
      refine OG.nil ?_
      refine QG.then ?_
      refine CG.cond_f rfl ?_
      refine CG.exit ?_
      refine QG.pass_exit ?_
      refine QG.pass_exit ?_
      refine QG.block_exit ?_
      exact QG.mid s ⟨lo, li, im⟩ (by repeat (first | exact Env.sub_nil _ | refine Env.sub_cons rfl ?_)) (Imp.refl _)
  rintro s ⟨lo, li, im⟩
  refine CG.seq ?_
  refine CG.ex (A := Rc r s.out s.inn) (by repeat (first | exact Ext.here | apply Ext.there)) rc_open ?_
  rintro ⟨⟨ra, rc⟩, ra', rc'⟩ -
  refine CG.imp star_open ?_
  dsimp only [RcO, List.cons_append, List.nil_append]
  refine CG.draw (.look 0 1 (.look 3 0 (.look 4 0 (.look 5 0 (.look 6 0 (.look 7 0 (.eff1 1 false (.look 2 1 (.look 8 1 (.look 9 1 (.look 10 1 (.look 13 0 (.look 14 0 (.look 15 0 (.look 16 0 (.look 17 0 (.eff1 11 false (.look 12 1 (.look 18 1 (.look 19 1 (.look 20 1 (.done)))))))))))))))))))))) [1, 11] [] (RcO r s.out s.inn ((ra, rc), (ra', rc'))) ([]) mixed (by kernel_rfl) ((by repeat (first | exact Imp.refl _ | exact Imp.none _ | apply Imp.pull (by repeat (first | exact Ext.here | apply Ext.there)) | apply Imp.trans Imp.drop))) (Imp.none _) ?_
  refine DG.look rfl rfl (Yield.move rfl) rfl ?_
  refine DG.look rfl rfl (Yield.move rfl) rfl ?_
  refine DG.look rfl rfl (Yield.nilCheck rfl) rfl ?_
  refine DG.look rfl rfl (Yield.fieldAddr fa55_0 rfl) rfl ?_
  refine DG.look rfl rfl (Yield.load ti30 rfl (Cel.of_blk (by repeat (first | exact Ext.here | apply Ext.there)) (by rfl))) rfl ?_
  refine DG.look rfl rfl (Yield.toStr Try.underlying30 Try.underlying9 Try.underlying5 rfl (by first | exact SlR.of_osl (by repeat (first | exact Ext.here | apply Ext.there)) | exact SlR.of_osl_eq (by repeat (first | exact Ext.here | apply Ext.there)) rfl rfl | exact SlR.of_osl_eq (by repeat (first | exact Ext.here | apply Ext.there)) rfl (by simp [bytesV, byteV]) | assumption | exact SlAt.old (by assumption) (by repeat (first | exact Ext.here | apply Ext.there)) | exact RdB.slR (by assumption))) rfl ?_
  refine DG.eff1 ?_
  refine Chg.callo rfl rfl call26 rfl ((by repeat (first | exact Imp.refl _ | exact Imp.none _ | apply Imp.pull (by repeat (first | exact Ext.here | apply Ext.there)) | apply Imp.trans Imp.drop))) (out_spec W _) rfl (fun _ => (by repeat (first | exact Imp.refl _ | exact Imp.none _ | apply Imp.pull (by repeat (first | exact Ext.here | apply Ext.there)) | apply Imp.trans Imp.drop))) (fun _ => Imp.refl _) (fun _ => (by repeat (first | exact Imp.refl _ | exact Imp.none _ | apply Imp.pull (by repeat (first | exact Ext.here | apply Ext.there)) | apply Imp.trans Imp.drop))) ?_
  rintro ⟨a140, c140⟩ -
  refine DG.look rfl rfl (Yield.toStr Try.underlying30 Try.underlying9 Try.underlying5 rfl (by first | exact SlR.of_osl (by repeat (first | exact Ext.here | apply Ext.there)) | exact SlR.of_osl_eq (by repeat (first | exact Ext.here | apply Ext.there)) rfl rfl | exact SlR.of_osl_eq (by repeat (first | exact Ext.here | apply Ext.there)) rfl (by simp [bytesV, byteV]) | assumption | exact SlAt.old (by assumption) (by repeat (first | exact Ext.here | apply Ext.there)) | exact RdB.slR (by assumption))) rfl ?_
  refine DG.look rfl rfl (by first | exact Yield.str_same rfl rfl | exact Yield.str_eql rfl rfl) rfl ?_
  refine DG.look rfl rfl (Yield.move rfl) rfl ?_
  refine DG.look rfl rfl (Yield.move rfl) rfl ?_
  refine DG.look rfl rfl (Yield.move rfl) rfl ?_
  refine DG.look rfl rfl (Yield.nilCheck rfl) rfl ?_
  refine DG.look rfl rfl (Yield.fieldAddr fa55_1 rfl) rfl ?_
  refine DG.look rfl rfl (Yield.load ti30 rfl (Cel.of_blk (by repeat (first | exact Ext.here | apply Ext.there)) (by rfl))) rfl ?_
  refine DG.look rfl rfl (Yield.toStr Try.underlying30 Try.underlying9 Try.underlying5 rfl (by first | exact SlR.of_osl (by repeat (first | exact Ext.here | apply Ext.there)) | exact SlR.of_osl_eq (by repeat (first | exact Ext.here | apply Ext.there)) rfl rfl | exact SlR.of_osl_eq (by repeat (first | exact Ext.here | apply Ext.there)) rfl (by simp [bytesV, byteV]) | assumption | exact SlAt.old (by assumption) (by repeat (first | exact Ext.here | apply Ext.there)) | exact RdB.slR (by assumption))) rfl ?_
  refine DG.eff1 ?_
  refine Chg.callo rfl rfl call27 rfl ((by repeat (first | exact Imp.refl _ | exact Imp.none _ | apply Imp.pull (by repeat (first | exact Ext.here | apply Ext.there)) | apply Imp.trans Imp.drop))) (in_spec W _) rfl (fun _ => (by repeat (first | exact Imp.refl _ | exact Imp.none _ | apply Imp.pull (by repeat (first | exact Ext.here | apply Ext.there)) | apply Imp.trans Imp.drop))) (fun _ => Imp.refl _) (fun _ => (by repeat (first | exact Imp.refl _ | exact Imp.none _ | apply Imp.pull (by repeat (first | exact Ext.here | apply Ext.there)) | apply Imp.trans Imp.drop))) ?_
  rintro ⟨a150, c150⟩ -
  refine DG.look rfl rfl (Yield.toStr Try.underlying30 Try.underlying9 Try.underlying5 rfl (by first | exact SlR.of_osl (by repeat (first | exact Ext.here | apply Ext.there)) | exact SlR.of_osl_eq (by repeat (first | exact Ext.here | apply Ext.there)) rfl rfl | exact SlR.of_osl_eq (by repeat (first | exact Ext.here | apply Ext.there)) rfl (by simp [bytesV, byteV]) | assumption | exact SlAt.old (by assumption) (by repeat (first | exact Ext.here | apply Ext.there)) | exact RdB.slR (by assumption))) rfl ?_
  refine DG.look rfl rfl (by first | exact Yield.str_same rfl rfl | exact Yield.str_eql rfl rfl) rfl ?_
  refine DG.look rfl rfl (by first | exact Yield.pick_t rfl rfl | exact Yield.pick_f rfl rfl | exact Yield.pick rfl (fun _ => rfl) (fun _ => rfl)) rfl ?_
  refine DG.look rfl rfl (Yield.assign rfl) rfl ?_
  refine DG.done ?_
  refine QG.then ?_
  refine CG.ret ?_
  exact QG.ret1 rfl rfl () trivial rfl (by repeat (first | exact Imp.refl _ | exact Imp.none _ | apply Imp.pull (by repeat (first | exact Ext.here | apply Ext.there)) | apply Imp.trans Imp.drop))
open Go.ChangeShapes Go.WideShapes Go.ChangeAt
theorem own : ownKnob Try.prog.godebug = none := by kernel_rfl
theorem laid : laidOutB Try.prog = true := by kernel_rfl
set_option maxRecDepth 100000 in
theorem lifted (os : Os) (started : os.Started) (H : Type) (enc : TypeId × Value → H) :
    ReturnsInHanded {} Try.checked os 9 .any (Rows.vconPlaysSpec.pre6 enc Try.prog Try.f9 Rows.vconPlaysRow.domain false) (Rows.vconPlaysSpec.post enc Try.prog Try.f9 false true false false) := by
  refine returnsInHanded_of_change_sized (C := Try.checked) own started (by kernel_rfl) Try.func9
    (ChangeSpec.witness6 (enc := enc) (C := Try.checked) false ⟨#[], #[.slice none 0 0], []⟩ 8 (by kernel_rfl) (by kernel_rfl) (by kernel_rfl) (by kernel_rfl)) ?_
  intro W base args ds gs before hval0 hW hcnd hsz0 _
  have hsz : (DataW.weightsEach Try.prog (Try.f9.params.toList ++ Rows.vconPlaysSpec.plain.varTypes Try.prog) (ds ++ gs)).all (· ≤ reachBytes) = true := hsz0
  have hval : ∀ (j : Nat) t v, Try.f9.params[j]? = some t → args[j]? = some v → Value.okWide Try.prog W .any base t v := hval0
  have hW' := hW
  obtain ⟨p, q, hA0, hV, rfl, hfz, hnd⟩ := hW
  have hA : DataW.TrodAll enc Try.prog W 0 (fun _ => true) true Try.f9.params.toList args.toList ds p := hA0
  rw [Try.params9] at hA hval hsz
  obtain ⟨v0, vs0, d0, ds0, p0, q0, hargs, rfl, rfl, h0, r0⟩ := trodAll_cons hA
  obtain ⟨rfl, rfl, rfl⟩ := trodAll_nil r0
  obtain rfl : args = #[v0] := by cases args; simp_all
  obtain ⟨rfl, rfl⟩ := trodVars_none hV
  have k0 := weights_le hsz 0 (t := 44) (d := d0) rfl rfl
  have s0 := Opn.param Try.underlying44 (VOp.list W) (hval 0 44 v0 rfl rfl) h0 k0
  obtain ⟨x0, c0, ops, e0, l0, ok0, s0, m0⟩ := s0
  cases e0
  clear hA0 hval0 hsz0 hsz
  refine ((walk W s0 ok0) W (Sat.start W)).mono fun e W' he => ?_
  obtain ⟨_, _, he, hs⟩ := he
  subst he
  exact ⟨_, rfl, law_post laid (params_ok (by kernel_rfl)) rfl Try.underlying4 hW' rfl rfl (Sat.below (by repeat (first | exact Ext.here | apply Ext.there)) hs)⟩
theorem over : Rows.vconPlaysRow.holds Try.pinned (OpenSpec.ofChange Rows.vconPlaysSpec) :=
  OpenClaim.holds_of_wide 9 Try.f9 rfl rfl rfl rfl rfl rfl rfl ⟨rfl, rfl, rfl, rfl, rfl⟩ rfl rfl rfl rfl rfl (by kernel_rfl) Try.func9 (by kernel_rfl)
    (of_decide_eq_true (by kernel_rfl)) (by unfold Func.isWrapper; first | (rw [if_pos (by decide +kernel)]; kernel_rfl) | (rw [if_neg (by decide +kernel)]; exact ⟨rfl, rfl⟩))
    (fun os started H enc _ => lifted os started H enc)
theorem proved : Rows.VconPlaysSaid := over
#print axioms proved
end Go.Proofs.Ytmhcdeklfecokaa.vconPlays
