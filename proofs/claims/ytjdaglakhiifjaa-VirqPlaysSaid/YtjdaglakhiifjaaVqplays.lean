/- VirqPlays: whatever is queued, released, acknowledged and timed, each answer is the reference's: the law returns true and changes nothing that was there. -/
import Derived.Test.YtjdaglakhiifjaaVqref
import Derived.Test.YtjdaglakhiifjaaRows
namespace Go.Proofs.Ytjdaglakhiifjaa.virqPlays
open Go Go.Sl Go.RowKit Go.Proofs Go.Proofs.Ytjdaglakhiifjaa.T Go.Proofs.Ytjdaglakhiifjaa.Vi
set_option linter.unusedVariables false
set_option linter.unusedSimpArgs false
set_option maxRecDepth 100000
structure St where
  i : Nat
  v : Nat
  q : Nat
  p : Nat
  a : Int
  s : Bool
def St.env (a0 : Option Addr) (m c0 r : Nat) (s : St) : Env := [(0, .slice a0 m c0), (3, .pointer (some ⟨s.v, 0, none⟩)), (4, .pointer (some ⟨r, 0, none⟩)), (5, .int .i64 s.i)]
abbrev St.G (W : World) (r : Nat) (s : St) : List HProp := [V s.v s.q s.p s.a s.s, R r s.q s.p (atOf s.s s.a), old W]
structure St.OK (m : Nat) (s : St) : Prop where
  hq : s.q < 256
  hp : s.p < 256
  ha : s.s = true → 0 ≤ s.a
  hs : s.s = false → s.a = 0
  im : s.i ≤ m ∧ s.i ≤ 1000
set_option maxHeartbeats 4000000 in
theorem walk (W : World) {a0 : Option Addr} {c0 : Nat} {ops : List VAct} (hops : SlAt W 3 a0 ops.length ((ops.map VAct.cells).flatten)) (hok : ∀ o ∈ ops, o.OK W) :
    Ctr Try.prog W 8 [.slice a0 ops.length c0] [old W] (fun _ : Unit => True) (fun _ => .bool true) (fun _ => [old W]) := by
  refine Ctr.of_body Try.func8 rfl Try.ntmps8 rfl ?_
  refine CG.seq ?_
  refine CG.region ?_
  refine OG.yield (Yield.assign rfl) rfl ?_
  refine OG.nil ?_
  refine QG.then ?_
  refine CG.seq ?_
  refine CG.region ?_
  refine OG.callo call19 rfl ((by repeat (first | exact Imp.refl _ | exact Imp.none _ | apply Imp.pull (by repeat (first | exact Ext.here | apply Ext.there)) | apply Imp.trans Imp.drop))) (new_spec W _) rfl ?_
  rintro v -
  refine OG.yield (Yield.assign rfl) rfl ?_
  refine OG.nil ?_
  refine QG.then ?_
  refine CG.seq ?_
  refine CG.region ?_
  refine OG.callo call33 rfl ((by repeat (first | exact Imp.refl _ | exact Imp.none _ | apply Imp.pull (by repeat (first | exact Ext.here | apply Ext.there)) | apply Imp.trans Imp.drop))) (rnew_spec W _) rfl ?_
  rintro r -
  refine OG.yield (Yield.assign rfl) rfl ?_
  refine OG.nil ?_
  refine QG.then ?_
  refine CG.seq ?_
  refine CG.seq ?_
  refine CG.region ?_
  refine OG.yield (Yield.move rfl) rfl ?_
  refine OG.yield (by first | exact Yield.ptr_nil Try.underlying34 rfl rfl | exact Yield.nil_nil Try.underlying34 rfl rfl) rfl ?_
  refine OG.yield (Yield.move rfl) rfl ?_
  refine OG.guard_yes rfl rfl rfl (by decide) ?_
  refine OG.yield (Yield.move rfl) rfl ?_
  refine OG.guard_yes rfl rfl rfl (by decide) ?_
  refine OG.yield (Yield.move rfl) rfl ?_
  refine OG.guard_yes rfl rfl rfl (by decide) ?_
  refine OG.callo call34 rfl ((by repeat (first | exact Imp.refl _ | exact Imp.none _ | apply Imp.pull (by repeat (first | exact Ext.here | apply Ext.there)) | apply Imp.trans Imp.drop))) (alike_spec W _ (q := 0) (p := 0) (a := 0) (s := false) (by decide) (by decide) (by simp) (by simp)) rfl ?_
  rintro ⟨⟩ -
  refine OG.guard_yes rfl rfl rfl (by decide) ?_
  refine OG.yield (Yield.not rfl) rfl ?_
  refine OG.yield (by first | exact Yield.pick_t rfl rfl | exact Yield.pick_f rfl rfl | exact Yield.pick rfl (fun _ => rfl) (fun _ => rfl)) rfl ?_
  refine OG.nil ?_
  refine QG.then ?_
  refine CG.cond_f rfl ?_
  refine CG.skip ?_
  refine QG.then ?_
  refine CG.cut (fun s : St => s.OK ops.length) (St.env a0 ops.length c0 r) (St.G W r) ?_ ?_
  · skip
    refine CG.seq ?_
    refine CG.region ?_
    refine OG.yield (Yield.assign rfl) rfl ?_
    refine OG.nil ?_
    refine QG.then ?_
    refine CG.block ?_
    refine CG.loop (fun s : St => s.OK ops.length) (St.env a0 ops.length c0 r) (St.G W r) (fun s => ops.length - s.i) ⟨0, v, 0, 0, 0, false⟩ ⟨by simp only; omega, by simp only; omega, by simp, by simp, by simp⟩ (by repeat (first | exact Env.sub_nil _ | refine Env.sub_cons rfl ?_)) (by repeat (first | exact Imp.refl _ | exact Imp.none _ | apply Imp.pull (by repeat (first | exact Ext.here | apply Ext.there)) | apply Imp.trans Imp.drop)) ?_
    rintro ⟨i, v, q, p, a, s⟩ ⟨hq, hp, ha, hs, im⟩
    unfold St.env
    dsimp only at hq hp ha hs im ⊢
    refine CG.seq ?_
    refine CG.seq ?_
    rcases loop_head (i) (ops.length) 1000 with hh | hh | hh
    · skip
      refine CG.region ?_
      refine OG.yield (Yield.move rfl) rfl ?_
      refine OG.yield (Yield.move rfl) rfl ?_
      refine OG.yield (Yield.len_slice Try.underlying55 rfl rfl) rfl ?_
      refine OG.yield (by first | exact Yield.as (Yield.lss rfl rfl) (bT (by omega)) | exact Yield.as (Yield.lss rfl rfl) (bF (by omega)) | exact Yield.lss rfl rfl) rfl ?_
      refine OG.yield (Yield.move rfl) rfl ?_
      refine OG.guard_yes rfl rfl rfl (by decide) ?_
      refine OG.yield (Yield.move rfl) rfl ?_
      refine OG.guard_yes rfl rfl rfl (by decide) ?_
      refine OG.yield (by first | exact Yield.as (Yield.lss rfl rfl) (bT (by omega)) | exact Yield.as (Yield.lss rfl rfl) (bF (by omega)) | exact Yield.lss rfl rfl) rfl ?_
      refine OG.yield (by first | exact Yield.pick_t rfl rfl | exact Yield.pick_f rfl rfl | exact Yield.pick rfl (fun _ => rfl) (fun _ => rfl)) rfl ?_
      refine OG.nil ?_
      refine QG.then ?_
      refine CG.cond_t rfl ?_
      refine CG.skip ?_
      refine QG.then ?_
      refine CG.seq ?_
      refine CG.block ?_
      obtain ⟨h1, h2⟩ := hh
      have hget : ops[i]? = some ops[i] := by simp [h1]
      have hko := hok ops[i] (List.getElem_mem h1)
      generalize ops[i] = op at hget hko
      obtain ⟨hb0, hb1⟩ := wf_u32 hko.Bits
      refine CG.pure (fun w hw => (hops.old (G := St.G W r ⟨i, v, q, p, a, s⟩) (by repeat (first | exact Ext.here | apply Ext.there))).elem_shape VAct.len (by decide) h1 w hw) ?_
      rintro ⟨b, o, rfl⟩
      have hrow : ∀ {G R : List HProp}, Ext G (old W) R → Row W G b (o + i * 3) op.cells := fun x => (hops.old x).elem VAct.len hget
      refine CG.cut (fun s' : St => s'.OK ops.length ∧ s'.i = i) (St.env (some ⟨b, o, none⟩) ops.length c0 r) (St.G W r) ?_ ?_
      · skip
        refine CG.seq ?_
        refine CG.region ?_
        refine OG.yield (Yield.move rfl) rfl ?_
        refine OG.yield (Yield.move rfl) rfl ?_
        refine OG.yield (Yield.index_slice Try.underlying55 ti57 rfl rfl (by omega) (by omega)) rfl ?_
        refine OG.yield (Yield.fieldAddr fa57_0 rfl) rfl ?_
        refine OG.yield (Yield.load ti3 rfl (by first | exact Cel.of_blk (by repeat (first | exact Ext.here | apply Ext.there)) rfl | exact (hrow (by repeat (first | exact Ext.here | apply Ext.there))) _ _ rfl)) rfl ?_
        refine OG.nil ?_
        refine QG.then ?_
        refine CG.block ?_
        refine CG.seq ?_
        refine CG.region ?_
        refine OG.yield (by first | exact Yield.as (Yield.eql rfl rfl) (bT (by omega)) | exact Yield.as (Yield.eql rfl rfl) (bF (by omega)) | exact Yield.eql rfl rfl) rfl ?_
        refine OG.yield (Yield.assign rfl) rfl ?_
        refine OG.nil ?_
        refine QG.then ?_
        refine CG.cond rfl (fun hc => ?_) (fun hc => ?_)
        · try replace hc := of_decide_eq_true hc
          refine CG.seq ?_
          refine CG.draw (.look 0 1 (.look 1 1 (.look 2 1 (.look 3 1 (.look 4 1 (.look 5 1 (.look 7 0 (.look 8 0 (.look 9 0 (.look 10 0 (.look 11 0 (.look 12 0 (.eff1 6 false (.eff1 13 false (.look 14 1 (.done)))))))))))))))) [6, 13] [] ([old W]) ([]) mixed (by kernel_rfl) ((by repeat (first | exact Imp.refl _ | exact Imp.none _ | apply Imp.pull (by repeat (first | exact Ext.here | apply Ext.there)) | apply Imp.trans Imp.drop))) (Imp.none _) ?_
          refine DG.look rfl rfl (Yield.move rfl) rfl ?_
          refine DG.look rfl rfl (Yield.move rfl) rfl ?_
          refine DG.look rfl rfl (Yield.move rfl) rfl ?_
          refine DG.look rfl rfl (Yield.index_slice Try.underlying55 ti57 rfl rfl (by omega) (by omega)) rfl ?_
          refine DG.look rfl rfl (Yield.fieldAddr fa57_1 rfl) rfl ?_
          refine DG.look rfl rfl (Yield.load ti3 rfl (by first | exact Cel.of_blk (by repeat (first | exact Ext.here | apply Ext.there)) rfl | exact (hrow (by repeat (first | exact Ext.here | apply Ext.there))) _ _ rfl)) rfl ?_
          refine DG.look rfl rfl (Yield.move rfl) rfl ?_
          refine DG.look rfl rfl (Yield.move rfl) rfl ?_
          refine DG.look rfl rfl (Yield.move rfl) rfl ?_
          refine DG.look rfl rfl (Yield.index_slice Try.underlying55 ti57 rfl rfl (by omega) (by omega)) rfl ?_
          refine DG.look rfl rfl (Yield.fieldAddr fa57_1 rfl) rfl ?_
          refine DG.look rfl rfl (Yield.load ti3 rfl ((hrow (G := [old W]) Ext.here) _ _ rfl)) rfl ?_
          refine DG.eff1 ?_
          refine Chg.callo rfl rfl call29 rfl ((by repeat (first | exact Imp.refl _ | exact Imp.none _ | apply Imp.pull (by repeat (first | exact Ext.here | apply Ext.there)) | apply Imp.trans Imp.drop))) (queue_spec W _ op.N) rfl (fun _ => (by repeat (first | exact Imp.refl _ | exact Imp.none _ | apply Imp.pull (by repeat (first | exact Ext.here | apply Ext.there)) | apply Imp.trans Imp.drop))) (fun _ => Imp.refl _) (fun _ => (by repeat (first | exact Imp.refl _ | exact Imp.none _ | apply Imp.pull (by repeat (first | exact Ext.here | apply Ext.there)) | apply Imp.trans Imp.drop))) ?_
          rintro ⟨⟩ -
          refine DG.eff1 ?_
          refine Chg.callo rfl rfl call35 rfl ((by repeat (first | exact Imp.refl _ | exact Imp.none _ | apply Imp.pull (by repeat (first | exact Ext.here | apply Ext.there)) | apply Imp.trans Imp.drop))) (rqueue_spec W _ op.N) rfl (fun _ => (by repeat (first | exact Imp.refl _ | exact Imp.none _ | apply Imp.pull (by repeat (first | exact Ext.here | apply Ext.there)) | apply Imp.trans Imp.drop))) (fun _ => Imp.refl _) (fun _ => (by repeat (first | exact Imp.refl _ | exact Imp.none _ | apply Imp.pull (by repeat (first | exact Ext.here | apply Ext.there)) | apply Imp.trans Imp.drop))) ?_
          rintro ⟨⟩ -
          refine DG.look rfl rfl (Yield.as (Yield.neq rfl rfl) (bF (by simp))) rfl ?_
          refine DG.done ?_
          refine QG.then ?_
          refine CG.cond_f rfl ?_
          refine CG.skip ?_
          refine QG.block_normal ?_
          refine QG.mid ⟨i, v, (if 0 ≤ op.N ∧ op.N < 8 then setBit q op.N.toNat true else q), p, a, s⟩ ⟨⟨?_, hp, ha, hs, im⟩, rfl⟩ (by repeat (first | exact Env.sub_nil _ | refine Env.sub_cons rfl ?_)) (by repeat (first | exact Imp.refl _ | exact Imp.none _ | apply Imp.pull (by repeat (first | exact Ext.here | apply Ext.there)) | apply Imp.trans Imp.drop))
          show (if 0 ≤ op.N ∧ op.N < 8 then setBit q op.N.toNat true else q) < 256
          split
          · exact setBit_lt hq (by omega) true
          · exact hq
        · try replace hc := of_decide_eq_false hc
          refine CG.seq ?_
          refine CG.region ?_
          refine OG.yield (by first | exact Yield.as (Yield.eql rfl rfl) (bT (by omega)) | exact Yield.as (Yield.eql rfl rfl) (bF (by omega)) | exact Yield.eql rfl rfl) rfl ?_
          refine OG.yield (Yield.assign rfl) rfl ?_
          refine OG.nil ?_
          refine QG.then ?_
          refine CG.cond rfl (fun hc => ?_) (fun hc => ?_)
          · try replace hc := of_decide_eq_true hc
            refine CG.seq ?_
            refine CG.draw (.look 0 1 (.look 1 1 (.look 2 1 (.look 3 1 (.look 4 1 (.look 5 1 (.look 7 0 (.look 8 0 (.look 9 0 (.look 10 0 (.look 11 0 (.look 12 0 (.eff1 6 false (.eff1 13 false (.look 14 1 (.done)))))))))))))))) [6, 13] [] ([old W]) ([]) mixed (by kernel_rfl) ((by repeat (first | exact Imp.refl _ | exact Imp.none _ | apply Imp.pull (by repeat (first | exact Ext.here | apply Ext.there)) | apply Imp.trans Imp.drop))) (Imp.none _) ?_
            refine DG.look rfl rfl (Yield.move rfl) rfl ?_
            refine DG.look rfl rfl (Yield.move rfl) rfl ?_
            refine DG.look rfl rfl (Yield.move rfl) rfl ?_
            refine DG.look rfl rfl (Yield.index_slice Try.underlying55 ti57 rfl rfl (by omega) (by omega)) rfl ?_
            refine DG.look rfl rfl (Yield.fieldAddr fa57_1 rfl) rfl ?_
            refine DG.look rfl rfl (Yield.load ti3 rfl (by first | exact Cel.of_blk (by repeat (first | exact Ext.here | apply Ext.there)) rfl | exact (hrow (by repeat (first | exact Ext.here | apply Ext.there))) _ _ rfl)) rfl ?_
            refine DG.look rfl rfl (Yield.move rfl) rfl ?_
            refine DG.look rfl rfl (Yield.move rfl) rfl ?_
            refine DG.look rfl rfl (Yield.move rfl) rfl ?_
            refine DG.look rfl rfl (Yield.index_slice Try.underlying55 ti57 rfl rfl (by omega) (by omega)) rfl ?_
            refine DG.look rfl rfl (Yield.fieldAddr fa57_1 rfl) rfl ?_
            refine DG.look rfl rfl (Yield.load ti3 rfl ((hrow (G := [old W]) Ext.here) _ _ rfl)) rfl ?_
            refine DG.eff1 ?_
            refine Chg.callo rfl rfl call22 rfl ((by repeat (first | exact Imp.refl _ | exact Imp.none _ | apply Imp.pull (by repeat (first | exact Ext.here | apply Ext.there)) | apply Imp.trans Imp.drop))) (release_spec W _ op.N hq hp) rfl (fun _ => (by repeat (first | exact Imp.refl _ | exact Imp.none _ | apply Imp.pull (by repeat (first | exact Ext.here | apply Ext.there)) | apply Imp.trans Imp.drop))) (fun _ => Imp.refl _) (fun _ => (by repeat (first | exact Imp.refl _ | exact Imp.none _ | apply Imp.pull (by repeat (first | exact Ext.here | apply Ext.there)) | apply Imp.trans Imp.drop))) ?_
            rintro ⟨⟩ -
            refine DG.eff1 ?_
            refine Chg.callo rfl rfl call36 rfl ((by repeat (first | exact Imp.refl _ | exact Imp.none _ | apply Imp.pull (by repeat (first | exact Ext.here | apply Ext.there)) | apply Imp.trans Imp.drop))) (rrelease2 W _ op.N hq hp ha) rfl (fun _ => (by repeat (first | exact Imp.refl _ | exact Imp.none _ | apply Imp.pull (by repeat (first | exact Ext.here | apply Ext.there)) | apply Imp.trans Imp.drop))) (fun _ => Imp.refl _) (fun _ => (by repeat (first | exact Imp.refl _ | exact Imp.none _ | apply Imp.pull (by repeat (first | exact Ext.here | apply Ext.there)) | apply Imp.trans Imp.drop))) ?_
            rintro ⟨⟩ -
            refine DG.look rfl rfl (Yield.as (Yield.neq rfl rfl) (bF (by simp))) rfl ?_
            refine DG.done ?_
            refine QG.then ?_
            refine CG.cond_f rfl ?_
            refine CG.skip ?_
            refine QG.block_normal ?_
            refine QG.mid ⟨i, v, 0, p ||| (if Vi.due a s op.N then setBit q 0 true else q), (if Vi.due a s op.N then 0 else a), s && !Vi.due a s op.N⟩ ⟨⟨by simp only; omega, ?_, ?_, ?_, im⟩, rfl⟩ (by repeat (first | exact Env.sub_nil _ | refine Env.sub_cons rfl ?_)) (by repeat (first | exact Imp.refl _ | exact Imp.none _ | apply Imp.pull (by repeat (first | exact Ext.here | apply Ext.there)) | apply Imp.trans Imp.drop))
            · refine or_lt hp ?_
              split
              · exact setBit_lt hq (by decide) true
              · exact hq
            · intro h
              simp only [Bool.and_eq_true, Bool.not_eq_true'] at h
              simp only [h.2, Bool.false_eq_true, if_false]
              exact ha h.1
            · intro h
              simp only at h ⊢
              cases hd : Vi.due a s op.N with
              | true => rfl
              | false =>
                rw [hd] at h
                simp only [Bool.false_eq_true, if_false]
                exact hs (by simpa using h)
          · try replace hc := of_decide_eq_false hc
            refine CG.seq ?_
            refine CG.region ?_
            refine OG.yield (by first | exact Yield.as (Yield.eql rfl rfl) (bT (by omega)) | exact Yield.as (Yield.eql rfl rfl) (bF (by omega)) | exact Yield.eql rfl rfl) rfl ?_
            refine OG.yield (Yield.assign rfl) rfl ?_
            refine OG.nil ?_
            refine QG.then ?_
            refine CG.cond rfl (fun hc => ?_) (fun hc => ?_)
            · try replace hc := of_decide_eq_true hc
              refine CG.seq ?_
              refine CG.region ?_
              obtain ⟨mk, hmk⟩ : ∃ mk : Nat, op.Bits = (mk : Int) := ⟨op.Bits.toNat, by omega⟩
              have hrow2 : ∀ {G R : List HProp}, Ext G (old W) R → Cel W G ⟨b, o + i * 3 + 2, none⟩ (.int .u32 mk) := fun x => by rw [← hmk]; exact (hrow x) 2 _ rfl
              refine OG.yield (Yield.move rfl) rfl ?_
              refine OG.yield (Yield.move rfl) rfl ?_
              refine OG.yield (Yield.move rfl) rfl ?_
              refine OG.yield (Yield.index_slice Try.underlying55 ti57 rfl rfl (by omega) (by omega)) rfl ?_
              refine OG.yield (Yield.fieldAddr fa57_2 rfl) rfl ?_
              refine OG.yield (Yield.load ti37 rfl (hrow2 (by repeat (first | exact Ext.here | apply Ext.there)))) rfl ?_
              refine OG.callo call30 rfl ((by repeat (first | exact Imp.refl _ | exact Imp.none _ | apply Imp.pull (by repeat (first | exact Ext.here | apply Ext.there)) | apply Imp.trans Imp.drop))) (ack_spec W _ hp (m := mk) (by omega)) rfl ?_
              rintro ⟨⟩ -
              refine OG.nil ?_
              refine QG.then ?_
              refine CG.region ?_
              refine OG.yield (Yield.move rfl) rfl ?_
              refine OG.yield (Yield.move rfl) rfl ?_
              refine OG.yield (Yield.move rfl) rfl ?_
              refine OG.yield (Yield.index_slice Try.underlying55 ti57 rfl rfl (by omega) (by omega)) rfl ?_
              refine OG.yield (Yield.fieldAddr fa57_2 rfl) rfl ?_
              refine OG.yield (Yield.load ti37 rfl (hrow2 (by repeat (first | exact Ext.here | apply Ext.there)))) rfl ?_
              refine OG.callo call37 rfl ((by repeat (first | exact Imp.refl _ | exact Imp.none _ | apply Imp.pull (by repeat (first | exact Ext.here | apply Ext.there)) | apply Imp.trans Imp.drop))) (rack_spec W _ hp (m := mk) (by omega)) rfl ?_
              rintro ⟨⟩ -
              refine OG.nil ?_
              refine QG.block_normal ?_
              exact QG.mid ⟨i, v, q, clr p mk, a, s⟩ ⟨⟨hq, clr_lt hp mk, ha, hs, im⟩, rfl⟩ (by repeat (first | exact Env.sub_nil _ | refine Env.sub_cons rfl ?_)) (by repeat (first | exact Imp.refl _ | exact Imp.none _ | apply Imp.pull (by repeat (first | exact Ext.here | apply Ext.there)) | apply Imp.trans Imp.drop))
            · try replace hc := of_decide_eq_false hc
              refine CG.seq ?_
              refine CG.region ?_
              refine OG.yield (by first | exact Yield.as (Yield.eql rfl rfl) (bT (by omega)) | exact Yield.as (Yield.eql rfl rfl) (bF (by omega)) | exact Yield.eql rfl rfl) rfl ?_
              refine OG.yield (Yield.assign rfl) rfl ?_
              refine OG.nil ?_
              refine QG.then ?_
              refine CG.cond rfl (fun hc => ?_) (fun hc => ?_)
              · try replace hc := of_decide_eq_true hc
                refine CG.seq ?_
                refine CG.draw (.look 0 1 (.look 1 1 (.look 2 1 (.look 3 1 (.look 4 1 (.look 5 1 (.look 7 0 (.look 8 0 (.look 9 0 (.look 10 0 (.look 11 0 (.look 12 0 (.eff1 6 false (.eff1 13 false (.look 14 1 (.done)))))))))))))))) [6, 13] [] ([old W]) ([]) mixed (by kernel_rfl) ((by repeat (first | exact Imp.refl _ | exact Imp.none _ | apply Imp.pull (by repeat (first | exact Ext.here | apply Ext.there)) | apply Imp.trans Imp.drop))) (Imp.none _) ?_
                refine DG.look rfl rfl (Yield.move rfl) rfl ?_
                refine DG.look rfl rfl (Yield.move rfl) rfl ?_
                refine DG.look rfl rfl (Yield.move rfl) rfl ?_
                refine DG.look rfl rfl (Yield.index_slice Try.underlying55 ti57 rfl rfl (by omega) (by omega)) rfl ?_
                refine DG.look rfl rfl (Yield.fieldAddr fa57_1 rfl) rfl ?_
                refine DG.look rfl rfl (Yield.load ti3 rfl (by first | exact Cel.of_blk (by repeat (first | exact Ext.here | apply Ext.there)) rfl | exact (hrow (by repeat (first | exact Ext.here | apply Ext.there))) _ _ rfl)) rfl ?_
                refine DG.look rfl rfl (Yield.move rfl) rfl ?_
                refine DG.look rfl rfl (Yield.move rfl) rfl ?_
                refine DG.look rfl rfl (Yield.move rfl) rfl ?_
                refine DG.look rfl rfl (Yield.index_slice Try.underlying55 ti57 rfl rfl (by omega) (by omega)) rfl ?_
                refine DG.look rfl rfl (Yield.fieldAddr fa57_1 rfl) rfl ?_
                refine DG.look rfl rfl (Yield.load ti3 rfl ((hrow (G := [old W]) Ext.here) _ _ rfl)) rfl ?_
                refine DG.eff1 ?_
                refine Chg.callo rfl rfl call21 rfl ((by repeat (first | exact Imp.refl _ | exact Imp.none _ | apply Imp.pull (by repeat (first | exact Ext.here | apply Ext.there)) | apply Imp.trans Imp.drop))) (timer_spec2 W _ op.N) rfl (fun _ => (by repeat (first | exact Imp.refl _ | exact Imp.none _ | apply Imp.pull (by repeat (first | exact Ext.here | apply Ext.there)) | apply Imp.trans Imp.drop))) (fun _ => Imp.refl _) (fun _ => (by repeat (first | exact Imp.refl _ | exact Imp.none _ | apply Imp.pull (by repeat (first | exact Ext.here | apply Ext.there)) | apply Imp.trans Imp.drop))) ?_
                rintro ⟨⟩ -
                refine DG.eff1 ?_
                refine Chg.callo rfl rfl call38 rfl ((by repeat (first | exact Imp.refl _ | exact Imp.none _ | apply Imp.pull (by repeat (first | exact Ext.here | apply Ext.there)) | apply Imp.trans Imp.drop))) (rtimer2 W _ op.N) rfl (fun _ => (by repeat (first | exact Imp.refl _ | exact Imp.none _ | apply Imp.pull (by repeat (first | exact Ext.here | apply Ext.there)) | apply Imp.trans Imp.drop))) (fun _ => Imp.refl _) (fun _ => (by repeat (first | exact Imp.refl _ | exact Imp.none _ | apply Imp.pull (by repeat (first | exact Ext.here | apply Ext.there)) | apply Imp.trans Imp.drop))) ?_
                rintro ⟨⟩ -
                refine DG.look rfl rfl (Yield.as (Yield.neq rfl rfl) (bF (by simp))) rfl ?_
                refine DG.done ?_
                refine QG.then ?_
                refine CG.cond_f rfl ?_
                refine CG.skip ?_
                refine QG.block_normal ?_
                refine QG.mid ⟨i, v, q, p, (if 0 ≤ op.N ∧ op.N ≤ 281474976710656 then op.N else a), (if 0 ≤ op.N ∧ op.N ≤ 281474976710656 then true else s)⟩ ⟨⟨hq, hp, ?_, ?_, im⟩, rfl⟩ (by repeat (first | exact Env.sub_nil _ | refine Env.sub_cons rfl ?_)) (by repeat (first | exact Imp.refl _ | exact Imp.none _ | apply Imp.pull (by repeat (first | exact Ext.here | apply Ext.there)) | apply Imp.trans Imp.drop))
                · simp only; split
                  · intro _; omega
                  · exact ha
                · simp only; split
                  · intro h; cases h
                  · exact hs
              · try replace hc := of_decide_eq_false hc
                refine CG.seq ?_
                refine CG.region ?_
                refine OG.yield (by first | exact Yield.as (Yield.eql rfl rfl) (bT (by omega)) | exact Yield.as (Yield.eql rfl rfl) (bF (by omega)) | exact Yield.eql rfl rfl) rfl ?_
                refine OG.yield (Yield.assign rfl) rfl ?_
                refine OG.nil ?_
                refine QG.then ?_
                refine CG.cond rfl (fun hc => ?_) (fun hc => ?_)
                · try replace hc := of_decide_eq_true hc
                  refine CG.seq ?_
                  refine CG.region ?_
                  refine OG.yield (Yield.move rfl) rfl ?_
                  refine OG.callo call31 rfl ((by repeat (first | exact Imp.refl _ | exact Imp.none _ | apply Imp.pull (by repeat (first | exact Ext.here | apply Ext.there)) | apply Imp.trans Imp.drop))) (stop_spec W _) rfl ?_
                  rintro ⟨⟩ -
                  refine OG.nil ?_
                  refine QG.then ?_
                  refine CG.region ?_
                  refine OG.yield (Yield.move rfl) rfl ?_
                  refine OG.yield (Yield.nilCheck rfl) rfl ?_
                  refine OG.yield (Yield.fieldAddr fa68_2 rfl) rfl ?_
                  refine OG.eff (Eff.store1 ti3 rfl rfl (by repeat (first | exact Foc.here | apply Foc.there)) rfl (by rw [RC_len]; decide)) rfl ?_
                  rintro ⟨⟩ -
                  rw [show 0 + 16 = 16 from rfl, RC_setat]
                  refine OG.nil ?_
                  refine QG.block_normal ?_
                  exact QG.mid ⟨i, v, q, p, 0, false⟩ ⟨⟨hq, hp, by simp, by simp, im⟩, rfl⟩ (by repeat (first | exact Env.sub_nil _ | refine Env.sub_cons rfl ?_)) (by repeat (first | exact Imp.refl _ | exact Imp.none _ | apply Imp.pull (by repeat (first | exact Ext.here | apply Ext.there)) | apply Imp.trans Imp.drop))
                · try replace hc := of_decide_eq_false hc
                  refine CG.seq ?_
                  refine CG.region ?_
                  refine OG.yield (Yield.move rfl) rfl ?_
                  refine OG.callo call39 rfl ((by repeat (first | exact Imp.refl _ | exact Imp.none _ | apply Imp.pull (by repeat (first | exact Ext.here | apply Ext.there)) | apply Imp.trans Imp.drop))) (clone_spec W _) rfl ?_
                  rintro v33 -
                  refine OG.yield (Yield.assign rfl) rfl ?_
                  refine OG.nil ?_
                  refine QG.then ?_
                  refine CG.seq ?_
                  refine CG.seq ?_
                  refine CG.region ?_
                  refine OG.yield (Yield.move rfl) rfl ?_
                  refine OG.yield (by first | exact Yield.ptr_nil Try.underlying34 rfl rfl | exact Yield.nil_nil Try.underlying34 rfl rfl) rfl ?_
                  refine OG.nil ?_
                  refine QG.then ?_
                  refine CG.cond_f rfl ?_
                  refine CG.skip ?_
                  refine QG.then ?_
                  refine CG.seq ?_
                  refine CG.region ?_
                  refine OG.yield (Yield.move rfl) rfl ?_
                  refine OG.yield (Yield.move rfl) rfl ?_
                  refine OG.yield (Yield.move rfl) rfl ?_
                  refine OG.yield (Yield.index_slice Try.underlying55 ti57 rfl rfl (by omega) (by omega)) rfl ?_
                  refine OG.yield (Yield.fieldAddr fa57_1 rfl) rfl ?_
                  refine OG.yield (Yield.load ti3 rfl (by first | exact Cel.of_blk (by repeat (first | exact Ext.here | apply Ext.there)) rfl | exact (hrow (by repeat (first | exact Ext.here | apply Ext.there))) _ _ rfl)) rfl ?_
                  refine OG.callo call29 rfl ((by repeat (first | exact Imp.refl _ | exact Imp.none _ | apply Imp.pull (by repeat (first | exact Ext.here | apply Ext.there)) | apply Imp.trans Imp.drop))) (queue_spec W _ op.N) rfl ?_
                  rintro ⟨⟩ -
                  refine OG.nil ?_
                  refine QG.then ?_
                  refine CG.seq ?_
                  refine CG.region ?_
                  refine OG.yield (Yield.move rfl) rfl ?_
                  refine OG.yield (Yield.move rfl) rfl ?_
                  refine OG.yield (Yield.move rfl) rfl ?_
                  refine OG.yield (Yield.index_slice Try.underlying55 ti57 rfl rfl (by omega) (by omega)) rfl ?_
                  refine OG.yield (Yield.fieldAddr fa57_1 rfl) rfl ?_
                  refine OG.yield (Yield.load ti3 rfl (by first | exact Cel.of_blk (by repeat (first | exact Ext.here | apply Ext.there)) rfl | exact (hrow (by repeat (first | exact Ext.here | apply Ext.there))) _ _ rfl)) rfl ?_
                  refine OG.callo call21 rfl ((by repeat (first | exact Imp.refl _ | exact Imp.none _ | apply Imp.pull (by repeat (first | exact Ext.here | apply Ext.there)) | apply Imp.trans Imp.drop))) (timer_spec2 W _ op.N) rfl ?_
                  rintro ⟨⟩ -
                  refine OG.nil ?_
                  refine QG.then ?_
                  refine CG.seq ?_
                  refine CG.region ?_
                  refine OG.yield (Yield.move rfl) rfl ?_
                  refine OG.yield (Yield.move rfl) rfl ?_
                  refine OG.yield (Yield.move rfl) rfl ?_
                  refine OG.yield (Yield.index_slice Try.underlying55 ti57 rfl rfl (by omega) (by omega)) rfl ?_
                  refine OG.yield (Yield.fieldAddr fa57_1 rfl) rfl ?_
                  refine OG.yield (Yield.load ti3 rfl (by first | exact Cel.of_blk (by repeat (first | exact Ext.here | apply Ext.there)) rfl | exact (hrow (by repeat (first | exact Ext.here | apply Ext.there))) _ _ rfl)) rfl ?_
                  refine OG.callo call22 rfl ((by repeat (first | exact Imp.refl _ | exact Imp.none _ | apply Imp.pull (by repeat (first | exact Ext.here | apply Ext.there)) | apply Imp.trans Imp.drop))) (release_spec W _ op.N (by split; exact setBit_lt hq (by omega) true; exact hq) hp) rfl ?_
                  rintro ⟨⟩ -
                  refine OG.nil ?_
                  refine QG.then ?_
                  refine CG.region ?_
                  refine OG.yield (Yield.move rfl) rfl ?_
                  refine OG.yield (Yield.assign rfl) rfl ?_
                  refine OG.nil ?_
                  refine QG.block_normal ?_
                  exact QG.mid ⟨i, v33, q, p, a, s⟩ ⟨⟨hq, hp, ha, hs, im⟩, rfl⟩ (by repeat (first | exact Env.sub_nil _ | refine Env.sub_cons rfl ?_)) (by repeat (first | exact Imp.refl _ | exact Imp.none _ | apply Imp.pull (by repeat (first | exact Ext.here | apply Ext.there)) | apply Imp.trans Imp.drop))
      clear hq hp ha hs im
      rintro ⟨i', v, q, p, a, s⟩ ⟨⟨hq, hp, ha, hs, im⟩, hi'⟩
      dsimp only at hq hp ha hs im hi'
      subst hi'
      unfold St.env
      dsimp only
      refine CG.seq ?_
      refine CG.region ?_
      refine OG.yield (Yield.move rfl) rfl ?_
      refine OG.yield (Yield.move rfl) rfl ?_
      refine OG.callo call34 rfl ((by repeat (first | exact Imp.refl _ | exact Imp.none _ | apply Imp.pull (by repeat (first | exact Ext.here | apply Ext.there)) | apply Imp.trans Imp.drop))) (alike_spec W _ hq hp ha hs) rfl ?_
      rintro ⟨⟩ -
      refine OG.yield (Yield.not rfl) rfl ?_
      refine OG.nil ?_
      refine QG.then ?_
      refine CG.cond_f rfl ?_
      refine CG.skip ?_
      refine QG.block_normal ?_
      refine QG.then ?_
      refine CG.region ?_
      refine OG.yield (Yield.move rfl) rfl ?_
      refine OG.yield (Yield.add rfl rfl (w64 (by omega) (by omega))) rfl ?_
      refine OG.yield (Yield.assign rfl) rfl ?_
      refine OG.nil ?_
      exact QG.next ⟨i' + 1, v, q, p, a, s⟩ ⟨hq, hp, ha, hs, by simp only; omega⟩ (by simp only; omega) (by repeat (first | exact Env.sub_nil _ | refine Env.sub_cons rfl ?_)) (by repeat (first | exact Imp.refl _ | exact Imp.none _ | apply Imp.pull (by repeat (first | exact Ext.here | apply Ext.there)) | apply Imp.trans Imp.drop))
    · skip
      refine CG.region ?_
      refine OG.yield (Yield.move rfl) rfl ?_
      refine OG.yield (Yield.move rfl) rfl ?_
      refine OG.yield (Yield.len_slice Try.underlying55 rfl rfl) rfl ?_
      refine OG.yield (by first | exact Yield.as (Yield.lss rfl rfl) (bT (by omega)) | exact Yield.as (Yield.lss rfl rfl) (bF (by omega)) | exact Yield.lss rfl rfl) rfl ?_
      refine OG.yield (Yield.move rfl) rfl ?_
      refine OG.guard_yes rfl rfl rfl (by decide) ?_
      refine OG.yield (Yield.move rfl) rfl ?_
      refine OG.guard_yes rfl rfl rfl (by decide) ?_
      refine OG.yield (by first | exact Yield.as (Yield.lss rfl rfl) (bT (by omega)) | exact Yield.as (Yield.lss rfl rfl) (bF (by omega)) | exact Yield.lss rfl rfl) rfl ?_
      refine OG.yield (by first | exact Yield.pick_t rfl rfl | exact Yield.pick_f rfl rfl | exact Yield.pick rfl (fun _ => rfl) (fun _ => rfl)) rfl ?_
      refine OG.nil ?_
      refine QG.then ?_
      refine CG.cond_f rfl ?_
      refine CG.exit ?_
      refine QG.pass_exit ?_
      refine QG.pass_exit ?_
      refine QG.block_exit ?_
      exact QG.mid ⟨i, v, q, p, a, s⟩ ⟨hq, hp, ha, hs, im⟩ (by repeat (first | exact Env.sub_nil _ | refine Env.sub_cons rfl ?_)) (Imp.refl _)
    · skip
      refine CG.region ?_
      refine OG.yield (Yield.move rfl) rfl ?_
      refine OG.yield (Yield.move rfl) rfl ?_
      refine OG.yield (Yield.len_slice Try.underlying55 rfl rfl) rfl ?_
      refine OG.yield (by first | exact Yield.as (Yield.lss rfl rfl) (bT (by omega)) | exact Yield.as (Yield.lss rfl rfl) (bF (by omega)) | exact Yield.lss rfl rfl) rfl ?_
      refine OG.yield (Yield.move rfl) rfl ?_
      refine OG.guard_no rfl rfl rfl rfl rfl (by decide) (by decide) ?_
      refine OG.guard_no rfl rfl rfl rfl rfl (by decide) (by decide) ?_
      refine OG.yield (by first | exact Yield.pick_t rfl rfl | exact Yield.pick_f rfl rfl | exact Yield.pick rfl (fun _ => rfl) (fun _ => rfl)) rfl ?_
      refine OG.nil ?_
      refine QG.then ?_
      refine CG.cond_f rfl ?_
      refine CG.exit ?_
      refine QG.pass_exit ?_
      refine QG.pass_exit ?_
      refine QG.block_exit ?_
      exact QG.mid ⟨i, v, q, p, a, s⟩ ⟨hq, hp, ha, hs, im⟩ (by repeat (first | exact Env.sub_nil _ | refine Env.sub_cons rfl ?_)) (Imp.refl _)
  rintro s ⟨hq, hp, ha, hs, im⟩
  refine CG.seq ?_
  refine CG.region ?_
  refine OG.yield (Yield.move rfl) rfl ?_
  refine OG.yield (Yield.move rfl) rfl ?_
  refine OG.callo call34 rfl ((by repeat (first | exact Imp.refl _ | exact Imp.none _ | apply Imp.pull (by repeat (first | exact Ext.here | apply Ext.there)) | apply Imp.trans Imp.drop))) (alike_spec W _ hq hp ha hs) rfl ?_
  rintro ⟨⟩ -
  refine OG.yield (Yield.assign rfl) rfl ?_
  refine OG.nil ?_
  refine QG.then ?_
  refine CG.ret ?_
  exact QG.ret1 rfl rfl () trivial rfl (by repeat (first | exact Imp.refl _ | exact Imp.none _ | apply Imp.pull (by repeat (first | exact Ext.here | apply Ext.there)) | apply Imp.trans Imp.drop))
open Go.ChangeShapes Go.WideShapes Go.ChangeAt
theorem own : ownKnob Try.prog.godebug = none := by kernel_rfl
theorem laid : laidOutB Try.prog = true := by kernel_rfl
set_option maxRecDepth 100000 in
theorem lifted (os : Os) (started : os.Started) (H : Type) (enc : TypeId × Value → H) :
    ReturnsInHanded {} Try.checked os 8 .any (Rows.virqPlaysSpec.pre6 enc Try.prog Try.f8 Rows.virqPlaysRow.domain false) (Rows.virqPlaysSpec.post enc Try.prog Try.f8 false true false false) := by
  refine returnsInHanded_of_change_sized (C := Try.checked) own started (by kernel_rfl) Try.func8
    (ChangeSpec.witness6 (enc := enc) (C := Try.checked) false ⟨#[], #[.slice none 0 0], []⟩ 8 (by kernel_rfl) (by kernel_rfl) (by kernel_rfl) (by kernel_rfl)) ?_
  intro W base args ds gs before hval0 hW hcnd hsz0 _
  have hsz : (DataW.weightsEach Try.prog (Try.f8.params.toList ++ Rows.virqPlaysSpec.plain.varTypes Try.prog) (ds ++ gs)).all (· ≤ reachBytes) = true := hsz0
  have hval : ∀ (j : Nat) t v, Try.f8.params[j]? = some t → args[j]? = some v → Value.okWide Try.prog W .any base t v := hval0
  have hW' := hW
  obtain ⟨p, q, hA0, hV, rfl, hfz, hnd⟩ := hW
  have hA : DataW.TrodAll enc Try.prog W 0 (fun _ => true) true Try.f8.params.toList args.toList ds p := hA0
  rw [Try.params8] at hA hval hsz
  obtain ⟨v0, vs0, d0, ds0, p0, q0, hargs, rfl, rfl, h0, r0⟩ := trodAll_cons hA
  obtain ⟨rfl, rfl, rfl⟩ := trodAll_nil r0
  obtain rfl : args = #[v0] := by cases args; simp_all
  obtain ⟨rfl, rfl⟩ := trodVars_none hV
  have k0 := weights_le hsz 0 (t := 55) (d := d0) rfl rfl
  have s0 := Opn.param Try.underlying55 (VAct.list W) (hval 0 55 v0 rfl rfl) h0 k0
  obtain ⟨x0, c0, ops, e0, l0, ok0, s0, m0⟩ := s0
  cases e0
  clear hA0 hval0 hsz0 hsz
  refine ((walk W s0 ok0) W (Sat.start W)).mono fun e W' he => ?_
  obtain ⟨_, _, he, hs⟩ := he
  subst he
  exact ⟨_, rfl, law_post laid (params_ok (by kernel_rfl)) rfl Try.underlying4 hW' rfl rfl (Sat.below (by repeat (first | exact Ext.here | apply Ext.there)) hs)⟩
theorem over : Rows.virqPlaysRow.holds Try.pinned (OpenSpec.ofChange Rows.virqPlaysSpec) :=
  OpenClaim.holds_of_wide 8 Try.f8 rfl rfl rfl rfl rfl rfl rfl ⟨rfl, rfl, rfl, rfl, rfl⟩ rfl rfl rfl rfl rfl (by kernel_rfl) Try.func8 (by kernel_rfl)
    (of_decide_eq_true (by kernel_rfl)) (by unfold Func.isWrapper; first | (rw [if_pos (by decide +kernel)]; kernel_rfl) | (rw [if_neg (by decide +kernel)]; exact ⟨rfl, rfl⟩))
    (fun os started H enc _ => lifted os started H enc)
theorem proved : Rows.VirqPlaysSaid := over
#print axioms proved
end Go.Proofs.Ytjdaglakhiifjaa.virqPlays
