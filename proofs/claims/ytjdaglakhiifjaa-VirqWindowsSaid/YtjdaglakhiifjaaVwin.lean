/- VirqWindows: interrupts come at the starts of windows and nowhere else: the law returns true at every list of operations and changes nothing that was there. -/
import Derived.Test.YtjdaglakhiifjaaVworks
import Derived.Test.YtjdaglakhiifjaaRows
namespace Go.Proofs.Ytjdaglakhiifjaa.virqWindows
open Go Go.Sl Go.RowKit Go.Proofs Go.Proofs.Ytjdaglakhiifjaa.T Go.Proofs.Ytjdaglakhiifjaa.Vi
set_option linter.unusedVariables false
set_option linter.unusedSimpArgs false
set_option maxRecDepth 100000
structure St where
  i : Nat
  q : Nat
  p : Nat
  a : Int
  s : Bool
def atOf : Bool → Int → Int
  | true, a => a
  | false, _ => -1
def St.env (a0 : Option Addr) (m c0 v : Nat) (s : St) : Env := [(0, .slice a0 m c0), (3, .pointer (some ⟨v, 0, none⟩)), (4, .int .u32 s.p), (5, .int .u32 s.q), (6, .int .i64 (atOf s.s s.a)), (7, .int .i64 s.i)]
abbrev St.G (W : World) (v : Nat) (s : St) : List HProp := [V v s.q s.p s.a s.s, old W]
structure St.OK (m : Nat) (s : St) : Prop where
  hq : s.q < 256
  hp : s.p < 256
  ha : s.s = true → 0 ≤ s.a
  im : s.i ≤ m ∧ s.i ≤ 1000
set_option maxHeartbeats 4000000 in
theorem walk (W : World) {a0 : Option Addr} {c0 : Nat} {ops : List VAct} (hops : SlAt W 3 a0 ops.length ((ops.map VAct.cells).flatten)) (hok : ∀ o ∈ ops, o.OK W) :
    Ctr Try.prog W 6 [.slice a0 ops.length c0] [old W] (fun _ : Unit => True) (fun _ => .bool true) (fun _ => [old W]) := by
  refine Ctr.of_body Try.func6 rfl Try.ntmps6 rfl ?_
  refine CG.seq ?_
  refine CG.region ?_
  refine OG.yield (Yield.assign rfl) rfl ?_
  refine OG.nil ?_
  refine QG.then ?_
  refine CG.seq ?_
  refine CG.seq ?_
  refine CG.region ?_
  refine OG.callo call18 rfl (Imp.refl _) (works_spec W _) rfl ?_
  rintro ⟨⟩ -
  refine OG.yield (Yield.not rfl) rfl ?_
  refine OG.nil ?_
  refine QG.then ?_
  refine CG.cond_f rfl ?_
  refine CG.skip ?_
  refine QG.then ?_
  refine CG.seq ?_
  refine CG.region ?_
  refine OG.callo call19 rfl ((by repeat (first | exact Imp.refl _ | exact Imp.none _ | apply Imp.pull (by repeat (first | exact Ext.here | apply Ext.there)) | apply Imp.trans Imp.drop))) (new_spec W _) rfl ?_
  rintro v -
  refine OG.yield (Yield.assign rfl) rfl ?_
  refine OG.nil ?_
  refine QG.then ?_
  refine CG.seq ?_
  refine CG.region ?_
  refine OG.yield (Yield.assign rfl) rfl ?_
  refine OG.nil ?_
  refine QG.then ?_
  refine CG.seq ?_
  refine CG.region ?_
  refine OG.yield (Yield.assign rfl) rfl ?_
  refine OG.nil ?_
  refine QG.then ?_
  refine CG.seq ?_
  refine CG.region ?_
  refine OG.yield (Yield.assign rfl) rfl ?_
  refine OG.nil ?_
  refine QG.then ?_
  refine CG.cut (fun s : St => s.OK ops.length) (St.env a0 ops.length c0 v) (St.G W v) ?_ ?_
  · skip
    refine CG.seq ?_
    refine CG.region ?_
    refine OG.yield (Yield.assign rfl) rfl ?_
    refine OG.nil ?_
    refine QG.then ?_
    refine CG.block ?_
    refine CG.loop (fun s : St => s.OK ops.length) (St.env a0 ops.length c0 v) (St.G W v) (fun s => ops.length - s.i) ⟨0, 0, 0, 0, false⟩ ⟨by decide, by decide, by simp, by simp⟩ (by repeat (first | exact Env.sub_nil _ | refine Env.sub_cons rfl ?_)) (by repeat (first | exact Imp.refl _ | exact Imp.none _ | apply Imp.pull (by repeat (first | exact Ext.here | apply Ext.there)) | apply Imp.trans Imp.drop)) ?_
    rintro ⟨i, q, p, a, s⟩ ⟨hq, hp, ha, im⟩
    unfold St.env
    dsimp only at hq hp ha im ⊢
    refine CG.seq ?_
    refine CG.seq ?_
    rcases loop_head (i) (ops.length) 1000 with hh | hh | hh
    · skip
      refine CG.region ?_
      refine OG.yield (Yield.move rfl) rfl ?_
      refine OG.yield (Yield.move rfl) rfl ?_
      refine OG.yield (Yield.len_slice Try.underlying55 rfl rfl) rfl ?_
      refine OG.yield (by first | exact Yield.as (Yield.lss rfl rfl) (bT (by omega)) | exact Yield.as (Yield.lss rfl rfl) (bF (by omega)) | exact Yield.lss rfl rfl) rfl ?_
      refine OG.yield (Yield.move rfl) rfl ?_
      refine OG.guard_yes rfl rfl rfl (by decide) ?_
      refine OG.yield (Yield.move rfl) rfl ?_
      refine OG.guard_yes rfl rfl rfl (by decide) ?_
      refine OG.yield (by first | exact Yield.as (Yield.lss rfl rfl) (bT (by omega)) | exact Yield.as (Yield.lss rfl rfl) (bF (by omega)) | exact Yield.lss rfl rfl) rfl ?_
      refine OG.yield (by first | exact Yield.pick_t rfl rfl | exact Yield.pick_f rfl rfl | exact Yield.pick rfl (fun _ => rfl) (fun _ => rfl)) rfl ?_
      refine OG.nil ?_
      refine QG.then ?_
      refine CG.cond_t rfl ?_
      refine CG.skip ?_
      refine QG.then ?_
      refine CG.seq ?_
      refine CG.block ?_
      obtain ⟨h1, h2⟩ := hh
      have hget : ops[i]? = some ops[i] := by simp [h1]
      have hko := hok ops[i] (List.getElem_mem h1)
      generalize ops[i] = op at hget hko
      have hN := wf_i64 hko.N
      obtain ⟨hb0, hb1⟩ := wf_u32 hko.Bits
      refine CG.pure (fun w hw => (hops.old (G := St.G W v ⟨i, q, p, a, s⟩) (by repeat (first | exact Ext.here | apply Ext.there))).elem_shape VAct.len (by decide) h1 w hw) ?_
      rintro ⟨b, o, rfl⟩
      refine CG.seq ?_
      refine CG.region ?_
      refine OG.yield (Yield.move rfl) rfl ?_
      refine OG.yield (Yield.move rfl) rfl ?_
      refine OG.yield (Yield.index_slice Try.underlying55 ti57 rfl rfl (by omega) (by omega)) rfl ?_
      refine OG.yield (Yield.load_agg ti57 rfl (VAct.len op) ((hops.old (by repeat (first | exact Ext.here | apply Ext.there))).elem VAct.len hget)) rfl ?_
      refine OG.effd (Eff.alloc ti57) rfl ?_
      rintro b8 -
      refine OG.eff (Eff.storeAll ti57 rfl rfl (by repeat (first | exact Foc.here | apply Foc.there)) (VAct.len op) (VAct.ones op) rfl) rfl ?_
      rintro ⟨⟩ -
      refine OG.nil ?_
      refine QG.then ?_
      refine CG.seq ?_
      refine CG.region ?_
      refine OG.yield (Yield.assign rfl) rfl ?_
      refine OG.nil ?_
      refine QG.then ?_
      refine CG.cut (fun x : St × Nat × Nat => x.1.OK ops.length ∧ x.1.i = i ∧ x.2.1 < 2 ^ 32 ∧ x.2.2 < 2 ^ 32 ∧ clr x.2.1 x.2.2 = x.1.p) (fun x => [(0, .slice (some ⟨b, o, none⟩) ops.length c0), (3, .pointer (some ⟨v, 0, none⟩)), (4, .int .u32 x.2.1), (5, .int .u32 x.1.q), (6, .int .i64 (atOf x.1.s x.1.a)), (7, .int .i64 x.1.i), (9, .int .u32 x.2.2)]) (fun x => St.G W v x.1) ?_ ?_
      · skip
        refine CG.seq ?_
        refine CG.region ?_
        refine OG.yield (Yield.fieldAddr fa57_0 rfl) rfl ?_
        refine OG.yield (Yield.load ti3 rfl (by first | exact Cel.of_blk (by repeat (first | exact Ext.here | apply Ext.there)) rfl | exact (hrow (by repeat (first | exact Ext.here | apply Ext.there))) _ _ rfl)) rfl ?_
        refine OG.nil ?_
        refine QG.then ?_
        refine CG.block ?_
        refine CG.seq ?_
        refine CG.region ?_
        refine OG.yield (by first | exact Yield.as (Yield.eql rfl rfl) (bT (by omega)) | exact Yield.as (Yield.eql rfl rfl) (bF (by omega)) | exact Yield.eql rfl rfl) rfl ?_
        refine OG.yield (Yield.assign rfl) rfl ?_
        refine OG.nil ?_
        refine QG.then ?_
        refine CG.cond rfl (fun hc => ?_) (fun hc => ?_)
        · try replace hc := of_decide_eq_true hc
          refine CG.seq ?_
          rcases (show (0 ≤ op.N ∧ op.N < 8) ∨ ¬ (0 ≤ op.N ∧ op.N < 8) by omega) with hn | hn
          · skip
            refine CG.region ?_
            refine OG.yield (Yield.move rfl) rfl ?_
            refine OG.yield (Yield.fieldAddr fa57_1 rfl) rfl ?_
            refine OG.yield (Yield.load ti3 rfl (by first | exact Cel.of_blk (by repeat (first | exact Ext.here | apply Ext.there)) rfl | exact (hrow (by repeat (first | exact Ext.here | apply Ext.there))) _ _ rfl)) rfl ?_
            refine OG.callo call29 rfl ((by repeat (first | exact Imp.refl _ | exact Imp.none _ | apply Imp.pull (by repeat (first | exact Ext.here | apply Ext.there)) | apply Imp.trans Imp.drop))) (queue_spec W _ op.N) rfl ?_
            rintro ⟨⟩ -
            first | rw [if_pos hn, if_pos hn] | rw [if_neg hn, if_neg hn]
            refine OG.callo call20 rfl (Imp.refl _) (num_spec W _ _) rfl ?_
            rintro ⟨⟩ -
            refine OG.yield (by first | exact Yield.as (Yield.eql rfl rfl) (bT (by omega)) | exact Yield.as (Yield.eql rfl rfl) (bF (by omega)) | exact Yield.eql rfl rfl) rfl ?_
            refine OG.nil ?_
            refine QG.then ?_
            refine CG.cond_t rfl ?_
            refine CG.region ?_
            refine OG.yield (Yield.move rfl) rfl ?_
            refine OG.yield (Yield.fieldAddr fa57_1 rfl) rfl ?_
            refine OG.yield (Yield.load ti3 rfl (by first | exact Cel.of_blk (by repeat (first | exact Ext.here | apply Ext.there)) rfl | exact (hrow (by repeat (first | exact Ext.here | apply Ext.there))) _ _ rfl)) rfl ?_
            refine OG.yield (Yield.conv Try.underlying24 rfl rfl (wu64 (by omega) (by omega))) rfl ?_
            refine OG.yield (Yield.rem (c := op.N) rfl rfl (by decide) (by rw [Int.tmod_eq_emod_of_nonneg hn.1]; omega)) rfl ?_
            refine OG.yield (Yield.shl (m := op.N.toNat) (c := ((2 ^ op.N.toNat : Nat) : Int)) rfl rfl (by omega) (by simp [IntKind.bits]; omega) (pow_u32 (by omega))) rfl ?_
            refine OG.yield (Yield.bitop (c := ((setBit q op.N.toNat true : Nat) : Int)) rfl rfl rfl (or_nat (by omega) (Nat.pow_lt_pow_right (by decide) (by omega)))) rfl ?_
            refine OG.yield (Yield.assign rfl) rfl ?_
            refine OG.nil ?_
            refine QG.block_normal ?_
            exact QG.mid (⟨i, setBit q op.N.toNat true, p, a, s⟩, p, 0) ⟨⟨setBit_lt hq (by omega) true, hp, ha, im⟩, rfl, by simp only; omega, by simp only; omega, clr_zero p⟩ (by repeat (first | exact Env.sub_nil _ | refine Env.sub_cons rfl ?_)) (by repeat (first | exact Imp.refl _ | exact Imp.none _ | apply Imp.pull (by repeat (first | exact Ext.here | apply Ext.there)) | apply Imp.trans Imp.drop))
          · skip
            refine CG.region ?_
            refine OG.yield (Yield.move rfl) rfl ?_
            refine OG.yield (Yield.fieldAddr fa57_1 rfl) rfl ?_
            refine OG.yield (Yield.load ti3 rfl (by first | exact Cel.of_blk (by repeat (first | exact Ext.here | apply Ext.there)) rfl | exact (hrow (by repeat (first | exact Ext.here | apply Ext.there))) _ _ rfl)) rfl ?_
            refine OG.callo call29 rfl ((by repeat (first | exact Imp.refl _ | exact Imp.none _ | apply Imp.pull (by repeat (first | exact Ext.here | apply Ext.there)) | apply Imp.trans Imp.drop))) (queue_spec W _ op.N) rfl ?_
            rintro ⟨⟩ -
            first | rw [if_pos hn, if_pos hn] | rw [if_neg hn, if_neg hn]
            refine OG.callo call20 rfl (Imp.refl _) (num_spec W _ _) rfl ?_
            rintro ⟨⟩ -
            refine OG.yield (by first | exact Yield.as (Yield.eql rfl rfl) (bT (by omega)) | exact Yield.as (Yield.eql rfl rfl) (bF (by omega)) | exact Yield.eql rfl rfl) rfl ?_
            refine OG.nil ?_
            refine QG.then ?_
            refine CG.cond_f rfl ?_
            refine CG.skip ?_
            refine QG.block_normal ?_
            exact QG.mid (⟨i, q, p, a, s⟩, p, 0) ⟨⟨hq, hp, ha, im⟩, rfl, by simp only; omega, by simp only; omega, clr_zero p⟩ (by repeat (first | exact Env.sub_nil _ | refine Env.sub_cons rfl ?_)) (by repeat (first | exact Imp.refl _ | exact Imp.none _ | apply Imp.pull (by repeat (first | exact Ext.here | apply Ext.there)) | apply Imp.trans Imp.drop))
        · try replace hc := of_decide_eq_false hc
          refine CG.seq ?_
          refine CG.region ?_
          refine OG.yield (by first | exact Yield.as (Yield.eql rfl rfl) (bT (by omega)) | exact Yield.as (Yield.eql rfl rfl) (bF (by omega)) | exact Yield.eql rfl rfl) rfl ?_
          refine OG.yield (Yield.assign rfl) rfl ?_
          refine OG.nil ?_
          refine QG.then ?_
          refine CG.cond rfl (fun hc => ?_) (fun hc => ?_)
          · try replace hc := of_decide_eq_true hc
            refine CG.seq ?_
            refine CG.seq ?_
            rcases (show (s = true ∧ a ≤ op.N) ∨ (s = true ∧ ¬ a ≤ op.N) ∨ s = false by cases s <;> simp; omega) with hn | hn | hn
            · skip
              obtain ⟨rfl, hn⟩ := hn
              have ha0 := ha rfl
              rw [show atOf true a = a from rfl]
              refine CG.region ?_
              refine OG.yield (Yield.move rfl) rfl ?_
              refine OG.yield (by first | exact Yield.as (Yield.geq rfl rfl) (bT (by omega)) | exact Yield.as (Yield.geq rfl rfl) (bF (by omega)) | exact Yield.geq rfl rfl) rfl ?_
              refine OG.yield (Yield.move rfl) rfl ?_
              refine OG.guard_yes rfl rfl rfl (by decide) ?_
              refine OG.yield (Yield.move rfl) rfl ?_
              refine OG.guard_yes rfl rfl rfl (by decide) ?_
              refine OG.yield (Yield.fieldAddr fa57_1 rfl) rfl ?_
              refine OG.guard_yes rfl rfl rfl (by decide) ?_
              refine OG.yield (Yield.load ti3 rfl (by first | exact Cel.of_blk (by repeat (first | exact Ext.here | apply Ext.there)) rfl | exact (hrow (by repeat (first | exact Ext.here | apply Ext.there))) _ _ rfl)) rfl ?_
              refine OG.guard_yes rfl rfl rfl (by decide) ?_
              refine OG.yield (by first | exact Yield.as (Yield.leq rfl rfl) (bT (by omega)) | exact Yield.as (Yield.leq rfl rfl) (bF (by omega)) | exact Yield.leq rfl rfl) rfl ?_
              refine OG.yield (by first | exact Yield.pick_t rfl rfl | exact Yield.pick_f rfl rfl | exact Yield.pick rfl (fun _ => rfl) (fun _ => rfl)) rfl ?_
              refine OG.nil ?_
              refine QG.then ?_
              refine CG.cond_t rfl ?_
              refine CG.seq ?_
              refine CG.region ?_
              refine OG.yield (Yield.move rfl) rfl ?_
              refine OG.yield (Yield.bitop (c := ((setBit q 0 true : Nat) : Int)) rfl rfl rfl (or_nat (a := q) (b := 1) (by omega) (by decide))) rfl ?_
              refine OG.yield (Yield.assign rfl) rfl ?_
              refine OG.nil ?_
              refine QG.then ?_
              refine CG.region ?_
              refine OG.yield (Yield.assign rfl) rfl ?_
              refine OG.nil ?_
              refine QG.then ?_
              refine CG.seq ?_
              refine CG.seq ?_
              refine CG.region ?_
              refine OG.yield (Yield.move rfl) rfl ?_
              refine OG.yield (Yield.fieldAddr fa57_1 rfl) rfl ?_
              refine OG.yield (Yield.load ti3 rfl (by first | exact Cel.of_blk (by repeat (first | exact Ext.here | apply Ext.there)) rfl | exact (hrow (by repeat (first | exact Ext.here | apply Ext.there))) _ _ rfl)) rfl ?_
              refine OG.callo call22 rfl ((by repeat (first | exact Imp.refl _ | exact Imp.none _ | apply Imp.pull (by repeat (first | exact Ext.here | apply Ext.there)) | apply Imp.trans Imp.drop))) (release_due W _ op.N hq hp (by show (true && decide (a ≤ op.N)) = true; rw [decide_eq_true hn]; rfl)) rfl ?_
              rintro ⟨⟩ -
              have hq' : setBit q 0 true < 256 := setBit_lt hq (by decide) true
              generalize setBit q 0 true = q' at hq' ⊢
              have hpq := or_lt hp hq'
              refine OG.yield (Yield.move rfl) rfl ?_
              refine OG.yield (by first | exact Yield.as (Yield.neq rfl rfl) (bT (by omega)) | exact Yield.as (Yield.neq rfl rfl) (bF (by omega)) | exact Yield.neq rfl rfl) rfl ?_
              refine OG.yield (Yield.move rfl) rfl ?_
              refine OG.guard_yes rfl rfl rfl (by decide) ?_
              refine OG.yield (Yield.move rfl) rfl ?_
              refine OG.guard_yes rfl rfl rfl (by decide) ?_
              refine OG.callo call24 rfl ((by repeat (first | exact Imp.refl _ | exact Imp.none _ | apply Imp.pull (by repeat (first | exact Ext.here | apply Ext.there)) | apply Imp.trans Imp.drop))) (pending_spec W _ hpq) rfl ?_
              rintro ⟨⟩ -
              refine OG.guard_yes rfl rfl rfl (by decide) ?_
              refine OG.yield (Yield.move rfl) rfl ?_
              refine OG.guard_yes rfl rfl rfl (by decide) ?_
              refine OG.yield (Yield.move rfl) rfl ?_
              refine OG.guard_yes rfl rfl rfl (by decide) ?_
              refine OG.yield (Yield.bitop rfl rfl rfl (or_nat (by omega) (by omega))) rfl ?_
              refine OG.guard_yes rfl rfl rfl (by decide) ?_
              refine OG.yield (by first | exact Yield.as (Yield.neq rfl rfl) (bT (by omega)) | exact Yield.as (Yield.neq rfl rfl) (bF (by omega)) | exact Yield.neq rfl rfl) rfl ?_
              refine OG.yield (by first | exact Yield.pick_t rfl rfl | exact Yield.pick_f rfl rfl | exact Yield.pick rfl (fun _ => rfl) (fun _ => rfl)) rfl ?_
              refine OG.nil ?_
              refine QG.then ?_
              refine CG.cond_f rfl ?_
              refine CG.skip ?_
              refine QG.then ?_
              refine CG.seq ?_
              refine CG.region ?_
              refine OG.yield (Yield.move rfl) rfl ?_
              refine OG.yield (Yield.move rfl) rfl ?_
              refine OG.yield (Yield.bitop rfl rfl rfl (or_nat (by omega) (by omega))) rfl ?_
              refine OG.yield (Yield.assign rfl) rfl ?_
              refine OG.nil ?_
              refine QG.then ?_
              refine CG.seq ?_
              refine CG.region ?_
              refine OG.yield (Yield.assign rfl) rfl ?_
              refine OG.nil ?_
              refine QG.then ?_
              refine CG.exit ?_
              refine QG.block_out (by decide) ?_
              refine QG.pass_exit ?_
              refine QG.block_exit ?_
              refine QG.then ?_
              refine CG.region ?_
              refine OG.yield (Yield.move rfl) rfl ?_
              refine OG.yield (Yield.add rfl rfl (w64 (by omega) (by omega))) rfl ?_
              refine OG.yield (Yield.assign rfl) rfl ?_
              refine OG.nil ?_
              exact QG.next ⟨i + 1, 0, _, 0, false⟩ ⟨by simp only; omega, hpq, by simp, by simp only; omega⟩ (by simp only; omega) (by repeat (first | exact Env.sub_nil _ | refine Env.sub_cons rfl ?_)) (by repeat (first | exact Imp.refl _ | exact Imp.none _ | apply Imp.pull (by repeat (first | exact Ext.here | apply Ext.there)) | apply Imp.trans Imp.drop))
            · skip
              obtain ⟨rfl, hn⟩ := hn
              have ha0 := ha rfl
              rw [show atOf true a = a from rfl]
              refine CG.region ?_
              refine OG.yield (Yield.move rfl) rfl ?_
              refine OG.yield (by first | exact Yield.as (Yield.geq rfl rfl) (bT (by omega)) | exact Yield.as (Yield.geq rfl rfl) (bF (by omega)) | exact Yield.geq rfl rfl) rfl ?_
              refine OG.yield (Yield.move rfl) rfl ?_
              refine OG.guard_yes rfl rfl rfl (by decide) ?_
              refine OG.yield (Yield.move rfl) rfl ?_
              refine OG.guard_yes rfl rfl rfl (by decide) ?_
              refine OG.yield (Yield.fieldAddr fa57_1 rfl) rfl ?_
              refine OG.guard_yes rfl rfl rfl (by decide) ?_
              refine OG.yield (Yield.load ti3 rfl (by first | exact Cel.of_blk (by repeat (first | exact Ext.here | apply Ext.there)) rfl | exact (hrow (by repeat (first | exact Ext.here | apply Ext.there))) _ _ rfl)) rfl ?_
              refine OG.guard_yes rfl rfl rfl (by decide) ?_
              refine OG.yield (by first | exact Yield.as (Yield.leq rfl rfl) (bT (by omega)) | exact Yield.as (Yield.leq rfl rfl) (bF (by omega)) | exact Yield.leq rfl rfl) rfl ?_
              refine OG.yield (by first | exact Yield.pick_t rfl rfl | exact Yield.pick_f rfl rfl | exact Yield.pick rfl (fun _ => rfl) (fun _ => rfl)) rfl ?_
              refine OG.nil ?_
              refine QG.then ?_
              refine CG.cond_f rfl ?_
              refine CG.skip ?_
              refine QG.then ?_
              refine CG.seq ?_
              refine CG.seq ?_
              refine CG.region ?_
              refine OG.yield (Yield.move rfl) rfl ?_
              refine OG.yield (Yield.fieldAddr fa57_1 rfl) rfl ?_
              refine OG.yield (Yield.load ti3 rfl (by first | exact Cel.of_blk (by repeat (first | exact Ext.here | apply Ext.there)) rfl | exact (hrow (by repeat (first | exact Ext.here | apply Ext.there))) _ _ rfl)) rfl ?_
              refine OG.callo call22 rfl ((by repeat (first | exact Imp.refl _ | exact Imp.none _ | apply Imp.pull (by repeat (first | exact Ext.here | apply Ext.there)) | apply Imp.trans Imp.drop))) (release_not W _ op.N hq hp (by show (true && decide (a ≤ op.N)) = false; rw [decide_eq_false hn]; rfl)) rfl ?_
              rintro ⟨⟩ -
              have hpq := or_lt hp hq
              refine OG.yield (Yield.move rfl) rfl ?_
              refine OG.yield (by first | exact Yield.as (Yield.neq rfl rfl) (bT (by omega)) | exact Yield.as (Yield.neq rfl rfl) (bF (by omega)) | exact Yield.neq rfl rfl) rfl ?_
              refine OG.yield (Yield.move rfl) rfl ?_
              refine OG.guard_yes rfl rfl rfl (by decide) ?_
              refine OG.yield (Yield.move rfl) rfl ?_
              refine OG.guard_yes rfl rfl rfl (by decide) ?_
              refine OG.callo call24 rfl ((by repeat (first | exact Imp.refl _ | exact Imp.none _ | apply Imp.pull (by repeat (first | exact Ext.here | apply Ext.there)) | apply Imp.trans Imp.drop))) (pending_spec W _ hpq) rfl ?_
              rintro ⟨⟩ -
              refine OG.guard_yes rfl rfl rfl (by decide) ?_
              refine OG.yield (Yield.move rfl) rfl ?_
              refine OG.guard_yes rfl rfl rfl (by decide) ?_
              refine OG.yield (Yield.move rfl) rfl ?_
              refine OG.guard_yes rfl rfl rfl (by decide) ?_
              refine OG.yield (Yield.bitop rfl rfl rfl (or_nat (by omega) (by omega))) rfl ?_
              refine OG.guard_yes rfl rfl rfl (by decide) ?_
              refine OG.yield (by first | exact Yield.as (Yield.neq rfl rfl) (bT (by omega)) | exact Yield.as (Yield.neq rfl rfl) (bF (by omega)) | exact Yield.neq rfl rfl) rfl ?_
              refine OG.yield (by first | exact Yield.pick_t rfl rfl | exact Yield.pick_f rfl rfl | exact Yield.pick rfl (fun _ => rfl) (fun _ => rfl)) rfl ?_
              refine OG.nil ?_
              refine QG.then ?_
              refine CG.cond_f rfl ?_
              refine CG.skip ?_
              refine QG.then ?_
              refine CG.seq ?_
              refine CG.region ?_
              refine OG.yield (Yield.move rfl) rfl ?_
              refine OG.yield (Yield.move rfl) rfl ?_
              refine OG.yield (Yield.bitop rfl rfl rfl (or_nat (by omega) (by omega))) rfl ?_
              refine OG.yield (Yield.assign rfl) rfl ?_
              refine OG.nil ?_
              refine QG.then ?_
              refine CG.seq ?_
              refine CG.region ?_
              refine OG.yield (Yield.assign rfl) rfl ?_
              refine OG.nil ?_
              refine QG.then ?_
              refine CG.exit ?_
              refine QG.block_out (by decide) ?_
              refine QG.pass_exit ?_
              refine QG.block_exit ?_
              refine QG.then ?_
              refine CG.region ?_
              refine OG.yield (Yield.move rfl) rfl ?_
              refine OG.yield (Yield.add rfl rfl (w64 (by omega) (by omega))) rfl ?_
              refine OG.yield (Yield.assign rfl) rfl ?_
              refine OG.nil ?_
              exact QG.next ⟨i + 1, 0, _, a, true⟩ ⟨by simp only; omega, hpq, fun _ => ha0, by simp only; omega⟩ (by simp only; omega) (by repeat (first | exact Env.sub_nil _ | refine Env.sub_cons rfl ?_)) (by repeat (first | exact Imp.refl _ | exact Imp.none _ | apply Imp.pull (by repeat (first | exact Ext.here | apply Ext.there)) | apply Imp.trans Imp.drop))
            · skip
              subst hn
              rw [show atOf false a = -1 from rfl]
              refine CG.region ?_
              refine OG.yield (Yield.move rfl) rfl ?_
              refine OG.yield (by first | exact Yield.as (Yield.geq rfl rfl) (bT (by omega)) | exact Yield.as (Yield.geq rfl rfl) (bF (by omega)) | exact Yield.geq rfl rfl) rfl ?_
              refine OG.yield (Yield.move rfl) rfl ?_
              refine OG.guard_no rfl rfl rfl rfl rfl (by decide) (by decide) ?_
              refine OG.guard_no rfl rfl rfl rfl rfl (by decide) (by decide) ?_
              refine OG.guard_no rfl rfl rfl rfl rfl (by decide) (by decide) ?_
              refine OG.guard_no rfl rfl rfl rfl rfl (by decide) (by decide) ?_
              refine OG.yield (by first | exact Yield.pick_t rfl rfl | exact Yield.pick_f rfl rfl | exact Yield.pick rfl (fun _ => rfl) (fun _ => rfl)) rfl ?_
              refine OG.nil ?_
              refine QG.then ?_
              refine CG.cond_f rfl ?_
              refine CG.skip ?_
              refine QG.then ?_
              refine CG.seq ?_
              refine CG.seq ?_
              refine CG.region ?_
              refine OG.yield (Yield.move rfl) rfl ?_
              refine OG.yield (Yield.fieldAddr fa57_1 rfl) rfl ?_
              refine OG.yield (Yield.load ti3 rfl (by first | exact Cel.of_blk (by repeat (first | exact Ext.here | apply Ext.there)) rfl | exact (hrow (by repeat (first | exact Ext.here | apply Ext.there))) _ _ rfl)) rfl ?_
              refine OG.callo call22 rfl ((by repeat (first | exact Imp.refl _ | exact Imp.none _ | apply Imp.pull (by repeat (first | exact Ext.here | apply Ext.there)) | apply Imp.trans Imp.drop))) (release_not W _ op.N hq hp rfl) rfl ?_
              rintro ⟨⟩ -
              have hpq := or_lt hp hq
              refine OG.yield (Yield.move rfl) rfl ?_
              refine OG.yield (by first | exact Yield.as (Yield.neq rfl rfl) (bT (by omega)) | exact Yield.as (Yield.neq rfl rfl) (bF (by omega)) | exact Yield.neq rfl rfl) rfl ?_
              refine OG.yield (Yield.move rfl) rfl ?_
              refine OG.guard_yes rfl rfl rfl (by decide) ?_
              refine OG.yield (Yield.move rfl) rfl ?_
              refine OG.guard_yes rfl rfl rfl (by decide) ?_
              refine OG.callo call24 rfl ((by repeat (first | exact Imp.refl _ | exact Imp.none _ | apply Imp.pull (by repeat (first | exact Ext.here | apply Ext.there)) | apply Imp.trans Imp.drop))) (pending_spec W _ hpq) rfl ?_
              rintro ⟨⟩ -
              refine OG.guard_yes rfl rfl rfl (by decide) ?_
              refine OG.yield (Yield.move rfl) rfl ?_
              refine OG.guard_yes rfl rfl rfl (by decide) ?_
              refine OG.yield (Yield.move rfl) rfl ?_
              refine OG.guard_yes rfl rfl rfl (by decide) ?_
              refine OG.yield (Yield.bitop rfl rfl rfl (or_nat (by omega) (by omega))) rfl ?_
              refine OG.guard_yes rfl rfl rfl (by decide) ?_
              refine OG.yield (by first | exact Yield.as (Yield.neq rfl rfl) (bT (by omega)) | exact Yield.as (Yield.neq rfl rfl) (bF (by omega)) | exact Yield.neq rfl rfl) rfl ?_
              refine OG.yield (by first | exact Yield.pick_t rfl rfl | exact Yield.pick_f rfl rfl | exact Yield.pick rfl (fun _ => rfl) (fun _ => rfl)) rfl ?_
              refine OG.nil ?_
              refine QG.then ?_
              refine CG.cond_f rfl ?_
              refine CG.skip ?_
              refine QG.then ?_
              refine CG.seq ?_
              refine CG.region ?_
              refine OG.yield (Yield.move rfl) rfl ?_
              refine OG.yield (Yield.move rfl) rfl ?_
              refine OG.yield (Yield.bitop rfl rfl rfl (or_nat (by omega) (by omega))) rfl ?_
              refine OG.yield (Yield.assign rfl) rfl ?_
              refine OG.nil ?_
              refine QG.then ?_
              refine CG.seq ?_
              refine CG.region ?_
              refine OG.yield (Yield.assign rfl) rfl ?_
              refine OG.nil ?_
              refine QG.then ?_
              refine CG.exit ?_
              refine QG.block_out (by decide) ?_
              refine QG.pass_exit ?_
              refine QG.block_exit ?_
              refine QG.then ?_
              refine CG.region ?_
              refine OG.yield (Yield.move rfl) rfl ?_
              refine OG.yield (Yield.add rfl rfl (w64 (by omega) (by omega))) rfl ?_
              refine OG.yield (Yield.assign rfl) rfl ?_
              refine OG.nil ?_
              exact QG.next ⟨i + 1, 0, _, a, false⟩ ⟨by simp only; omega, hpq, by simp, by simp only; omega⟩ (by simp only; omega) (by repeat (first | exact Env.sub_nil _ | refine Env.sub_cons rfl ?_)) (by repeat (first | exact Imp.refl _ | exact Imp.none _ | apply Imp.pull (by repeat (first | exact Ext.here | apply Ext.there)) | apply Imp.trans Imp.drop))
          · try replace hc := of_decide_eq_false hc
            refine CG.seq ?_
            refine CG.region ?_
            refine OG.yield (by first | exact Yield.as (Yield.eql rfl rfl) (bT (by omega)) | exact Yield.as (Yield.eql rfl rfl) (bF (by omega)) | exact Yield.eql rfl rfl) rfl ?_
            refine OG.yield (Yield.assign rfl) rfl ?_
            refine OG.nil ?_
            refine QG.then ?_
            refine CG.cond rfl (fun hc => ?_) (fun hc => ?_)
            · try replace hc := of_decide_eq_true hc
              refine CG.seq ?_
              refine CG.region ?_
              obtain ⟨mk, hmk⟩ : ∃ mk : Nat, op.Bits = (mk : Int) := ⟨op.Bits.toNat, by omega⟩
              have hcell : op.cells = [.int .i64 op.Kind, .int .i64 op.N, .int .u32 mk] := by rw [← hmk]; rfl
              rw [hcell]
              refine OG.yield (Yield.move rfl) rfl ?_
              refine OG.yield (Yield.fieldAddr fa57_2 rfl) rfl ?_
              refine OG.yield (Yield.load ti37 rfl (by first | exact Cel.of_blk (by repeat (first | exact Ext.here | apply Ext.there)) rfl | exact (hrow (by repeat (first | exact Ext.here | apply Ext.there))) _ _ rfl)) rfl ?_
              refine OG.callo call30 rfl ((by repeat (first | exact Imp.refl _ | exact Imp.none _ | apply Imp.pull (by repeat (first | exact Ext.here | apply Ext.there)) | apply Imp.trans Imp.drop))) (ack_spec W _ hp (m := mk) (by omega)) rfl ?_
              rintro ⟨⟩ -
              refine OG.nil ?_
              refine QG.then ?_
              refine CG.region ?_
              refine OG.yield (Yield.fieldAddr fa57_2 rfl) rfl ?_
              refine OG.yield (Yield.load ti37 rfl (by first | exact Cel.of_blk (by repeat (first | exact Ext.here | apply Ext.there)) rfl | exact (hrow (by repeat (first | exact Ext.here | apply Ext.there))) _ _ rfl)) rfl ?_
              refine OG.yield (Yield.assign rfl) rfl ?_
              refine OG.nil ?_
              refine QG.block_normal ?_
              exact QG.mid (⟨i, q, clr p mk, a, s⟩, p, mk) ⟨⟨hq, clr_lt hp mk, ha, im⟩, rfl, by simp only; omega, by simp only; omega, rfl⟩ (by repeat (first | exact Env.sub_nil _ | refine Env.sub_cons rfl ?_)) (by repeat (first | exact Imp.refl _ | exact Imp.none _ | apply Imp.pull (by repeat (first | exact Ext.here | apply Ext.there)) | apply Imp.trans Imp.drop))
            · try replace hc := of_decide_eq_false hc
              refine CG.seq ?_
              refine CG.region ?_
              refine OG.yield (by first | exact Yield.as (Yield.eql rfl rfl) (bT (by omega)) | exact Yield.as (Yield.eql rfl rfl) (bF (by omega)) | exact Yield.eql rfl rfl) rfl ?_
              refine OG.yield (Yield.assign rfl) rfl ?_
              refine OG.nil ?_
              refine QG.then ?_
              refine CG.cond rfl (fun hc => ?_) (fun hc => ?_)
              · try replace hc := of_decide_eq_true hc
                refine CG.seq ?_
                rcases (show (0 ≤ op.N ∧ op.N ≤ 281474976710656) ∨ ¬ (0 ≤ op.N ∧ op.N ≤ 281474976710656) by omega) with hn | hn
                · skip
                  refine CG.region ?_
                  refine OG.yield (Yield.move rfl) rfl ?_
                  refine OG.yield (Yield.fieldAddr fa57_1 rfl) rfl ?_
                  refine OG.yield (Yield.load ti3 rfl (by first | exact Cel.of_blk (by repeat (first | exact Ext.here | apply Ext.there)) rfl | exact (hrow (by repeat (first | exact Ext.here | apply Ext.there))) _ _ rfl)) rfl ?_
                  refine OG.callo call21 rfl ((by repeat (first | exact Imp.refl _ | exact Imp.none _ | apply Imp.pull (by repeat (first | exact Ext.here | apply Ext.there)) | apply Imp.trans Imp.drop))) (timer_spec W _ op.N) rfl ?_
                  rintro ⟨⟩ -
                  first | rw [if_pos hn, if_pos hn] | rw [if_neg hn, if_neg hn]
                  refine OG.callo call20 rfl (Imp.refl _) (num_spec W _ _) rfl ?_
                  rintro ⟨⟩ -
                  refine OG.yield (by first | exact Yield.as (Yield.eql rfl rfl) (bT (by omega)) | exact Yield.as (Yield.eql rfl rfl) (bF (by omega)) | exact Yield.eql rfl rfl) rfl ?_
                  refine OG.nil ?_
                  refine QG.then ?_
                  refine CG.cond_t rfl ?_
                  refine CG.region ?_
                  refine OG.yield (Yield.fieldAddr fa57_1 rfl) rfl ?_
                  refine OG.yield (Yield.load ti3 rfl (by first | exact Cel.of_blk (by repeat (first | exact Ext.here | apply Ext.there)) rfl | exact (hrow (by repeat (first | exact Ext.here | apply Ext.there))) _ _ rfl)) rfl ?_
                  refine OG.yield (Yield.assign rfl) rfl ?_
                  refine OG.nil ?_
                  refine QG.block_normal ?_
                  exact QG.mid (⟨i, q, p, op.N, true⟩, p, 0) ⟨⟨hq, hp, fun _ => hn.1, im⟩, rfl, by simp only; omega, by simp only; omega, clr_zero p⟩ (by repeat (first | exact Env.sub_nil _ | refine Env.sub_cons rfl ?_)) (by repeat (first | exact Imp.refl _ | exact Imp.none _ | apply Imp.pull (by repeat (first | exact Ext.here | apply Ext.there)) | apply Imp.trans Imp.drop))
                · skip
                  refine CG.region ?_
                  refine OG.yield (Yield.move rfl) rfl ?_
                  refine OG.yield (Yield.fieldAddr fa57_1 rfl) rfl ?_
                  refine OG.yield (Yield.load ti3 rfl (by first | exact Cel.of_blk (by repeat (first | exact Ext.here | apply Ext.there)) rfl | exact (hrow (by repeat (first | exact Ext.here | apply Ext.there))) _ _ rfl)) rfl ?_
                  refine OG.callo call21 rfl ((by repeat (first | exact Imp.refl _ | exact Imp.none _ | apply Imp.pull (by repeat (first | exact Ext.here | apply Ext.there)) | apply Imp.trans Imp.drop))) (timer_spec W _ op.N) rfl ?_
                  rintro ⟨⟩ -
                  first | rw [if_pos hn, if_pos hn] | rw [if_neg hn, if_neg hn]
                  refine OG.callo call20 rfl (Imp.refl _) (num_spec W _ _) rfl ?_
                  rintro ⟨⟩ -
                  refine OG.yield (by first | exact Yield.as (Yield.eql rfl rfl) (bT (by omega)) | exact Yield.as (Yield.eql rfl rfl) (bF (by omega)) | exact Yield.eql rfl rfl) rfl ?_
                  refine OG.nil ?_
                  refine QG.then ?_
                  refine CG.cond_f rfl ?_
                  refine CG.skip ?_
                  refine QG.block_normal ?_
                  exact QG.mid (⟨i, q, p, a, s⟩, p, 0) ⟨⟨hq, hp, ha, im⟩, rfl, by simp only; omega, by simp only; omega, clr_zero p⟩ (by repeat (first | exact Env.sub_nil _ | refine Env.sub_cons rfl ?_)) (by repeat (first | exact Imp.refl _ | exact Imp.none _ | apply Imp.pull (by repeat (first | exact Ext.here | apply Ext.there)) | apply Imp.trans Imp.drop))
              · try replace hc := of_decide_eq_false hc
                refine CG.seq ?_
                refine CG.region ?_
                refine OG.yield (by first | exact Yield.as (Yield.eql rfl rfl) (bT (by omega)) | exact Yield.as (Yield.eql rfl rfl) (bF (by omega)) | exact Yield.eql rfl rfl) rfl ?_
                refine OG.yield (Yield.assign rfl) rfl ?_
                refine OG.nil ?_
                refine QG.then ?_
                refine CG.cond rfl (fun hc => ?_) (fun hc => ?_)
                · try replace hc := of_decide_eq_true hc
                  refine CG.seq ?_
                  refine CG.region ?_
                  refine OG.yield (Yield.move rfl) rfl ?_
                  refine OG.callo call31 rfl ((by repeat (first | exact Imp.refl _ | exact Imp.none _ | apply Imp.pull (by repeat (first | exact Ext.here | apply Ext.there)) | apply Imp.trans Imp.drop))) (stop_spec W _) rfl ?_
                  rintro ⟨⟩ -
                  refine OG.nil ?_
                  refine QG.then ?_
                  refine CG.region ?_
                  refine OG.yield (Yield.assign rfl) rfl ?_
                  refine OG.nil ?_
                  refine QG.block_normal ?_
                  exact QG.mid (⟨i, q, p, 0, false⟩, p, 0) ⟨⟨hq, hp, by simp, im⟩, rfl, by simp only; omega, by simp only; omega, clr_zero p⟩ (by repeat (first | exact Env.sub_nil _ | refine Env.sub_cons rfl ?_)) (by repeat (first | exact Imp.refl _ | exact Imp.none _ | apply Imp.pull (by repeat (first | exact Ext.here | apply Ext.there)) | apply Imp.trans Imp.drop))
                · try replace hc := of_decide_eq_false hc
                  refine CG.skip ?_
                  refine QG.block_normal ?_
                  exact QG.mid (⟨i, q, p, a, s⟩, p, 0) ⟨⟨hq, hp, ha, im⟩, rfl, by simp only; omega, by simp only; omega, clr_zero p⟩ (by repeat (first | exact Env.sub_nil _ | refine Env.sub_cons rfl ?_)) (by repeat (first | exact Imp.refl _ | exact Imp.none _ | apply Imp.pull (by repeat (first | exact Ext.here | apply Ext.there)) | apply Imp.trans Imp.drop))
      clear hq hp ha im
      rintro ⟨⟨i', q, p, a, s⟩, was, ack⟩ ⟨⟨hq, hp, ha, im⟩, hi', hw, hk, hc⟩
      dsimp only at hq hp ha im hi' hw hk hc ⊢
      subst hi'
      refine CG.seq ?_
      refine CG.region ?_
      refine OG.yield (Yield.move rfl) rfl ?_
      refine OG.yield (Yield.move rfl) rfl ?_
      refine OG.yield (Yield.bitop (c := ((p : Nat) : Int)) rfl rfl rfl (by rw [andNot_nat hw hk]; show ((clr was ack : Nat) : Int) = _; rw [hc])) rfl ?_
      refine OG.yield (Yield.assign rfl) rfl ?_
      refine OG.nil ?_
      refine QG.then ?_
      refine CG.seq ?_
      refine CG.region ?_
      refine OG.yield (Yield.move rfl) rfl ?_
      refine OG.callo call24 rfl ((by repeat (first | exact Imp.refl _ | exact Imp.none _ | apply Imp.pull (by repeat (first | exact Ext.here | apply Ext.there)) | apply Imp.trans Imp.drop))) (pending_spec W _ hp) rfl ?_
      rintro ⟨⟩ -
      refine OG.yield (Yield.move rfl) rfl ?_
      refine OG.yield (by first | exact Yield.as (Yield.neq rfl rfl) (bT (by omega)) | exact Yield.as (Yield.neq rfl rfl) (bF (by omega)) | exact Yield.neq rfl rfl) rfl ?_
      refine OG.nil ?_
      refine QG.then ?_
      refine CG.cond_f rfl ?_
      refine CG.skip ?_
      refine QG.block_normal ?_
      refine QG.then ?_
      refine CG.region ?_
      refine OG.yield (Yield.move rfl) rfl ?_
      refine OG.yield (Yield.add rfl rfl (w64 (by omega) (by omega))) rfl ?_
      refine OG.yield (Yield.assign rfl) rfl ?_
      refine OG.nil ?_
      exact QG.next ⟨i' + 1, q, p, a, s⟩ ⟨hq, hp, ha, by simp only; omega⟩ (by simp only; omega) (by repeat (first | exact Env.sub_nil _ | refine Env.sub_cons rfl ?_)) (by repeat (first | exact Imp.refl _ | exact Imp.none _ | apply Imp.pull (by repeat (first | exact Ext.here | apply Ext.there)) | apply Imp.trans Imp.drop))
    · skip
      refine CG.region ?_
      refine OG.yield (Yield.move rfl) rfl ?_
      refine OG.yield (Yield.move rfl) rfl ?_
      refine OG.yield (Yield.len_slice Try.underlying55 rfl rfl) rfl ?_
      refine OG.yield (by first | exact Yield.as (Yield.lss rfl rfl) (bT (by omega)) | exact Yield.as (Yield.lss rfl rfl) (bF (by omega)) | exact Yield.lss rfl rfl) rfl ?_
      refine OG.yield (Yield.move rfl) rfl ?_
      refine OG.guard_yes rfl rfl rfl (by decide) ?_
      refine OG.yield (Yield.move rfl) rfl ?_
      refine OG.guard_yes rfl rfl rfl (by decide) ?_
      refine OG.yield (by first | exact Yield.as (Yield.lss rfl rfl) (bT (by omega)) | exact Yield.as (Yield.lss rfl rfl) (bF (by omega)) | exact Yield.lss rfl rfl) rfl ?_
      refine OG.yield (by first | exact Yield.pick_t rfl rfl | exact Yield.pick_f rfl rfl | exact Yield.pick rfl (fun _ => rfl) (fun _ => rfl)) rfl ?_
      refine OG.nil ?_
      refine QG.then ?_
      refine CG.cond_f rfl ?_
      refine CG.exit ?_
      refine QG.pass_exit ?_
      refine QG.pass_exit ?_
      refine QG.block_exit ?_
      exact QG.mid ⟨i, q, p, a, s⟩ ⟨hq, hp, ha, im⟩ (by repeat (first | exact Env.sub_nil _ | refine Env.sub_cons rfl ?_)) (Imp.refl _)
    · skip
      refine CG.region ?_
      refine OG.yield (Yield.move rfl) rfl ?_
      refine OG.yield (Yield.move rfl) rfl ?_
      refine OG.yield (Yield.len_slice Try.underlying55 rfl rfl) rfl ?_
      refine OG.yield (by first | exact Yield.as (Yield.lss rfl rfl) (bT (by omega)) | exact Yield.as (Yield.lss rfl rfl) (bF (by omega)) | exact Yield.lss rfl rfl) rfl ?_
      refine OG.yield (Yield.move rfl) rfl ?_
      refine OG.guard_no rfl rfl rfl rfl rfl (by decide) (by decide) ?_
      refine OG.guard_no rfl rfl rfl rfl rfl (by decide) (by decide) ?_
      refine OG.yield (by first | exact Yield.pick_t rfl rfl | exact Yield.pick_f rfl rfl | exact Yield.pick rfl (fun _ => rfl) (fun _ => rfl)) rfl ?_
      refine OG.nil ?_
      refine QG.then ?_
      refine CG.cond_f rfl ?_
      refine CG.exit ?_
      refine QG.pass_exit ?_
      refine QG.pass_exit ?_
      refine QG.block_exit ?_
      exact QG.mid ⟨i, q, p, a, s⟩ ⟨hq, hp, ha, im⟩ (by repeat (first | exact Env.sub_nil _ | refine Env.sub_cons rfl ?_)) (Imp.refl _)
  rintro s ⟨hq, hp, ha, im⟩
  refine CG.seq ?_
  refine CG.region ?_
  refine OG.yield (Yield.assign rfl) rfl ?_
  refine OG.nil ?_
  refine QG.then ?_
  refine CG.ret ?_
  exact QG.ret1 rfl rfl () trivial rfl (by repeat (first | exact Imp.refl _ | exact Imp.none _ | apply Imp.pull (by repeat (first | exact Ext.here | apply Ext.there)) | apply Imp.trans Imp.drop))
open Go.ChangeShapes Go.WideShapes Go.ChangeAt
theorem own : ownKnob Try.prog.godebug = none := by kernel_rfl
theorem laid : laidOutB Try.prog = true := by kernel_rfl
set_option maxRecDepth 100000 in
theorem lifted (os : Os) (started : os.Started) (H : Type) (enc : TypeId × Value → H) :
    ReturnsInHanded {} Try.checked os 6 .any (Rows.virqWindowsSpec.pre6 enc Try.prog Try.f6 Rows.virqWindowsRow.domain false) (Rows.virqWindowsSpec.post enc Try.prog Try.f6 false true false false) := by
  refine returnsInHanded_of_change_sized (C := Try.checked) own started (by kernel_rfl) Try.func6
    (ChangeSpec.witness6 (enc := enc) (C := Try.checked) false ⟨#[], #[.slice none 0 0], []⟩ 8 (by kernel_rfl) (by kernel_rfl) (by kernel_rfl) (by kernel_rfl)) ?_
  intro W base args ds gs before hval0 hW hcnd hsz0 _
  have hsz : (DataW.weightsEach Try.prog (Try.f6.params.toList ++ Rows.virqWindowsSpec.plain.varTypes Try.prog) (ds ++ gs)).all (· ≤ reachBytes) = true := hsz0
  have hval : ∀ (j : Nat) t v, Try.f6.params[j]? = some t → args[j]? = some v → Value.okWide Try.prog W .any base t v := hval0
  have hW' := hW
  obtain ⟨p, q, hA0, hV, rfl, hfz, hnd⟩ := hW
  have hA : DataW.TrodAll enc Try.prog W 0 (fun _ => true) true Try.f6.params.toList args.toList ds p := hA0
  rw [Try.params6] at hA hval hsz
  obtain ⟨v0, vs0, d0, ds0, p0, q0, hargs, rfl, rfl, h0, r0⟩ := trodAll_cons hA
  obtain ⟨rfl, rfl, rfl⟩ := trodAll_nil r0
  obtain rfl : args = #[v0] := by cases args; simp_all
  obtain ⟨rfl, rfl⟩ := trodVars_none hV
  have k0 := weights_le hsz 0 (t := 55) (d := d0) rfl rfl
  have s0 := Opn.param Try.underlying55 (VAct.list W) (hval 0 55 v0 rfl rfl) h0 k0
  obtain ⟨x0, c0, ops, e0, l0, ok0, s0, m0⟩ := s0
  cases e0
  clear hA0 hval0 hsz0 hsz
  refine ((walk W s0 ok0) W (Sat.start W)).mono fun e W' he => ?_
  obtain ⟨_, _, he, hs⟩ := he
  subst he
  exact ⟨_, rfl, law_post laid (params_ok (by kernel_rfl)) rfl Try.underlying4 hW' rfl rfl (Sat.below (by repeat (first | exact Ext.here | apply Ext.there)) hs)⟩
theorem over : Rows.virqWindowsRow.holds Try.pinned (OpenSpec.ofChange Rows.virqWindowsSpec) :=
  OpenClaim.holds_of_wide 6 Try.f6 rfl rfl rfl rfl rfl rfl rfl ⟨rfl, rfl, rfl, rfl, rfl⟩ rfl rfl rfl rfl rfl (by kernel_rfl) Try.func6 (by kernel_rfl)
    (of_decide_eq_true (by kernel_rfl)) (by unfold Func.isWrapper; first | (rw [if_pos (by decide +kernel)]; kernel_rfl) | (rw [if_neg (by decide +kernel)]; exact ⟨rfl, rfl⟩))
    (fun os started H enc _ => lifted os started H enc)
theorem proved : Rows.VirqWindowsSaid := over
#print axioms proved
end Go.Proofs.Ytjdaglakhiifjaa.virqWindows
