/- The reference of the virq laws, and that both tell alike. -/
import Derived.Test.YtjdaglakhiifjaaVworks
namespace Go.Proofs.Ytjdaglakhiifjaa.Vi
open Go Go.Sl Go.RowKit Go.Proofs Go.Proofs.Ytjdaglakhiifjaa.T
set_option linter.unusedVariables false
set_option linter.unusedSimpArgs false
set_option maxRecDepth 100000
/-- The cells of the reference: what waits, what is on, the timer (-1: none). -/
def RC (q p : Nat) (at' : Int) : List Value := lineC q ++ lineC p ++ [.int .i64 at']
theorem RC_len (q p : Nat) (a : Int) : (RC q p a).length = 17 := by simp [RC, lineC_len]
theorem RC_p (q p : Nat) (a : Int) {i : Nat} (h : i < 8) : (RC q p a)[8 + i]? = some (.bool (p.testBit i)) := by
  unfold RC; rw [List.append_assoc, List.getElem?_append_right (by rw [lineC_len]; omega), lineC_len, Nat.add_sub_cancel_left, List.getElem?_append_left (by rw [lineC_len]; exact h), lineC_get p h]
theorem RC_at (q p : Nat) (a : Int) : (RC q p a)[16]? = some (.int .i64 a) := by
  unfold RC; rw [List.getElem?_append_right (by simp [lineC_len])]; simp [lineC_len]
theorem RC_setq (q p : Nat) (a : Int) (b : Bool) {i : Nat} (h : i < 8) : (RC q p a).set i (.bool b) = RC (setBit q i b) p a := by
  unfold RC; rw [List.append_assoc, List.set_append_left _ _ (by rw [lineC_len]; exact h), lineC_set, ← List.append_assoc]
theorem RC_setp (q p : Nat) (a : Int) (b : Bool) {i : Nat} (h : i < 8) : (RC q p a).set (8 + i) (.bool b) = RC q (setBit p i b) a := by
  unfold RC; rw [List.append_assoc, List.set_append_right _ _ (by rw [lineC_len]; omega), lineC_len, Nat.add_sub_cancel_left, List.set_append_left _ _ (by rw [lineC_len]; exact h), lineC_set, ← List.append_assoc]
theorem RC_setat (q p : Nat) (a a' : Int) : (RC q p a).set 16 (.int .i64 a') = RC q p a' := by
  unfold RC; rw [List.set_append_right _ _ (by simp [lineC_len])]; simp [lineC_len]
theorem RC_rowq (q p : Nat) (a : Int) : ((RC q p a).drop 0).take 8 = lineC q := by
  unfold RC; rw [List.drop_zero, List.append_assoc, List.take_append_of_le_length (by rw [lineC_len]; omega), List.take_of_length_le (by rw [lineC_len]; omega)]
theorem RC_rowp (q p : Nat) (a : Int) : ((RC q p a).drop 8).take 8 = lineC p := by
  unfold RC; rw [List.append_assoc, List.drop_append, List.drop_eq_nil_of_le (by rw [lineC_len]; omega), lineC_len, Nat.sub_self, List.drop_zero, List.nil_append, List.take_append_of_le_length (by rw [lineC_len]; omega), List.take_of_length_le (by rw [lineC_len]; omega)]
abbrev R (r q p : Nat) (at' : Int) : HProp := blk r (RC q p at') 68
section
variable (W0 : World) (Fr : List HProp)
theorem rnew_spec : Ctr Try.prog W0 33 [] Fr (fun _ : Nat => True) (fun v => .pointer (some ⟨v, 0, none⟩)) (fun v => R v 0 0 (-1) :: Fr) := by
  refine Ctr.of_body Try.func33 rfl Try.ntmps33 rfl ?_
  refine CG.seq ?_
  refine CG.region ?_
  refine OG.yield (Yield.assign rfl) rfl ?_
  refine OG.nil ?_
  refine QG.then ?_
  refine CG.seq ?_
  refine CG.region ?_
  refine OG.yield (Yield.build bu68 ti68 rfl (cells := [_, _, _, _, _, _, _, _, _, _, _, _, _, _, _, _, _]) rfl) rfl ?_
  refine OG.effd (Eff.box rfl) rfl ?_
  rintro b2 -
  refine OG.yield (Yield.assign rfl) rfl ?_
  refine OG.nil ?_
  refine QG.then ?_
  refine CG.ret ?_
  exact QG.ret1 rfl rfl b2 trivial rfl (Imp.refl _)
theorem rtimer_spec {v q p : Nat} {a : Int} (n : Int) : Ctr Try.prog W0 38 [.pointer (some ⟨v, 0, none⟩), .int .i64 n] (R v q p a :: Fr) (fun _ : Unit => True)
    (fun _ => .int .i64 (if 0 ≤ n ∧ n ≤ 281474976710656 then 0 else 2)) (fun _ => R v q p (if 0 ≤ n ∧ n ≤ 281474976710656 then n else a) :: Fr) := by
  refine Ctr.of_body Try.func38 rfl Try.ntmps38 rfl ?_
  refine CG.seq ?_
  refine CG.region ?_
  refine OG.yield (Yield.assign rfl) rfl ?_
  refine OG.nil ?_
  refine QG.then ?_
  refine CG.seq ?_
  refine CG.seq ?_
  rcases (show n < 0 ∨ (0 ≤ n ∧ n > 281474976710656) ∨ (0 ≤ n ∧ n ≤ 281474976710656) by omega) with hh | hh | hh
  · skip
    refine CG.region ?_
    refine OG.yield (Yield.move rfl) rfl ?_
    refine OG.yield (by first | exact Yield.as (Yield.lss rfl rfl) (bT (by omega)) | exact Yield.as (Yield.lss rfl rfl) (bF (by omega)) | exact Yield.lss rfl rfl) rfl ?_
    refine OG.yield (Yield.move rfl) rfl ?_
    refine OG.guard_no rfl rfl rfl rfl rfl (by decide) (by decide) ?_
    refine OG.guard_no rfl rfl rfl rfl rfl (by decide) (by decide) ?_
    refine OG.yield (by first | exact Yield.pick_t rfl rfl | exact Yield.pick_f rfl rfl | exact Yield.pick rfl (fun _ => rfl) (fun _ => rfl)) rfl ?_
    refine OG.nil ?_
    refine QG.then ?_
    refine CG.cond_t rfl ?_
    refine CG.seq ?_
    refine CG.region ?_
    refine OG.yield (Yield.assign rfl) rfl ?_
    refine OG.nil ?_
    refine QG.then ?_
    refine CG.ret ?_
    refine QG.pass_ret ?_
    rw [if_neg (by omega), if_neg (by omega)]
    exact QG.ret1 rfl rfl () trivial rfl (Imp.refl _)
  · skip
    refine CG.region ?_
    refine OG.yield (Yield.move rfl) rfl ?_
    refine OG.yield (by first | exact Yield.as (Yield.lss rfl rfl) (bT (by omega)) | exact Yield.as (Yield.lss rfl rfl) (bF (by omega)) | exact Yield.lss rfl rfl) rfl ?_
    refine OG.yield (Yield.move rfl) rfl ?_
    refine OG.guard_yes rfl rfl rfl (by decide) ?_
    refine OG.yield (Yield.move rfl) rfl ?_
    refine OG.guard_yes rfl rfl rfl (by decide) ?_
    refine OG.yield (by first | exact Yield.as (Yield.gtr rfl rfl) (bT (by omega)) | exact Yield.as (Yield.gtr rfl rfl) (bF (by omega)) | exact Yield.gtr rfl rfl) rfl ?_
    refine OG.yield (by first | exact Yield.pick_t rfl rfl | exact Yield.pick_f rfl rfl | exact Yield.pick rfl (fun _ => rfl) (fun _ => rfl)) rfl ?_
    refine OG.nil ?_
    refine QG.then ?_
    refine CG.cond_t rfl ?_
    refine CG.seq ?_
    refine CG.region ?_
    refine OG.yield (Yield.assign rfl) rfl ?_
    refine OG.nil ?_
    refine QG.then ?_
    refine CG.ret ?_
    refine QG.pass_ret ?_
    rw [if_neg (by omega), if_neg (by omega)]
    exact QG.ret1 rfl rfl () trivial rfl (Imp.refl _)
  · skip
    refine CG.region ?_
    refine OG.yield (Yield.move rfl) rfl ?_
    refine OG.yield (by first | exact Yield.as (Yield.lss rfl rfl) (bT (by omega)) | exact Yield.as (Yield.lss rfl rfl) (bF (by omega)) | exact Yield.lss rfl rfl) rfl ?_
    refine OG.yield (Yield.move rfl) rfl ?_
    refine OG.guard_yes rfl rfl rfl (by decide) ?_
    refine OG.yield (Yield.move rfl) rfl ?_
    refine OG.guard_yes rfl rfl rfl (by decide) ?_
    refine OG.yield (by first | exact Yield.as (Yield.gtr rfl rfl) (bT (by omega)) | exact Yield.as (Yield.gtr rfl rfl) (bF (by omega)) | exact Yield.gtr rfl rfl) rfl ?_
    refine OG.yield (by first | exact Yield.pick_t rfl rfl | exact Yield.pick_f rfl rfl | exact Yield.pick rfl (fun _ => rfl) (fun _ => rfl)) rfl ?_
    refine OG.nil ?_
    refine QG.then ?_
    refine CG.cond_f rfl ?_
    refine CG.skip ?_
    refine QG.then ?_
    refine CG.seq ?_
    refine CG.region ?_
    refine OG.yield (Yield.move rfl) rfl ?_
    refine OG.yield (Yield.move rfl) rfl ?_
    refine OG.yield (Yield.nilCheck rfl) rfl ?_
    refine OG.yield (Yield.fieldAddr fa68_2 rfl) rfl ?_
    refine OG.eff (Eff.store1 ti3 rfl rfl (by repeat (first | exact Foc.here | apply Foc.there)) rfl (by rw [RC_len]; decide)) rfl ?_
    rintro ⟨⟩ -
    rw [show 0 + 16 = 16 from rfl, RC_setat]
    refine OG.nil ?_
    refine QG.then ?_
    refine CG.seq ?_
    refine CG.region ?_
    refine OG.yield (Yield.assign rfl) rfl ?_
    refine OG.nil ?_
    refine QG.then ?_
    refine CG.ret ?_
    rw [if_pos hh, if_pos hh]
    exact QG.ret1 rfl rfl () trivial rfl (Imp.refl _)
theorem rtime_spec {v q p : Nat} {a : Int} : Ctr Try.prog W0 67 [.pointer (some ⟨v, 0, none⟩)] (R v q p a :: Fr) (fun _ : Unit => True) (fun _ => .tuple #[.int .i64 (max a 0), .bool (decide (0 ≤ a))]) (fun _ => R v q p a :: Fr) := by
  refine Ctr.of_body Try.func67 rfl Try.ntmps67 rfl ?_
  refine CG.seq ?_
  refine CG.region ?_
  refine OG.yield (Yield.assign rfl) rfl ?_
  refine OG.yield (Yield.assign rfl) rfl ?_
  refine OG.nil ?_
  refine QG.then ?_
  refine CG.seq ?_
  refine CG.draw (.look 0 1 (.look 1 1 (.look 2 1 (.look 3 1 (.look 4 1 (.look 5 1 (.look 6 1 (.look 7 1 (.look 8 1 (.look 9 1 (.look 10 1 (.look 11 1 (.done))))))))))))) [] [] ([]) ([]) mixed (by kernel_rfl) (Imp.none _) (Imp.none _) ?_
  refine DG.look rfl rfl (Yield.move rfl) rfl ?_
  refine DG.look rfl rfl (Yield.nilCheck rfl) rfl ?_
  refine DG.look rfl rfl (Yield.fieldAddr fa68_2 rfl) rfl ?_
  refine DG.look rfl rfl (Yield.load ti3 rfl (Cel.of_blk (by repeat (first | exact Ext.here | apply Ext.there)) (RC_at q p a))) rfl ?_
  refine DG.look rfl rfl (Yield.max2 rfl rfl) rfl ?_
  refine DG.look rfl rfl (Yield.move rfl) rfl ?_
  refine DG.look rfl rfl (Yield.nilCheck rfl) rfl ?_
  refine DG.look rfl rfl (Yield.fieldAddr fa68_2 rfl) rfl ?_
  refine DG.look rfl rfl (Yield.load ti3 rfl (Cel.of_blk (by repeat (first | exact Ext.here | apply Ext.there)) (RC_at q p a))) rfl ?_
  refine DG.look rfl rfl (Yield.geq rfl rfl) rfl ?_
  refine DG.look rfl rfl (Yield.assign rfl) rfl ?_
  refine DG.look rfl rfl (Yield.assign rfl) rfl ?_
  refine DG.done ?_
  refine QG.then ?_
  refine CG.ret ?_
  exact QG.ret2 rfl rfl rfl () trivial rfl (Imp.refl _)
theorem rqueue_spec {v q p : Nat} {a : Int} (n : Int) : Ctr Try.prog W0 35 [.pointer (some ⟨v, 0, none⟩), .int .i64 n] (R v q p a :: Fr) (fun _ : Unit => True)
    (fun _ => .int .i64 (if 0 ≤ n ∧ n < 8 then 0 else 2)) (fun _ => R v (if 0 ≤ n ∧ n < 8 then setBit q n.toNat true else q) p a :: Fr) := by
  refine Ctr.of_body Try.func35 rfl Try.ntmps35 rfl ?_
  refine CG.seq ?_
  refine CG.region ?_
  refine OG.yield (Yield.assign rfl) rfl ?_
  refine OG.nil ?_
  refine QG.then ?_
  refine CG.seq ?_
  refine CG.seq ?_
  rcases (show n < 0 ∨ (0 ≤ n ∧ n ≥ 8) ∨ (0 ≤ n ∧ n < 8) by omega) with hh | hh | hh
  · skip
    refine CG.region ?_
    refine OG.yield (Yield.move rfl) rfl ?_
    refine OG.yield (by first | exact Yield.as (Yield.lss rfl rfl) (bT (by omega)) | exact Yield.as (Yield.lss rfl rfl) (bF (by omega)) | exact Yield.lss rfl rfl) rfl ?_
    refine OG.yield (Yield.move rfl) rfl ?_
    refine OG.guard_no rfl rfl rfl rfl rfl (by decide) (by decide) ?_
    refine OG.guard_no rfl rfl rfl rfl rfl (by decide) (by decide) ?_
    refine OG.yield (by first | exact Yield.pick_t rfl rfl | exact Yield.pick_f rfl rfl | exact Yield.pick rfl (fun _ => rfl) (fun _ => rfl)) rfl ?_
    refine OG.nil ?_
    refine QG.then ?_
    refine CG.cond_t rfl ?_
    refine CG.seq ?_
    refine CG.region ?_
    refine OG.yield (Yield.assign rfl) rfl ?_
    refine OG.nil ?_
    refine QG.then ?_
    refine CG.ret ?_
    refine QG.pass_ret ?_
    rw [if_neg (by omega), if_neg (by omega)]
    exact QG.ret1 rfl rfl () trivial rfl (Imp.refl _)
  · skip
    refine CG.region ?_
    refine OG.yield (Yield.move rfl) rfl ?_
    refine OG.yield (by first | exact Yield.as (Yield.lss rfl rfl) (bT (by omega)) | exact Yield.as (Yield.lss rfl rfl) (bF (by omega)) | exact Yield.lss rfl rfl) rfl ?_
    refine OG.yield (Yield.move rfl) rfl ?_
    refine OG.guard_yes rfl rfl rfl (by decide) ?_
    refine OG.yield (Yield.move rfl) rfl ?_
    refine OG.guard_yes rfl rfl rfl (by decide) ?_
    refine OG.yield (by first | exact Yield.as (Yield.geq rfl rfl) (bT (by omega)) | exact Yield.as (Yield.geq rfl rfl) (bF (by omega)) | exact Yield.geq rfl rfl) rfl ?_
    refine OG.yield (by first | exact Yield.pick_t rfl rfl | exact Yield.pick_f rfl rfl | exact Yield.pick rfl (fun _ => rfl) (fun _ => rfl)) rfl ?_
    refine OG.nil ?_
    refine QG.then ?_
    refine CG.cond_t rfl ?_
    refine CG.seq ?_
    refine CG.region ?_
    refine OG.yield (Yield.assign rfl) rfl ?_
    refine OG.nil ?_
    refine QG.then ?_
    refine CG.ret ?_
    refine QG.pass_ret ?_
    rw [if_neg (by omega), if_neg (by omega)]
    exact QG.ret1 rfl rfl () trivial rfl (Imp.refl _)
  · skip
    refine CG.region ?_
    refine OG.yield (Yield.move rfl) rfl ?_
    refine OG.yield (by first | exact Yield.as (Yield.lss rfl rfl) (bT (by omega)) | exact Yield.as (Yield.lss rfl rfl) (bF (by omega)) | exact Yield.lss rfl rfl) rfl ?_
    refine OG.yield (Yield.move rfl) rfl ?_
    refine OG.guard_yes rfl rfl rfl (by decide) ?_
    refine OG.yield (Yield.move rfl) rfl ?_
    refine OG.guard_yes rfl rfl rfl (by decide) ?_
    refine OG.yield (by first | exact Yield.as (Yield.geq rfl rfl) (bT (by omega)) | exact Yield.as (Yield.geq rfl rfl) (bF (by omega)) | exact Yield.geq rfl rfl) rfl ?_
    refine OG.yield (by first | exact Yield.pick_t rfl rfl | exact Yield.pick_f rfl rfl | exact Yield.pick rfl (fun _ => rfl) (fun _ => rfl)) rfl ?_
    refine OG.nil ?_
    refine QG.then ?_
    refine CG.cond_f rfl ?_
    refine CG.skip ?_
    refine QG.then ?_
    refine CG.seq ?_
    refine CG.region ?_
    refine OG.yield (Yield.move rfl) rfl ?_
    refine OG.yield (Yield.move rfl) rfl ?_
    refine OG.yield (Yield.nilCheck rfl) rfl ?_
    refine OG.yield (Yield.fieldAddr fa68_0 rfl) rfl ?_
    refine OG.yield (Yield.index_array Try.underlying66 ti4 rfl rfl (by omega) (by omega)) rfl ?_
    refine OG.eff (Eff.store1 ti4 rfl rfl (by repeat (first | exact Foc.here | apply Foc.there)) rfl (by rw [RC_len]; omega)) rfl ?_
    rintro ⟨⟩ -
    rw [show 0 + 0 + n.toNat * 1 = n.toNat by omega, RC_setq _ _ _ _ (by omega)]
    refine OG.nil ?_
    refine QG.then ?_
    refine CG.seq ?_
    refine CG.region ?_
    refine OG.yield (Yield.assign rfl) rfl ?_
    refine OG.nil ?_
    refine QG.then ?_
    refine CG.ret ?_
    rw [if_pos hh, if_pos hh]
    exact QG.ret1 rfl rfl () trivial rfl (Imp.refl _)
theorem rset_spec {q : Nat} (hq : q < 256) : Ctr Try.prog W0 71 [.agg (lineC q).toArray] Fr (fun _ : Unit => True) (fun _ => .int .u32 q) (fun _ => Fr) := by
  refine Ctr.of_body Try.func71 rfl Try.ntmps71 rfl ?_
  refine CG.seq ?_
  refine CG.region ?_
  refine OG.effd (Eff.box rfl) rfl ?_
  rintro b1 -
  show OG Try.prog W0 _ _ _ _ _ _ (blk b1 (lineC q) 66 :: Fr)
  refine OG.yield (Yield.assign rfl) rfl ?_
  refine OG.nil ?_
  refine QG.then ?_
  refine CG.seq ?_
  refine CG.region ?_
  refine OG.yield (Yield.assign rfl) rfl ?_
  refine OG.nil ?_
  refine QG.then ?_
  refine CG.seq ?_
  refine CG.seq ?_
  refine CG.region ?_
  refine OG.yield (Yield.assign rfl) rfl ?_
  refine OG.nil ?_
  refine QG.then ?_
  refine CG.block ?_
  refine CG.loop (fun i : Nat => i ≤ 8) (fun i => [(1, .pointer (some ⟨b1, 0, none⟩)), (3, .int .u32 (q % 2 ^ i : Nat)), (4, .int .i64 i)]) (fun _ => [blk b1 (lineC q) 66] ++ Fr) (fun i => 8 - i) 0 (by decide) (by rw [Nat.pow_zero, Nat.mod_one]; exact (by repeat (first | exact Env.sub_nil _ | refine Env.sub_cons rfl ?_))) (Imp.refl _) ?_
  intro i hi
  refine CG.seq ?_
  refine CG.seq ?_
  refine CG.region ?_
  refine OG.yield (Yield.move rfl) rfl ?_
  refine OG.yield (by first | exact Yield.as (Yield.lss rfl rfl) (bT (by omega)) | exact Yield.as (Yield.lss rfl rfl) (bF (by omega)) | exact Yield.lss rfl rfl) rfl ?_
  refine OG.nil ?_
  refine QG.then ?_
  refine CG.cond rfl (fun hc => ?_) (fun hc => ?_)
  · try replace hc := of_decide_eq_true hc
    have hi' : i < 8 := by omega
    have hp : 2 ^ i < 2 ^ 32 := Nat.pow_lt_pow_right (by decide) (by omega)
    have hm : q % 2 ^ i < 2 ^ 32 := Nat.lt_of_le_of_lt (Nat.mod_le _ _) (by omega)
    refine CG.skip ?_
    refine QG.then ?_
    refine CG.seq ?_
    refine CG.block ?_
    refine CG.seq ?_
    refine CG.region ?_
    refine OG.yield (Yield.move rfl) rfl ?_
    refine OG.yield (Yield.index_array Try.underlying66 ti4 rfl rfl (by omega) (by omega)) rfl ?_
    refine OG.yield (Yield.load (v := .bool (q.testBit i)) ti4 rfl (Cel.of_blk (by repeat (first | exact Ext.here | apply Ext.there)) (by rw [show 0 + (i : Int).toNat * 1 = i by omega]; exact lineC_get q hi'))) rfl ?_
    refine OG.nil ?_
    refine QG.then ?_
    refine CG.cond rfl (fun hc => ?_) (fun hc => ?_)
    · try replace hc := of_decide_eq_true hc
      refine CG.region ?_
      refine OG.yield (Yield.move rfl) rfl ?_
      refine OG.yield (Yield.move rfl) rfl ?_
      refine OG.yield (Yield.shl (m := i) (c := ((2 ^ i : Nat) : Int)) rfl rfl rfl (by simp [IntKind.bits]; omega) (pow_u32 (by omega))) rfl ?_
      refine OG.yield (Yield.bitop rfl rfl rfl (or_nat hm hp)) rfl ?_
      refine OG.yield (Yield.assign rfl) rfl ?_
      refine OG.nil ?_
      refine QG.block_normal ?_
      refine QG.then ?_
      refine CG.region ?_
      refine OG.yield (Yield.move rfl) rfl ?_
      refine OG.yield (Yield.add rfl rfl (w64 (by omega) (by omega))) rfl ?_
      refine OG.yield (Yield.assign rfl) rfl ?_
      refine OG.nil ?_
      refine QG.next (i + 1) (show i + 1 ≤ 8 by omega) (show 8 - (i + 1) < 8 - i by omega) ?_ (by repeat (first | exact Imp.refl _ | exact Imp.none _ | apply Imp.pull (by repeat (first | exact Ext.here | apply Ext.there)) | apply Imp.trans Imp.drop))
      rw [mod_step, if_pos hc]; exact (by repeat (first | exact Env.sub_nil _ | refine Env.sub_cons rfl ?_))
    · try replace hc := of_decide_eq_false hc
      refine CG.skip ?_
      refine QG.block_normal ?_
      refine QG.then ?_
      refine CG.region ?_
      refine OG.yield (Yield.move rfl) rfl ?_
      refine OG.yield (Yield.add rfl rfl (w64 (by omega) (by omega))) rfl ?_
      refine OG.yield (Yield.assign rfl) rfl ?_
      refine OG.nil ?_
      refine QG.next (i + 1) (show i + 1 ≤ 8 by omega) (show 8 - (i + 1) < 8 - i by omega) ?_ (by repeat (first | exact Imp.refl _ | exact Imp.none _ | apply Imp.pull (by repeat (first | exact Ext.here | apply Ext.there)) | apply Imp.trans Imp.drop))
      rw [mod_step, if_neg (by rw [hc]; decide)]; exact (by repeat (first | exact Env.sub_nil _ | refine Env.sub_cons rfl ?_))
  · try replace hc := of_decide_eq_false hc
    refine CG.exit ?_
    refine QG.pass_exit ?_
    refine QG.pass_exit ?_
    refine QG.block_exit ?_
    refine QG.then ?_
    refine CG.seq ?_
    refine CG.region ?_
    refine OG.yield (Yield.move rfl) rfl ?_
    refine OG.yield (Yield.assign rfl) rfl ?_
    refine OG.nil ?_
    refine QG.then ?_
    refine CG.ret ?_
    have : i = 8 := by omega
    subst this
    exact QG.ret1 rfl rfl () trivial (by rw [Nat.mod_eq_of_lt (by omega)]) (by repeat (first | exact Imp.refl _ | exact Imp.none _ | apply Imp.pull (by repeat (first | exact Ext.here | apply Ext.there)) | apply Imp.trans Imp.drop))
theorem rqueued_spec {v q p : Nat} {a : Int} (hq : q < 256) : Ctr Try.prog W0 70 [.pointer (some ⟨v, 0, none⟩)] (R v q p a :: Fr) (fun _ : Unit => True) (fun _ => .int .u32 q) (fun _ => R v q p a :: Fr) := by
  refine Ctr.of_body Try.func70 rfl Try.ntmps70 rfl ?_
  refine CG.seq ?_
  refine CG.region ?_
  refine OG.yield (Yield.assign rfl) rfl ?_
  refine OG.nil ?_
  refine QG.then ?_
  refine CG.seq ?_
  refine CG.region ?_
  refine OG.yield (Yield.move rfl) rfl ?_
  refine OG.yield (Yield.nilCheck rfl) rfl ?_
  refine OG.yield (Yield.fieldAddr fa68_0 rfl) rfl ?_
  refine OG.yield (Yield.load_agg ti66 rfl (lineC_len q) (Row.of_blk (by repeat (first | exact Ext.here | apply Ext.there)) (RC_rowq q p a))) rfl ?_
  refine OG.callo call71 rfl (Imp.refl _) (rset_spec W0 _ hq) rfl ?_
  rintro ⟨⟩ -
  refine OG.yield (Yield.assign rfl) rfl ?_
  refine OG.nil ?_
  refine QG.then ?_
  refine CG.ret ?_
  exact QG.ret1 rfl rfl () trivial rfl (Imp.refl _)
theorem rpending_spec {v q p : Nat} {a : Int} (hp : p < 256) : Ctr Try.prog W0 68 [.pointer (some ⟨v, 0, none⟩)] (R v q p a :: Fr) (fun _ : Unit => True) (fun _ => .int .u32 p) (fun _ => R v q p a :: Fr) := by
  refine Ctr.of_body Try.func68 rfl Try.ntmps68 rfl ?_
  refine CG.seq ?_
  refine CG.region ?_
  refine OG.yield (Yield.assign rfl) rfl ?_
  refine OG.nil ?_
  refine QG.then ?_
  refine CG.seq ?_
  refine CG.region ?_
  refine OG.yield (Yield.move rfl) rfl ?_
  refine OG.yield (Yield.nilCheck rfl) rfl ?_
  refine OG.yield (Yield.fieldAddr fa68_1 rfl) rfl ?_
  refine OG.yield (Yield.load_agg ti66 rfl (lineC_len p) (Row.of_blk (by repeat (first | exact Ext.here | apply Ext.there)) (RC_rowp q p a))) rfl ?_
  refine OG.callo call71 rfl (Imp.refl _) (rset_spec W0 _ hp) rfl ?_
  rintro ⟨⟩ -
  refine OG.yield (Yield.assign rfl) rfl ?_
  refine OG.nil ?_
  refine QG.then ?_
  refine CG.ret ?_
  exact QG.ret1 rfl rfl () trivial rfl (Imp.refl _)
theorem rack_spec {v q p m : Nat} {a : Int} (hp : p < 256) (hm : m < 4294967296) : Ctr Try.prog W0 37 [.pointer (some ⟨v, 0, none⟩), .int .u32 m] (R v q p a :: Fr) (fun _ : Unit => True) (fun _ => .tuple #[]) (fun _ => R v q (clr p m) a :: Fr) := by
  refine Ctr.of_body Try.func37 rfl Try.ntmps37 rfl ?_
  refine CG.seq ?_
  refine CG.region ?_
  refine OG.yield (Yield.assign rfl) rfl ?_
  refine OG.nil ?_
  refine QG.then ?_
  refine CG.block ?_
  refine CG.loop (fun i : Nat => i ≤ 8) (fun i => [(0, .pointer (some ⟨v, 0, none⟩)), (1, .int .u32 m), (4, .int .i64 i)]) (fun i => R v q (clr p (m % 2 ^ i)) a :: Fr) (fun i => 8 - i) 0 (by decide) (by repeat (first | exact Env.sub_nil _ | refine Env.sub_cons rfl ?_)) (by rw [Nat.pow_zero, Nat.mod_one, clr_zero]; exact Imp.refl _) ?_
  intro i hi
  refine CG.seq ?_
  refine CG.seq ?_
  refine CG.region ?_
  refine OG.yield (Yield.move rfl) rfl ?_
  refine OG.yield (by first | exact Yield.as (Yield.lss rfl rfl) (bT (by omega)) | exact Yield.as (Yield.lss rfl rfl) (bF (by omega)) | exact Yield.lss rfl rfl) rfl ?_
  refine OG.nil ?_
  refine QG.then ?_
  refine CG.cond rfl (fun hc => ?_) (fun hc => ?_)
  · try replace hc := of_decide_eq_true hc
    have hi' : i < 8 := by omega
    refine CG.skip ?_
    refine QG.then ?_
    refine CG.seq ?_
    refine CG.block ?_
    refine CG.seq ?_
    refine CG.region ?_
    refine OG.yield (Yield.move rfl) rfl ?_
    refine OG.yield (Yield.move rfl) rfl ?_
    refine OG.yield (Yield.shr (m := i) (c := (m : Int) / 2 ^ i) rfl rfl rfl (by simp [IntKind.bits]; omega) rfl) rfl ?_
    refine OG.yield (Yield.bitop (c := ((m : Int) / 2 ^ i) % 2) rfl rfl rfl (bits_mask .u32 32 (by decide) wraps_word 1 (by decide) _ (Int.ediv_nonneg (by omega) (Int.pow_nonneg (by decide))) (Int.lt_of_le_of_lt (Int.ediv_le_self _ (by omega)) (by omega)))) rfl ?_
    refine OG.yield (Yield.as (Yield.eql rfl rfl) (v' := .bool (m.testBit i)) (by rw [testBit_int])) rfl ?_
    refine OG.nil ?_
    refine QG.then ?_
    refine CG.cond rfl (fun hc => ?_) (fun hc => ?_)
    · try replace hc := of_decide_eq_true hc
      refine CG.region ?_
      refine OG.yield (Yield.move rfl) rfl ?_
      refine OG.yield (Yield.move rfl) rfl ?_
      refine OG.yield (Yield.nilCheck rfl) rfl ?_
      refine OG.yield (Yield.fieldAddr fa68_1 rfl) rfl ?_
      refine OG.yield (Yield.index_array Try.underlying66 ti4 rfl rfl (by omega) (by omega)) rfl ?_
      refine OG.eff (Eff.store1 ti4 rfl rfl (by repeat (first | exact Foc.here | apply Foc.there)) rfl (by rw [RC_len]; omega)) rfl ?_
      rintro ⟨⟩ -
      rw [show 0 + 8 + (i : Int).toNat * 1 = 8 + i by omega, RC_setp _ _ _ _ hi']
      refine OG.nil ?_
      refine QG.block_normal ?_
      refine QG.then ?_
      refine CG.region ?_
      refine OG.yield (Yield.move rfl) rfl ?_
      refine OG.yield (Yield.add rfl rfl (w64 (by omega) (by omega))) rfl ?_
      refine OG.yield (Yield.assign rfl) rfl ?_
      refine OG.nil ?_
      refine QG.next (i + 1) (show i + 1 ≤ 8 by omega) (show 8 - (i + 1) < 8 - i by omega) (by repeat (first | exact Env.sub_nil _ | refine Env.sub_cons rfl ?_)) ?_
      rw [clr_step, if_pos hc]; exact (by repeat (first | exact Imp.refl _ | exact Imp.none _ | apply Imp.pull (by repeat (first | exact Ext.here | apply Ext.there)) | apply Imp.trans Imp.drop))
    · try replace hc := of_decide_eq_false hc
      refine CG.skip ?_
      refine QG.block_normal ?_
      refine QG.then ?_
      refine CG.region ?_
      refine OG.yield (Yield.move rfl) rfl ?_
      refine OG.yield (Yield.add rfl rfl (w64 (by omega) (by omega))) rfl ?_
      refine OG.yield (Yield.assign rfl) rfl ?_
      refine OG.nil ?_
      refine QG.next (i + 1) (show i + 1 ≤ 8 by omega) (show 8 - (i + 1) < 8 - i by omega) (by repeat (first | exact Env.sub_nil _ | refine Env.sub_cons rfl ?_)) ?_
      rw [clr_step, if_neg (by rw [hc]; decide)]; exact (by repeat (first | exact Imp.refl _ | exact Imp.none _ | apply Imp.pull (by repeat (first | exact Ext.here | apply Ext.there)) | apply Imp.trans Imp.drop))
  · try replace hc := of_decide_eq_false hc
    refine CG.exit ?_
    refine QG.pass_exit ?_
    refine QG.pass_exit ?_
    refine QG.block_exit ?_
    have h8 : i = 8 := by omega
    subst h8
    rw [clr_mod hp]
    exact QG.end0 rfl () trivial rfl (by repeat (first | exact Imp.refl _ | exact Imp.none _ | apply Imp.pull (by repeat (first | exact Ext.here | apply Ext.there)) | apply Imp.trans Imp.drop))
/-- The lines below i wait no more. -/
def cut (q i : Nat) : Nat := clr q (255 % 2 ^ i)
theorem cut_zero (q : Nat) : cut q 0 = q := by unfold cut; rw [Nat.pow_zero, Nat.mod_one, clr_zero]
theorem cut_step (q i : Nat) (hi : i < 8) : setBit (cut q i) i false = cut q (i + 1) := by
  unfold cut
  rw [clr_step, if_pos]
  have : ∀ j : Fin 8, Nat.testBit 255 j.val = true := by decide
  exact this ⟨i, hi⟩
theorem cut_all {q : Nat} (h : q < 256) : cut q 8 = 0 := by
  unfold cut
  rw [clr_mod h]
  apply Nat.eq_of_testBit_eq; intro j
  rw [clr_test, Nat.zero_testBit]
  by_cases hj : j < 8
  · have : ∀ j : Fin 8, Nat.testBit 255 j.val = true := by decide
    have := this ⟨j, hj⟩
    simp only at this; rw [this]; simp
  · rw [bits_of_lt h (by omega)]; rfl
theorem rrelease_spec {v q p : Nat} {a : Int} (now : Int) (hq : q < 256) (hp : p < 256) : Ctr Try.prog W0 36 [.pointer (some ⟨v, 0, none⟩), .int .i64 now] (R v q p a :: Fr) (fun _ : Unit => True)
    (fun _ => .int .u32 (if 0 ≤ a ∧ a ≤ now then setBit q 0 true else q : Nat)) (fun _ => R v 0 (p ||| (if 0 ≤ a ∧ a ≤ now then setBit q 0 true else q)) (if 0 ≤ a ∧ a ≤ now then -1 else a) :: Fr) := by
  refine Ctr.of_body Try.func36 rfl Try.ntmps36 rfl ?_
  refine CG.seq ?_
  refine CG.region ?_
  refine OG.yield (Yield.assign rfl) rfl ?_
  refine OG.nil ?_
  refine QG.then ?_
  refine CG.seq ?_
  refine CG.region ?_
  refine OG.yield (Yield.move rfl) rfl ?_
  refine OG.yield (Yield.nilCheck rfl) rfl ?_
  refine OG.yield (Yield.fieldAddr fa68_0 rfl) rfl ?_
  refine OG.yield (Yield.load_agg ti66 rfl (lineC_len q) (Row.of_blk (by repeat (first | exact Ext.here | apply Ext.there)) (RC_rowq q p a))) rfl ?_
  refine OG.effd (Eff.alloc ti66) rfl ?_
  rintro b5 -
  refine OG.eff (Eff.storeAll ti66 rfl rfl (by repeat (first | exact Foc.here | apply Foc.there)) (lineC_len q) (lineC_ones q) rfl) rfl ?_
  rintro ⟨⟩ -
  refine OG.nil ?_
  refine QG.then ?_
  refine CG.cut (fun _ : Unit => True) (fun _ => [(0, .pointer (some ⟨v, 0, none⟩)), (1, .int .i64 now), (5, .pointer (some ⟨b5, 0, none⟩))]) (fun _ => blk b5 (lineC (if 0 ≤ a ∧ a ≤ now then setBit q 0 true else q)) 66 :: R v q p (if 0 ≤ a ∧ a ≤ now then -1 else a) :: Fr) ?_ ?_
  · skip
    refine CG.seq ?_
    rcases (show a < 0 ∨ (0 ≤ a ∧ ¬ a ≤ now) ∨ (0 ≤ a ∧ a ≤ now) by omega) with hh | hh | hh
    · skip
      refine CG.region ?_
      refine OG.yield (Yield.move rfl) rfl ?_
      refine OG.yield (Yield.nilCheck rfl) rfl ?_
      refine OG.yield (Yield.fieldAddr fa68_2 rfl) rfl ?_
      refine OG.yield (Yield.load ti3 rfl (Cel.of_blk (by repeat (first | exact Ext.here | apply Ext.there)) (RC_at q p a))) rfl ?_
      refine OG.yield (by first | exact Yield.as (Yield.geq rfl rfl) (bT (by omega)) | exact Yield.as (Yield.geq rfl rfl) (bF (by omega)) | exact Yield.geq rfl rfl) rfl ?_
      refine OG.yield (Yield.move rfl) rfl ?_
      refine OG.guard_no rfl rfl rfl rfl rfl (by decide) (by decide) ?_
      refine OG.guard_no rfl rfl rfl rfl rfl (by decide) (by decide) ?_
      refine OG.guard_no rfl rfl rfl rfl rfl (by decide) (by decide) ?_
      refine OG.guard_no rfl rfl rfl rfl rfl (by decide) (by decide) ?_
      refine OG.guard_no rfl rfl rfl rfl rfl (by decide) (by decide) ?_
      refine OG.guard_no rfl rfl rfl rfl rfl (by decide) (by decide) ?_
      refine OG.yield (by first | exact Yield.pick_t rfl rfl | exact Yield.pick_f rfl rfl | exact Yield.pick rfl (fun _ => rfl) (fun _ => rfl)) rfl ?_
      refine OG.nil ?_
      refine QG.then ?_
      refine CG.cond_f rfl ?_
      refine CG.skip ?_
      rw [if_neg (by omega), if_neg (by omega)]
      exact QG.mid () trivial (by repeat (first | exact Env.sub_nil _ | refine Env.sub_cons rfl ?_)) (by repeat (first | exact Imp.refl _ | exact Imp.none _ | apply Imp.pull (by repeat (first | exact Ext.here | apply Ext.there)) | apply Imp.trans Imp.drop))
    · skip
      refine CG.region ?_
      refine OG.yield (Yield.move rfl) rfl ?_
      refine OG.yield (Yield.nilCheck rfl) rfl ?_
      refine OG.yield (Yield.fieldAddr fa68_2 rfl) rfl ?_
      refine OG.yield (Yield.load ti3 rfl (Cel.of_blk (by repeat (first | exact Ext.here | apply Ext.there)) (RC_at q p a))) rfl ?_
      refine OG.yield (by first | exact Yield.as (Yield.geq rfl rfl) (bT (by omega)) | exact Yield.as (Yield.geq rfl rfl) (bF (by omega)) | exact Yield.geq rfl rfl) rfl ?_
      refine OG.yield (Yield.move rfl) rfl ?_
      refine OG.guard_yes rfl rfl rfl (by decide) ?_
      refine OG.yield (Yield.move rfl) rfl ?_
      refine OG.guard_yes rfl rfl rfl (by decide) ?_
      refine OG.yield (Yield.nilCheck rfl) rfl ?_
      refine OG.guard_yes rfl rfl rfl (by decide) ?_
      refine OG.yield (Yield.fieldAddr fa68_2 rfl) rfl ?_
      refine OG.guard_yes rfl rfl rfl (by decide) ?_
      refine OG.yield (Yield.load ti3 rfl (Cel.of_blk (by repeat (first | exact Ext.here | apply Ext.there)) (RC_at q p a))) rfl ?_
      refine OG.guard_yes rfl rfl rfl (by decide) ?_
      refine OG.yield (Yield.move rfl) rfl ?_
      refine OG.guard_yes rfl rfl rfl (by decide) ?_
      refine OG.yield (by first | exact Yield.as (Yield.leq rfl rfl) (bT (by omega)) | exact Yield.as (Yield.leq rfl rfl) (bF (by omega)) | exact Yield.leq rfl rfl) rfl ?_
      refine OG.yield (by first | exact Yield.pick_t rfl rfl | exact Yield.pick_f rfl rfl | exact Yield.pick rfl (fun _ => rfl) (fun _ => rfl)) rfl ?_
      refine OG.nil ?_
      refine QG.then ?_
      refine CG.cond_f rfl ?_
      refine CG.skip ?_
      rw [if_neg (by omega), if_neg (by omega)]
      exact QG.mid () trivial (by repeat (first | exact Env.sub_nil _ | refine Env.sub_cons rfl ?_)) (by repeat (first | exact Imp.refl _ | exact Imp.none _ | apply Imp.pull (by repeat (first | exact Ext.here | apply Ext.there)) | apply Imp.trans Imp.drop))
    · skip
      refine CG.region ?_
      refine OG.yield (Yield.move rfl) rfl ?_
      refine OG.yield (Yield.nilCheck rfl) rfl ?_
      refine OG.yield (Yield.fieldAddr fa68_2 rfl) rfl ?_
      refine OG.yield (Yield.load ti3 rfl (Cel.of_blk (by repeat (first | exact Ext.here | apply Ext.there)) (RC_at q p a))) rfl ?_
      refine OG.yield (by first | exact Yield.as (Yield.geq rfl rfl) (bT (by omega)) | exact Yield.as (Yield.geq rfl rfl) (bF (by omega)) | exact Yield.geq rfl rfl) rfl ?_
      refine OG.yield (Yield.move rfl) rfl ?_
      refine OG.guard_yes rfl rfl rfl (by decide) ?_
      refine OG.yield (Yield.move rfl) rfl ?_
      refine OG.guard_yes rfl rfl rfl (by decide) ?_
      refine OG.yield (Yield.nilCheck rfl) rfl ?_
      refine OG.guard_yes rfl rfl rfl (by decide) ?_
      refine OG.yield (Yield.fieldAddr fa68_2 rfl) rfl ?_
      refine OG.guard_yes rfl rfl rfl (by decide) ?_
      refine OG.yield (Yield.load ti3 rfl (Cel.of_blk (by repeat (first | exact Ext.here | apply Ext.there)) (RC_at q p a))) rfl ?_
      refine OG.guard_yes rfl rfl rfl (by decide) ?_
      refine OG.yield (Yield.move rfl) rfl ?_
      refine OG.guard_yes rfl rfl rfl (by decide) ?_
      refine OG.yield (by first | exact Yield.as (Yield.leq rfl rfl) (bT (by omega)) | exact Yield.as (Yield.leq rfl rfl) (bF (by omega)) | exact Yield.leq rfl rfl) rfl ?_
      refine OG.yield (by first | exact Yield.pick_t rfl rfl | exact Yield.pick_f rfl rfl | exact Yield.pick rfl (fun _ => rfl) (fun _ => rfl)) rfl ?_
      refine OG.nil ?_
      refine QG.then ?_
      refine CG.cond_t rfl ?_
      refine CG.seq ?_
      refine CG.region ?_
      refine OG.yield (Yield.index_array Try.underlying66 ti4 rfl rfl (by omega) (by omega)) rfl ?_
      refine OG.eff (Eff.store1 ti4 rfl rfl (by repeat (first | exact Foc.here | apply Foc.there)) rfl (by rw [lineC_len]; decide)) rfl ?_
      rintro ⟨⟩ -
      rw [show 0 + (0 : Int).toNat * 1 = 0 from rfl, lineC_set]
      refine OG.nil ?_
      refine QG.then ?_
      refine CG.region ?_
      refine OG.yield (Yield.move rfl) rfl ?_
      refine OG.yield (Yield.nilCheck rfl) rfl ?_
      refine OG.yield (Yield.fieldAddr fa68_2 rfl) rfl ?_
      refine OG.eff (Eff.store1 ti3 rfl rfl (by repeat (first | exact Foc.here | apply Foc.there)) rfl (by rw [RC_len]; decide)) rfl ?_
      rintro ⟨⟩ -
      rw [show 0 + 16 = 16 from rfl, RC_setat]
      refine OG.nil ?_
      rw [if_pos hh, if_pos hh]
      exact QG.mid () trivial (by repeat (first | exact Env.sub_nil _ | refine Env.sub_cons rfl ?_)) (by repeat (first | exact Imp.refl _ | exact Imp.none _ | apply Imp.pull (by repeat (first | exact Ext.here | apply Ext.there)) | apply Imp.trans Imp.drop))
  rintro ⟨⟩ -
  have ht : (if 0 ≤ a ∧ a ≤ now then setBit q 0 true else q) < 256 := by split; exact setBit_lt hq (by decide) true; exact hq
  generalize (if 0 ≤ a ∧ a ≤ now then setBit q 0 true else q) = t at ht ⊢
  generalize (if 0 ≤ a ∧ a ≤ now then -1 else a) = a'
  refine CG.seq ?_
  refine CG.seq ?_
  refine CG.region ?_
  refine OG.yield (Yield.assign rfl) rfl ?_
  refine OG.nil ?_
  refine QG.then ?_
  refine CG.block ?_
  refine CG.loop (fun i : Nat => i ≤ 8) (fun i => [(0, .pointer (some ⟨v, 0, none⟩)), (5, .pointer (some ⟨b5, 0, none⟩)), (6, .int .i64 i)]) (fun i => blk b5 (lineC t) 66 :: R v (cut q i) (p ||| (t % 2 ^ i)) a' :: Fr) (fun i => 8 - i) 0 (by decide) (by repeat (first | exact Env.sub_nil _ | refine Env.sub_cons rfl ?_)) (by rw [Nat.pow_zero, Nat.mod_one, Nat.or_zero, cut_zero]; exact Imp.refl _) ?_
  intro i hi
  refine CG.seq ?_
  refine CG.seq ?_
  refine CG.region ?_
  refine OG.yield (Yield.move rfl) rfl ?_
  refine OG.yield (by first | exact Yield.as (Yield.lss rfl rfl) (bT (by omega)) | exact Yield.as (Yield.lss rfl rfl) (bF (by omega)) | exact Yield.lss rfl rfl) rfl ?_
  refine OG.nil ?_
  refine QG.then ?_
  refine CG.cond rfl (fun hc => ?_) (fun hc => ?_)
  · try replace hc := of_decide_eq_true hc
    have hi' : i < 8 := by omega
    refine CG.skip ?_
    refine QG.then ?_
    refine CG.seq ?_
    refine CG.block ?_
    refine CG.seq ?_
    rcases Bool.eq_false_or_eq_true ((p ||| (t % 2 ^ i)).testBit i) with hb | hb
    · skip
      refine CG.draw (.look 0 1 (.look 1 1 (.look 2 1 (.look 3 1 (.look 4 1 (.look 5 1 (.look 6 1 (.look 7 1 (.look 8 1 (.look 9 1 (.look 10 1 (.look 11 1 (.look 12 1 (.look 13 1 (.look 14 1 (.look 15 1 (.eff1 16 false (.done)))))))))))))))))) [16] [] ([]) ([]) mixed (by kernel_rfl) (Imp.none _) (Imp.none _) ?_
      refine DG.look rfl rfl (Yield.move rfl) rfl ?_
      refine DG.look rfl rfl (Yield.move rfl) rfl ?_
      refine DG.look rfl rfl (Yield.move rfl) rfl ?_
      refine DG.look rfl rfl (Yield.move rfl) rfl ?_
      refine DG.look rfl rfl (Yield.nilCheck rfl) rfl ?_
      refine DG.look rfl rfl (Yield.fieldAddr fa68_1 rfl) rfl ?_
      refine DG.look rfl rfl (Yield.index_array Try.underlying66 ti4 rfl rfl (by omega) (by omega)) rfl ?_
      refine DG.look rfl rfl (Yield.as (Yield.load (v := .bool ((p ||| (t % 2 ^ i)).testBit i)) ti4 rfl (Cel.of_blk (by repeat (first | exact Ext.here | apply Ext.there)) (by rw [show 0 + 8 + (i : Int).toNat * 1 = 8 + i by omega]; exact RC_p _ _ _ hi'))) (v' := .bool true) (by rw [hb])) rfl ?_
      refine DG.look rfl rfl (Yield.move rfl) rfl ?_
      refine DG.pass rfl rfl rfl ?_
      refine DG.pass rfl rfl rfl ?_
      refine DG.pass rfl rfl rfl ?_
      refine DG.look rfl rfl (by first | exact Yield.pick_t rfl rfl | exact Yield.pick_f rfl rfl | exact Yield.pick rfl (fun _ => rfl) (fun _ => rfl)) rfl ?_
      refine DG.look rfl rfl (Yield.nilCheck rfl) rfl ?_
      refine DG.look rfl rfl (Yield.fieldAddr fa68_1 rfl) rfl ?_
      refine DG.look rfl rfl (Yield.index_array Try.underlying66 ti4 rfl rfl (by omega) (by omega)) rfl ?_
      refine DG.eff1 ?_
      refine Chg.eff rfl rfl (Eff.store1 ti4 rfl rfl (by repeat (first | exact Foc.here | apply Foc.there)) rfl (by rw [RC_len]; omega)) rfl (fun _ => (by repeat (first | exact Imp.refl _ | exact Imp.none _ | apply Imp.pull (by repeat (first | exact Ext.here | apply Ext.there)) | apply Imp.trans Imp.drop))) (fun _ => Imp.refl _) (fun _ => (by repeat (first | exact Imp.refl _ | exact Imp.none _ | apply Imp.pull (by repeat (first | exact Ext.here | apply Ext.there)) | apply Imp.trans Imp.drop))) ?_
      rintro ⟨⟩ -
      rw [show 0 + 8 + (i : Int).toNat * 1 = 8 + i by omega, RC_setp _ _ _ _ hi']
      refine DG.done ?_
      refine QG.then ?_
      refine CG.region ?_
      refine OG.yield (Yield.move rfl) rfl ?_
      refine OG.yield (Yield.move rfl) rfl ?_
      refine OG.yield (Yield.nilCheck rfl) rfl ?_
      refine OG.yield (Yield.fieldAddr fa68_0 rfl) rfl ?_
      refine OG.yield (Yield.index_array Try.underlying66 ti4 rfl rfl (by omega) (by omega)) rfl ?_
      refine OG.eff (Eff.store1 ti4 rfl rfl (by repeat (first | exact Foc.here | apply Foc.there)) rfl (by rw [RC_len]; omega)) rfl ?_
      rintro ⟨⟩ -
      rw [show 0 + 0 + (i : Int).toNat * 1 = i by omega, RC_setq _ _ _ _ hi', cut_step q i hi']
      refine OG.nil ?_
      refine QG.block_normal ?_
      refine QG.then ?_
      refine CG.region ?_
      refine OG.yield (Yield.move rfl) rfl ?_
      refine OG.yield (Yield.add rfl rfl (w64 (by omega) (by omega))) rfl ?_
      refine OG.yield (Yield.assign rfl) rfl ?_
      refine OG.nil ?_
      refine QG.next (i + 1) (show i + 1 ≤ 8 by omega) (show 8 - (i + 1) < 8 - i by omega) (by repeat (first | exact Env.sub_nil _ | refine Env.sub_cons rfl ?_)) ?_
      have e := rel_step p t i
      rw [hb, Bool.true_or] at e
      rw [e]
      exact (by repeat (first | exact Imp.refl _ | exact Imp.none _ | apply Imp.pull (by repeat (first | exact Ext.here | apply Ext.there)) | apply Imp.trans Imp.drop))
    · skip
      refine CG.draw (.look 0 1 (.look 1 1 (.look 2 1 (.look 3 1 (.look 4 1 (.look 5 1 (.look 6 1 (.look 7 1 (.look 8 1 (.look 9 1 (.look 10 1 (.look 11 1 (.look 12 1 (.look 13 1 (.look 14 1 (.look 15 1 (.eff1 16 false (.done)))))))))))))))))) [16] [] ([]) ([]) mixed (by kernel_rfl) (Imp.none _) (Imp.none _) ?_
      refine DG.look rfl rfl (Yield.move rfl) rfl ?_
      refine DG.look rfl rfl (Yield.move rfl) rfl ?_
      refine DG.look rfl rfl (Yield.move rfl) rfl ?_
      refine DG.look rfl rfl (Yield.move rfl) rfl ?_
      refine DG.look rfl rfl (Yield.nilCheck rfl) rfl ?_
      refine DG.look rfl rfl (Yield.fieldAddr fa68_1 rfl) rfl ?_
      refine DG.look rfl rfl (Yield.index_array Try.underlying66 ti4 rfl rfl (by omega) (by omega)) rfl ?_
      refine DG.look rfl rfl (Yield.as (Yield.load (v := .bool ((p ||| (t % 2 ^ i)).testBit i)) ti4 rfl (Cel.of_blk (by repeat (first | exact Ext.here | apply Ext.there)) (by rw [show 0 + 8 + (i : Int).toNat * 1 = 8 + i by omega]; exact RC_p _ _ _ hi'))) (v' := .bool false) (by rw [hb])) rfl ?_
      refine DG.look rfl rfl (Yield.move rfl) rfl ?_
      refine DG.look rfl rfl (Yield.move rfl) rfl ?_
      refine DG.look rfl rfl (Yield.index_array Try.underlying66 ti4 rfl rfl (by omega) (by omega)) rfl ?_
      refine DG.look rfl rfl (Yield.load (v := .bool (t.testBit i)) ti4 rfl (Cel.of_blk (b := b5) (by repeat (first | exact Ext.here | apply Ext.there)) (by rw [show 0 + (i : Int).toNat * 1 = i by omega]; exact lineC_get t hi'))) rfl ?_
      refine DG.look rfl rfl (by first | exact Yield.pick_t rfl rfl | exact Yield.pick_f rfl rfl | exact Yield.pick rfl (fun _ => rfl) (fun _ => rfl)) rfl ?_
      refine DG.look rfl rfl (Yield.nilCheck rfl) rfl ?_
      refine DG.look rfl rfl (Yield.fieldAddr fa68_1 rfl) rfl ?_
      refine DG.look rfl rfl (Yield.index_array Try.underlying66 ti4 rfl rfl (by omega) (by omega)) rfl ?_
      refine DG.eff1 ?_
      refine Chg.eff rfl rfl (Eff.store1 ti4 rfl rfl (by repeat (first | exact Foc.here | apply Foc.there)) rfl (by rw [RC_len]; omega)) rfl (fun _ => (by repeat (first | exact Imp.refl _ | exact Imp.none _ | apply Imp.pull (by repeat (first | exact Ext.here | apply Ext.there)) | apply Imp.trans Imp.drop))) (fun _ => Imp.refl _) (fun _ => (by repeat (first | exact Imp.refl _ | exact Imp.none _ | apply Imp.pull (by repeat (first | exact Ext.here | apply Ext.there)) | apply Imp.trans Imp.drop))) ?_
      rintro ⟨⟩ -
      rw [show 0 + 8 + (i : Int).toNat * 1 = 8 + i by omega, RC_setp _ _ _ _ hi']
      refine DG.done ?_
      refine QG.then ?_
      refine CG.region ?_
      refine OG.yield (Yield.move rfl) rfl ?_
      refine OG.yield (Yield.move rfl) rfl ?_
      refine OG.yield (Yield.nilCheck rfl) rfl ?_
      refine OG.yield (Yield.fieldAddr fa68_0 rfl) rfl ?_
      refine OG.yield (Yield.index_array Try.underlying66 ti4 rfl rfl (by omega) (by omega)) rfl ?_
      refine OG.eff (Eff.store1 ti4 rfl rfl (by repeat (first | exact Foc.here | apply Foc.there)) rfl (by rw [RC_len]; omega)) rfl ?_
      rintro ⟨⟩ -
      rw [show 0 + 0 + (i : Int).toNat * 1 = i by omega, RC_setq _ _ _ _ hi', cut_step q i hi']
      refine OG.nil ?_
      refine QG.block_normal ?_
      refine QG.then ?_
      refine CG.region ?_
      refine OG.yield (Yield.move rfl) rfl ?_
      refine OG.yield (Yield.add rfl rfl (w64 (by omega) (by omega))) rfl ?_
      refine OG.yield (Yield.assign rfl) rfl ?_
      refine OG.nil ?_
      refine QG.next (i + 1) (show i + 1 ≤ 8 by omega) (show 8 - (i + 1) < 8 - i by omega) (by repeat (first | exact Env.sub_nil _ | refine Env.sub_cons rfl ?_)) ?_
      have e := rel_step p t i
      rw [hb, Bool.false_or] at e
      rw [e]
      exact (by repeat (first | exact Imp.refl _ | exact Imp.none _ | apply Imp.pull (by repeat (first | exact Ext.here | apply Ext.there)) | apply Imp.trans Imp.drop))
  · try replace hc := of_decide_eq_false hc
    refine CG.exit ?_
    refine QG.pass_exit ?_
    refine QG.pass_exit ?_
    refine QG.block_exit ?_
    refine QG.then ?_
    refine CG.seq ?_
    have h8 : i = 8 := by omega
    subst h8
    rw [Nat.mod_eq_of_lt (show t < 2 ^ 8 by omega), cut_all hq]
    refine CG.region ?_
    refine OG.yield (Yield.load_agg ti66 rfl (lineC_len t) (Row.of_blk (by repeat (first | exact Ext.here | apply Ext.there)) (by rw [lineC_len, List.drop_zero, List.take_of_length_le (by rw [lineC_len]; omega)]))) rfl ?_
    refine OG.callo call71 rfl (Imp.refl _) (rset_spec W0 _ ht) rfl ?_
    rintro ⟨⟩ -
    refine OG.yield (Yield.assign rfl) rfl ?_
    refine OG.nil ?_
    refine QG.then ?_
    refine CG.ret ?_
    exact QG.ret1 rfl rfl () trivial rfl (by repeat (first | exact Imp.refl _ | exact Imp.none _ | apply Imp.pull (by repeat (first | exact Ext.here | apply Ext.there)) | apply Imp.trans Imp.drop))
/-- The timer, as the reference keeps it. -/
def atOf : Bool → Int → Int
  | true, a => a
  | false, _ => -1
theorem alike_spec {v r q p : Nat} {a : Int} {s : Bool} (hq : q < 256) (hp : p < 256) (ha : s = true → 0 ≤ a) (hs : s = false → a = 0) : Ctr Try.prog W0 34 [.pointer (some ⟨v, 0, none⟩), .pointer (some ⟨r, 0, none⟩)] (V v q p a s :: R r q p (atOf s a) :: Fr) (fun _ : Unit => True) (fun _ => .bool true) (fun _ => V v q p a s :: R r q p (atOf s a) :: Fr) := by
  have e1 : max (atOf s a) 0 = a := by cases s with
    | true => have := ha rfl; show max a 0 = a; omega
    | false => rw [hs rfl]; rfl
  have e2 : decide (0 ≤ atOf s a) = s := by cases s with
    | true => exact decide_eq_true (ha rfl)
    | false => rfl
  refine Ctr.of_body Try.func34 rfl Try.ntmps34 rfl ?_
  refine CG.seq ?_
  refine CG.region ?_
  refine OG.yield (Yield.assign rfl) rfl ?_
  refine OG.nil ?_
  refine QG.then ?_
  refine CG.seq ?_
  refine CG.region ?_
  refine OG.yield (Yield.move rfl) rfl ?_
  refine OG.callo call23 rfl ((by repeat (first | exact Imp.refl _ | exact Imp.none _ | apply Imp.pull (by repeat (first | exact Ext.here | apply Ext.there)) | apply Imp.trans Imp.drop))) (time_spec W0 _) rfl ?_
  rintro ⟨⟩ -
  refine OG.yield (Yield.move rfl) rfl ?_
  refine OG.yield (Yield.extract rfl rfl) rfl ?_
  refine OG.yield (Yield.extract rfl rfl) rfl ?_
  refine OG.yield (Yield.assign rfl) rfl ?_
  refine OG.yield (Yield.assign rfl) rfl ?_
  refine OG.nil ?_
  refine QG.then ?_
  refine CG.seq ?_
  refine CG.region ?_
  refine OG.yield (Yield.move rfl) rfl ?_
  refine OG.callo call67 rfl ((by repeat (first | exact Imp.refl _ | exact Imp.none _ | apply Imp.pull (by repeat (first | exact Ext.here | apply Ext.there)) | apply Imp.trans Imp.drop))) (rtime_spec W0 _) rfl ?_
  rintro ⟨⟩ -
  rw [e1, e2]
  refine OG.yield (Yield.move rfl) rfl ?_
  refine OG.yield (Yield.extract rfl rfl) rfl ?_
  refine OG.yield (Yield.extract rfl rfl) rfl ?_
  refine OG.yield (Yield.assign rfl) rfl ?_
  refine OG.yield (Yield.assign rfl) rfl ?_
  refine OG.nil ?_
  refine QG.then ?_
  refine CG.seq ?_
  refine CG.region ?_
  refine OG.yield (Yield.move rfl) rfl ?_
  refine OG.yield (Yield.move rfl) rfl ?_
  refine OG.yield (by first | exact Yield.as (Yield.eql rfl rfl) (bT (by omega)) | exact Yield.as (Yield.eql rfl rfl) (bF (by omega)) | exact Yield.eql rfl rfl) rfl ?_
  refine OG.yield (Yield.move rfl) rfl ?_
  refine OG.guard_yes rfl rfl rfl (by decide) ?_
  refine OG.yield (Yield.move rfl) rfl ?_
  refine OG.guard_yes rfl rfl rfl (by decide) ?_
  refine OG.yield (Yield.move rfl) rfl ?_
  refine OG.guard_yes rfl rfl rfl (by decide) ?_
  refine OG.yield (by first | exact Yield.bool_same Try.underlying4 rfl rfl | exact Yield.bool_eql Try.underlying4 rfl rfl) rfl ?_
  refine OG.yield (by first | exact Yield.pick_t rfl rfl | exact Yield.pick_f rfl rfl | exact Yield.pick rfl (fun _ => rfl) (fun _ => rfl)) rfl ?_
  refine OG.yield (Yield.move rfl) rfl ?_
  refine OG.guard_yes rfl rfl rfl (by decide) ?_
  refine OG.yield (Yield.move rfl) rfl ?_
  refine OG.guard_yes rfl rfl rfl (by decide) ?_
  refine OG.callo call24 rfl ((by repeat (first | exact Imp.refl _ | exact Imp.none _ | apply Imp.pull (by repeat (first | exact Ext.here | apply Ext.there)) | apply Imp.trans Imp.drop))) (pending_spec W0 _ hp) rfl ?_
  rintro ⟨⟩ -
  refine OG.guard_yes rfl rfl rfl (by decide) ?_
  refine OG.yield (Yield.move rfl) rfl ?_
  refine OG.guard_yes rfl rfl rfl (by decide) ?_
  refine OG.callo call68 rfl ((by repeat (first | exact Imp.refl _ | exact Imp.none _ | apply Imp.pull (by repeat (first | exact Ext.here | apply Ext.there)) | apply Imp.trans Imp.drop))) (rpending_spec W0 _ hp) rfl ?_
  rintro ⟨⟩ -
  refine OG.guard_yes rfl rfl rfl (by decide) ?_
  refine OG.yield (by first | exact Yield.as (Yield.eql rfl rfl) (bT (by omega)) | exact Yield.as (Yield.eql rfl rfl) (bF (by omega)) | exact Yield.eql rfl rfl) rfl ?_
  refine OG.yield (by first | exact Yield.pick_t rfl rfl | exact Yield.pick_f rfl rfl | exact Yield.pick rfl (fun _ => rfl) (fun _ => rfl)) rfl ?_
  refine OG.yield (Yield.move rfl) rfl ?_
  refine OG.guard_yes rfl rfl rfl (by decide) ?_
  refine OG.yield (Yield.move rfl) rfl ?_
  refine OG.guard_yes rfl rfl rfl (by decide) ?_
  refine OG.callo call69 rfl ((by repeat (first | exact Imp.refl _ | exact Imp.none _ | apply Imp.pull (by repeat (first | exact Ext.here | apply Ext.there)) | apply Imp.trans Imp.drop))) (queued_spec W0 _ hq) rfl ?_
  rintro ⟨⟩ -
  refine OG.guard_yes rfl rfl rfl (by decide) ?_
  refine OG.yield (Yield.move rfl) rfl ?_
  refine OG.guard_yes rfl rfl rfl (by decide) ?_
  refine OG.callo call70 rfl ((by repeat (first | exact Imp.refl _ | exact Imp.none _ | apply Imp.pull (by repeat (first | exact Ext.here | apply Ext.there)) | apply Imp.trans Imp.drop))) (rqueued_spec W0 _ hq) rfl ?_
  rintro ⟨⟩ -
  refine OG.guard_yes rfl rfl rfl (by decide) ?_
  refine OG.yield (by first | exact Yield.as (Yield.eql rfl rfl) (bT (by omega)) | exact Yield.as (Yield.eql rfl rfl) (bF (by omega)) | exact Yield.eql rfl rfl) rfl ?_
  refine OG.yield (by first | exact Yield.pick_t rfl rfl | exact Yield.pick_f rfl rfl | exact Yield.pick rfl (fun _ => rfl) (fun _ => rfl)) rfl ?_
  refine OG.yield (Yield.assign rfl) rfl ?_
  refine OG.nil ?_
  refine QG.then ?_
  refine CG.ret ?_
  exact QG.ret1 rfl rfl () trivial rfl (by repeat (first | exact Imp.refl _ | exact Imp.none _ | apply Imp.pull (by repeat (first | exact Ext.here | apply Ext.there)) | apply Imp.trans Imp.drop))
theorem due_iff {a : Int} {s : Bool} (ha : s = true → 0 ≤ a) (now : Int) : (0 ≤ atOf s a ∧ atOf s a ≤ now) ↔ due a s now = true := by
  cases s with
  | true => have := ha rfl; show (0 ≤ a ∧ a ≤ now) ↔ (true && decide (a ≤ now)) = true; simp; omega
  | false => show (0 ≤ (-1 : Int) ∧ _) ↔ (false && decide (a ≤ now)) = true; simp
theorem rrelease2 {v q p : Nat} {a : Int} {s : Bool} (now : Int) (hq : q < 256) (hp : p < 256) (ha : s = true → 0 ≤ a) : Ctr Try.prog W0 36 [.pointer (some ⟨v, 0, none⟩), .int .i64 now] (R v q p (atOf s a) :: Fr) (fun _ : Unit => True)
    (fun _ => .int .u32 (if due a s now then setBit q 0 true else q : Nat)) (fun _ => R v 0 (p ||| (if due a s now then setBit q 0 true else q)) (atOf (s && !due a s now) (if due a s now then 0 else a)) :: Fr) := by
  have h := rrelease_spec W0 Fr (v := v) (a := atOf s a) now hq hp
  simp only [due_iff ha now] at h
  have e : (if due a s now = true then -1 else atOf s a) = atOf (s && !due a s now) (if due a s now then 0 else a) := by
    cases hd : due a s now with
    | true => cases s <;> rfl
    | false => cases s <;> rfl
  rw [e] at h; exact h
theorem timer_spec2 {v q p : Nat} {a : Int} {s : Bool} (n : Int) : Ctr Try.prog W0 21 [.pointer (some ⟨v, 0, none⟩), .int .i64 n] (V v q p a s :: Fr) (fun _ : Unit => True)
    (fun _ => .int .i64 (if 0 ≤ n ∧ n ≤ 281474976710656 then 0 else 2)) (fun _ => V v q p (if 0 ≤ n ∧ n ≤ 281474976710656 then n else a) (if 0 ≤ n ∧ n ≤ 281474976710656 then true else s) :: Fr) := by
  have h := timer_spec W0 Fr (v := v) (q := q) (p := p) (a := a) (s := s) n
  by_cases hn : 0 ≤ n ∧ n ≤ 281474976710656
  · simp only [if_pos hn] at h ⊢; exact h
  · simp only [if_neg hn] at h ⊢; exact h
theorem rtimer2 {v q p : Nat} {a : Int} {s : Bool} (n : Int) : Ctr Try.prog W0 38 [.pointer (some ⟨v, 0, none⟩), .int .i64 n] (R v q p (atOf s a) :: Fr) (fun _ : Unit => True)
    (fun _ => .int .i64 (if 0 ≤ n ∧ n ≤ 281474976710656 then 0 else 2)) (fun _ => R v q p (atOf (if 0 ≤ n ∧ n ≤ 281474976710656 then true else s) (if 0 ≤ n ∧ n ≤ 281474976710656 then n else a)) :: Fr) := by
  have h := rtimer_spec W0 Fr (v := v) (q := q) (p := p) (a := atOf s a) n
  by_cases hn : 0 ≤ n ∧ n ≤ 281474976710656
  · simp only [if_pos hn] at h ⊢; exact h
  · simp only [if_neg hn] at h ⊢; exact h
end
end Go.Proofs.Ytjdaglakhiifjaa.Vi
