/- FramesOthers: what the others do is not seen: the law returns true and changes nothing that was there. -/
import Derived.Test.YtjigjbcdopmeeaaFlw
import Derived.Test.YtjigjbcdopmeeaaFheld
namespace Go.Proofs.Ytjigjbcdopmeeaa.framesOthers
open Go Go.Sl Go.RowKit Go.Proofs Go.Proofs.Ytjigjbcdopmeeaa.T Go.Proofs.Ytjigjbcdopmeeaa.Fz
set_option linter.unusedVariables false
set_option linter.unusedSimpArgs false
set_option maxRecDepth 100000
/-- A quota, out of any number. -/
def qf (x : Int) : Int := IntKind.u64.wrap x % 12
theorem qf_range (x : Int) : 0 ≤ qf x ∧ qf x ≤ 11 := by unfold qf; omega
def qsf (l : List Int) : List Int := l.map qf
theorem qsf_mem {l : List Int} : ∀ q ∈ qsf l, 0 ≤ q ∧ q ≤ 1024 := by
  intro q hq; unfold qsf at hq; rw [List.mem_map] at hq; obtain ⟨x, _, rfl⟩ := hq; have := qf_range x; omega
theorem qsf_len (l : List Int) : (qsf l).length = l.length := by simp [qsf]
theorem qsf_sum (l : List Int) : 0 ≤ (qsf l).sum ∧ (qsf l).sum ≤ 11 * l.length := by
  induction l with
  | nil => simp [qsf]
  | cons x l ih =>
    have := qf_range x
    unfold qsf at *
    rw [List.map_cons, List.sum_cons, List.length_cons]; omega
theorem qsf_take {l : List Int} {i : Nat} {x : Int} (h : l[i]? = some x) : qsf (l.take (i + 1)) = qsf (l.take i) ++ [qf x] := by
  obtain ⟨hi, rfl⟩ := List.getElem?_eq_some_iff.1 h
  unfold qsf; rw [List.take_succ_eq_append_getElem hi, List.map_append]; rfl
theorem qsf_nerr {l : List Int} {t : Nat} (hl : l.length ≤ 8) (ht : (t : Int) = 1 + (qsf l).sum) : nerr t (qsf l) = 0 := by
  have h1 := qsf_sum l
  unfold nerr
  rw [if_neg (by omega), if_neg (by rw [qsf_len]; omega), if_neg (by rintro ⟨q, hq, h⟩; have := qsf_mem q hq; omega), if_neg (by omega)]
theorem sum_snoc (l : List Int) (x : Int) : (l ++ [x]).sum = l.sum + x := by rw [List.sum_append]; simp
structure St where
  i : Nat
  a : List Int
  b : List Int
structure St.OK (qs : List Int) (me m : Nat) (s : St) : Prop where
  im : s.i ≤ m
  ia : Inv s.a qs
  ib : Inv s.b qs
  eq : cnt s.a me = cnt s.b me
def St.env (a1 : Option Addr) (m c1 fa fb me : Nat) (s : St) : Env := [(1, .slice a1 m c1), (2, .int .i64 me), (10, .pointer (some ⟨fa, 0, none⟩)), (12, .pointer (some ⟨fb, 0, none⟩)), (14, .int .i64 s.i)]
abbrev St.G (W : World) (fa fb : Nat) (qs : List Int) (s : St) : List HProp := [F fa s.a qs, F fb s.b qs, old W]
set_option maxHeartbeats 4000000 in
theorem walk (W : World) {a0 a1 : Option Addr} {c0 c1 : Nat} {me0 : Int} {quotas : List Int} {ops : List FAct} (hqs0 : SlAt W 1 a0 quotas.length ((quotas.map (intC .i64)).flatten)) (hops : SlAt W 3 a1 ops.length ((ops.map FAct.cells).flatten)) :
    Ctr Try.prog W 4 [.slice a0 quotas.length c0, .slice a1 ops.length c1, .int .i64 me0] [old W] (fun _ : Unit => True) (fun _ => .bool true) (fun _ => [old W]) := by
  have hwm := wrap_u64_range me0
  refine Ctr.of_body Try.func4 rfl Try.ntmps4 rfl ?_
  refine CG.seq ?_
  refine CG.region ?_
  refine OG.yield (Yield.assign rfl) rfl ?_
  refine OG.nil ?_
  refine QG.then ?_
  refine CG.seq ?_
  refine CG.seq ?_
  refine CG.region ?_
  refine OG.callo call12 rfl (Imp.refl _) (works_spec W _) rfl ?_
  rintro ⟨⟩ -
  refine OG.yield (Yield.not rfl) rfl ?_
  refine OG.nil ?_
  refine QG.then ?_
  refine CG.cond_f rfl ?_
  refine CG.skip ?_
  refine QG.then ?_
  refine CG.seq ?_
  refine CG.seq ?_
  rcases (show quotas.length < 1 ∨ (1 ≤ quotas.length ∧ 8 < quotas.length) ∨ (1 ≤ quotas.length ∧ quotas.length ≤ 8 ∧ 200 < ops.length) ∨ (1 ≤ quotas.length ∧ quotas.length ≤ 8 ∧ ops.length ≤ 200) by omega) with hp | hp | hp | hp
  · skip
    refine CG.region ?_
    refine OG.yield (Yield.move rfl) rfl ?_
    refine OG.yield (Yield.len_slice Try.underlying29 rfl rfl) rfl ?_
    refine OG.yield (by first | exact Yield.as (Yield.lss rfl rfl) (bT (by omega)) | exact Yield.as (Yield.lss rfl rfl) (bF (by omega)) | exact Yield.lss rfl rfl) rfl ?_
    refine OG.yield (Yield.move rfl) rfl ?_
    refine OG.guard_no rfl rfl rfl rfl rfl (by decide) (by decide) ?_
    refine OG.guard_no rfl rfl rfl rfl rfl (by decide) (by decide) ?_
    refine OG.guard_no rfl rfl rfl rfl rfl (by decide) (by decide) ?_
    refine OG.yield (by first | exact Yield.pick_t rfl rfl | exact Yield.pick_f rfl rfl | exact Yield.pick rfl (fun _ => rfl) (fun _ => rfl)) rfl ?_
    refine OG.yield (Yield.move rfl) rfl ?_
    refine OG.guard_no rfl rfl rfl rfl rfl (by decide) (by decide) ?_
    refine OG.guard_no rfl rfl rfl rfl rfl (by decide) (by decide) ?_
    refine OG.guard_no rfl rfl rfl rfl rfl (by decide) (by decide) ?_
    refine OG.yield (by first | exact Yield.pick_t rfl rfl | exact Yield.pick_f rfl rfl | exact Yield.pick rfl (fun _ => rfl) (fun _ => rfl)) rfl ?_
    refine OG.nil ?_
    refine QG.then ?_
    refine CG.cond_t rfl ?_
    refine CG.seq ?_
    refine CG.region ?_
    refine OG.yield (Yield.assign rfl) rfl ?_
    refine OG.nil ?_
    refine QG.then ?_
    refine CG.ret ?_
    refine QG.pass_ret ?_
    exact QG.ret1 rfl rfl () trivial rfl (by repeat (first | exact Imp.refl _ | exact Imp.none _ | apply Imp.pull (by repeat (first | exact Ext.here | apply Ext.there)) | apply Imp.trans Imp.drop))
  · skip
    refine CG.region ?_
    refine OG.yield (Yield.move rfl) rfl ?_
    refine OG.yield (Yield.len_slice Try.underlying29 rfl rfl) rfl ?_
    refine OG.yield (by first | exact Yield.as (Yield.lss rfl rfl) (bT (by omega)) | exact Yield.as (Yield.lss rfl rfl) (bF (by omega)) | exact Yield.lss rfl rfl) rfl ?_
    refine OG.yield (Yield.move rfl) rfl ?_
    refine OG.guard_yes rfl rfl rfl (by decide) ?_
    refine OG.yield (Yield.move rfl) rfl ?_
    refine OG.guard_yes rfl rfl rfl (by decide) ?_
    refine OG.yield (Yield.len_slice Try.underlying29 rfl rfl) rfl ?_
    refine OG.guard_yes rfl rfl rfl (by decide) ?_
    refine OG.yield (by first | exact Yield.as (Yield.gtr rfl rfl) (bT (by omega)) | exact Yield.as (Yield.gtr rfl rfl) (bF (by omega)) | exact Yield.gtr rfl rfl) rfl ?_
    refine OG.yield (by first | exact Yield.pick_t rfl rfl | exact Yield.pick_f rfl rfl | exact Yield.pick rfl (fun _ => rfl) (fun _ => rfl)) rfl ?_
    refine OG.yield (Yield.move rfl) rfl ?_
    refine OG.guard_no rfl rfl rfl rfl rfl (by decide) (by decide) ?_
    refine OG.guard_no rfl rfl rfl rfl rfl (by decide) (by decide) ?_
    refine OG.guard_no rfl rfl rfl rfl rfl (by decide) (by decide) ?_
    refine OG.yield (by first | exact Yield.pick_t rfl rfl | exact Yield.pick_f rfl rfl | exact Yield.pick rfl (fun _ => rfl) (fun _ => rfl)) rfl ?_
    refine OG.nil ?_
    refine QG.then ?_
    refine CG.cond_t rfl ?_
    refine CG.seq ?_
    refine CG.region ?_
    refine OG.yield (Yield.assign rfl) rfl ?_
    refine OG.nil ?_
    refine QG.then ?_
    refine CG.ret ?_
    refine QG.pass_ret ?_
    exact QG.ret1 rfl rfl () trivial rfl (by repeat (first | exact Imp.refl _ | exact Imp.none _ | apply Imp.pull (by repeat (first | exact Ext.here | apply Ext.there)) | apply Imp.trans Imp.drop))
  · skip
    refine CG.region ?_
    refine OG.yield (Yield.move rfl) rfl ?_
    refine OG.yield (Yield.len_slice Try.underlying29 rfl rfl) rfl ?_
    refine OG.yield (by first | exact Yield.as (Yield.lss rfl rfl) (bT (by omega)) | exact Yield.as (Yield.lss rfl rfl) (bF (by omega)) | exact Yield.lss rfl rfl) rfl ?_
    refine OG.yield (Yield.move rfl) rfl ?_
    refine OG.guard_yes rfl rfl rfl (by decide) ?_
    refine OG.yield (Yield.move rfl) rfl ?_
    refine OG.guard_yes rfl rfl rfl (by decide) ?_
    refine OG.yield (Yield.len_slice Try.underlying29 rfl rfl) rfl ?_
    refine OG.guard_yes rfl rfl rfl (by decide) ?_
    refine OG.yield (by first | exact Yield.as (Yield.gtr rfl rfl) (bT (by omega)) | exact Yield.as (Yield.gtr rfl rfl) (bF (by omega)) | exact Yield.gtr rfl rfl) rfl ?_
    refine OG.yield (by first | exact Yield.pick_t rfl rfl | exact Yield.pick_f rfl rfl | exact Yield.pick rfl (fun _ => rfl) (fun _ => rfl)) rfl ?_
    refine OG.yield (Yield.move rfl) rfl ?_
    refine OG.guard_yes rfl rfl rfl (by decide) ?_
    refine OG.yield (Yield.move rfl) rfl ?_
    refine OG.guard_yes rfl rfl rfl (by decide) ?_
    refine OG.yield (Yield.len_slice Try.underlying22 rfl rfl) rfl ?_
    refine OG.guard_yes rfl rfl rfl (by decide) ?_
    refine OG.yield (by first | exact Yield.as (Yield.gtr rfl rfl) (bT (by omega)) | exact Yield.as (Yield.gtr rfl rfl) (bF (by omega)) | exact Yield.gtr rfl rfl) rfl ?_
    refine OG.yield (by first | exact Yield.pick_t rfl rfl | exact Yield.pick_f rfl rfl | exact Yield.pick rfl (fun _ => rfl) (fun _ => rfl)) rfl ?_
    refine OG.nil ?_
    refine QG.then ?_
    refine CG.cond_t rfl ?_
    refine CG.seq ?_
    refine CG.region ?_
    refine OG.yield (Yield.assign rfl) rfl ?_
    refine OG.nil ?_
    refine QG.then ?_
    refine CG.ret ?_
    refine QG.pass_ret ?_
    exact QG.ret1 rfl rfl () trivial rfl (by repeat (first | exact Imp.refl _ | exact Imp.none _ | apply Imp.pull (by repeat (first | exact Ext.here | apply Ext.there)) | apply Imp.trans Imp.drop))
  · skip
    refine CG.region ?_
    refine OG.yield (Yield.move rfl) rfl ?_
    refine OG.yield (Yield.len_slice Try.underlying29 rfl rfl) rfl ?_
    refine OG.yield (by first | exact Yield.as (Yield.lss rfl rfl) (bT (by omega)) | exact Yield.as (Yield.lss rfl rfl) (bF (by omega)) | exact Yield.lss rfl rfl) rfl ?_
    refine OG.yield (Yield.move rfl) rfl ?_
    refine OG.guard_yes rfl rfl rfl (by decide) ?_
    refine OG.yield (Yield.move rfl) rfl ?_
    refine OG.guard_yes rfl rfl rfl (by decide) ?_
    refine OG.yield (Yield.len_slice Try.underlying29 rfl rfl) rfl ?_
    refine OG.guard_yes rfl rfl rfl (by decide) ?_
    refine OG.yield (by first | exact Yield.as (Yield.gtr rfl rfl) (bT (by omega)) | exact Yield.as (Yield.gtr rfl rfl) (bF (by omega)) | exact Yield.gtr rfl rfl) rfl ?_
    refine OG.yield (by first | exact Yield.pick_t rfl rfl | exact Yield.pick_f rfl rfl | exact Yield.pick rfl (fun _ => rfl) (fun _ => rfl)) rfl ?_
    refine OG.yield (Yield.move rfl) rfl ?_
    refine OG.guard_yes rfl rfl rfl (by decide) ?_
    refine OG.yield (Yield.move rfl) rfl ?_
    refine OG.guard_yes rfl rfl rfl (by decide) ?_
    refine OG.yield (Yield.len_slice Try.underlying22 rfl rfl) rfl ?_
    refine OG.guard_yes rfl rfl rfl (by decide) ?_
    refine OG.yield (by first | exact Yield.as (Yield.gtr rfl rfl) (bT (by omega)) | exact Yield.as (Yield.gtr rfl rfl) (bF (by omega)) | exact Yield.gtr rfl rfl) rfl ?_
    refine OG.yield (by first | exact Yield.pick_t rfl rfl | exact Yield.pick_f rfl rfl | exact Yield.pick rfl (fun _ => rfl) (fun _ => rfl)) rfl ?_
    refine OG.nil ?_
    refine QG.then ?_
    refine CG.cond_f rfl ?_
    refine CG.skip ?_
    refine QG.then ?_
    refine CG.seq ?_
    refine CG.region ?_
    refine OG.yield (Yield.assign rfl) rfl ?_
    refine OG.nil ?_
    refine QG.then ?_
    refine CG.seq ?_
    refine CG.region ?_
    refine OG.yield (Yield.assign rfl) rfl ?_
    refine OG.nil ?_
    refine QG.then ?_
    refine CG.seq ?_
    refine CG.seq ?_
    refine CG.region ?_
    refine OG.yield (Yield.assign rfl) rfl ?_
    refine OG.nil ?_
    refine QG.then ?_
    refine CG.block ?_
    refine CG.loop (fun s : Nat × PA => s.1 ≤ quotas.length) (fun s => [(0, .slice a0 quotas.length c0), (1, .slice a1 ops.length c1), (2, .int .i64 me0), (7, .slice s.2.1 (qsf (quotas.take s.1)).length s.2.2), (8, .int .i64 (1 + (qsf (quotas.take s.1)).sum)), (9, .int .i64 s.1)]) (fun s => [oiv s.2.1 s.2.2 (qsf (quotas.take s.1)), old W]) (fun s => quotas.length - s.1) (0, none, 0) (Nat.zero_le _) (by repeat (first | exact Env.sub_nil _ | refine Env.sub_cons rfl ?_)) (osl_nil (E := 3) (sz := 1)) ?_
    rintro ⟨i, a7, c7⟩ (hi : i ≤ quotas.length)
    dsimp only
    refine CG.seq ?_
    refine CG.seq ?_
    refine CG.region ?_
    refine OG.yield (Yield.move rfl) rfl ?_
    refine OG.yield (Yield.move rfl) rfl ?_
    refine OG.yield (Yield.len_slice Try.underlying29 rfl rfl) rfl ?_
    refine OG.yield (by first | exact Yield.as (Yield.lss rfl rfl) (bT (by omega)) | exact Yield.as (Yield.lss rfl rfl) (bF (by omega)) | exact Yield.lss rfl rfl) rfl ?_
    refine OG.nil ?_
    refine QG.then ?_
    refine CG.cond rfl (fun hc => ?_) (fun hc => ?_)
    · try replace hc := of_decide_eq_true hc
      have hi' : i < quotas.length := by omega
      have hget : quotas[i]? = some quotas[i] := by simp [hi']
      generalize quotas[i] = x at hget
      have hqr := qf_range x
      have hqt := qsf_take hget
      have hqs := qsf_sum (quotas.take i)
      have hql := qsf_len (quotas.take i)
      rw [List.length_take] at hqs hql
      have hwx := wrap_u64_range x
      refine CG.pure (fun w hw => (hqs0.old (G := [oiv a7 c7 (qsf (quotas.take i)), old W]) (by repeat (first | exact Ext.here | apply Ext.there))).elem_shape (f := intC .i64) (fun _ => rfl) (by decide) hi' w hw) ?_
      rintro ⟨b0, o0, rfl⟩
      refine CG.skip ?_
      refine QG.then ?_
      refine CG.seq ?_
      refine CG.block ?_
      refine CG.seq ?_
      refine CG.region ?_
      refine OG.yield (Yield.move rfl) rfl ?_
      refine OG.yield (Yield.move rfl) rfl ?_
      refine OG.yield (Yield.move rfl) rfl ?_
      refine OG.yield (Yield.index_slice Try.underlying29 ti3 rfl rfl (by omega) (by omega)) rfl ?_
      refine OG.yield (Yield.load (v := .int .i64 x) ti3 rfl (((hqs0.old (by repeat (first | exact Ext.here | apply Ext.there))).elem (f := intC .i64) (fun _ => rfl) hget) 0 _ rfl)) rfl ?_
      refine OG.yield (Yield.conv Try.underlying24 rfl rfl rfl) rfl ?_
      refine OG.yield (Yield.rem (c := qf x) rfl rfl (by decide) (tmod_pos (by omega) (by omega))) rfl ?_
      refine OG.yield (Yield.conv (c := qf x) Try.underlying3 rfl rfl (w64 (by omega) (by omega))) rfl ?_
      refine OG.effd (Eff.lit1 Try.underlying29 ti3 rfl rfl rfl) rfl ?_
      rintro b51 -
      refine OG.effd (Eff.append (k := 1) (ys := iv [qf x]) rfl rfl rfl Try.underlying29 Try.underlying29 ti3 rfl (by decide) (by repeat (first | exact Foc.here | apply Foc.there)) (SlR.of_osl (a := some ⟨b51, 0, none⟩) (by repeat (first | exact Ext.here | apply Ext.there))) (iv_ones _) (by omega)) rfl ?_
      rintro ⟨a52, c52⟩ -
      rw [show (qsf (quotas.take i)).length + 1 = (qsf (quotas.take (i + 1))).length by rw [hqt, List.length_append]; rfl, ← iv_append, ← hqt]
      refine OG.pure (fun w hw => SlR.shape (SlR.of_osl (W0 := W) (E := 3) (sz := 1) (a := a52) (c := c52) (m := (qsf (quotas.take (i + 1))).length) (xs := iv (qsf (quotas.take (i + 1)))) (by repeat (first | exact Ext.here | apply Ext.there))) (by rw [hqt, iv_append]; simp [iv]) w hw) ?_
      rintro ⟨b52, o52, rfl⟩
      refine OG.yield (Yield.assign rfl) rfl ?_
      refine OG.nil ?_
      refine QG.then ?_
      refine CG.region ?_
      have hq1 : (qsf (quotas.take (i + 1)))[i]? = some (qf x) := by rw [hqt, List.getElem?_append_right (by omega), hql, Nat.min_eq_left hi, Nat.sub_self]; rfl
      have hq1l : i < (qsf (quotas.take (i + 1))).length := (List.getElem?_eq_some_iff.1 hq1).1
      refine OG.yield (Yield.move rfl) rfl ?_
      refine OG.yield (Yield.move rfl) rfl ?_
      refine OG.yield (Yield.move rfl) rfl ?_
      refine OG.yield (Yield.index_slice Try.underlying29 ti3 rfl rfl (by omega) (by omega)) rfl ?_
      refine OG.yield (Yield.load (v := .int .i64 (qf x)) ti3 rfl (by rw [show o52 + (i : Int).toNat * 1 = o52 + i by omega]; exact (SlR.of_osl (a := some ⟨b52, o52, none⟩) (by repeat (first | exact Ext.here | apply Ext.there))).cel (iv_get hq1))) rfl ?_
      refine OG.yield (Yield.add rfl rfl (w64 (by omega) (by omega))) rfl ?_
      refine OG.yield (Yield.assign rfl) rfl ?_
      refine OG.nil ?_
      refine QG.block_normal ?_
      refine QG.then ?_
      refine CG.region ?_
      refine OG.yield (Yield.move rfl) rfl ?_
      refine OG.yield (Yield.add rfl rfl (w64 (by omega) (by omega))) rfl ?_
      refine OG.yield (Yield.assign rfl) rfl ?_
      refine OG.nil ?_
      refine QG.next (i + 1, some ⟨b52, o52, none⟩, c52) (show i + 1 ≤ quotas.length by omega) (show quotas.length - (i + 1) < quotas.length - i by omega) ?_ (by repeat (first | exact Imp.refl _ | exact Imp.none _ | apply Imp.pull (by repeat (first | exact Ext.here | apply Ext.there)) | apply Imp.trans Imp.drop))
      rw [show 1 + (qsf (quotas.take (i + 1))).sum = 1 + (qsf (quotas.take i)).sum + qf x by rw [hqt, sum_snoc]; omega]; exact (by repeat (first | exact Env.sub_nil _ | refine Env.sub_cons rfl ?_))
    · try replace hc := of_decide_eq_false hc
      refine CG.exit ?_
      refine QG.pass_exit ?_
      refine QG.pass_exit ?_
      refine QG.block_exit ?_
      refine QG.then ?_
      have hiq : i = quotas.length := by omega
      subst hiq
      rw [List.take_length]
      have hqs := qsf_sum quotas
      have hql := qsf_len quotas
      obtain ⟨tn, htn⟩ : ∃ tn : Nat, 1 + (qsf quotas).sum = (tn : Int) := ⟨(1 + (qsf quotas).sum).toNat, by omega⟩
      have hne := qsf_nerr (t := tn) (l := quotas) (by omega) htn.symm
      have hqm := qsf_mem (l := quotas)
      generalize qsf quotas = qs at hqs hql htn hne hqm ⊢
      rw [htn, hql]
      refine CG.seq ?_
      refine CG.region ?_
      refine OG.yield (Yield.move rfl) rfl ?_
      refine OG.yield (Yield.conv Try.underlying24 rfl rfl rfl) rfl ?_
      generalize IntKind.u64.wrap me0 = wm at hwm ⊢
      refine OG.yield (Yield.move rfl) rfl ?_
      refine OG.yield (Yield.len_slice Try.underlying29 rfl rfl) rfl ?_
      refine OG.yield (Yield.conv (c := (quotas.length : Int)) Try.underlying24 rfl rfl (wu64 (by omega) (by omega))) rfl ?_
      refine OG.yield (Yield.rem rfl rfl (by omega) (tmod_pos (by omega) (by omega))) rfl ?_
      have hm0 : 0 ≤ wm % (quotas.length : Int) := Int.emod_nonneg _ (by omega)
      have hm1 : wm % (quotas.length : Int) < (quotas.length : Int) := Int.emod_lt_of_pos _ (by omega)
      generalize wm % (quotas.length : Int) = me1 at hm0 hm1 ⊢
      obtain ⟨me, rfl⟩ : ∃ n : Nat, me1 = (n : Int) := ⟨me1.toNat, by omega⟩
      refine OG.yield (Yield.conv (c := (me : Int)) Try.underlying3 rfl rfl (w64 (by omega) (by omega))) rfl ?_
      refine OG.yield (Yield.assign rfl) rfl ?_
      refine OG.nil ?_
      refine QG.then ?_
      refine CG.seq ?_
      refine CG.region ?_
      refine OG.yield (Yield.move rfl) rfl ?_
      refine OG.effd (Eff.lit0 Try.underlying29 ti3 rfl) rfl ?_
      rintro b68 -
      refine OG.yield (Yield.move rfl) rfl ?_
      refine OG.effd (Eff.append0 (k := quotas.length) (ys := iv qs) rfl rfl rfl Try.underlying29 Try.underlying29 ti3 rfl (by decide) (by repeat (first | exact Foc.here | apply Foc.there)) (by rw [← hql]; exact SlR.of_osl (E := 3) (a := a7) (c := c7) (by repeat (first | exact Ext.here | apply Ext.there))) (iv_ones qs) (by omega)) rfl ?_
      rintro ⟨a70, c70⟩ -
      rw [← hql]
      refine OG.callo call13 rfl ((by repeat (first | exact Imp.refl _ | exact Imp.none _ | apply Imp.pull (by repeat (first | exact Ext.here | apply Ext.there)) | apply Imp.trans Imp.drop))) (new_ok W _ (total := tn) (qs := qs) (by exact SlR.of_osl (E := 3) (a := a70) (c := c70) (by repeat (first | exact Ext.here | apply Ext.there))) hne) rfl ?_
      rintro fa -
      refine OG.yield (Yield.move rfl) rfl ?_
      refine OG.yield (Yield.extract rfl rfl) rfl ?_
      refine OG.yield (Yield.extract rfl rfl) rfl ?_
      refine OG.yield (Yield.assign rfl) rfl ?_
      refine OG.yield (Yield.assign rfl) rfl ?_
      refine OG.nil ?_
      refine QG.then ?_
      refine CG.seq ?_
      refine CG.region ?_
      refine OG.yield (Yield.move rfl) rfl ?_
      refine OG.effd (Eff.lit0 Try.underlying29 ti3 rfl) rfl ?_
      rintro b76 -
      refine OG.yield (Yield.move rfl) rfl ?_
      refine OG.effd (Eff.append0 (k := qs.length) (ys := iv qs) rfl rfl rfl Try.underlying29 Try.underlying29 ti3 rfl (by decide) (by repeat (first | exact Foc.here | apply Foc.there)) (SlR.of_osl (E := 3) (a := a7) (c := c7) (by repeat (first | exact Ext.here | apply Ext.there))) (iv_ones qs) (by omega)) rfl ?_
      rintro ⟨a78, c78⟩ -
      refine OG.callo call13 rfl ((by repeat (first | exact Imp.refl _ | exact Imp.none _ | apply Imp.pull (by repeat (first | exact Ext.here | apply Ext.there)) | apply Imp.trans Imp.drop))) (new_ok W _ (total := tn) (qs := qs) (by exact SlR.of_osl (E := 3) (a := a78) (c := c78) (by repeat (first | exact Ext.here | apply Ext.there))) hne) rfl ?_
      rintro fb -
      refine OG.yield (Yield.move rfl) rfl ?_
      refine OG.yield (Yield.extract rfl rfl) rfl ?_
      refine OG.yield (Yield.extract rfl rfl) rfl ?_
      refine OG.yield (Yield.assign rfl) rfl ?_
      refine OG.yield (Yield.assign rfl) rfl ?_
      refine OG.nil ?_
      refine QG.then ?_
      refine CG.seq ?_
      refine CG.seq ?_
      refine CG.region ?_
      refine OG.yield (Yield.move rfl) rfl ?_
      refine OG.callo call14 rfl (Imp.refl _) (num_spec W _ _) rfl ?_
      rintro ⟨⟩ -
      refine OG.yield (by first | exact Yield.as (Yield.neq rfl rfl) (bT (by omega)) | exact Yield.as (Yield.neq rfl rfl) (bF (by omega)) | exact Yield.neq rfl rfl) rfl ?_
      refine OG.yield (Yield.move rfl) rfl ?_
      refine OG.guard_yes rfl rfl rfl (by decide) ?_
      refine OG.yield (Yield.move rfl) rfl ?_
      refine OG.guard_yes rfl rfl rfl (by decide) ?_
      refine OG.callo call14 rfl (Imp.refl _) (num_spec W _ _) rfl ?_
      rintro ⟨⟩ -
      refine OG.guard_yes rfl rfl rfl (by decide) ?_
      refine OG.yield (by first | exact Yield.as (Yield.neq rfl rfl) (bT (by omega)) | exact Yield.as (Yield.neq rfl rfl) (bF (by omega)) | exact Yield.neq rfl rfl) rfl ?_
      refine OG.yield (by first | exact Yield.pick_t rfl rfl | exact Yield.pick_f rfl rfl | exact Yield.pick rfl (fun _ => rfl) (fun _ => rfl)) rfl ?_
      refine OG.yield (Yield.move rfl) rfl ?_
      refine OG.guard_yes rfl rfl rfl (by decide) ?_
      refine OG.yield (Yield.move rfl) rfl ?_
      refine OG.guard_yes rfl rfl rfl (by decide) ?_
      refine OG.yield (by first | exact Yield.ptr_nil Try.underlying25 rfl rfl | exact Yield.nil_nil Try.underlying25 rfl rfl) rfl ?_
      refine OG.yield (by first | exact Yield.pick_t rfl rfl | exact Yield.pick_f rfl rfl | exact Yield.pick rfl (fun _ => rfl) (fun _ => rfl)) rfl ?_
      refine OG.yield (Yield.move rfl) rfl ?_
      refine OG.guard_yes rfl rfl rfl (by decide) ?_
      refine OG.yield (Yield.move rfl) rfl ?_
      refine OG.guard_yes rfl rfl rfl (by decide) ?_
      refine OG.yield (by first | exact Yield.ptr_nil Try.underlying25 rfl rfl | exact Yield.nil_nil Try.underlying25 rfl rfl) rfl ?_
      refine OG.yield (by first | exact Yield.pick_t rfl rfl | exact Yield.pick_f rfl rfl | exact Yield.pick rfl (fun _ => rfl) (fun _ => rfl)) rfl ?_
      refine OG.nil ?_
      refine QG.then ?_
      refine CG.cond_f rfl ?_
      refine CG.skip ?_
      refine QG.then ?_
      have hinv := inv_new hne
      have hisP : isP qs me := ⟨by omega, by omega⟩
      obtain ⟨q, hq⟩ : ∃ q, qs[me]? = some q := ⟨qs[me], by simp⟩
      have hmn : (me : Int) ≠ -1 := by omega
      refine CG.seq ?_
      refine CG.seq ?_
      refine CG.region ?_
      refine OG.yield (Yield.assign rfl) rfl ?_
      refine OG.nil ?_
      refine QG.then ?_
      refine CG.block ?_
      refine CG.loop (fun s : St => s.OK qs me ops.length) (St.env a1 ops.length c1 fa fb me) (St.G W fa fb qs) (fun s => ops.length - s.i) ⟨0, List.replicate tn (-1), List.replicate tn (-1)⟩ ⟨Nat.zero_le _, hinv, hinv, rfl⟩ (by repeat (first | exact Env.sub_nil _ | refine Env.sub_cons rfl ?_)) (by repeat (first | exact Imp.refl _ | exact Imp.none _ | apply Imp.pull (by repeat (first | exact Ext.here | apply Ext.there)) | apply Imp.trans Imp.drop)) ?_
      rintro ⟨i, oa, ob⟩ ⟨im, ia, ib, heq⟩
      unfold St.env
      dsimp only at im ia ib heq ⊢
      have hla := left_in (own := oa) hq
      have hlb := left_in (own := ob) hq
      refine CG.seq ?_
      refine CG.seq ?_
      refine CG.region ?_
      refine OG.yield (Yield.move rfl) rfl ?_
      refine OG.yield (Yield.move rfl) rfl ?_
      refine OG.yield (Yield.len_slice Try.underlying22 rfl rfl) rfl ?_
      refine OG.yield (by first | exact Yield.as (Yield.lss rfl rfl) (bT (by omega)) | exact Yield.as (Yield.lss rfl rfl) (bF (by omega)) | exact Yield.lss rfl rfl) rfl ?_
      refine OG.nil ?_
      refine QG.then ?_
      refine CG.cond rfl (fun hc => ?_) (fun hc => ?_)
      · try replace hc := of_decide_eq_true hc
        have h1 : i < ops.length := by omega
        have hget : ops[i]? = some ops[i] := by simp [h1]
        generalize ops[i] = op at hget
        refine CG.pure (fun w hw => (hops.old (G := St.G W fa fb qs ⟨i, oa, ob⟩) (by repeat (first | exact Ext.here | apply Ext.there))).elem_shape FAct.len (by decide) h1 w hw) ?_
        rintro ⟨b, o, rfl⟩
        have hrow : ∀ {G R : List HProp}, Ext G (old W) R → Row W G b (o + i * 3) op.cells := fun x => (hops.old x).elem FAct.len hget
        have hwf := wrap_u64_range op.Frame
        refine CG.skip ?_
        refine QG.then ?_
        refine CG.seq ?_
        refine CG.block ?_
        refine CG.seq ?_
        refine CG.seq ?_
        refine CG.region ?_
        refine OG.yield (Yield.move rfl) rfl ?_
        refine OG.yield (Yield.move rfl) rfl ?_
        refine OG.yield (Yield.index_slice Try.underlying22 ti32 rfl rfl (by omega) (by omega)) rfl ?_
        refine OG.yield (Yield.fieldAddr fa32_1 rfl) rfl ?_
        refine OG.yield (Yield.load (v := .int .i64 op.Part) ti3 rfl ((hrow (by repeat (first | exact Ext.here | apply Ext.there))) 1 _ rfl)) rfl ?_
        refine OG.yield (Yield.move rfl) rfl ?_
        refine OG.yield (Yield.neq rfl rfl) rfl ?_
        refine OG.nil ?_
        refine QG.then ?_
        refine CG.cond rfl (fun hc => ?_) (fun hc => ?_)
        · try replace hc := of_decide_eq_true hc
          have hpm : op.Part ≠ (me : Int) := hc
          refine CG.seq ?_
          refine CG.seq ?_
          refine CG.region ?_
          refine OG.yield (Yield.move rfl) rfl ?_
          refine OG.yield (Yield.move rfl) rfl ?_
          refine OG.yield (Yield.index_slice Try.underlying22 ti32 rfl rfl (by omega) (by omega)) rfl ?_
          refine OG.yield (Yield.fieldAddr fa32_0 rfl) rfl ?_
          refine OG.yield (Yield.load (v := .int .i64 op.Kind) ti3 rfl ((hrow (by repeat (first | exact Ext.here | apply Ext.there))) 0 _ rfl)) rfl ?_
          refine OG.yield (Yield.eql rfl rfl) rfl ?_
          refine OG.nil ?_
          refine QG.then ?_
          refine CG.cond rfl (fun hc => ?_) (fun hc => ?_)
          · try replace hc := of_decide_eq_true hc
            refine CG.region ?_
            refine OG.yield (Yield.move rfl) rfl ?_
            refine OG.yield (Yield.move rfl) rfl ?_
            refine OG.yield (Yield.move rfl) rfl ?_
            refine OG.yield (Yield.index_slice Try.underlying22 ti32 rfl rfl (by omega) (by omega)) rfl ?_
            refine OG.yield (Yield.fieldAddr fa32_1 rfl) rfl ?_
            refine OG.yield (Yield.load (v := .int .i64 op.Part) ti3 rfl ((hrow (by repeat (first | exact Ext.here | apply Ext.there))) 1 _ rfl)) rfl ?_
            refine OG.callo call18 rfl ((by repeat (first | exact Imp.refl _ | exact Imp.none _ | apply Imp.pull (by repeat (first | exact Ext.here | apply Ext.there)) | apply Imp.trans Imp.drop))) (take_any W _ (own := oa) op.Part ia hqm) rfl ?_
            rintro ⟨v, oa'⟩ hlk
            refine OG.nil ?_
            refine QG.then ?_
            refine CG.exit ?_
            refine QG.pass_exit ?_
            refine QG.block_exit ?_
            refine QG.then ?_
            refine CG.region ?_
            refine OG.yield (Yield.move rfl) rfl ?_
            refine OG.yield (Yield.add rfl rfl (w64 (by omega) (by omega))) rfl ?_
            refine OG.yield (Yield.assign rfl) rfl ?_
            refine OG.nil ?_
            exact QG.next ⟨i + 1, oa', ob⟩ ⟨by simp only; omega, hlk.inv, ib, by simp only; rw [hlk.oth me (fun h => hpm h.symm) hmn]; exact heq⟩ (by simp only; omega) (by repeat (first | exact Env.sub_nil _ | refine Env.sub_cons rfl ?_)) (by repeat (first | exact Imp.refl _ | exact Imp.none _ | apply Imp.pull (by repeat (first | exact Ext.here | apply Ext.there)) | apply Imp.trans Imp.drop))
          · try replace hc := of_decide_eq_false hc
            refine CG.draw (.look 0 1 (.look 1 1 (.look 2 1 (.look 3 1 (.look 4 1 (.look 5 1 (.look 6 1 (.look 7 1 (.look 8 1 (.look 9 1 (.look 10 1 (.eff1 11 false (.done))))))))))))) [11] [] ([]) ([]) mixed (by kernel_rfl) (Imp.none _) (Imp.none _) ?_
            refine DG.look rfl rfl (Yield.move rfl) rfl ?_
            refine DG.look rfl rfl (Yield.move rfl) rfl ?_
            refine DG.look rfl rfl (Yield.move rfl) rfl ?_
            refine DG.look rfl rfl (Yield.index_slice Try.underlying22 ti32 rfl rfl (by omega) (by omega)) rfl ?_
            refine DG.look rfl rfl (Yield.fieldAddr fa32_1 rfl) rfl ?_
            refine DG.look rfl rfl (Yield.load (v := .int .i64 op.Part) ti3 rfl ((hrow (by repeat (first | exact Ext.here | apply Ext.there))) 1 _ rfl)) rfl ?_
            refine DG.look rfl rfl (Yield.move rfl) rfl ?_
            refine DG.look rfl rfl (Yield.move rfl) rfl ?_
            refine DG.look rfl rfl (Yield.index_slice Try.underlying22 ti32 rfl rfl (by omega) (by omega)) rfl ?_
            refine DG.look rfl rfl (Yield.fieldAddr fa32_2 rfl) rfl ?_
            refine DG.look rfl rfl (Yield.load (v := .int .i64 op.Frame) ti3 rfl ((hrow (by repeat (first | exact Ext.here | apply Ext.there))) 2 _ rfl)) rfl ?_
            refine DG.eff1 ?_
            refine Chg.callo rfl rfl call15 rfl ((by repeat (first | exact Imp.refl _ | exact Imp.none _ | apply Imp.pull (by repeat (first | exact Ext.here | apply Ext.there)) | apply Imp.trans Imp.drop))) (give_any W _ (own := oa) op.Part op.Frame ia) rfl (fun _ => (by repeat (first | exact Imp.refl _ | exact Imp.none _ | apply Imp.pull (by repeat (first | exact Ext.here | apply Ext.there)) | apply Imp.trans Imp.drop))) (fun _ => Imp.refl _) (fun _ => (by repeat (first | exact Imp.refl _ | exact Imp.none _ | apply Imp.pull (by repeat (first | exact Ext.here | apply Ext.there)) | apply Imp.trans Imp.drop))) ?_
            rintro ⟨v, oa'⟩ hlk
            refine DG.done ?_
            refine QG.then ?_
            refine CG.exit ?_
            refine QG.pass_exit ?_
            refine QG.block_exit ?_
            refine QG.then ?_
            refine CG.region ?_
            refine OG.yield (Yield.move rfl) rfl ?_
            refine OG.yield (Yield.add rfl rfl (w64 (by omega) (by omega))) rfl ?_
            refine OG.yield (Yield.assign rfl) rfl ?_
            refine OG.nil ?_
            exact QG.next ⟨i + 1, oa', ob⟩ ⟨by simp only; omega, hlk.inv, ib, by simp only; rw [hlk.oth me (fun h => hpm h.symm) hmn]; exact heq⟩ (by simp only; omega) (by repeat (first | exact Env.sub_nil _ | refine Env.sub_cons rfl ?_)) (by repeat (first | exact Imp.refl _ | exact Imp.none _ | apply Imp.pull (by repeat (first | exact Ext.here | apply Ext.there)) | apply Imp.trans Imp.drop))
        · try replace hc := of_decide_eq_false hc
          refine CG.skip ?_
          refine QG.then ?_
          refine CG.seq ?_
          refine CG.seq ?_
          refine CG.region ?_
          refine OG.yield (Yield.move rfl) rfl ?_
          refine OG.yield (Yield.move rfl) rfl ?_
          refine OG.yield (Yield.index_slice Try.underlying22 ti32 rfl rfl (by omega) (by omega)) rfl ?_
          refine OG.yield (Yield.fieldAddr fa32_0 rfl) rfl ?_
          refine OG.yield (Yield.load (v := .int .i64 op.Kind) ti3 rfl ((hrow (by repeat (first | exact Ext.here | apply Ext.there))) 0 _ rfl)) rfl ?_
          refine OG.yield (Yield.eql rfl rfl) rfl ?_
          refine OG.nil ?_
          refine QG.then ?_
          refine CG.cond rfl (fun hc => ?_) (fun hc => ?_)
          · try replace hc := of_decide_eq_true hc
            refine CG.seq ?_
            rcases (show left oa qs me ≤ 0 ∨ 0 < left oa qs me by omega) with hlf | hlf
            · skip
              skip
              refine CG.region ?_
              refine OG.yield (Yield.move rfl) rfl ?_
              refine OG.yield (Yield.move rfl) rfl ?_
              refine OG.callo call18 rfl ((by repeat (first | exact Imp.refl _ | exact Imp.none _ | apply Imp.pull (by repeat (first | exact Ext.here | apply Ext.there)) | apply Imp.trans Imp.drop))) (take_quota W _ (own := oa) (me : Int) hqm hisP hlf) rfl ?_
              rintro ⟨⟩ -
              refine OG.yield (Yield.move rfl) rfl ?_
              refine OG.yield (Yield.extract rfl rfl) rfl ?_
              refine OG.yield (Yield.extract rfl rfl) rfl ?_
              refine OG.yield (Yield.assign rfl) rfl ?_
              refine OG.yield (Yield.assign rfl) rfl ?_
              refine OG.nil ?_
              refine QG.then ?_
              refine CG.seq ?_
              refine CG.region ?_
              refine OG.yield (Yield.move rfl) rfl ?_
              refine OG.yield (Yield.move rfl) rfl ?_
              refine OG.callo call18 rfl ((by repeat (first | exact Imp.refl _ | exact Imp.none _ | apply Imp.pull (by repeat (first | exact Ext.here | apply Ext.there)) | apply Imp.trans Imp.drop))) (take_quota W _ (f := fb) (own := ob) (me : Int) hqm hisP (by omega)) rfl ?_
              rintro ⟨⟩ -
              refine OG.yield (Yield.move rfl) rfl ?_
              refine OG.yield (Yield.extract rfl rfl) rfl ?_
              refine OG.yield (Yield.extract rfl rfl) rfl ?_
              refine OG.yield (Yield.assign rfl) rfl ?_
              refine OG.yield (Yield.assign rfl) rfl ?_
              refine OG.nil ?_
              refine QG.then ?_
              refine CG.seq ?_
              refine CG.seq ?_
              refine CG.region ?_
              refine OG.yield (Yield.move rfl) rfl ?_
              refine OG.yield (Yield.move rfl) rfl ?_
              refine OG.yield (by first | exact Yield.as (Yield.neq rfl rfl) (bT (by omega)) | exact Yield.as (Yield.neq rfl rfl) (bF (by omega)) | exact Yield.neq rfl rfl) rfl ?_
              refine OG.nil ?_
              refine QG.then ?_
              refine CG.cond_f rfl ?_
              refine CG.skip ?_
              refine QG.then ?_
              refine CG.exit ?_
              refine QG.pass_exit ?_
              refine QG.block_exit ?_
              refine QG.then ?_
              refine CG.region ?_
              refine OG.yield (Yield.move rfl) rfl ?_
              refine OG.yield (Yield.add rfl rfl (w64 (by omega) (by omega))) rfl ?_
              refine OG.yield (Yield.assign rfl) rfl ?_
              refine OG.nil ?_
              exact QG.next ⟨i + 1, oa, ob⟩ ⟨by simp only; omega, ia, ib, heq⟩ (by simp only; omega) (by repeat (first | exact Env.sub_nil _ | refine Env.sub_cons rfl ?_)) (by repeat (first | exact Imp.refl _ | exact Imp.none _ | apply Imp.pull (by repeat (first | exact Ext.here | apply Ext.there)) | apply Imp.trans Imp.drop))
            · skip
              obtain ⟨na, hna, hga⟩ := free_frame ia hq (by omega)
              obtain ⟨nb, hnb, hgb⟩ := free_frame ib hq (by omega)
              refine CG.region ?_
              refine OG.yield (Yield.move rfl) rfl ?_
              refine OG.yield (Yield.move rfl) rfl ?_
              refine OG.callo call18 rfl ((by repeat (first | exact Imp.refl _ | exact Imp.none _ | apply Imp.pull (by repeat (first | exact Ext.here | apply Ext.there)) | apply Imp.trans Imp.drop))) (take_ok W _ (own := oa) (me : Int) hqm hisP hlf hna) rfl ?_
              rintro ⟨⟩ -
              refine OG.yield (Yield.move rfl) rfl ?_
              refine OG.yield (Yield.extract rfl rfl) rfl ?_
              refine OG.yield (Yield.extract rfl rfl) rfl ?_
              refine OG.yield (Yield.assign rfl) rfl ?_
              refine OG.yield (Yield.assign rfl) rfl ?_
              refine OG.nil ?_
              refine QG.then ?_
              refine CG.seq ?_
              refine CG.region ?_
              refine OG.yield (Yield.move rfl) rfl ?_
              refine OG.yield (Yield.move rfl) rfl ?_
              refine OG.callo call18 rfl ((by repeat (first | exact Imp.refl _ | exact Imp.none _ | apply Imp.pull (by repeat (first | exact Ext.here | apply Ext.there)) | apply Imp.trans Imp.drop))) (take_ok W _ (f := fb) (own := ob) (me : Int) hqm hisP (by omega) hnb) rfl ?_
              rintro ⟨⟩ -
              refine OG.yield (Yield.move rfl) rfl ?_
              refine OG.yield (Yield.extract rfl rfl) rfl ?_
              refine OG.yield (Yield.extract rfl rfl) rfl ?_
              refine OG.yield (Yield.assign rfl) rfl ?_
              refine OG.yield (Yield.assign rfl) rfl ?_
              refine OG.nil ?_
              refine QG.then ?_
              refine CG.seq ?_
              refine CG.seq ?_
              refine CG.region ?_
              refine OG.yield (Yield.move rfl) rfl ?_
              refine OG.yield (Yield.move rfl) rfl ?_
              refine OG.yield (by first | exact Yield.as (Yield.neq rfl rfl) (bT (by omega)) | exact Yield.as (Yield.neq rfl rfl) (bF (by omega)) | exact Yield.neq rfl rfl) rfl ?_
              refine OG.nil ?_
              refine QG.then ?_
              refine CG.cond_f rfl ?_
              refine CG.skip ?_
              refine QG.then ?_
              refine CG.exit ?_
              refine QG.pass_exit ?_
              refine QG.block_exit ?_
              refine QG.then ?_
              refine CG.region ?_
              refine OG.yield (Yield.move rfl) rfl ?_
              refine OG.yield (Yield.add rfl rfl (w64 (by omega) (by omega))) rfl ?_
              refine OG.yield (Yield.assign rfl) rfl ?_
              refine OG.nil ?_
              exact QG.next ⟨i + 1, oa.set na me, ob.set nb me⟩ ⟨by simp only; omega, inv_take ia hq (by omega) hga, inv_take ib hq (by omega) hgb, by simp only; rw [cnt_set hga, cnt_set hgb, heq]⟩ (by simp only; omega) (by repeat (first | exact Env.sub_nil _ | refine Env.sub_cons rfl ?_)) (by repeat (first | exact Imp.refl _ | exact Imp.none _ | apply Imp.pull (by repeat (first | exact Ext.here | apply Ext.there)) | apply Imp.trans Imp.drop))
          · try replace hc := of_decide_eq_false hc
            refine CG.skip ?_
            refine QG.then ?_
            refine CG.seq ?_
            refine CG.region ?_
            refine OG.yield (Yield.move rfl) rfl ?_
            refine OG.yield (Yield.move rfl) rfl ?_
            refine OG.callo call19 rfl ((by repeat (first | exact Imp.refl _ | exact Imp.none _ | apply Imp.pull (by repeat (first | exact Ext.here | apply Ext.there)) | apply Imp.trans Imp.drop))) (held_spec W _ (f := fa) (own := oa) (qs := qs) (me : Int)) rfl ?_
            rintro ⟨ax, cx⟩ -
            refine OG.yield (Yield.move rfl) rfl ?_
            refine OG.yield (Yield.move rfl) rfl ?_
            refine OG.callo call19 rfl ((by repeat (first | exact Imp.refl _ | exact Imp.none _ | apply Imp.pull (by repeat (first | exact Ext.here | apply Ext.there)) | apply Imp.trans Imp.drop))) (held_spec W _ (f := fb) (own := ob) (qs := qs) (me : Int)) rfl ?_
            rintro ⟨ay, cy⟩ -
            refine OG.yield (Yield.assign rfl) rfl ?_
            refine OG.yield (Yield.assign rfl) rfl ?_
            refine OG.nil ?_
            refine QG.then ?_
            have hxl := held_len (own := oa) hisP
            have hyl := held_len (own := ob) hisP
            have hcla := cnt_le oa me
            have hta := ia.tot
            rw [hxl, hyl, ← heq]
            refine CG.seq ?_
            refine CG.seq ?_
            refine CG.region ?_
            refine OG.yield (Yield.move rfl) rfl ?_
            refine OG.yield (Yield.len_slice Try.underlying29 rfl rfl) rfl ?_
            refine OG.yield (Yield.move rfl) rfl ?_
            refine OG.yield (Yield.len_slice Try.underlying29 rfl rfl) rfl ?_
            refine OG.yield (by first | exact Yield.as (Yield.neq rfl rfl) (bT (by omega)) | exact Yield.as (Yield.neq rfl rfl) (bF (by omega)) | exact Yield.neq rfl rfl) rfl ?_
            refine OG.nil ?_
            refine QG.then ?_
            refine CG.cond_f rfl ?_
            refine CG.skip ?_
            refine QG.then ?_
            refine CG.seq ?_
            refine CG.region ?_
            refine OG.yield (Yield.move rfl) rfl ?_
            refine OG.yield (Yield.len_slice Try.underlying29 rfl rfl) rfl ?_
            refine OG.yield (by first | exact Yield.as (Yield.gtr rfl rfl) (bT (by omega)) | exact Yield.as (Yield.gtr rfl rfl) (bF (by omega)) | exact Yield.gtr rfl rfl) rfl ?_
            refine OG.nil ?_
            refine QG.then ?_
            refine CG.cond rfl (fun hc => ?_) (fun hc => ?_)
            · try replace hc := of_decide_eq_true hc
              have hcl : 0 < cnt oa me := by omega
              refine CG.pure (fun w hw => SlR.shape (SlR.of_osl (W0 := W) (E := 3) (sz := 1) (a := ax) (c := cx) (m := (held oa qs me).length) (xs := iv (held oa qs me)) (by repeat (first | exact Ext.here | apply Ext.there))) (by intro h; have := iv_len (held oa qs me); rw [h, hxl] at this; simp only [List.length_nil] at this; omega) w hw) ?_
              rintro ⟨bx, ox, rfl⟩
              refine CG.pure (fun w hw => SlR.shape (SlR.of_osl (W0 := W) (E := 3) (sz := 1) (a := ay) (c := cy) (m := (held ob qs me).length) (xs := iv (held ob qs me)) (by repeat (first | exact Ext.here | apply Ext.there))) (by intro h; have := iv_len (held ob qs me); rw [h, hyl] at this; simp only [List.length_nil] at this; omega) w hw) ?_
              rintro ⟨by', oy, rfl⟩
              refine CG.seq ?_
              refine CG.region ?_
              refine OG.yield (Yield.move rfl) rfl ?_
              refine OG.yield (Yield.move rfl) rfl ?_
              refine OG.yield (Yield.index_slice Try.underlying22 ti32 rfl rfl (by omega) (by omega)) rfl ?_
              refine OG.yield (Yield.fieldAddr fa32_2 rfl) rfl ?_
              refine OG.yield (Yield.load (v := .int .i64 op.Frame) ti3 rfl ((hrow (by repeat (first | exact Ext.here | apply Ext.there))) 2 _ rfl)) rfl ?_
              refine OG.yield (Yield.conv Try.underlying24 rfl rfl rfl) rfl ?_
              generalize IntKind.u64.wrap op.Frame = wf at hwf ⊢
              refine OG.yield (Yield.move rfl) rfl ?_
              refine OG.yield (Yield.len_slice Try.underlying29 rfl rfl) rfl ?_
              refine OG.yield (Yield.conv (c := (cnt oa me : Int)) Try.underlying24 rfl rfl (wu64 (by omega) (by omega))) rfl ?_
              refine OG.yield (Yield.rem rfl rfl (by omega) (tmod_pos (by omega) (by omega))) rfl ?_
              have hk0 : 0 ≤ wf % (cnt oa me : Int) := Int.emod_nonneg _ (by omega)
              have hk1 : wf % (cnt oa me : Int) < (cnt oa me : Int) := Int.emod_lt_of_pos _ (by omega)
              generalize wf % (cnt oa me : Int) = k1 at hk0 hk1 ⊢
              obtain ⟨k, rfl⟩ : ∃ n : Nat, k1 = (n : Int) := ⟨k1.toNat, by omega⟩
              refine OG.yield (Yield.conv (c := (k : Int)) Try.underlying3 rfl rfl (w64 (by omega) (by omega))) rfl ?_
              refine OG.yield (Yield.assign rfl) rfl ?_
              refine OG.nil ?_
              refine QG.then ?_
              refine CG.seq ?_
              have hkx : k < (held oa qs me).length := by omega
              have hky : k < (held ob qs me).length := by omega
              obtain ⟨nx, hgx, hox⟩ := held_at hisP hkx
              obtain ⟨ny, hgy, hoy⟩ := held_at hisP hky
              refine CG.draw (.look 0 1 (.look 1 1 (.look 2 1 (.look 3 1 (.look 4 1 (.look 5 1 (.look 7 0 (.look 8 0 (.look 9 0 (.look 10 0 (.look 11 0 (.look 12 0 (.eff1 6 false (.eff1 13 false (.look 14 1 (.done)))))))))))))))) [6, 13] [] ([oiv (some ⟨by', oy, none⟩) cy (held ob qs me)]) ([]) mixed (by kernel_rfl) ((by repeat (first | exact Imp.refl _ | exact Imp.none _ | apply Imp.pull (by repeat (first | exact Ext.here | apply Ext.there)) | apply Imp.trans Imp.drop))) (Imp.none _) ?_
              refine DG.look rfl rfl (Yield.move rfl) rfl ?_
              refine DG.look rfl rfl (Yield.move rfl) rfl ?_
              refine DG.look rfl rfl (Yield.move rfl) rfl ?_
              refine DG.look rfl rfl (Yield.move rfl) rfl ?_
              refine DG.look rfl rfl (Yield.index_slice Try.underlying29 ti3 rfl rfl (by omega) (by omega)) rfl ?_
              refine DG.look rfl rfl (Yield.load (v := .int .i64 nx) ti3 rfl (by rw [show ox + (k : Int).toNat * 1 = ox + k by omega]; exact (SlR.of_osl (a := some ⟨bx, ox, none⟩) (by repeat (first | exact Ext.here | apply Ext.there))).cel (iv_get hgx))) rfl ?_
              refine DG.look rfl rfl (Yield.move rfl) rfl ?_
              refine DG.look rfl rfl (Yield.move rfl) rfl ?_
              refine DG.look rfl rfl (Yield.move rfl) rfl ?_
              refine DG.look rfl rfl (Yield.move rfl) rfl ?_
              refine DG.look rfl rfl (Yield.index_slice Try.underlying29 ti3 rfl rfl (by omega) (by omega)) rfl ?_
              refine DG.look rfl rfl (Yield.load (v := .int .i64 ny) ti3 rfl (by rw [show oy + (k : Int).toNat * 1 = oy + k by omega]; exact (SlR.of_osl (a := some ⟨by', oy, none⟩) Ext.here).cel (iv_get hgy))) rfl ?_
              refine DG.eff1 ?_
              refine Chg.callo rfl rfl call15 rfl ((by repeat (first | exact Imp.refl _ | exact Imp.none _ | apply Imp.pull (by repeat (first | exact Ext.here | apply Ext.there)) | apply Imp.trans Imp.drop))) (give_ok W _ (f := fa) (own := oa) (me : Int) nx hisP hox) rfl (fun _ => (by repeat (first | exact Imp.refl _ | exact Imp.none _ | apply Imp.pull (by repeat (first | exact Ext.here | apply Ext.there)) | apply Imp.trans Imp.drop))) (fun _ => Imp.refl _) (fun _ => (by repeat (first | exact Imp.refl _ | exact Imp.none _ | apply Imp.pull (by repeat (first | exact Ext.here | apply Ext.there)) | apply Imp.trans Imp.drop))) ?_
              rintro ⟨⟩ -
              refine DG.eff1 ?_
              refine Chg.callo rfl rfl call15 rfl ((by repeat (first | exact Imp.refl _ | exact Imp.none _ | apply Imp.pull (by repeat (first | exact Ext.here | apply Ext.there)) | apply Imp.trans Imp.drop))) (give_ok W _ (f := fb) (own := ob) (me : Int) ny hisP hoy) rfl (fun _ => (by repeat (first | exact Imp.refl _ | exact Imp.none _ | apply Imp.pull (by repeat (first | exact Ext.here | apply Ext.there)) | apply Imp.trans Imp.drop))) (fun _ => Imp.refl _) (fun _ => (by repeat (first | exact Imp.refl _ | exact Imp.none _ | apply Imp.pull (by repeat (first | exact Ext.here | apply Ext.there)) | apply Imp.trans Imp.drop))) ?_
              rintro ⟨⟩ -
              refine DG.look rfl rfl (by first | exact Yield.as (Yield.neq rfl rfl) (bT (by omega)) | exact Yield.as (Yield.neq rfl rfl) (bF (by omega)) | exact Yield.neq rfl rfl) rfl ?_
              refine DG.done ?_
              refine QG.then ?_
              refine CG.cond_f rfl ?_
              refine CG.skip ?_
              refine QG.block_normal ?_
              refine QG.then ?_
              refine CG.region ?_
              refine OG.yield (Yield.move rfl) rfl ?_
              refine OG.yield (Yield.add rfl rfl (w64 (by omega) (by omega))) rfl ?_
              refine OG.yield (Yield.assign rfl) rfl ?_
              refine OG.nil ?_
              exact QG.next ⟨i + 1, oa.set nx (-1), ob.set ny (-1)⟩ ⟨by simp only; omega, inv_give ia hox, inv_give ib hoy, by simp only; rw [cnt_set hox, cnt_set hoy, heq]⟩ (by simp only; omega) (by repeat (first | exact Env.sub_nil _ | refine Env.sub_cons rfl ?_)) (by repeat (first | exact Imp.refl _ | exact Imp.none _ | apply Imp.pull (by repeat (first | exact Ext.here | apply Ext.there)) | apply Imp.trans Imp.drop))
            · try replace hc := of_decide_eq_false hc
              refine CG.skip ?_
              refine QG.block_normal ?_
              refine QG.then ?_
              refine CG.region ?_
              refine OG.yield (Yield.move rfl) rfl ?_
              refine OG.yield (Yield.add rfl rfl (w64 (by omega) (by omega))) rfl ?_
              refine OG.yield (Yield.assign rfl) rfl ?_
              refine OG.nil ?_
              exact QG.next ⟨i + 1, oa, ob⟩ ⟨by simp only; omega, ia, ib, heq⟩ (by simp only; omega) (by repeat (first | exact Env.sub_nil _ | refine Env.sub_cons rfl ?_)) (by repeat (first | exact Imp.refl _ | exact Imp.none _ | apply Imp.pull (by repeat (first | exact Ext.here | apply Ext.there)) | apply Imp.trans Imp.drop))
      · try replace hc := of_decide_eq_false hc
        refine CG.exit ?_
        refine QG.pass_exit ?_
        refine QG.pass_exit ?_
        refine QG.block_exit ?_
        refine QG.then ?_
        refine CG.seq ?_
        refine CG.region ?_
        refine OG.yield (Yield.move rfl) rfl ?_
        refine OG.yield (Yield.move rfl) rfl ?_
        refine OG.callo call17 rfl ((by repeat (first | exact Imp.refl _ | exact Imp.none _ | apply Imp.pull (by repeat (first | exact Ext.here | apply Ext.there)) | apply Imp.trans Imp.drop))) (left_spec W _ (f := fa) (own := oa) (me : Int) hqm) rfl ?_
        rintro ⟨⟩ -
        refine OG.yield (Yield.move rfl) rfl ?_
        refine OG.yield (Yield.move rfl) rfl ?_
        refine OG.callo call17 rfl ((by repeat (first | exact Imp.refl _ | exact Imp.none _ | apply Imp.pull (by repeat (first | exact Ext.here | apply Ext.there)) | apply Imp.trans Imp.drop))) (left_spec W _ (f := fb) (own := ob) (me : Int) hqm) rfl ?_
        rintro ⟨⟩ -
        refine OG.yield (Yield.as (Yield.eql rfl rfl) (bT (by omega))) rfl ?_
        refine OG.yield (Yield.move rfl) rfl ?_
        refine OG.guard_yes rfl rfl rfl (by decide) ?_
        refine OG.yield (Yield.move rfl) rfl ?_
        refine OG.guard_yes rfl rfl rfl (by decide) ?_
        refine OG.yield (Yield.move rfl) rfl ?_
        refine OG.guard_yes rfl rfl rfl (by decide) ?_
        refine OG.callo call19 rfl ((by repeat (first | exact Imp.refl _ | exact Imp.none _ | apply Imp.pull (by repeat (first | exact Ext.here | apply Ext.there)) | apply Imp.trans Imp.drop))) (held_spec W _ (f := fa) (own := oa) (qs := qs) (me : Int)) rfl ?_
        rintro ⟨ax, cx⟩ -
        refine OG.guard_yes rfl rfl rfl (by decide) ?_
        refine OG.yield (Yield.len_slice Try.underlying29 rfl rfl) rfl ?_
        refine OG.guard_yes rfl rfl rfl (by decide) ?_
        refine OG.yield (Yield.move rfl) rfl ?_
        refine OG.guard_yes rfl rfl rfl (by decide) ?_
        refine OG.yield (Yield.move rfl) rfl ?_
        refine OG.guard_yes rfl rfl rfl (by decide) ?_
        refine OG.callo call19 rfl ((by repeat (first | exact Imp.refl _ | exact Imp.none _ | apply Imp.pull (by repeat (first | exact Ext.here | apply Ext.there)) | apply Imp.trans Imp.drop))) (held_spec W _ (f := fb) (own := ob) (qs := qs) (me : Int)) rfl ?_
        rintro ⟨ay, cy⟩ -
        refine OG.guard_yes rfl rfl rfl (by decide) ?_
        refine OG.yield (Yield.len_slice Try.underlying29 rfl rfl) rfl ?_
        refine OG.guard_yes rfl rfl rfl (by decide) ?_
        refine OG.yield (Yield.as (Yield.eql rfl rfl) (bT (by rw [held_len hisP, held_len hisP, heq]))) rfl ?_
        refine OG.yield (by first | exact Yield.pick_t rfl rfl | exact Yield.pick_f rfl rfl | exact Yield.pick rfl (fun _ => rfl) (fun _ => rfl)) rfl ?_
        refine OG.yield (Yield.assign rfl) rfl ?_
        refine OG.nil ?_
        refine QG.then ?_
        refine CG.ret ?_
        exact QG.ret1 rfl rfl () trivial rfl (by repeat (first | exact Imp.refl _ | exact Imp.none _ | apply Imp.pull (by repeat (first | exact Ext.here | apply Ext.there)) | apply Imp.trans Imp.drop))
open Go.ChangeShapes Go.WideShapes Go.ChangeAt
theorem own : ownKnob Try.prog.godebug = none := by kernel_rfl
theorem laid : laidOutB Try.prog = true := by kernel_rfl
set_option maxRecDepth 100000 in
theorem lifted (os : Os) (started : os.Started) (H : Type) (enc : TypeId × Value → H) :
    ReturnsInHanded {} Try.checked os 4 .any (Rows.framesOthersSpec.pre6 enc Try.prog Try.f4 Rows.framesOthersRow.domain false) (Rows.framesOthersSpec.post enc Try.prog Try.f4 false true false false) := by
  refine returnsInHanded_of_change_sized (C := Try.checked) own started (by kernel_rfl) Try.func4
    (ChangeSpec.witness6 (enc := enc) (C := Try.checked) false ⟨#[], #[.slice none 0 0, .slice none 0 0, .int .i64 0], []⟩ 8 (by kernel_rfl) (by kernel_rfl) (by kernel_rfl) (by kernel_rfl)) ?_
  intro W base args ds gs before hval0 hW hcnd hsz0 _
  have hsz : (DataW.weightsEach Try.prog (Try.f4.params.toList ++ Rows.framesOthersSpec.plain.varTypes Try.prog) (ds ++ gs)).all (· ≤ reachBytes) = true := hsz0
  have hval : ∀ (j : Nat) t v, Try.f4.params[j]? = some t → args[j]? = some v → Value.okWide Try.prog W .any base t v := hval0
  have hW' := hW
  obtain ⟨p, q, hA0, hV, rfl, hfz, hnd⟩ := hW
  have hA : DataW.TrodAll enc Try.prog W 0 (fun _ => true) true Try.f4.params.toList args.toList ds p := hA0
  rw [Try.params4] at hA hval hsz
  obtain ⟨v0, vs0, d0, ds0, p0, q0, hargs, rfl, rfl, h0, r0⟩ := trodAll_cons hA
  obtain ⟨v1, vs1, d1, ds1, p1, q1, rfl, rfl, rfl, h1, r1⟩ := trodAll_cons r0
  obtain ⟨v2, vs2, d2, ds2, p2, q2, rfl, rfl, rfl, h2, r2⟩ := trodAll_cons r1
  obtain ⟨rfl, rfl, rfl⟩ := trodAll_nil r2
  obtain rfl : args = #[v0, v1, v2] := by cases args; simp_all
  obtain ⟨rfl, rfl⟩ := trodVars_none hV
  have k0 := weights_le hsz 0 (t := 29) (d := d0) rfl rfl
  have s0 := Opn.param Try.underlying29 (Opn.ints (by' := 8) Try.underlying29 Try.underlying3 (by kernel_rfl) (by kernel_rfl)) (hval 0 29 v0 rfl rfl) h0 k0
  obtain ⟨x0, c0, qs, e0, l0, ok0, s0, m0⟩ := s0
  cases e0
  have k1 := weights_le hsz 1 (t := 22) (d := d1) rfl rfl
  have s1 := Opn.param Try.underlying22 (FAct.list W) (hval 1 22 v1 rfl rfl) h1 k1
  obtain ⟨x1, c1, ops, e1, l1, ok1, s1, m1⟩ := s1
  cases e1
  obtain ⟨a2, rfl, rfl, rfl, w2⟩ := open_int Try.underlying3 (hval 2 3 v2 rfl rfl) h2
  clear hA0 hval0 hsz0 hsz
  refine ((walk W s0 s1) W (Sat.start W)).mono fun e W' he => ?_
  obtain ⟨_, _, he, hs⟩ := he
  subst he
  exact ⟨_, rfl, law_post laid (params_ok (by kernel_rfl)) rfl Try.underlying4 hW' rfl rfl (Sat.below (by repeat (first | exact Ext.here | apply Ext.there)) hs)⟩
theorem over : Rows.framesOthersRow.holds Try.pinned (OpenSpec.ofChange Rows.framesOthersSpec) :=
  OpenClaim.holds_of_wide 4 Try.f4 rfl rfl rfl rfl rfl rfl rfl ⟨rfl, rfl, rfl, rfl, rfl⟩ rfl rfl rfl rfl rfl (by kernel_rfl) Try.func4 (by kernel_rfl)
    (of_decide_eq_true (by kernel_rfl)) (by unfold Func.isWrapper; first | (rw [if_pos (by decide +kernel)]; kernel_rfl) | (rw [if_neg (by decide +kernel)]; exact ⟨rfl, rfl⟩))
    (fun os started H enc _ => lifted os started H enc)
theorem proved : Rows.FramesOthersSaid := over
#print axioms proved
end Go.Proofs.Ytjigjbcdopmeeaa.framesOthers
