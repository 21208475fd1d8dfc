/- VconFull: a ring takes just as many bytes as there is room for: the law returns true at whatever bytes and whatever n. -/
import Derived.Test.YtmhcdeklfecokaaVcon
import Derived.Test.YtmhcdeklfecokaaRow
import Derived.Test.YtmhcdeklfecokaaRows
namespace Go.Proofs.Ytmhcdeklfecokaa.vconFull
open Go Go.Sl Go.RowKit Go.Proofs Go.Proofs.Ytmhcdeklfecokaa.T Go.Proofs.Ytmhcdeklfecokaa.Vc
set_option linter.unusedVariables false
set_option linter.unusedSimpArgs false
set_option maxRecDepth 100000

set_option maxHeartbeats 4000000 in
theorem walk (W : World) {a1 a2 : Option Addr} {c1 c2 : Nat} {b1 b2 : List UInt8} {n : Int} (h1 : SlAt W 1 a1 b1.length (bytesV b1)) (hc1 : b1.length ≤ c1) (hr1 : b1.length ≤ reachBytes)
    (h2 : SlAt W 1 a2 b2.length (bytesV b2)) (hc2 : b2.length ≤ c2) (hr2 : b2.length ≤ reachBytes) :
    Ctr Try.prog W 8 [.slice a1 b1.length c1, .int .i64 n, .slice a2 b2.length c2] [old W] (fun _ : Unit => True) (fun _ => .bool true) (fun _ => [old W]) := by
  unfold reachBytes at hr1 hr2
  refine Ctr.of_body Try.func8 rfl Try.ntmps8 rfl ?_
  refine CG.seq ?_
  refine CG.region ?_
  refine OG.yield (Yield.assign rfl) rfl ?_
  refine OG.nil ?_
  refine QG.then ?_
  refine CG.seq ?_
  refine CG.region ?_
  refine OG.callo (new_spec W _) call25 rfl ((by repeat (first | exact Imp.refl _ | apply Imp.pull (by repeat (first | exact Ext.here | apply Ext.there)) | apply Imp.trans Imp.drop))) rfl ?_
  rintro g -
  refine OG.yield (Yield.assign rfl) rfl ?_
  refine OG.nil ?_
  refine QG.then ?_
  refine CG.seq ?_
  refine CG.seq ?_
  refine CG.region ?_
  refine OG.yield (Yield.move rfl) rfl ?_
  refine OG.yield (Yield.ptr_nil Try.underlying45 rfl rfl) rfl ?_
  refine OG.nil ?_
  refine QG.then ?_
  refine CG.cond_f rfl ?_
  refine CG.skip ?_
  refine QG.then ?_
  refine CG.seq ?_
  refine CG.block ?_
  refine CG.loop (fun i : List UInt8 => i.length ≤ 64) (fun _ => [(0, .slice a1 b1.length c1), (1, .int .i64 n), (2, .slice a2 b2.length c2), (7, .pointer (some ⟨g, 0, none⟩))]) (fun i => [Con g [] i, old W]) (fun i => 64 - i.length) [] (by simp) ?_ (Imp.refl _) ?_
  · exact Env.sub_cons rfl (Env.sub_cons rfl (Env.sub_cons rfl (Env.sub_cons rfl (Env.sub_nil _))))
  intro inn hinn
  refine CG.seq ?_
  refine CG.seq ?_
  refine CG.region ?_
  refine OG.yield (Yield.move rfl) rfl ?_
  refine OG.effd (Eff.lit [(.const (.int .u8 7)), (.const (.int .u8 8)), (.const (.int .u8 9))] Try.underlying30 ti5 rfl rfl rfl rfl (by decide) (by simp [Value.cells]) (by simp [Value.cells]; rfl)) rfl ?_
  rintro b15 -
  refine OG.callo (feed_spec W _ (ds := [7, 8, 9]) ?_ (by decide) (by decide)) call30 rfl ((by repeat (first | exact Imp.refl _ | apply Imp.pull (by repeat (first | exact Ext.here | apply Ext.there)) | apply Imp.trans Imp.drop))) rfl ?_
  · exact SlR.of_osl_eq (by repeat (first | exact Ext.here | apply Ext.there)) rfl (by simp [bytesV, byteV])
  rintro ⟨⟩ -
  refine OG.yield (Yield.eql rfl rfl) rfl ?_
  refine OG.nil ?_
  refine QG.then ?_
  refine CG.cond rfl (fun hc => ?_) (fun hc => ?_)
  · try replace hc := of_decide_eq_true hc
    have hlen : inn.length + 3 ≤ 64 := by simp only [List.length_cons, List.length_nil] at hc; omega
    refine CG.skip ?_
    refine QG.then ?_
    refine CG.block ?_
    refine CG.skip ?_
    refine QG.block_normal ?_
    refine QG.next (inn ++ List.take (64 - inn.length) [7, 8, 9]) ?_ ?_ ?_ ?_
    · simp; omega
    · simp; omega
    · exact Env.sub_cons rfl (Env.sub_cons rfl (Env.sub_cons rfl (Env.sub_cons rfl (Env.sub_nil _))))
    · exact (by repeat (first | exact Imp.refl _ | apply Imp.pull (by repeat (first | exact Ext.here | apply Ext.there)) | apply Imp.trans Imp.drop))
  · try replace hc := of_decide_eq_false hc
    have hlen : (inn ++ List.take (64 - inn.length) [7, 8, 9]).length = 64 := by simp only [List.length_cons, List.length_nil] at hc; simp; omega
    generalize inn ++ List.take (64 - inn.length) [7, 8, 9] = inn2 at hlen ⊢
    refine CG.exit ?_
    refine QG.pass_exit ?_
    refine QG.pass_exit ?_
    refine QG.block_exit ?_
    refine QG.then ?_
    refine CG.seq ?_
    refine CG.region ?_
    refine OG.yield (Yield.move rfl) rfl ?_
    refine OG.effd (Eff.lit1 Try.underlying30 ti5 rfl rfl rfl) rfl ?_
    rintro b19 -
    refine OG.callo (feed_spec W _ (ds := [5]) ?_ (by decide) (by decide)) call30 rfl ((by repeat (first | exact Imp.refl _ | apply Imp.pull (by repeat (first | exact Ext.here | apply Ext.there)) | apply Imp.trans Imp.drop))) rfl ?_
    · exact SlR.of_osl_eq (by repeat (first | exact Ext.here | apply Ext.there)) rfl (by simp [bytesV, byteV])
    rintro ⟨⟩ -
    rw [hlen, Nat.sub_self, List.take_zero, List.append_nil]
    refine OG.nil ?_
    refine QG.then ?_
    refine CG.seq ?_
    refine CG.seq ?_
    refine CG.region ?_
    refine OG.yield (Yield.move rfl) rfl ?_
    refine OG.callo (in_spec W _) call27 rfl ((by repeat (first | exact Imp.refl _ | apply Imp.pull (by repeat (first | exact Ext.here | apply Ext.there)) | apply Imp.trans Imp.drop))) rfl ?_
    rintro ⟨a22, c22⟩ -
    refine OG.yield (Yield.len_slice Try.underlying30 rfl rfl) rfl ?_
    refine OG.yield (Yield.as (Yield.neq rfl rfl) (bF (by rw [hlen]; decide))) rfl ?_
    refine OG.yield (Yield.move rfl) rfl ?_
    refine OG.guard_yes rfl rfl rfl (by decide) ?_
    refine OG.yield (Yield.move rfl) rfl ?_
    refine OG.guard_yes rfl rfl rfl (by decide) ?_
    refine OG.effd (Eff.lit1 Try.underlying30 ti5 rfl rfl rfl) rfl ?_
    rintro b27 -
    refine OG.guard_yes rfl rfl rfl (by decide) ?_
    refine OG.yield (Yield.move rfl) rfl ?_
    refine OG.guard_yes rfl rfl rfl (by decide) ?_
    refine OG.effd (Eff.append rfl rfl rfl Try.underlying30 Try.underlying30 ti5 rfl (by decide) (by repeat (first | exact Foc.here | apply Foc.there)) (h1.old (by repeat (first | exact Ext.here | apply Ext.there))) bytesV_one (by omega)) rfl ?_
    rintro ⟨a29, c29⟩ -
    refine OG.pure (fun w hw => osl_facts (by repeat (first | exact Ext.here | apply Ext.there)) w hw) ?_
    rintro ⟨_, hcap⟩
    have e29 : (1 + b1.length) = ([(1 : UInt8)] ++ b1).length := by simp; omega
    rw [e29] at hcap ⊢
    refine OG.guard_yes rfl rfl rfl (by decide) ?_
    refine OG.callo (feed_spec W _ (ds := [1] ++ b1) ?_ hcap (by simp; omega)) call30 rfl ((by repeat (first | exact Imp.refl _ | apply Imp.pull (by repeat (first | exact Ext.here | apply Ext.there)) | apply Imp.trans Imp.drop))) rfl ?_
    · exact SlR.of_osl (by repeat (first | exact Ext.here | apply Ext.there))
    rintro ⟨⟩ -
    rw [hlen, Nat.sub_self, List.take_zero, List.append_nil, Nat.min_zero]
    refine OG.guard_yes rfl rfl rfl (by decide) ?_
    refine OG.yield (Yield.as (Yield.neq rfl rfl) (bF (by decide))) rfl ?_
    refine OG.yield (Yield.pick_f rfl rfl) rfl ?_
    refine OG.nil ?_
    refine QG.then ?_
    refine CG.cond_f rfl ?_
    refine CG.skip ?_
    refine QG.then ?_
    refine CG.seq ?_
    refine CG.region ?_
    refine OG.yield (Yield.move rfl) rfl ?_
    refine OG.yield (Yield.move rfl) rfl ?_
    refine OG.callo (read_spec W _ n) call29 rfl ((by repeat (first | exact Imp.refl _ | apply Imp.pull (by repeat (first | exact Ext.here | apply Ext.there)) | apply Imp.trans Imp.drop))) rfl ?_
    rintro ⟨a35, c35⟩ -
    rw [hlen]
    have hk := kOf_le n 64
    have hkk : max 0 (min n 64) = ((kOf n 64 : Nat) : Int) := by unfold kOf; omega
    have hlen3 : (inn2.drop (kOf n 64)).length = 64 - kOf n 64 := by simp [hlen]
    generalize hin3 : inn2.drop (kOf n 64) = inn3 at hlen3 ⊢
    generalize kOf n 64 = k at *
    refine OG.yield (Yield.len_slice Try.underlying30 rfl rfl) rfl ?_
    refine OG.yield (Yield.assign rfl) rfl ?_
    refine OG.nil ?_
    refine QG.then ?_
    refine CG.seq ?_
    refine CG.seq ?_
    refine CG.region ?_
    refine OG.yield (Yield.move rfl) rfl ?_
    refine OG.yield (Yield.move rfl) rfl ?_
    refine OG.yield (Yield.min2 rfl rfl) rfl ?_
    refine OG.yield (Yield.max2 rfl rfl) rfl ?_
    refine OG.yield (Yield.as (Yield.neq rfl rfl) (bF (by rw [hkk]; simp))) rfl ?_
    refine OG.nil ?_
    refine QG.then ?_
    refine CG.cond_f rfl ?_
    refine CG.skip ?_
    refine QG.then ?_
    refine CG.seq ?_
    refine CG.region ?_
    refine OG.yield (Yield.move rfl) rfl ?_
    refine OG.effd (Eff.lit0 Try.underlying30 ti5 rfl) rfl ?_
    rintro b43 -
    refine OG.yield (Yield.move rfl) rfl ?_
    refine OG.effd (Eff.append0 rfl rfl rfl Try.underlying30 Try.underlying30 ti5 rfl (by decide) (by repeat (first | exact Foc.here | apply Foc.there)) (h2.old (by repeat (first | exact Ext.here | apply Ext.there))) bytesV_one (by omega)) rfl ?_
    rintro ⟨a45, c45⟩ -
    refine OG.pure (fun w hw => osl_facts (by repeat (first | exact Ext.here | apply Ext.there)) w hw) ?_
    rintro ⟨_, hcap45⟩
    refine OG.callo (feed_spec W _ (ds := b2) ?_ hcap45 (by omega)) call30 rfl ((by repeat (first | exact Imp.refl _ | apply Imp.pull (by repeat (first | exact Ext.here | apply Ext.there)) | apply Imp.trans Imp.drop))) rfl ?_
    · exact SlR.of_osl (by repeat (first | exact Ext.here | apply Ext.there))
    rintro ⟨⟩ -
    rw [hlen3, show 64 - (64 - k) = k by omega]
    refine OG.yield (Yield.assign rfl) rfl ?_
    refine OG.nil ?_
    refine QG.then ?_
    refine CG.seq ?_
    refine CG.seq ?_
    refine CG.region ?_
    refine OG.yield (Yield.move rfl) rfl ?_
    refine OG.yield (Yield.move rfl) rfl ?_
    refine OG.yield (Yield.len_slice Try.underlying30 rfl rfl) rfl ?_
    refine OG.yield (Yield.move rfl) rfl ?_
    refine OG.yield (Yield.min2 rfl rfl) rfl ?_
    refine OG.yield (Yield.as (Yield.neq rfl rfl) (bF (by omega))) rfl ?_
    refine OG.yield (Yield.move rfl) rfl ?_
    refine OG.guard_yes rfl rfl rfl (by decide) ?_
    refine OG.yield (Yield.move rfl) rfl ?_
    refine OG.guard_yes rfl rfl rfl (by decide) ?_
    refine OG.callo (in_spec W _) call27 rfl ((by repeat (first | exact Imp.refl _ | apply Imp.pull (by repeat (first | exact Ext.here | apply Ext.there)) | apply Imp.trans Imp.drop))) rfl ?_
    rintro ⟨a55, c55⟩ -
    refine OG.guard_yes rfl rfl rfl (by decide) ?_
    refine OG.yield (Yield.len_slice Try.underlying30 rfl rfl) rfl ?_
    refine OG.guard_yes rfl rfl rfl (by decide) ?_
    refine OG.yield (Yield.move rfl) rfl ?_
    refine OG.guard_yes rfl rfl rfl (by decide) ?_
    refine OG.yield (Yield.sub rfl rfl (w64 (by omega) (by omega))) rfl ?_
    refine OG.guard_yes rfl rfl rfl (by decide) ?_
    refine OG.yield (Yield.move rfl) rfl ?_
    refine OG.guard_yes rfl rfl rfl (by decide) ?_
    refine OG.yield (Yield.add rfl rfl (w64 (by omega) (by omega))) rfl ?_
    refine OG.guard_yes rfl rfl rfl (by decide) ?_
    refine OG.yield (Yield.as (Yield.neq rfl rfl) (bF (by simp; omega))) rfl ?_
    refine OG.yield (Yield.pick_f rfl rfl) rfl ?_
    refine OG.nil ?_
    refine QG.then ?_
    refine CG.cond_f rfl ?_
    refine CG.skip ?_
    refine QG.then ?_
    refine CG.seq ?_
    refine CG.region ?_
    refine OG.yield (Yield.move rfl) rfl ?_
    refine OG.effd (Eff.lit0 Try.underlying30 ti5 rfl) rfl ?_
    rintro b64 -
    refine OG.yield (Yield.move rfl) rfl ?_
    refine OG.effd (Eff.append0 rfl rfl rfl Try.underlying30 Try.underlying30 ti5 rfl (by decide) (by repeat (first | exact Foc.here | apply Foc.there)) (h1.old (by repeat (first | exact Ext.here | apply Ext.there))) bytesV_one (by omega)) rfl ?_
    rintro ⟨a66, c66⟩ -
    refine OG.pure (fun w hw => osl_facts (by repeat (first | exact Ext.here | apply Ext.there)) w hw) ?_
    rintro ⟨_, hcap66⟩
    refine OG.callo (write_spec W _ (ds := b1) ?_ hcap66 (by omega)) call28 rfl ((by repeat (first | exact Imp.refl _ | apply Imp.pull (by repeat (first | exact Ext.here | apply Ext.there)) | apply Imp.trans Imp.drop))) rfl ?_
    · exact SlR.of_osl (by repeat (first | exact Ext.here | apply Ext.there))
    rintro ⟨⟩ -
    simp only [List.nil_append, List.length_nil, Nat.sub_zero]
    refine OG.yield (Yield.assign rfl) rfl ?_
    refine OG.nil ?_
    refine QG.then ?_
    refine CG.seq ?_
    refine CG.draw (.look 0 true (.look 1 true (.look 2 true (.look 3 true (.look 4 true (.look 5 true (.look 6 true (.look 9 false (.look 10 false (.look 11 false (.look 12 false (.eff1 7 (.look 8 true (.look 13 true (.look 14 true (.look 15 true (.look 16 true (.eff1 17 (.look 18 true (.look 19 true (.look 20 true (.look 21 true (.done))))))))))))))))))))))) [7, 17] ([old W]) mixed (by kernel_rfl) ((by repeat (first | exact Imp.refl _ | apply Imp.pull (by repeat (first | exact Ext.here | apply Ext.there)) | apply Imp.trans Imp.drop))) ?_
    refine DG.look rfl rfl (Yield.move rfl) rfl ?_
    refine DG.look rfl rfl (Yield.move rfl) rfl ?_
    refine DG.look rfl rfl (Yield.len_slice Try.underlying30 rfl rfl) rfl ?_
    refine DG.look rfl rfl (Yield.min2 rfl rfl) rfl ?_
    refine DG.look rfl rfl (Yield.as (Yield.eql rfl rfl) (bT (by omega))) rfl ?_
    refine DG.look rfl rfl (Yield.move rfl) rfl ?_
    refine DG.look rfl rfl (Yield.move rfl) rfl ?_
    refine DG.look rfl rfl (Yield.move rfl) rfl ?_
    refine DG.look rfl rfl (Yield.move rfl) rfl ?_
    refine DG.look rfl rfl (Yield.slice_hi Try.underlying30 ti5 rfl (Bound.some rfl) (by omega) (by omega)) rfl ?_
    refine DG.look rfl rfl (Yield.toStr (bs := b1.take 64) Try.underlying30 Try.underlying9 Try.underlying5 rfl ((h1.old (by repeat (first | exact Ext.here | apply Ext.there))).take (by omega) (by rw [bytesV_take]; congr 1; rw [List.take_eq_take_iff]; simp; omega))) rfl ?_
    refine DG.eff1 ?_
    refine Chg.callo rfl rfl (drain_spec W _) call31 rfl ((by repeat (first | exact Imp.refl _ | apply Imp.pull (by repeat (first | exact Ext.here | apply Ext.there)) | apply Imp.trans Imp.drop))) rfl (fun _ => (by repeat (first | exact Imp.refl _ | apply Imp.pull (by repeat (first | exact Ext.here | apply Ext.there)) | apply Imp.trans Imp.drop))) (fun _ => Imp.refl _) ?_
    rintro ⟨a75, c75⟩ -
    refine DG.look rfl rfl (Yield.toStr Try.underlying30 Try.underlying9 Try.underlying5 rfl (SlR.of_osl (by repeat (first | exact Ext.here | apply Ext.there)))) rfl ?_
    refine DG.look rfl rfl (Yield.as (Yield.str_eql rfl rfl) (v' := .bool true) (by simp)) rfl ?_
    refine DG.look rfl rfl (Yield.pick rfl (fun _ => rfl) (fun _ => rfl)) rfl ?_
    refine DG.look rfl rfl (Yield.move rfl) rfl ?_
    refine DG.look rfl rfl (Yield.move rfl) rfl ?_
    refine DG.eff1 ?_
    refine Chg.callo rfl rfl (out_spec W _) call26 rfl ((by repeat (first | exact Imp.refl _ | apply Imp.pull (by repeat (first | exact Ext.here | apply Ext.there)) | apply Imp.trans Imp.drop))) rfl (fun _ => (by repeat (first | exact Imp.refl _ | apply Imp.pull (by repeat (first | exact Ext.here | apply Ext.there)) | apply Imp.trans Imp.drop))) (fun _ => Imp.refl _) ?_
    rintro ⟨a85, c85⟩ -
    refine DG.look rfl rfl (Yield.len_slice Try.underlying30 rfl rfl) rfl ?_
    refine DG.look rfl rfl (Yield.as (Yield.eql rfl rfl) (bT (by simp))) rfl ?_
    refine DG.look rfl rfl (Yield.pick rfl (fun _ => rfl) (fun _ => rfl)) rfl ?_
    refine DG.look rfl rfl (Yield.assign rfl) rfl ?_
    refine DG.done ?_
    refine QG.then ?_
    refine CG.ret ?_
    exact QG.ret1 rfl rfl () trivial rfl (by repeat (first | exact Imp.refl _ | apply Imp.pull (by repeat (first | exact Ext.here | apply Ext.there)) | apply Imp.trans Imp.drop))
end Go.Proofs.Ytmhcdeklfecokaa.vconFull
namespace Go.Proofs.Ytmhcdeklfecokaa.vconFull
open Go Go.Sl Go.RowKit Go.Proofs Go.ChangeShapes Go.WideShapes Go.ChangeAt Go.Proofs.Ytmhcdeklfecokaa.T
theorem own : ownKnob Try.prog.godebug = none := by kernel_rfl
theorem laid : laidOutB Try.prog = true := by kernel_rfl
set_option maxRecDepth 100000 in
theorem lifted (os : Os) (started : os.Started) (H : Type) (enc : TypeId × Value → H) :
    ReturnsInHanded {} Try.checked os 8 .any (Rows.vconFullSpec.pre6 enc Try.prog Try.f8 Rows.vconFullRow.domain false) (Rows.vconFullSpec.post enc Try.prog Try.f8 false true false false) := by
  refine returnsInHanded_of_change_sized (C := Try.checked) own started (by kernel_rfl) Try.func8
    (ChangeSpec.witness6 (enc := enc) (C := Try.checked) false ⟨#[], #[.slice none 0 0, .int .i64 0, .slice none 0 0], []⟩ 8 (by kernel_rfl) (by kernel_rfl) (by kernel_rfl) (by kernel_rfl)) ?_
  intro W base args ds gs before hval0 hW hcnd hsz0 _
  have hsz : (DataW.weightsEach Try.prog (Try.f8.params.toList ++ Rows.vconFullSpec.plain.varTypes Try.prog) (ds ++ gs)).all (· ≤ reachBytes) = true := hsz0
  have hval : ∀ (j : Nat) t v, Try.f8.params[j]? = some t → args[j]? = some v → Value.okWide Try.prog W .any base t v := hval0
  have hW' := hW
  obtain ⟨p, q, hA0, hV, rfl, hfz, hnd⟩ := hW
  have hA : DataW.TrodAll enc Try.prog W 0 (fun _ => true) true Try.f8.params.toList args.toList ds p := hA0
  rw [Try.params8] at hA hval hsz
  obtain ⟨v0, vs0, d0, ds0, p0, q0, hargs, rfl, rfl, h0, r0⟩ := trodAll_cons hA
  obtain ⟨v1, vs1, d1, ds1, p1, q1, rfl, rfl, rfl, h1, r1⟩ := trodAll_cons r0
  obtain ⟨v2, vs2, d2, ds2, p2, q2, rfl, rfl, rfl, h2, r2⟩ := trodAll_cons r1
  obtain ⟨rfl, rfl, rfl⟩ := trodAll_nil r2
  obtain rfl : args = #[v0, v1, v2] := by cases args; simp_all
  obtain ⟨rfl, rfl⟩ := trodVars_none hV
  have k0 := weights_le hsz 0 (t := 30) (d := d0) rfl rfl
  have s0 := Opn.param Try.underlying30 (Opn.bytes Try.underlying30 Try.underlying5 (by kernel_rfl) (by kernel_rfl)) (hval 0 30 v0 rfl rfl) h0 k0
  obtain ⟨x0, c0, b0, e0, l0, s0, m0⟩ := s0
  cases e0
  obtain ⟨a1, rfl, rfl, rfl, w1⟩ := open_int Try.underlying3 (hval 1 3 v1 rfl rfl) h1
  have k2 := weights_le hsz 2 (t := 30) (d := d2) rfl rfl
  have s2 := Opn.param Try.underlying30 (Opn.bytes Try.underlying30 Try.underlying5 (by kernel_rfl) (by kernel_rfl)) (hval 2 30 v2 rfl rfl) h2 k2
  obtain ⟨x2, c2, b2, e2, l2, s2, m2⟩ := s2
  cases e2
  clear hA0 hval0 hsz0 hsz
  refine ((walk W s0 l0 m0 s2 l2 m2) W (Sat.start W)).mono fun e W' he => ?_
  obtain ⟨_, _, he, hs⟩ := he
  subst he
  exact ⟨_, rfl, law_post laid (params_ok (by kernel_rfl)) rfl Try.underlying4 hW' rfl rfl (Sat.below (by repeat (first | exact Ext.here | apply Ext.there)) hs)⟩
theorem over : Rows.vconFullRow.holds Try.pinned (OpenSpec.ofChange Rows.vconFullSpec) :=
  OpenClaim.holds_of_wide 8 Try.f8 rfl rfl rfl rfl rfl rfl rfl ⟨rfl, rfl, rfl, rfl, rfl⟩ rfl rfl rfl rfl rfl (by kernel_rfl) Try.func8 (by kernel_rfl)
    (of_decide_eq_true (by kernel_rfl)) (by unfold Func.isWrapper; first | (rw [if_pos (by decide +kernel)]; kernel_rfl) | (rw [if_neg (by decide +kernel)]; exact ⟨rfl, rfl⟩))
    (fun os started H enc _ => lifted os started H enc)
theorem proved : Rows.VconFullSaid := over
#print axioms proved
end Go.Proofs.Ytmhcdeklfecokaa.vconFull
