/- spoil: it writes over a slice of its caller's own and comes back. -/
import Derived.Test.YtmhcdeklfecokaaTab
namespace Go.Proofs.Ytmhcdeklfecokaa.Sp
open Go Go.Sl Go.RowKit Go.Proofs Go.Proofs.Ytmhcdeklfecokaa.T
set_option linter.unusedVariables false
set_option linter.unusedSimpArgs false
set_option maxRecDepth 100000
theorem spoil_spec (W0 : World) (Fr : List HProp) {a : Option Addr} {c : Nat} {bs : List UInt8} (hn : bs.length ≤ 2 ^ 62) :
    Ctr Try.prog W0 35 [.slice a bs.length c] (oby 5 a c bs :: Fr) (fun _ : Unit => True) (fun _ => .tuple #[]) (fun _ => Fr) := by
  generalize hm : bs.length = m
  refine Ctr.of_body Try.func35 rfl Try.ntmps35 rfl ?_
  refine CG.seq ?_
  refine CG.region ?_
  refine OG.yield (Yield.assign rfl) rfl ?_
  refine OG.nil ?_
  refine QG.then ?_
  refine CG.block ?_
  refine CG.loop (fun s : Nat × List UInt8 => s.1 ≤ m ∧ s.2.length = m) (fun s => [(0, .slice a m c), (2, .int .i64 s.1)]) (fun s => osl 5 1 a c m (bytesV s.2) :: Fr) (fun s => m - s.1) (0, bs) ⟨Nat.zero_le _, hm⟩ (by repeat (first | exact Env.sub_nil _ | refine Env.sub_cons rfl ?_)) (by rw [← hm]; exact Imp.refl _) ?_
  rintro ⟨i, xs⟩ ⟨hi, hl⟩
  dsimp only at hi hl
  refine CG.seq ?_
  refine CG.seq ?_
  refine CG.region ?_
  refine OG.yield (Yield.move rfl) rfl ?_
  refine OG.yield (Yield.move rfl) rfl ?_
  refine OG.yield (Yield.len_slice Try.underlying30 rfl rfl) rfl ?_
  refine OG.yield (by first | exact Yield.as (Yield.lss rfl rfl) (bT (by omega)) | exact Yield.as (Yield.lss rfl rfl) (bF (by omega)) | exact Yield.lss rfl rfl) rfl ?_
  refine OG.nil ?_
  refine QG.then ?_
  refine CG.cond rfl (fun hc => ?_) (fun hc => ?_)
  · try replace hc := of_decide_eq_true hc
    have hi' : i < xs.length := by omega
    have hget : xs[i]? = some xs[i] := by simp [hi']
    generalize xs[i] = v at hget
    refine CG.pure (fun w hw => SlR.shape (SlR.of_osl (W0 := W0) (E := 5) (sz := 1) (c := c) (m := m) (xs := bytesV xs) (by repeat (first | exact Ext.here | apply Ext.there))) (by intro q; have := congrArg List.length q; simp [bytesV] at this; subst this; simp at hi') w hw) ?_
    rintro ⟨b, o, rfl⟩
    refine CG.skip ?_
    refine QG.then ?_
    refine CG.seq ?_
    refine CG.block ?_
    refine CG.region ?_
    refine OG.yield (Yield.move rfl) rfl ?_
    refine OG.yield (Yield.move rfl) rfl ?_
    refine OG.yield (Yield.index_slice Try.underlying30 ti5 rfl rfl (by omega) (by omega)) rfl ?_
    refine OG.yield (Yield.load ti5 rfl (v := byteV v) (by simpa using (SlR.of_osl (W0 := W0) (by repeat (first | exact Ext.here | apply Ext.there))).cel (bytesV_get hget))) rfl ?_
    refine OG.yield (Yield.add rfl rfl (wrap_u8_add v 1)) rfl ?_
    refine OG.yield (Yield.index_slice Try.underlying30 ti5 rfl rfl (by omega) (by omega)) rfl ?_
    refine OG.eff (Eff.storeElem (i := i) ti5 (by simp; rfl) rfl (by repeat (first | exact Foc.here | apply Foc.there)) rfl (by omega)) rfl ?_
    rintro ⟨⟩ -
    rw [show Value.int IntKind.u8 ((v + 1).toNat : Int) = byteV (v + 1) from rfl, bytesV_set]
    refine OG.nil ?_
    refine QG.block_normal ?_
    refine QG.then ?_
    refine CG.region ?_
    refine OG.yield (Yield.move rfl) rfl ?_
    refine OG.yield (Yield.add rfl rfl (w64 (by omega) (by omega))) rfl ?_
    refine OG.yield (Yield.assign rfl) rfl ?_
    refine OG.nil ?_
    exact QG.next (i + 1, xs.set i (v + 1)) ⟨by simp only; omega, by simpa using hl⟩ (by simp only; omega) (by repeat (first | exact Env.sub_nil _ | refine Env.sub_cons rfl ?_)) (by repeat (first | exact Imp.refl _ | exact Imp.none _ | apply Imp.pull (by repeat (first | exact Ext.here | apply Ext.there)) | apply Imp.trans Imp.drop))
  · try replace hc := of_decide_eq_false hc
    refine CG.exit ?_
    refine QG.pass_exit ?_
    refine QG.pass_exit ?_
    refine QG.block_exit ?_
    exact QG.end0 rfl () trivial rfl Imp.drop
end Go.Proofs.Ytmhcdeklfecokaa.Sp
