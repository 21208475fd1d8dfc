/- MemoryPlays: a memory, act by act, answers as the reference and has its bytes at the end: the law returns true and changes nothing that was there. -/
import Derived.Test.YtjdaglakhiifjaaMref
namespace Go.Proofs.Ytjdaglakhiifjaa.memoryPlays
open Go Go.Sl Go.RowKit Go.Proofs Go.Proofs.Ytjdaglakhiifjaa.T Go.Proofs.Ytjdaglakhiifjaa.Me
set_option linter.unusedVariables false
set_option linter.unusedSimpArgs false
set_option maxRecDepth 100000
section
variable (W0 : World) (Fr : List HProp)
theorem same_spec {m r n : Nat} {bs : List UInt8} : Ctr Try.prog W0 51 [.pointer (some ⟨m, 0, none⟩), .pointer (some ⟨r, 0, none⟩)] (M m n bs :: RM r n bs :: Fr) (fun _ : Unit => True) (fun _ => .bool true) (fun _ => M m n bs :: RM r n bs :: Fr) := by
  refine Ctr.of_body Try.func51 rfl Try.ntmps51 rfl ?_
  refine CG.seq ?_
  refine CG.region ?_
  refine OG.yield (Yield.assign rfl) rfl ?_
  refine OG.nil ?_
  refine QG.then ?_
  refine CG.seq ?_
  refine CG.seq ?_
  refine CG.region ?_
  refine OG.yield (Yield.move rfl) rfl ?_
  refine OG.callo call63 rfl ((by repeat (first | exact Imp.refl _ | exact Imp.none _ | apply Imp.pull (by repeat (first | exact Ext.here | apply Ext.there)) | apply Imp.trans Imp.drop))) (frames_spec W0 _) rfl ?_
  rintro ⟨⟩ -
  refine OG.yield (Yield.move rfl) rfl ?_
  refine OG.callo call76 rfl ((by repeat (first | exact Imp.refl _ | exact Imp.none _ | apply Imp.pull (by repeat (first | exact Ext.here | apply Ext.there)) | apply Imp.trans Imp.drop))) (rframes_spec W0 _) rfl ?_
  rintro ⟨⟩ -
  refine OG.yield (by first | exact Yield.as (Yield.neq rfl rfl) (bT (by omega)) | exact Yield.as (Yield.neq rfl rfl) (bF (by omega)) | exact Yield.neq rfl rfl) rfl ?_
  refine OG.nil ?_
  refine QG.then ?_
  refine CG.cond_f rfl ?_
  refine CG.skip ?_
  refine QG.then ?_
  refine CG.seq ?_
  refine CG.seq ?_
  refine CG.region ?_
  refine OG.yield (Yield.assign rfl) rfl ?_
  refine OG.nil ?_
  refine QG.then ?_
  refine CG.block ?_
  refine CG.loop (fun i : Nat => i ≤ n) (fun i => [(0, .pointer (some ⟨m, 0, none⟩)), (1, .pointer (some ⟨r, 0, none⟩)), (5, .int .i64 i)]) (fun _ => M m n bs :: RM r n bs :: Fr) (fun i => n - i) 0 (Nat.zero_le _) (by repeat (first | exact Env.sub_nil _ | refine Env.sub_cons rfl ?_)) (by repeat (first | exact Imp.refl _ | exact Imp.none _ | apply Imp.pull (by repeat (first | exact Ext.here | apply Ext.there)) | apply Imp.trans Imp.drop)) ?_
  intro i hi
  refine CG.seq ?_
  refine CG.seq ?_
  refine CG.region ?_
  refine OG.yield (Yield.move rfl) rfl ?_
  refine OG.yield (Yield.move rfl) rfl ?_
  refine OG.callo call76 rfl ((by repeat (first | exact Imp.refl _ | exact Imp.none _ | apply Imp.pull (by repeat (first | exact Ext.here | apply Ext.there)) | apply Imp.trans Imp.drop))) (rframes_spec W0 _) rfl ?_
  rintro ⟨⟩ -
  refine OG.yield (by first | exact Yield.as (Yield.lss rfl rfl) (bT (by omega)) | exact Yield.as (Yield.lss rfl rfl) (bF (by omega)) | exact Yield.lss rfl rfl) rfl ?_
  refine OG.nil ?_
  refine QG.then ?_
  refine CG.cond rfl (fun hc => ?_) (fun hc => ?_)
  · try replace hc := of_decide_eq_true hc
    have hi' : i < n := by omega
    refine CG.skip ?_
    refine QG.then ?_
    refine CG.seq ?_
    refine CG.block ?_
    refine CG.seq ?_
    refine CG.region ?_
    refine OG.yield (Yield.move rfl) rfl ?_
    refine OG.yield (Yield.move rfl) rfl ?_
    refine OG.callo call32 rfl ((by repeat (first | exact Imp.refl _ | exact Imp.none _ | apply Imp.pull (by repeat (first | exact Ext.here | apply Ext.there)) | apply Imp.trans Imp.drop))) (frame_ok W0 _ (n := n) (k := i) (bs := bs) hi') rfl ?_
    rintro f -
    refine OG.yield (Yield.move rfl) rfl ?_
    refine OG.yield (Yield.extract rfl rfl) rfl ?_
    refine OG.yield (Yield.extract rfl rfl) rfl ?_
    refine OG.yield (Yield.assign rfl) rfl ?_
    refine OG.yield (Yield.assign rfl) rfl ?_
    refine OG.nil ?_
    refine QG.then ?_
    refine CG.seq ?_
    refine CG.ex (A := RM r n bs) (by repeat (first | exact Ext.here | apply Ext.there)) rm_open ?_
    rintro ⟨⟨b, o⟩, c⟩ hlen
    refine CG.imp star_open ?_
    have hcap : bs.length ≤ c := hlen.2.2.2
    have hn := hlen.2.2.1
    have hfl := frB_len hlen.1 hi'
    dsimp only [RMO, List.cons_append, List.nil_append]
    refine CG.draw (.look 0 1 (.look 1 1 (.look 2 1 (.look 3 1 (.look 4 1 (.look 5 1 (.look 6 1 (.look 7 1 (.look 8 1 (.look 9 1 (.look 10 1 (.look 11 1 (.look 12 1 (.look 13 1 (.look 14 1 (.look 15 1 (.look 16 1 (.look 17 1 (.done))))))))))))))))))) [] [] ([]) ([]) mixed (by kernel_rfl) (Imp.none _) (Imp.none _) ?_
    refine DG.look rfl rfl (Yield.move rfl) rfl ?_
    refine DG.look rfl rfl (by first | exact Yield.as (Yield.neq rfl rfl) (bT (by omega)) | exact Yield.as (Yield.neq rfl rfl) (bF (by omega)) | exact Yield.neq rfl rfl) rfl ?_
    refine DG.look rfl rfl (Yield.move rfl) rfl ?_
    refine DG.look rfl rfl (Yield.move rfl) rfl ?_
    refine DG.look rfl rfl (Yield.toStr (bs := frB bs i) Try.underlying48 Try.underlying9 Try.underlying5 rfl (SlR.of_osl (a := some ⟨f, 0, none⟩) (by repeat (first | exact Ext.here | apply Ext.there)))) rfl ?_
    refine DG.look rfl rfl (Yield.move rfl) rfl ?_
    refine DG.look rfl rfl (Yield.nilCheck rfl) rfl ?_
    refine DG.look rfl rfl (Yield.fieldAddr fa116_0 rfl) rfl ?_
    refine DG.look rfl rfl (Yield.load ti48 rfl (by first | exact Cel.of_blk (by repeat (first | exact Ext.here | apply Ext.there)) rfl | exact (hrow (by repeat (first | exact Ext.here | apply Ext.there))) _ _ rfl)) rfl ?_
    refine DG.look rfl rfl (Yield.move rfl) rfl ?_
    refine DG.look rfl rfl (Yield.mul rfl rfl (w64 (by omega) (by omega))) rfl ?_
    refine DG.look rfl rfl (Yield.move rfl) rfl ?_
    refine DG.look rfl rfl (Yield.mul rfl rfl (w64 (by omega) (by omega))) rfl ?_
    refine DG.look rfl rfl (Yield.add rfl rfl (w64 (by omega) (by omega))) rfl ?_
    refine DG.look rfl rfl (Yield.as (Yield.slice_in Try.underlying48 ti5 rfl (Bound.some rfl) (Bound.some rfl) (by omega) (by omega) (by omega) (by omega)) (v' := .slice (some ⟨b, o + i * 256, none⟩) (frB bs i).length (c - i * 256)) (sl_eq (by omega) (by omega) (by omega))) rfl ?_
    refine DG.look rfl rfl (Yield.toStr (bs := frB bs i) Try.underlying48 Try.underlying9 Try.underlying5 rfl ((SlR.of_osl (a := some ⟨b, o, none⟩) (by repeat (first | exact Ext.here | apply Ext.there))).part (by rw [bytesV_drop, bytesV_take, hfl]; rfl) (by omega))) rfl ?_
    refine DG.look rfl rfl (by first | exact Yield.str_samen rfl rfl | exact Yield.str_neq rfl rfl) rfl ?_
    refine DG.look rfl rfl (by first | exact Yield.pick_t rfl rfl | exact Yield.pick_f rfl rfl | exact Yield.pick rfl (fun _ => rfl) (fun _ => rfl)) rfl ?_
    refine DG.done ?_
    refine QG.then ?_
    refine CG.cond_f rfl ?_
    refine CG.skip ?_
    refine QG.block_normal ?_
    refine QG.then ?_
    refine CG.region ?_
    refine OG.yield (Yield.move rfl) rfl ?_
    refine OG.yield (Yield.add rfl rfl (w64 (by omega) (by omega))) rfl ?_
    refine OG.yield (Yield.assign rfl) rfl ?_
    refine OG.nil ?_
    exact QG.next (i + 1) (show i + 1 ≤ n by omega) (show n - (i + 1) < n - i by omega) (by repeat (first | exact Env.sub_nil _ | refine Env.sub_cons rfl ?_)) (Imp.trans (by repeat (first | exact Imp.refl _ | exact Imp.none _ | apply Imp.pull (by repeat (first | exact Ext.here | apply Ext.there)) | apply Imp.trans Imp.drop)) (Imp.trans (rm_close (m := r) (n := n) (bs := bs) ((b, o), c) hlen) (by repeat (first | exact Imp.refl _ | exact Imp.none _ | apply Imp.pull (by repeat (first | exact Ext.here | apply Ext.there)) | apply Imp.trans Imp.drop))))
  · try replace hc := of_decide_eq_false hc
    refine CG.exit ?_
    refine QG.pass_exit ?_
    refine QG.pass_exit ?_
    refine QG.block_exit ?_
    refine QG.then ?_
    refine CG.seq ?_
    refine CG.region ?_
    refine OG.yield (Yield.assign rfl) rfl ?_
    refine OG.nil ?_
    refine QG.then ?_
    refine CG.ret ?_
    exact QG.ret1 rfl rfl () trivial rfl (by repeat (first | exact Imp.refl _ | exact Imp.none _ | apply Imp.pull (by repeat (first | exact Ext.here | apply Ext.there)) | apply Imp.trans Imp.drop))
end
structure St where
  i : Nat
  t : Nat
  bs : List UInt8
def St.env (a1 : Option Addr) (m c1 r : Nat) (s : St) : Env := [(1, .slice a1 m c1), (5, .pointer (some ⟨s.t, 0, none⟩)), (7, .pointer (some ⟨r, 0, none⟩)), (9, .int .i64 s.i)]
abbrev St.G (W : World) (r n : Nat) (s : St) : List HProp := [M s.t n s.bs, RM r n s.bs, old W]
theorem walk0 (W : World) {n0 : Int} (hn : n0 < 1 ∨ 1024 < n0) {a1 : Option Addr} {c1 : Nat} {ops : List MOp} :
    Ctr Try.prog W 11 [.int .i64 n0, .slice a1 ops.length c1] [old W] (fun _ : Unit => True) (fun _ => .bool true) (fun _ => [old W]) := by
  refine Ctr.of_body Try.func11 rfl Try.ntmps11 rfl ?_
  refine CG.seq ?_
  refine CG.region ?_
  refine OG.yield (Yield.assign rfl) rfl ?_
  refine OG.nil ?_
  refine QG.then ?_
  refine CG.seq ?_
  refine CG.region ?_
  refine OG.yield (Yield.move rfl) rfl ?_
  refine OG.callo call26 rfl (Imp.refl _) (new_fail W _ hn) rfl ?_
  rintro ⟨⟩ -
  refine OG.yield (Yield.move rfl) rfl ?_
  refine OG.yield (Yield.extract rfl rfl) rfl ?_
  refine OG.yield (Yield.extract rfl rfl) rfl ?_
  refine OG.yield (Yield.assign rfl) rfl ?_
  refine OG.yield (Yield.assign rfl) rfl ?_
  refine OG.nil ?_
  refine QG.then ?_
  refine CG.seq ?_
  refine CG.region ?_
  refine OG.yield (Yield.move rfl) rfl ?_
  refine OG.callo call44 rfl (Imp.refl _) (rnew_fail W _ hn) rfl ?_
  rintro ⟨⟩ -
  refine OG.yield (Yield.move rfl) rfl ?_
  refine OG.yield (Yield.extract rfl rfl) rfl ?_
  refine OG.yield (Yield.extract rfl rfl) rfl ?_
  refine OG.yield (Yield.assign rfl) rfl ?_
  refine OG.yield (Yield.assign rfl) rfl ?_
  refine OG.nil ?_
  refine QG.then ?_
  refine CG.seq ?_
  refine CG.seq ?_
  refine CG.region ?_
  refine OG.yield (Yield.move rfl) rfl ?_
  refine OG.yield (Yield.move rfl) rfl ?_
  refine OG.yield (by first | exact Yield.as (Yield.neq rfl rfl) (bT (by omega)) | exact Yield.as (Yield.neq rfl rfl) (bF (by omega)) | exact Yield.neq rfl rfl) rfl ?_
  refine OG.yield (Yield.move rfl) rfl ?_
  refine OG.guard_yes rfl rfl rfl (by decide) ?_
  refine OG.yield (Yield.move rfl) rfl ?_
  refine OG.guard_yes rfl rfl rfl (by decide) ?_
  refine OG.yield (by first | exact Yield.ptr_nil Try.underlying44 rfl rfl | exact Yield.nil_nil Try.underlying44 rfl rfl) rfl ?_
  refine OG.guard_yes rfl rfl rfl (by decide) ?_
  refine OG.yield (Yield.move rfl) rfl ?_
  refine OG.guard_yes rfl rfl rfl (by decide) ?_
  refine OG.yield (by first | exact Yield.ptr_nil Try.underlying84 rfl rfl | exact Yield.nil_nil Try.underlying84 rfl rfl) rfl ?_
  refine OG.guard_yes rfl rfl rfl (by decide) ?_
  refine OG.yield (by first | exact Yield.bool_samen Try.underlying4 rfl rfl | exact Yield.bool_neq Try.underlying4 rfl rfl) rfl ?_
  refine OG.yield (by first | exact Yield.pick_t rfl rfl | exact Yield.pick_f rfl rfl | exact Yield.pick rfl (fun _ => rfl) (fun _ => rfl)) rfl ?_
  refine OG.nil ?_
  refine QG.then ?_
  refine CG.cond_f rfl ?_
  refine CG.skip ?_
  refine QG.then ?_
  refine CG.seq ?_
  refine CG.seq ?_
  refine CG.region ?_
  refine OG.yield (Yield.move rfl) rfl ?_
  refine OG.yield (by first | exact Yield.ptr_nil Try.underlying44 rfl rfl | exact Yield.nil_nil Try.underlying44 rfl rfl) rfl ?_
  refine OG.nil ?_
  refine QG.then ?_
  refine CG.cond_t rfl ?_
  refine CG.seq ?_
  refine CG.region ?_
  refine OG.yield (Yield.assign rfl) rfl ?_
  refine OG.nil ?_
  refine QG.then ?_
  refine CG.ret ?_
  refine QG.pass_ret ?_
  exact QG.ret1 rfl rfl () trivial rfl (by repeat (first | exact Imp.refl _ | exact Imp.none _ | apply Imp.pull (by repeat (first | exact Ext.here | apply Ext.there)) | apply Imp.trans Imp.drop))
set_option maxHeartbeats 4000000 in
theorem walk (W : World) {n0 : Int} {a1 : Option Addr} {c1 : Nat} {ops : List MOp} (hops : SlAt W 6 a1 ops.length ((ops.map MOp.cells).flatten)) (hok : ∀ o ∈ ops, o.OK W) :
    Ctr Try.prog W 11 [.int .i64 n0, .slice a1 ops.length c1] [old W] (fun _ : Unit => True) (fun _ => .bool true) (fun _ => [old W]) := by
  rcases (show (n0 < 1 ∨ 1024 < n0) ∨ (1 ≤ n0 ∧ n0 ≤ 1024) by omega) with hn | hn
  · exact walk0 W hn
  obtain ⟨n, rfl⟩ : ∃ n : Nat, n0 = (n : Int) := ⟨n0.toNat, by omega⟩
  have hn1 : 1 ≤ n ∧ n ≤ 1024 := by omega
  refine Ctr.of_body Try.func11 rfl Try.ntmps11 rfl ?_
  refine CG.seq ?_
  refine CG.region ?_
  refine OG.yield (Yield.assign rfl) rfl ?_
  refine OG.nil ?_
  refine QG.then ?_
  refine CG.seq ?_
  refine CG.region ?_
  refine OG.yield (Yield.move rfl) rfl ?_
  refine OG.callo call26 rfl (Imp.refl _) (new_spec W _ hn1.1 hn1.2) rfl ?_
  rintro t -
  refine OG.yield (Yield.move rfl) rfl ?_
  refine OG.yield (Yield.extract rfl rfl) rfl ?_
  refine OG.yield (Yield.extract rfl rfl) rfl ?_
  refine OG.yield (Yield.assign rfl) rfl ?_
  refine OG.yield (Yield.assign rfl) rfl ?_
  refine OG.nil ?_
  refine QG.then ?_
  refine CG.seq ?_
  refine CG.region ?_
  refine OG.yield (Yield.move rfl) rfl ?_
  refine OG.callo call44 rfl (Imp.refl _) (rnew_spec W _ hn1.1 hn1.2) rfl ?_
  rintro r -
  refine OG.yield (Yield.move rfl) rfl ?_
  refine OG.yield (Yield.extract rfl rfl) rfl ?_
  refine OG.yield (Yield.extract rfl rfl) rfl ?_
  refine OG.yield (Yield.assign rfl) rfl ?_
  refine OG.yield (Yield.assign rfl) rfl ?_
  refine OG.nil ?_
  refine QG.then ?_
  refine CG.seq ?_
  refine CG.seq ?_
  refine CG.region ?_
  refine OG.yield (Yield.move rfl) rfl ?_
  refine OG.yield (Yield.move rfl) rfl ?_
  refine OG.yield (by first | exact Yield.as (Yield.neq rfl rfl) (bT (by omega)) | exact Yield.as (Yield.neq rfl rfl) (bF (by omega)) | exact Yield.neq rfl rfl) rfl ?_
  refine OG.yield (Yield.move rfl) rfl ?_
  refine OG.guard_yes rfl rfl rfl (by decide) ?_
  refine OG.yield (Yield.move rfl) rfl ?_
  refine OG.guard_yes rfl rfl rfl (by decide) ?_
  refine OG.yield (by first | exact Yield.ptr_nil Try.underlying44 rfl rfl | exact Yield.nil_nil Try.underlying44 rfl rfl) rfl ?_
  refine OG.guard_yes rfl rfl rfl (by decide) ?_
  refine OG.yield (Yield.move rfl) rfl ?_
  refine OG.guard_yes rfl rfl rfl (by decide) ?_
  refine OG.yield (by first | exact Yield.ptr_nil Try.underlying84 rfl rfl | exact Yield.nil_nil Try.underlying84 rfl rfl) rfl ?_
  refine OG.guard_yes rfl rfl rfl (by decide) ?_
  refine OG.yield (by first | exact Yield.bool_samen Try.underlying4 rfl rfl | exact Yield.bool_neq Try.underlying4 rfl rfl) rfl ?_
  refine OG.yield (by first | exact Yield.pick_t rfl rfl | exact Yield.pick_f rfl rfl | exact Yield.pick rfl (fun _ => rfl) (fun _ => rfl)) rfl ?_
  refine OG.nil ?_
  refine QG.then ?_
  refine CG.cond_f rfl ?_
  refine CG.skip ?_
  refine QG.then ?_
  refine CG.seq ?_
  refine CG.seq ?_
  refine CG.region ?_
  refine OG.yield (Yield.move rfl) rfl ?_
  refine OG.yield (by first | exact Yield.ptr_nil Try.underlying44 rfl rfl | exact Yield.nil_nil Try.underlying44 rfl rfl) rfl ?_
  refine OG.nil ?_
  refine QG.then ?_
  refine CG.cond_f rfl ?_
  refine CG.skip ?_
  refine QG.then ?_
  refine CG.cut (fun s : St => s.bs.length = n * 256) (fun s => [(5, .pointer (some ⟨s.t, 0, none⟩)), (7, .pointer (some ⟨r, 0, none⟩))]) (St.G W r n) ?_ ?_
  · skip
    refine CG.seq ?_
    refine CG.region ?_
    refine OG.yield (Yield.assign rfl) rfl ?_
    refine OG.nil ?_
    refine QG.then ?_
    refine CG.block ?_
    refine CG.loop (fun s : St => s.i ≤ ops.length ∧ s.bs.length = n * 256) (St.env a1 ops.length c1 r) (St.G W r n) (fun s => ops.length - s.i) ⟨0, t, List.replicate (n * 256) 0⟩ ⟨Nat.zero_le _, by simp only; rw [List.length_replicate]⟩ (by repeat (first | exact Env.sub_nil _ | refine Env.sub_cons rfl ?_)) (by repeat (first | exact Imp.refl _ | exact Imp.none _ | apply Imp.pull (by repeat (first | exact Ext.here | apply Ext.there)) | apply Imp.trans Imp.drop)) ?_
    rintro ⟨i, t, bs⟩ ⟨im, hbl⟩
    unfold St.env
    dsimp only at im hbl ⊢
    refine CG.seq ?_
    refine CG.seq ?_
    rcases loop_head (i) (ops.length) 200 with hh | hh | hh
    · skip
      refine CG.region ?_
      refine OG.yield (Yield.move rfl) rfl ?_
      refine OG.yield (Yield.move rfl) rfl ?_
      refine OG.yield (Yield.len_slice Try.underlying43 rfl rfl) rfl ?_
      refine OG.yield (by first | exact Yield.as (Yield.lss rfl rfl) (bT (by omega)) | exact Yield.as (Yield.lss rfl rfl) (bF (by omega)) | exact Yield.lss rfl rfl) rfl ?_
      refine OG.yield (Yield.move rfl) rfl ?_
      refine OG.guard_yes rfl rfl rfl (by decide) ?_
      refine OG.yield (Yield.move rfl) rfl ?_
      refine OG.guard_yes rfl rfl rfl (by decide) ?_
      refine OG.yield (by first | exact Yield.as (Yield.lss rfl rfl) (bT (by omega)) | exact Yield.as (Yield.lss rfl rfl) (bF (by omega)) | exact Yield.lss rfl rfl) rfl ?_
      refine OG.yield (by first | exact Yield.pick_t rfl rfl | exact Yield.pick_f rfl rfl | exact Yield.pick rfl (fun _ => rfl) (fun _ => rfl)) rfl ?_
      refine OG.nil ?_
      refine QG.then ?_
      refine CG.cond_t rfl ?_
      refine CG.skip ?_
      refine QG.then ?_
      refine CG.seq ?_
      refine CG.block ?_
      refine CG.seq ?_
      obtain ⟨h1, h2⟩ := hh
      have hget : ops[i]? = some ops[i] := by simp [h1]
      have hko := hok ops[i] (List.getElem_mem h1)
      generalize ops[i] = op at hget hko
      refine CG.pure (fun w hw => (hops.old (G := St.G W r n ⟨i, t, bs⟩) (by repeat (first | exact Ext.here | apply Ext.there))).elem_shape MOp.len (by decide) h1 w hw) ?_
      rintro ⟨b, o, rfl⟩
      obtain ⟨Kind, Ad, Size, V, N, Ba, Bc, B⟩ := op
      obtain ⟨-, wA, -, wV, -, hBc, hB, hBm⟩ := hko
      obtain ⟨hV0, hV1⟩ := wf_u64 wV
      obtain ⟨hA0, hA1⟩ := wf_u32 wA
      dsimp only at hV0 hV1 hA0 hA1 hBc hB hBm
      clear wA wV
      unfold reachBytes at hBm
      obtain ⟨v, rfl⟩ : ∃ v : Nat, V = (v : Int) := ⟨V.toNat, by omega⟩
      obtain ⟨ad, rfl⟩ : ∃ v : Nat, Ad = (v : Int) := ⟨Ad.toNat, by omega⟩
      have hvl : v < 18446744073709551616 := by omega
      have hal : ad < 4294967296 := by omega
      have hrow : ∀ {G R : List HProp}, Ext G (old W) R → Row W G b (o + i * 6) (MOp.cells ⟨Kind, ad, Size, v, N, Ba, Bc, B⟩) := fun x => (hops.old x).elem MOp.len hget
      refine CG.region ?_
      refine OG.yield (Yield.move rfl) rfl ?_
      refine OG.yield (Yield.move rfl) rfl ?_
      refine OG.yield (Yield.index_slice Try.underlying43 ti50 rfl rfl (by omega) (by omega)) rfl ?_
      refine OG.yield (Yield.load_agg (vs := MOp.cells ⟨Kind, ad, Size, v, N, Ba, Bc, B⟩) ti50 rfl rfl (hrow (by repeat (first | exact Ext.here | apply Ext.there)))) rfl ?_
      refine OG.effd (Eff.alloc ti50) rfl ?_
      rintro b10 -
      refine OG.eff (Eff.storeAll ti50 rfl rfl (by repeat (first | exact Foc.here | apply Foc.there)) (MOp.len ⟨Kind, ad, Size, v, N, Ba, Bc, B⟩) (MOp.ones ⟨Kind, ad, Size, v, N, Ba, Bc, B⟩) rfl) rfl ?_
      rintro ⟨⟩ -
      refine OG.nil ?_
      refine QG.then ?_
      refine CG.seq ?_
      refine CG.region ?_
      refine OG.yield (Yield.fieldAddr fa50_0 rfl) rfl ?_
      refine OG.yield (Yield.load (v := .int .i64 Kind) ti3 rfl (Cel.of_blk (b := b10) (by repeat (first | exact Ext.here | apply Ext.there)) rfl)) rfl ?_
      refine OG.nil ?_
      refine QG.then ?_
      refine CG.block ?_
      refine CG.seq ?_
      refine CG.region ?_
      refine OG.yield (Yield.eql rfl rfl) rfl ?_
      refine OG.yield (Yield.assign rfl) rfl ?_
      refine OG.nil ?_
      refine QG.then ?_
      refine CG.cond rfl (fun hc => ?_) (fun hc => ?_)
      · try replace hc := of_decide_eq_true hc
        refine CG.seq ?_
        rcases merr_cases n ad Size with hx | he
        · skip
          obtain ⟨s, rfl, hs, hm, hb, he⟩ := hx
          refine CG.region ?_
          refine OG.yield (Yield.move rfl) rfl ?_
          refine OG.yield (Yield.fieldAddr fa50_1 rfl) rfl ?_
          refine OG.yield (Yield.load ti37 rfl (by first | exact Cel.of_blk (by repeat (first | exact Ext.here | apply Ext.there)) rfl | exact (hrow (by repeat (first | exact Ext.here | apply Ext.there))) _ _ rfl)) rfl ?_
          refine OG.yield (Yield.fieldAddr fa50_2 rfl) rfl ?_
          refine OG.yield (Yield.load ti3 rfl (by first | exact Cel.of_blk (by repeat (first | exact Ext.here | apply Ext.there)) rfl | exact (hrow (by repeat (first | exact Ext.here | apply Ext.there))) _ _ rfl)) rfl ?_
          refine OG.callo call28 rfl ((by repeat (first | exact Imp.refl _ | exact Imp.none _ | apply Imp.pull (by repeat (first | exact Ext.here | apply Ext.there)) | apply Imp.trans Imp.drop))) (load_ok W _ (bs := bs) hs hm hb) rfl ?_
          rintro ⟨⟩ -
          refine OG.yield (Yield.move rfl) rfl ?_
          refine OG.yield (Yield.extract rfl rfl) rfl ?_
          refine OG.yield (Yield.extract rfl rfl) rfl ?_
          refine OG.yield (Yield.assign rfl) rfl ?_
          refine OG.yield (Yield.assign rfl) rfl ?_
          refine OG.nil ?_
          refine QG.then ?_
          refine CG.seq ?_
          refine CG.region ?_
          refine OG.yield (Yield.move rfl) rfl ?_
          refine OG.yield (Yield.fieldAddr fa50_1 rfl) rfl ?_
          refine OG.yield (Yield.load ti37 rfl (by first | exact Cel.of_blk (by repeat (first | exact Ext.here | apply Ext.there)) rfl | exact (hrow (by repeat (first | exact Ext.here | apply Ext.there))) _ _ rfl)) rfl ?_
          refine OG.yield (Yield.fieldAddr fa50_2 rfl) rfl ?_
          refine OG.yield (Yield.load ti3 rfl (by first | exact Cel.of_blk (by repeat (first | exact Ext.here | apply Ext.there)) rfl | exact (hrow (by repeat (first | exact Ext.here | apply Ext.there))) _ _ rfl)) rfl ?_
          refine OG.callo call45 rfl ((by repeat (first | exact Imp.refl _ | exact Imp.none _ | apply Imp.pull (by repeat (first | exact Ext.here | apply Ext.there)) | apply Imp.trans Imp.drop))) (rload_ok W _ (bs := bs) hs hb hal he) rfl ?_
          rintro ⟨⟩ -
          refine OG.yield (Yield.move rfl) rfl ?_
          refine OG.yield (Yield.extract rfl rfl) rfl ?_
          refine OG.yield (Yield.extract rfl rfl) rfl ?_
          refine OG.yield (Yield.assign rfl) rfl ?_
          refine OG.yield (Yield.assign rfl) rfl ?_
          refine OG.nil ?_
          refine QG.then ?_
          refine CG.seq ?_
          refine CG.region ?_
          refine OG.yield (Yield.move rfl) rfl ?_
          refine OG.yield (Yield.move rfl) rfl ?_
          refine OG.yield (by first | exact Yield.as (Yield.neq rfl rfl) (bT (by omega)) | exact Yield.as (Yield.neq rfl rfl) (bF (by omega)) | exact Yield.neq rfl rfl) rfl ?_
          refine OG.yield (Yield.move rfl) rfl ?_
          refine OG.guard_yes rfl rfl rfl (by decide) ?_
          refine OG.yield (Yield.move rfl) rfl ?_
          refine OG.guard_yes rfl rfl rfl (by decide) ?_
          refine OG.yield (Yield.move rfl) rfl ?_
          refine OG.guard_yes rfl rfl rfl (by decide) ?_
          refine OG.yield (by first | exact Yield.as (Yield.neq rfl rfl) (bT (by omega)) | exact Yield.as (Yield.neq rfl rfl) (bF (by omega)) | exact Yield.neq rfl rfl) rfl ?_
          refine OG.yield (by first | exact Yield.pick_t rfl rfl | exact Yield.pick_f rfl rfl | exact Yield.pick rfl (fun _ => rfl) (fun _ => rfl)) rfl ?_
          refine OG.nil ?_
          refine QG.then ?_
          refine CG.cond_f rfl ?_
          refine CG.skip ?_
          refine QG.block_normal ?_
          refine QG.block_normal ?_
          refine QG.then ?_
          refine CG.region ?_
          refine OG.yield (Yield.move rfl) rfl ?_
          refine OG.yield (Yield.add rfl rfl (w64 (by omega) (by omega))) rfl ?_
          refine OG.yield (Yield.assign rfl) rfl ?_
          refine OG.nil ?_
          exact QG.next ⟨i + 1, t, bs⟩ ⟨by simp only; omega, hbl⟩ (by simp only; omega) (by repeat (first | exact Env.sub_nil _ | refine Env.sub_cons rfl ?_)) (by repeat (first | exact Imp.refl _ | exact Imp.none _ | apply Imp.pull (by repeat (first | exact Ext.here | apply Ext.there)) | apply Imp.trans Imp.drop))
        · skip
          skip
          refine CG.region ?_
          refine OG.yield (Yield.move rfl) rfl ?_
          refine OG.yield (Yield.fieldAddr fa50_1 rfl) rfl ?_
          refine OG.yield (Yield.load ti37 rfl (by first | exact Cel.of_blk (by repeat (first | exact Ext.here | apply Ext.there)) rfl | exact (hrow (by repeat (first | exact Ext.here | apply Ext.there))) _ _ rfl)) rfl ?_
          refine OG.yield (Yield.fieldAddr fa50_2 rfl) rfl ?_
          refine OG.yield (Yield.load ti3 rfl (by first | exact Cel.of_blk (by repeat (first | exact Ext.here | apply Ext.there)) rfl | exact (hrow (by repeat (first | exact Ext.here | apply Ext.there))) _ _ rfl)) rfl ?_
          refine OG.callo call28 rfl ((by repeat (first | exact Imp.refl _ | exact Imp.none _ | apply Imp.pull (by repeat (first | exact Ext.here | apply Ext.there)) | apply Imp.trans Imp.drop))) (load_bad W _ (bs := bs) hal he) rfl ?_
          rintro ⟨⟩ -
          refine OG.yield (Yield.move rfl) rfl ?_
          refine OG.yield (Yield.extract rfl rfl) rfl ?_
          refine OG.yield (Yield.extract rfl rfl) rfl ?_
          refine OG.yield (Yield.assign rfl) rfl ?_
          refine OG.yield (Yield.assign rfl) rfl ?_
          refine OG.nil ?_
          refine QG.then ?_
          refine CG.seq ?_
          refine CG.region ?_
          refine OG.yield (Yield.move rfl) rfl ?_
          refine OG.yield (Yield.fieldAddr fa50_1 rfl) rfl ?_
          refine OG.yield (Yield.load ti37 rfl (by first | exact Cel.of_blk (by repeat (first | exact Ext.here | apply Ext.there)) rfl | exact (hrow (by repeat (first | exact Ext.here | apply Ext.there))) _ _ rfl)) rfl ?_
          refine OG.yield (Yield.fieldAddr fa50_2 rfl) rfl ?_
          refine OG.yield (Yield.load ti3 rfl (by first | exact Cel.of_blk (by repeat (first | exact Ext.here | apply Ext.there)) rfl | exact (hrow (by repeat (first | exact Ext.here | apply Ext.there))) _ _ rfl)) rfl ?_
          refine OG.callo call45 rfl ((by repeat (first | exact Imp.refl _ | exact Imp.none _ | apply Imp.pull (by repeat (first | exact Ext.here | apply Ext.there)) | apply Imp.trans Imp.drop))) (rload_bad W _ (bs := bs) hal he) rfl ?_
          rintro ⟨⟩ -
          refine OG.yield (Yield.move rfl) rfl ?_
          refine OG.yield (Yield.extract rfl rfl) rfl ?_
          refine OG.yield (Yield.extract rfl rfl) rfl ?_
          refine OG.yield (Yield.assign rfl) rfl ?_
          refine OG.yield (Yield.assign rfl) rfl ?_
          refine OG.nil ?_
          refine QG.then ?_
          refine CG.seq ?_
          refine CG.region ?_
          refine OG.yield (Yield.move rfl) rfl ?_
          refine OG.yield (Yield.move rfl) rfl ?_
          refine OG.yield (by first | exact Yield.as (Yield.neq rfl rfl) (bT (by omega)) | exact Yield.as (Yield.neq rfl rfl) (bF (by omega)) | exact Yield.neq rfl rfl) rfl ?_
          refine OG.yield (Yield.move rfl) rfl ?_
          refine OG.guard_yes rfl rfl rfl (by decide) ?_
          refine OG.yield (Yield.move rfl) rfl ?_
          refine OG.guard_yes rfl rfl rfl (by decide) ?_
          refine OG.yield (Yield.move rfl) rfl ?_
          refine OG.guard_yes rfl rfl rfl (by decide) ?_
          refine OG.yield (by first | exact Yield.as (Yield.neq rfl rfl) (bT (by omega)) | exact Yield.as (Yield.neq rfl rfl) (bF (by omega)) | exact Yield.neq rfl rfl) rfl ?_
          refine OG.yield (by first | exact Yield.pick_t rfl rfl | exact Yield.pick_f rfl rfl | exact Yield.pick rfl (fun _ => rfl) (fun _ => rfl)) rfl ?_
          refine OG.nil ?_
          refine QG.then ?_
          refine CG.cond_f rfl ?_
          refine CG.skip ?_
          refine QG.block_normal ?_
          refine QG.block_normal ?_
          refine QG.then ?_
          refine CG.region ?_
          refine OG.yield (Yield.move rfl) rfl ?_
          refine OG.yield (Yield.add rfl rfl (w64 (by omega) (by omega))) rfl ?_
          refine OG.yield (Yield.assign rfl) rfl ?_
          refine OG.nil ?_
          exact QG.next ⟨i + 1, t, bs⟩ ⟨by simp only; omega, hbl⟩ (by simp only; omega) (by repeat (first | exact Env.sub_nil _ | refine Env.sub_cons rfl ?_)) (by repeat (first | exact Imp.refl _ | exact Imp.none _ | apply Imp.pull (by repeat (first | exact Ext.here | apply Ext.there)) | apply Imp.trans Imp.drop))
      · try replace hc := of_decide_eq_false hc
        refine CG.seq ?_
        refine CG.region ?_
        refine OG.yield (Yield.eql rfl rfl) rfl ?_
        refine OG.yield (Yield.assign rfl) rfl ?_
        refine OG.nil ?_
        refine QG.then ?_
        refine CG.cond rfl (fun hc => ?_) (fun hc => ?_)
        · try replace hc := of_decide_eq_true hc
          refine CG.seq ?_
          rcases merr_cases n ad Size with hx | he
          · skip
            obtain ⟨s, rfl, hs, hm, hb, he⟩ := hx
            have hol : (overB bs ad (putB v s)).length = n * 256 := by rw [overB_len (by rw [putB_len]; omega)]; exact hbl
            refine CG.draw (.look 0 1 (.look 1 1 (.look 2 1 (.look 3 1 (.look 4 1 (.look 5 1 (.look 6 1 (.look 8 0 (.look 9 0 (.look 10 0 (.look 11 0 (.look 12 0 (.look 13 0 (.look 14 0 (.eff1 7 false (.eff1 15 false (.look 16 1 (.done)))))))))))))))))) [7, 15] [] ([blk b10 (MOp.cells ⟨Kind, ad, s, v, N, Ba, Bc, B⟩) 50]) ([]) mixed (by kernel_rfl) ((by repeat (first | exact Imp.refl _ | exact Imp.none _ | apply Imp.pull (by repeat (first | exact Ext.here | apply Ext.there)) | apply Imp.trans Imp.drop))) (Imp.none _) ?_
            refine DG.look rfl rfl (Yield.move rfl) rfl ?_
            refine DG.look rfl rfl (Yield.fieldAddr fa50_1 rfl) rfl ?_
            refine DG.look rfl rfl (Yield.load ti37 rfl (by first | exact Cel.of_blk (by repeat (first | exact Ext.here | apply Ext.there)) rfl | exact (hrow (by repeat (first | exact Ext.here | apply Ext.there))) _ _ rfl)) rfl ?_
            refine DG.look rfl rfl (Yield.fieldAddr fa50_2 rfl) rfl ?_
            refine DG.look rfl rfl (Yield.load ti3 rfl (by first | exact Cel.of_blk (by repeat (first | exact Ext.here | apply Ext.there)) rfl | exact (hrow (by repeat (first | exact Ext.here | apply Ext.there))) _ _ rfl)) rfl ?_
            refine DG.look rfl rfl (Yield.fieldAddr fa50_3 rfl) rfl ?_
            refine DG.look rfl rfl (Yield.load ti24 rfl (by first | exact Cel.of_blk (by repeat (first | exact Ext.here | apply Ext.there)) rfl | exact (hrow (by repeat (first | exact Ext.here | apply Ext.there))) _ _ rfl)) rfl ?_
            refine DG.look rfl rfl (Yield.move rfl) rfl ?_
            refine DG.look rfl rfl (Yield.fieldAddr fa50_1 rfl) rfl ?_
            refine DG.look rfl rfl (Yield.load ti37 rfl (by first | exact Cel.of_blk (by repeat (first | exact Ext.here | apply Ext.there)) rfl | exact (hrow (by repeat (first | exact Ext.here | apply Ext.there))) _ _ rfl)) rfl ?_
            refine DG.look rfl rfl (Yield.fieldAddr fa50_2 rfl) rfl ?_
            refine DG.look rfl rfl (Yield.load ti3 rfl (by first | exact Cel.of_blk (by repeat (first | exact Ext.here | apply Ext.there)) rfl | exact (hrow (by repeat (first | exact Ext.here | apply Ext.there))) _ _ rfl)) rfl ?_
            refine DG.look rfl rfl (Yield.fieldAddr fa50_3 rfl) rfl ?_
            refine DG.look rfl rfl (Yield.load ti24 rfl (by first | exact Cel.of_blk (by repeat (first | exact Ext.here | apply Ext.there)) rfl | exact (hrow (by repeat (first | exact Ext.here | apply Ext.there))) _ _ rfl)) rfl ?_
            refine DG.eff1 ?_
            refine Chg.callo rfl rfl call27 rfl ((by repeat (first | exact Imp.refl _ | exact Imp.none _ | apply Imp.pull (by repeat (first | exact Ext.here | apply Ext.there)) | apply Imp.trans Imp.drop))) (store_ok W _ (bs := bs) hs hm hb hvl) rfl (fun _ => (by repeat (first | exact Imp.refl _ | exact Imp.none _ | apply Imp.pull (by repeat (first | exact Ext.here | apply Ext.there)) | apply Imp.trans Imp.drop))) (fun _ => Imp.refl _) (fun _ => (by repeat (first | exact Imp.refl _ | exact Imp.none _ | apply Imp.pull (by repeat (first | exact Ext.here | apply Ext.there)) | apply Imp.trans Imp.drop))) ?_
            rintro ⟨⟩ -
            refine DG.eff1 ?_
            refine Chg.callo rfl rfl call46 rfl ((by repeat (first | exact Imp.refl _ | exact Imp.none _ | apply Imp.pull (by repeat (first | exact Ext.here | apply Ext.there)) | apply Imp.trans Imp.drop))) (rstore_ok W _ (bs := bs) hs hb hal he hvl) rfl (fun _ => (by repeat (first | exact Imp.refl _ | exact Imp.none _ | apply Imp.pull (by repeat (first | exact Ext.here | apply Ext.there)) | apply Imp.trans Imp.drop))) (fun _ => Imp.refl _) (fun _ => (by repeat (first | exact Imp.refl _ | exact Imp.none _ | apply Imp.pull (by repeat (first | exact Ext.here | apply Ext.there)) | apply Imp.trans Imp.drop))) ?_
            rintro ⟨⟩ -
            refine DG.look rfl rfl (Yield.as (Yield.neq rfl rfl) (bF (by omega))) rfl ?_
            refine DG.done ?_
            refine QG.then ?_
            refine CG.cond_f rfl ?_
            refine CG.skip ?_
            refine QG.block_normal ?_
            refine QG.block_normal ?_
            refine QG.then ?_
            refine CG.region ?_
            refine OG.yield (Yield.move rfl) rfl ?_
            refine OG.yield (Yield.add rfl rfl (w64 (by omega) (by omega))) rfl ?_
            refine OG.yield (Yield.assign rfl) rfl ?_
            refine OG.nil ?_
            exact QG.next ⟨i + 1, t, overB bs ad (putB v s)⟩ ⟨by simp only; omega, hol⟩ (by simp only; omega) (by repeat (first | exact Env.sub_nil _ | refine Env.sub_cons rfl ?_)) (by repeat (first | exact Imp.refl _ | exact Imp.none _ | apply Imp.pull (by repeat (first | exact Ext.here | apply Ext.there)) | apply Imp.trans Imp.drop))
          · skip
            skip
            refine CG.draw (.look 0 1 (.look 1 1 (.look 2 1 (.look 3 1 (.look 4 1 (.look 5 1 (.look 6 1 (.look 8 0 (.look 9 0 (.look 10 0 (.look 11 0 (.look 12 0 (.look 13 0 (.look 14 0 (.eff1 7 false (.eff1 15 false (.look 16 1 (.done)))))))))))))))))) [7, 15] [] ([blk b10 (MOp.cells ⟨Kind, ad, Size, v, N, Ba, Bc, B⟩) 50]) ([]) mixed (by kernel_rfl) ((by repeat (first | exact Imp.refl _ | exact Imp.none _ | apply Imp.pull (by repeat (first | exact Ext.here | apply Ext.there)) | apply Imp.trans Imp.drop))) (Imp.none _) ?_
            refine DG.look rfl rfl (Yield.move rfl) rfl ?_
            refine DG.look rfl rfl (Yield.fieldAddr fa50_1 rfl) rfl ?_
            refine DG.look rfl rfl (Yield.load ti37 rfl (by first | exact Cel.of_blk (by repeat (first | exact Ext.here | apply Ext.there)) rfl | exact (hrow (by repeat (first | exact Ext.here | apply Ext.there))) _ _ rfl)) rfl ?_
            refine DG.look rfl rfl (Yield.fieldAddr fa50_2 rfl) rfl ?_
            refine DG.look rfl rfl (Yield.load ti3 rfl (by first | exact Cel.of_blk (by repeat (first | exact Ext.here | apply Ext.there)) rfl | exact (hrow (by repeat (first | exact Ext.here | apply Ext.there))) _ _ rfl)) rfl ?_
            refine DG.look rfl rfl (Yield.fieldAddr fa50_3 rfl) rfl ?_
            refine DG.look rfl rfl (Yield.load ti24 rfl (by first | exact Cel.of_blk (by repeat (first | exact Ext.here | apply Ext.there)) rfl | exact (hrow (by repeat (first | exact Ext.here | apply Ext.there))) _ _ rfl)) rfl ?_
            refine DG.look rfl rfl (Yield.move rfl) rfl ?_
            refine DG.look rfl rfl (Yield.fieldAddr fa50_1 rfl) rfl ?_
            refine DG.look rfl rfl (Yield.load ti37 rfl (by first | exact Cel.of_blk (by repeat (first | exact Ext.here | apply Ext.there)) rfl | exact (hrow (by repeat (first | exact Ext.here | apply Ext.there))) _ _ rfl)) rfl ?_
            refine DG.look rfl rfl (Yield.fieldAddr fa50_2 rfl) rfl ?_
            refine DG.look rfl rfl (Yield.load ti3 rfl (by first | exact Cel.of_blk (by repeat (first | exact Ext.here | apply Ext.there)) rfl | exact (hrow (by repeat (first | exact Ext.here | apply Ext.there))) _ _ rfl)) rfl ?_
            refine DG.look rfl rfl (Yield.fieldAddr fa50_3 rfl) rfl ?_
            refine DG.look rfl rfl (Yield.load ti24 rfl (by first | exact Cel.of_blk (by repeat (first | exact Ext.here | apply Ext.there)) rfl | exact (hrow (by repeat (first | exact Ext.here | apply Ext.there))) _ _ rfl)) rfl ?_
            refine DG.eff1 ?_
            refine Chg.callo rfl rfl call27 rfl ((by repeat (first | exact Imp.refl _ | exact Imp.none _ | apply Imp.pull (by repeat (first | exact Ext.here | apply Ext.there)) | apply Imp.trans Imp.drop))) (store_bad W _ (bs := bs) hal he) rfl (fun _ => (by repeat (first | exact Imp.refl _ | exact Imp.none _ | apply Imp.pull (by repeat (first | exact Ext.here | apply Ext.there)) | apply Imp.trans Imp.drop))) (fun _ => Imp.refl _) (fun _ => (by repeat (first | exact Imp.refl _ | exact Imp.none _ | apply Imp.pull (by repeat (first | exact Ext.here | apply Ext.there)) | apply Imp.trans Imp.drop))) ?_
            rintro ⟨⟩ -
            refine DG.eff1 ?_
            refine Chg.callo rfl rfl call46 rfl ((by repeat (first | exact Imp.refl _ | exact Imp.none _ | apply Imp.pull (by repeat (first | exact Ext.here | apply Ext.there)) | apply Imp.trans Imp.drop))) (rstore_bad W _ (bs := bs) hal he) rfl (fun _ => (by repeat (first | exact Imp.refl _ | exact Imp.none _ | apply Imp.pull (by repeat (first | exact Ext.here | apply Ext.there)) | apply Imp.trans Imp.drop))) (fun _ => Imp.refl _) (fun _ => (by repeat (first | exact Imp.refl _ | exact Imp.none _ | apply Imp.pull (by repeat (first | exact Ext.here | apply Ext.there)) | apply Imp.trans Imp.drop))) ?_
            rintro ⟨⟩ -
            refine DG.look rfl rfl (Yield.as (Yield.neq rfl rfl) (bF (by omega))) rfl ?_
            refine DG.done ?_
            refine QG.then ?_
            refine CG.cond_f rfl ?_
            refine CG.skip ?_
            refine QG.block_normal ?_
            refine QG.block_normal ?_
            refine QG.then ?_
            refine CG.region ?_
            refine OG.yield (Yield.move rfl) rfl ?_
            refine OG.yield (Yield.add rfl rfl (w64 (by omega) (by omega))) rfl ?_
            refine OG.yield (Yield.assign rfl) rfl ?_
            refine OG.nil ?_
            exact QG.next ⟨i + 1, t, bs⟩ ⟨by simp only; omega, hbl⟩ (by simp only; omega) (by repeat (first | exact Env.sub_nil _ | refine Env.sub_cons rfl ?_)) (by repeat (first | exact Imp.refl _ | exact Imp.none _ | apply Imp.pull (by repeat (first | exact Ext.here | apply Ext.there)) | apply Imp.trans Imp.drop))
        · try replace hc := of_decide_eq_false hc
          refine CG.seq ?_
          refine CG.region ?_
          refine OG.yield (Yield.eql rfl rfl) rfl ?_
          refine OG.yield (Yield.assign rfl) rfl ?_
          refine OG.nil ?_
          refine QG.then ?_
          refine CG.cond rfl (fun hc => ?_) (fun hc => ?_)
          · try replace hc := of_decide_eq_true hc
            refine CG.seq ?_
            rcases (show (0 ≤ N ∧ N < n) ∨ (N < 0 ∨ (n : Int) ≤ N) by omega) with hx | hx
            · skip
              obtain ⟨k, rfl⟩ : ∃ k : Nat, N = (k : Int) := ⟨N.toNat, by omega⟩
              have hk : k < n := by omega
              have hfl := frB_len hbl hk
              refine CG.region ?_
              refine OG.yield (Yield.move rfl) rfl ?_
              refine OG.yield (Yield.fieldAddr fa50_4 rfl) rfl ?_
              refine OG.yield (Yield.load ti3 rfl (by first | exact Cel.of_blk (by repeat (first | exact Ext.here | apply Ext.there)) rfl | exact (hrow (by repeat (first | exact Ext.here | apply Ext.there))) _ _ rfl)) rfl ?_
              refine OG.callo call32 rfl ((by repeat (first | exact Imp.refl _ | exact Imp.none _ | apply Imp.pull (by repeat (first | exact Ext.here | apply Ext.there)) | apply Imp.trans Imp.drop))) (frame_ok W _ (bs := bs) hk) rfl ?_
              rintro b15 -
              refine OG.yield (Yield.move rfl) rfl ?_
              refine OG.yield (Yield.extract rfl rfl) rfl ?_
              refine OG.yield (Yield.extract rfl rfl) rfl ?_
              refine OG.yield (Yield.assign rfl) rfl ?_
              refine OG.yield (Yield.assign rfl) rfl ?_
              refine OG.nil ?_
              refine QG.then ?_
              refine CG.seq ?_
              refine CG.region ?_
              refine OG.yield (Yield.move rfl) rfl ?_
              refine OG.yield (Yield.fieldAddr fa50_4 rfl) rfl ?_
              refine OG.yield (Yield.load ti3 rfl (by first | exact Cel.of_blk (by repeat (first | exact Ext.here | apply Ext.there)) rfl | exact (hrow (by repeat (first | exact Ext.here | apply Ext.there))) _ _ rfl)) rfl ?_
              refine OG.callo call47 rfl ((by repeat (first | exact Imp.refl _ | exact Imp.none _ | apply Imp.pull (by repeat (first | exact Ext.here | apply Ext.there)) | apply Imp.trans Imp.drop))) (rframe_ok W _ (bs := bs) hk) rfl ?_
              rintro ⟨a17, c17⟩ -
              refine OG.yield (Yield.move rfl) rfl ?_
              refine OG.yield (Yield.extract rfl rfl) rfl ?_
              refine OG.yield (Yield.extract rfl rfl) rfl ?_
              refine OG.yield (Yield.assign rfl) rfl ?_
              refine OG.yield (Yield.assign rfl) rfl ?_
              refine OG.nil ?_
              refine QG.then ?_
              refine CG.seq ?_
              refine CG.seq ?_
              refine CG.region ?_
              refine OG.yield (Yield.move rfl) rfl ?_
              refine OG.yield (Yield.move rfl) rfl ?_
              refine OG.yield (by first | exact Yield.as (Yield.neq rfl rfl) (bT (by omega)) | exact Yield.as (Yield.neq rfl rfl) (bF (by omega)) | exact Yield.neq rfl rfl) rfl ?_
              refine OG.yield (Yield.move rfl) rfl ?_
              refine OG.guard_yes rfl rfl rfl (by decide) ?_
              refine OG.yield (Yield.move rfl) rfl ?_
              refine OG.guard_yes rfl rfl rfl (by decide) ?_
              refine OG.yield (Yield.toStr (bs := frB bs k) Try.underlying48 Try.underlying9 Try.underlying5 rfl (SlR.of_osl (a := some ⟨b15, 0, none⟩) (by repeat (first | exact Ext.here | apply Ext.there)))) rfl ?_
              refine OG.guard_yes rfl rfl rfl (by decide) ?_
              refine OG.yield (Yield.move rfl) rfl ?_
              refine OG.guard_yes rfl rfl rfl (by decide) ?_
              refine OG.yield (Yield.toStr (bs := frB bs k) Try.underlying48 Try.underlying9 Try.underlying5 rfl (SlR.of_osl (E := 5) (a := a17) (by repeat (first | exact Ext.here | apply Ext.there)))) rfl ?_
              refine OG.guard_yes rfl rfl rfl (by decide) ?_
              refine OG.yield (by first | exact Yield.str_samen rfl rfl | exact Yield.str_neq rfl rfl) rfl ?_
              refine OG.yield (by first | exact Yield.pick_t rfl rfl | exact Yield.pick_f rfl rfl | exact Yield.pick rfl (fun _ => rfl) (fun _ => rfl)) rfl ?_
              refine OG.nil ?_
              refine QG.then ?_
              refine CG.cond_f rfl ?_
              refine CG.skip ?_
              refine QG.then ?_
              refine CG.seq ?_
              refine CG.region ?_
              refine OG.yield (Yield.assign rfl) rfl ?_
              refine OG.nil ?_
              refine QG.then ?_
              refine CG.block ?_
              refine CG.loop (fun s : Nat × List UInt8 => s.2.length = 256 ∧ s.1 ≤ 256) (fun s => [(1, .slice (some ⟨b, o, none⟩) ops.length c1), (5, .pointer (some ⟨t, 0, none⟩)), (7, .pointer (some ⟨r, 0, none⟩)), (9, .int .i64 i), (15, .slice (some ⟨b15, 0, none⟩) 256 256), (19, .int .i64 s.1)]) (fun s => oby 113 (some ⟨b15, 0, none⟩) 256 s.2 :: St.G W r n ⟨i, t, bs⟩) (fun s => 256 - s.1) (0, frB bs k) ⟨hfl, Nat.zero_le _⟩ (by rw [hfl]; exact (by repeat (first | exact Env.sub_nil _ | refine Env.sub_cons rfl ?_))) (by repeat (first | exact Imp.refl _ | exact Imp.none _ | apply Imp.pull (by repeat (first | exact Ext.here | apply Ext.there)) | apply Imp.trans Imp.drop)) ?_
              rintro ⟨j, xs⟩ ⟨hxl, hj⟩
              dsimp only at hxl hj ⊢
              refine CG.seq ?_
              refine CG.seq ?_
              refine CG.region ?_
              refine OG.yield (Yield.move rfl) rfl ?_
              refine OG.yield (Yield.move rfl) rfl ?_
              refine OG.yield (Yield.len_slice Try.underlying48 rfl rfl) rfl ?_
              refine OG.yield (by first | exact Yield.as (Yield.lss rfl rfl) (bT (by omega)) | exact Yield.as (Yield.lss rfl rfl) (bF (by omega)) | exact Yield.lss rfl rfl) rfl ?_
              refine OG.nil ?_
              refine QG.then ?_
              refine CG.cond rfl (fun hc => ?_) (fun hc => ?_)
              · try replace hc := of_decide_eq_true hc
                have hj' : j < xs.length := by omega
                have hgz : xs[j]? = some xs[j] := by simp [hj']
                generalize xs[j] = z at hgz
                refine CG.skip ?_
                refine QG.then ?_
                refine CG.seq ?_
                refine CG.block ?_
                refine CG.region ?_
                refine OG.yield (Yield.move rfl) rfl ?_
                refine OG.yield (Yield.move rfl) rfl ?_
                refine OG.yield (Yield.index_slice Try.underlying48 ti5 rfl rfl (by omega) (by omega)) rfl ?_
                refine OG.yield (Yield.load (v := byteV z) ti5 rfl (SlR.byte (i := j) (SlR.of_osl (a := some ⟨b15, 0, none⟩) (by repeat (first | exact Ext.here | apply Ext.there))) hgz)) rfl ?_
                refine OG.yield (Yield.add (c := ((z + 1).toNat : Int)) rfl rfl (wrap_u8_add z 1)) rfl ?_
                refine OG.yield (Yield.index_slice Try.underlying48 ti5 rfl rfl (by omega) (by omega)) rfl ?_
                refine OG.eff (Eff.storeByteS (i := j) (z := z + 1) (bs := xs) ti5 (show 0 + (j : Int).toNat * 1 = 0 + j by omega) rfl rfl (by repeat (first | exact Foc.here | apply Foc.there)) (by omega)) rfl ?_
                rintro ⟨⟩ -
                refine OG.nil ?_
                refine QG.block_normal ?_
                refine QG.then ?_
                refine CG.region ?_
                refine OG.yield (Yield.move rfl) rfl ?_
                refine OG.yield (Yield.add rfl rfl (w64 (by omega) (by omega))) rfl ?_
                refine OG.yield (Yield.assign rfl) rfl ?_
                refine OG.nil ?_
                exact QG.next (j + 1, xs.set j (z + 1)) ⟨by simp only; rw [List.length_set]; exact hxl, by simp only; omega⟩ (by simp only; omega) (by repeat (first | exact Env.sub_nil _ | refine Env.sub_cons rfl ?_)) (by repeat (first | exact Imp.refl _ | exact Imp.none _ | apply Imp.pull (by repeat (first | exact Ext.here | apply Ext.there)) | apply Imp.trans Imp.drop))
              · try replace hc := of_decide_eq_false hc
                refine CG.exit ?_
                refine QG.pass_exit ?_
                refine QG.pass_exit ?_
                refine QG.block_exit ?_
                refine QG.block_normal ?_
                refine QG.block_normal ?_
                refine QG.then ?_
                refine CG.region ?_
                refine OG.yield (Yield.move rfl) rfl ?_
                refine OG.yield (Yield.add rfl rfl (w64 (by omega) (by omega))) rfl ?_
                refine OG.yield (Yield.assign rfl) rfl ?_
                refine OG.nil ?_
                exact QG.next ⟨i + 1, t, bs⟩ ⟨by simp only; omega, hbl⟩ (by simp only; omega) (by repeat (first | exact Env.sub_nil _ | refine Env.sub_cons rfl ?_)) (by repeat (first | exact Imp.refl _ | exact Imp.none _ | apply Imp.pull (by repeat (first | exact Ext.here | apply Ext.there)) | apply Imp.trans Imp.drop))
            · skip
              skip
              refine CG.region ?_
              refine OG.yield (Yield.move rfl) rfl ?_
              refine OG.yield (Yield.fieldAddr fa50_4 rfl) rfl ?_
              refine OG.yield (Yield.load ti3 rfl (by first | exact Cel.of_blk (by repeat (first | exact Ext.here | apply Ext.there)) rfl | exact (hrow (by repeat (first | exact Ext.here | apply Ext.there))) _ _ rfl)) rfl ?_
              refine OG.callo call32 rfl ((by repeat (first | exact Imp.refl _ | exact Imp.none _ | apply Imp.pull (by repeat (first | exact Ext.here | apply Ext.there)) | apply Imp.trans Imp.drop))) (frame_bad W _ (bs := bs) hx) rfl ?_
              rintro ⟨⟩ -
              refine OG.yield (Yield.move rfl) rfl ?_
              refine OG.yield (Yield.extract rfl rfl) rfl ?_
              refine OG.yield (Yield.extract rfl rfl) rfl ?_
              refine OG.yield (Yield.assign rfl) rfl ?_
              refine OG.yield (Yield.assign rfl) rfl ?_
              refine OG.nil ?_
              refine QG.then ?_
              refine CG.seq ?_
              refine CG.region ?_
              refine OG.yield (Yield.move rfl) rfl ?_
              refine OG.yield (Yield.fieldAddr fa50_4 rfl) rfl ?_
              refine OG.yield (Yield.load ti3 rfl (by first | exact Cel.of_blk (by repeat (first | exact Ext.here | apply Ext.there)) rfl | exact (hrow (by repeat (first | exact Ext.here | apply Ext.there))) _ _ rfl)) rfl ?_
              refine OG.callo call47 rfl ((by repeat (first | exact Imp.refl _ | exact Imp.none _ | apply Imp.pull (by repeat (first | exact Ext.here | apply Ext.there)) | apply Imp.trans Imp.drop))) (rframe_bad W _ (bs := bs) hx) rfl ?_
              rintro ⟨⟩ -
              refine OG.yield (Yield.move rfl) rfl ?_
              refine OG.yield (Yield.extract rfl rfl) rfl ?_
              refine OG.yield (Yield.extract rfl rfl) rfl ?_
              refine OG.yield (Yield.assign rfl) rfl ?_
              refine OG.yield (Yield.assign rfl) rfl ?_
              refine OG.nil ?_
              refine QG.then ?_
              refine CG.seq ?_
              refine CG.seq ?_
              refine CG.region ?_
              refine OG.yield (Yield.move rfl) rfl ?_
              refine OG.yield (Yield.move rfl) rfl ?_
              refine OG.yield (by first | exact Yield.as (Yield.neq rfl rfl) (bT (by omega)) | exact Yield.as (Yield.neq rfl rfl) (bF (by omega)) | exact Yield.neq rfl rfl) rfl ?_
              refine OG.yield (Yield.move rfl) rfl ?_
              refine OG.guard_yes rfl rfl rfl (by decide) ?_
              refine OG.yield (Yield.move rfl) rfl ?_
              refine OG.guard_yes rfl rfl rfl (by decide) ?_
              refine OG.yield (Yield.toStr (bs := []) Try.underlying48 Try.underlying9 Try.underlying5 rfl SlR.nil) rfl ?_
              refine OG.guard_yes rfl rfl rfl (by decide) ?_
              refine OG.yield (Yield.move rfl) rfl ?_
              refine OG.guard_yes rfl rfl rfl (by decide) ?_
              refine OG.yield (Yield.toStr (bs := []) Try.underlying48 Try.underlying9 Try.underlying5 rfl SlR.nil) rfl ?_
              refine OG.guard_yes rfl rfl rfl (by decide) ?_
              refine OG.yield (by first | exact Yield.str_samen rfl rfl | exact Yield.str_neq rfl rfl) rfl ?_
              refine OG.yield (by first | exact Yield.pick_t rfl rfl | exact Yield.pick_f rfl rfl | exact Yield.pick rfl (fun _ => rfl) (fun _ => rfl)) rfl ?_
              refine OG.nil ?_
              refine QG.then ?_
              refine CG.cond_f rfl ?_
              refine CG.skip ?_
              refine QG.then ?_
              refine CG.seq ?_
              refine CG.region ?_
              refine OG.yield (Yield.assign rfl) rfl ?_
              refine OG.nil ?_
              refine QG.then ?_
              refine CG.block ?_
              refine CG.loop (fun _ : Unit => True) (fun _ => [(1, .slice (some ⟨b, o, none⟩) ops.length c1), (5, .pointer (some ⟨t, 0, none⟩)), (7, .pointer (some ⟨r, 0, none⟩)), (9, .int .i64 i), (15, .slice none 0 0), (19, .int .i64 0)]) (fun _ => St.G W r n ⟨i, t, bs⟩) (fun _ => 0) () trivial (by repeat (first | exact Env.sub_nil _ | refine Env.sub_cons rfl ?_)) (by repeat (first | exact Imp.refl _ | exact Imp.none _ | apply Imp.pull (by repeat (first | exact Ext.here | apply Ext.there)) | apply Imp.trans Imp.drop)) ?_
              rintro ⟨⟩ -
              refine CG.seq ?_
              refine CG.seq ?_
              refine CG.region ?_
              refine OG.yield (Yield.move rfl) rfl ?_
              refine OG.yield (Yield.move rfl) rfl ?_
              refine OG.yield (Yield.len_slice Try.underlying48 rfl rfl) rfl ?_
              refine OG.yield (by first | exact Yield.as (Yield.lss rfl rfl) (bT (by omega)) | exact Yield.as (Yield.lss rfl rfl) (bF (by omega)) | exact Yield.lss rfl rfl) rfl ?_
              refine OG.nil ?_
              refine QG.then ?_
              refine CG.cond_f rfl ?_
              refine CG.exit ?_
              refine QG.pass_exit ?_
              refine QG.pass_exit ?_
              refine QG.block_exit ?_
              refine QG.block_normal ?_
              refine QG.block_normal ?_
              refine QG.then ?_
              refine CG.region ?_
              refine OG.yield (Yield.move rfl) rfl ?_
              refine OG.yield (Yield.add rfl rfl (w64 (by omega) (by omega))) rfl ?_
              refine OG.yield (Yield.assign rfl) rfl ?_
              refine OG.nil ?_
              exact QG.next ⟨i + 1, t, bs⟩ ⟨by simp only; omega, hbl⟩ (by simp only; omega) (by repeat (first | exact Env.sub_nil _ | refine Env.sub_cons rfl ?_)) (by repeat (first | exact Imp.refl _ | exact Imp.none _ | apply Imp.pull (by repeat (first | exact Ext.here | apply Ext.there)) | apply Imp.trans Imp.drop))
          · try replace hc := of_decide_eq_false hc
            refine CG.seq ?_
            refine CG.region ?_
            refine OG.yield (Yield.eql rfl rfl) rfl ?_
            refine OG.yield (Yield.assign rfl) rfl ?_
            refine OG.nil ?_
            refine QG.then ?_
            refine CG.cond rfl (fun hc => ?_) (fun hc => ?_)
            · try replace hc := of_decide_eq_true hc
              refine CG.seq ?_
              refine CG.region ?_
              refine OG.effd (Eff.lit0 Try.underlying48 ti5 rfl) rfl ?_
              rintro b158 -
              refine OG.yield (Yield.fieldAddr fa50_5 rfl) rfl ?_
              refine OG.yield (Yield.load (v := .slice Ba B.length Bc) ti48 rfl (Cel.of_blk (b := b10) (by repeat (first | exact Ext.here | apply Ext.there)) rfl)) rfl ?_
              refine OG.effd (Eff.appendB0 (ys := B) rfl rfl rfl Try.underlying48 Try.underlying48 ti5 (by decide) (by repeat (first | exact Foc.here | apply Foc.there)) (SlAt.old hB (by repeat (first | exact Ext.here | apply Ext.there))) (by omega)) rfl ?_
              rintro ⟨a161, c161⟩ -
              refine OG.effd (Eff.lit1 Try.underlying48 ti5 rfl rfl rfl) rfl ?_
              rintro b162 -
              refine OG.effd (Eff.appendB (bs := B) (ys := [3]) rfl rfl rfl Try.underlying48 Try.underlying48 ti5 (by decide) (by repeat (first | exact Foc.here | apply Foc.there)) (by first | exact SlR.of_osl (by repeat (first | exact Ext.here | apply Ext.there)) | exact SlR.of_osl_eq (by repeat (first | exact Ext.here | apply Ext.there)) rfl rfl | exact SlR.of_osl_eq (by repeat (first | exact Ext.here | apply Ext.there)) rfl (by simp [bytesV, byteV]) | assumption | exact SlAt.old (by assumption) (by repeat (first | exact Ext.here | apply Ext.there)) | exact RdB.slR (by assumption)) (by simp only [List.length_cons, List.length_nil]; omega)) rfl ?_
              rintro ⟨a20, c20⟩ -
              refine OG.pure (fun w hw => osl_facts (W0 := W) (E := 5) (sz := 1) (a := a20) (c := c20) (m := (B ++ [3]).length) (xs := bytesV (B ++ [3])) (by repeat (first | exact Ext.here | apply Ext.there)) w hw) ?_
              rintro ⟨-, hcp⟩
              rw [List.length_append] at hcp
              simp only [List.length_cons, List.length_nil] at hcp
              refine OG.pure (fun w hw => SlR.shape (SlR.of_osl (W0 := W) (E := 5) (sz := 1) (a := a20) (c := c20) (m := (B ++ [3]).length) (xs := bytesV (B ++ [3])) (by repeat (first | exact Ext.here | apply Ext.there))) (by simp [bytesV]) w hw) ?_
              rintro ⟨b20, o20, rfl⟩
              refine OG.yield (Yield.assign rfl) rfl ?_
              refine OG.nil ?_
              refine QG.then ?_
              refine CG.seq ?_
              refine CG.seq ?_
              rcases (show (0 ≤ N ∧ N < n ∧ B.length ≤ 256) ∨ (N < 0 ∨ (n : Int) ≤ N ∨ 256 < B.length) by omega) with hx | hx
              · skip
                obtain ⟨k, rfl⟩ : ∃ k : Nat, N = (k : Int) := ⟨N.toNat, by omega⟩
                have hk : k < n := by omega
                have hw : B.length ≤ 256 := hx.2.2
                have hol : (overB bs (k * 256) (fillB B)).length = n * 256 := by rw [overB_len (by rw [fillB_len hw]; omega)]; exact hbl
                refine CG.draw (.look 0 1 (.look 1 1 (.look 2 1 (.look 3 1 (.look 4 1 (.look 5 1 (.look 6 1 (.look 7 1 (.look 9 0 (.look 10 0 (.look 11 0 (.look 12 0 (.look 13 0 (.eff1 8 false (.eff1 14 false (.look 15 1 (.look 16 1 (.look 17 1 (.look 18 1 (.look 19 1 (.look 20 1 (.look 21 1 (.look 22 1 (.look 23 1 (.look 24 1 (.look 25 1 (.look 26 1 (.look 27 1 (.done))))))))))))))))))))))))))))) [8, 14] [] ([blk b10 (MOp.cells ⟨Kind, ad, Size, v, k, Ba, Bc, B⟩) 50]) ([]) mixed (by kernel_rfl) ((by repeat (first | exact Imp.refl _ | exact Imp.none _ | apply Imp.pull (by repeat (first | exact Ext.here | apply Ext.there)) | apply Imp.trans Imp.drop))) (Imp.none _) ?_
                refine DG.look rfl rfl (Yield.move rfl) rfl ?_
                refine DG.look rfl rfl (Yield.fieldAddr fa50_4 rfl) rfl ?_
                refine DG.look rfl rfl (Yield.load ti3 rfl (by first | exact Cel.of_blk (by repeat (first | exact Ext.here | apply Ext.there)) rfl | exact (hrow (by repeat (first | exact Ext.here | apply Ext.there))) _ _ rfl)) rfl ?_
                refine DG.look rfl rfl (Yield.move rfl) rfl ?_
                refine DG.look rfl rfl (Yield.fieldAddr fa50_5 rfl) rfl ?_
                refine DG.look rfl rfl (Yield.load (v := .slice Ba B.length Bc) ti48 rfl (Cel.of_blk (b := b10) (by repeat (first | exact Ext.here | apply Ext.there)) rfl)) rfl ?_
                refine DG.look rfl rfl (Yield.len_slice Try.underlying48 rfl rfl) rfl ?_
                refine DG.look rfl rfl (Yield.slice_hi Try.underlying48 ti5 rfl (Bound.some rfl) (by omega) (by omega)) rfl ?_
                refine DG.look rfl rfl (Yield.move rfl) rfl ?_
                refine DG.look rfl rfl (Yield.fieldAddr fa50_4 rfl) rfl ?_
                refine DG.look rfl rfl (Yield.load ti3 rfl (by first | exact Cel.of_blk (by repeat (first | exact Ext.here | apply Ext.there)) rfl | exact (hrow (by repeat (first | exact Ext.here | apply Ext.there))) _ _ rfl)) rfl ?_
                refine DG.look rfl rfl (Yield.fieldAddr fa50_5 rfl) rfl ?_
                refine DG.look rfl rfl (Yield.load (v := .slice Ba B.length Bc) ti48 rfl (Cel.of_blk (b := b10) (by repeat (first | exact Ext.here | apply Ext.there)) rfl)) rfl ?_
                refine DG.eff1 ?_
                refine Chg.callo rfl rfl call48 rfl ((by repeat (first | exact Imp.refl _ | exact Imp.none _ | apply Imp.pull (by repeat (first | exact Ext.here | apply Ext.there)) | apply Imp.trans Imp.drop))) (fill_ok W _ (bs := bs) (ws := B) (by refine RdB.of_slR (SlR.preB (bs := [3]) (SlR.of_osl (a := some ⟨b20, o20, none⟩) (by repeat (first | exact Ext.here | apply Ext.there)))) ?_; omega) hk hw) rfl (fun _ => (by repeat (first | exact Imp.refl _ | exact Imp.none _ | apply Imp.pull (by repeat (first | exact Ext.here | apply Ext.there)) | apply Imp.trans Imp.drop))) (fun _ => Imp.refl _) (fun _ => (by repeat (first | exact Imp.refl _ | exact Imp.none _ | apply Imp.pull (by repeat (first | exact Ext.here | apply Ext.there)) | apply Imp.trans Imp.drop))) ?_
                rintro ⟨⟩ -
                refine DG.eff1 ?_
                refine Chg.callo rfl rfl call49 rfl ((by repeat (first | exact Imp.refl _ | exact Imp.none _ | apply Imp.pull (by repeat (first | exact Ext.here | apply Ext.there)) | apply Imp.trans Imp.drop))) (rfill_ok W _ (bs := bs) (ws := B) (by exact RdB.of_slR (SlAt.old hB (by repeat (first | exact Ext.here | apply Ext.there))) hBc) hk hw) rfl (fun _ => (by repeat (first | exact Imp.refl _ | exact Imp.none _ | apply Imp.pull (by repeat (first | exact Ext.here | apply Ext.there)) | apply Imp.trans Imp.drop))) (fun _ => Imp.refl _) (fun _ => (by repeat (first | exact Imp.refl _ | exact Imp.none _ | apply Imp.pull (by repeat (first | exact Ext.here | apply Ext.there)) | apply Imp.trans Imp.drop))) ?_
                rintro ⟨⟩ -
                refine DG.look rfl rfl (Yield.as (Yield.neq rfl rfl) (bF (by omega))) rfl ?_
                refine DG.look rfl rfl (Yield.move rfl) rfl ?_
                refine DG.look rfl rfl (Yield.move rfl) rfl ?_
                refine DG.look rfl rfl (Yield.fieldAddr fa50_5 rfl) rfl ?_
                refine DG.look rfl rfl (Yield.load (v := .slice Ba B.length Bc) ti48 rfl (Cel.of_blk (b := b10) (by repeat (first | exact Ext.here | apply Ext.there)) rfl)) rfl ?_
                refine DG.look rfl rfl (Yield.len_slice Try.underlying48 rfl rfl) rfl ?_
                refine DG.look rfl rfl (Yield.slice_hi Try.underlying48 ti5 rfl (Bound.some rfl) (by omega) (by omega)) rfl ?_
                refine DG.look rfl rfl (Yield.toStr (bs := B) Try.underlying48 Try.underlying9 Try.underlying5 rfl (SlR.preB (bs := [3]) (SlR.of_osl (a := some ⟨b20, o20, none⟩) (by repeat (first | exact Ext.here | apply Ext.there))))) rfl ?_
                refine DG.look rfl rfl (Yield.fieldAddr fa50_5 rfl) rfl ?_
                refine DG.look rfl rfl (Yield.load (v := .slice Ba B.length Bc) ti48 rfl (Cel.of_blk (b := b10) (by repeat (first | exact Ext.here | apply Ext.there)) rfl)) rfl ?_
                refine DG.look rfl rfl (Yield.toStr (bs := B) Try.underlying48 Try.underlying9 Try.underlying5 rfl (SlAt.old hB (by repeat (first | exact Ext.here | apply Ext.there)))) rfl ?_
                refine DG.look rfl rfl (by first | exact Yield.str_samen rfl rfl | exact Yield.str_neq rfl rfl) rfl ?_
                refine DG.look rfl rfl (by first | exact Yield.pick_t rfl rfl | exact Yield.pick_f rfl rfl | exact Yield.pick rfl (fun _ => rfl) (fun _ => rfl)) rfl ?_
                refine DG.done ?_
                refine QG.then ?_
                refine CG.cond_f rfl ?_
                refine CG.skip ?_
                refine QG.then ?_
                have hBl : (B ++ [3]).length = B.length + 1 := by simp
                refine CG.seq ?_
                refine CG.region ?_
                refine OG.yield (Yield.assign rfl) rfl ?_
                refine OG.nil ?_
                refine QG.then ?_
                refine CG.block ?_
                refine CG.loop (fun s : Nat × List UInt8 => s.2.length = B.length + 1 ∧ s.1 ≤ B.length + 1) (fun s => [(1, .slice (some ⟨b, o, none⟩) ops.length c1), (5, .pointer (some ⟨t, 0, none⟩)), (7, .pointer (some ⟨r, 0, none⟩)), (9, .int .i64 i), (20, .slice (some ⟨b20, o20, none⟩) (B.length + 1 : Nat) c20), (21, .int .i64 s.1)]) (fun s => oby 5 (some ⟨b20, o20, none⟩) c20 s.2 :: St.G W r n ⟨i, t, overB bs (k * 256) (fillB B)⟩) (fun s => B.length + 1 - s.1) (0, B ++ [3]) ⟨hBl, Nat.zero_le _⟩ (by rw [← hBl]; exact (by repeat (first | exact Env.sub_nil _ | refine Env.sub_cons rfl ?_))) (by repeat (first | exact Imp.refl _ | exact Imp.none _ | apply Imp.pull (by repeat (first | exact Ext.here | apply Ext.there)) | apply Imp.trans Imp.drop)) ?_
                rintro ⟨j, xs⟩ ⟨hxl, hj⟩
                dsimp only at hxl hj ⊢
                refine CG.seq ?_
                refine CG.seq ?_
                refine CG.region ?_
                refine OG.yield (Yield.move rfl) rfl ?_
                refine OG.yield (Yield.move rfl) rfl ?_
                refine OG.yield (Yield.len_slice Try.underlying48 rfl rfl) rfl ?_
                refine OG.yield (by first | exact Yield.as (Yield.lss rfl rfl) (bT (by omega)) | exact Yield.as (Yield.lss rfl rfl) (bF (by omega)) | exact Yield.lss rfl rfl) rfl ?_
                refine OG.nil ?_
                refine QG.then ?_
                refine CG.cond rfl (fun hc => ?_) (fun hc => ?_)
                · try replace hc := of_decide_eq_true hc
                  refine CG.skip ?_
                  refine QG.then ?_
                  refine CG.seq ?_
                  refine CG.block ?_
                  refine CG.region ?_
                  refine OG.yield (Yield.move rfl) rfl ?_
                  refine OG.yield (Yield.move rfl) rfl ?_
                  refine OG.yield (Yield.index_slice Try.underlying48 ti5 rfl rfl (by omega) (by omega)) rfl ?_
                  refine OG.eff (Eff.storeByteS (i := j) (z := 77) (bs := xs) ti5 (show o20 + (j : Int).toNat * 1 = o20 + j by omega) rfl rfl (by repeat (first | exact Foc.here | apply Foc.there)) (by omega)) rfl ?_
                  rintro ⟨⟩ -
                  refine OG.nil ?_
                  refine QG.block_normal ?_
                  refine QG.then ?_
                  refine CG.region ?_
                  refine OG.yield (Yield.move rfl) rfl ?_
                  refine OG.yield (Yield.add rfl rfl (w64 (by omega) (by omega))) rfl ?_
                  refine OG.yield (Yield.assign rfl) rfl ?_
                  refine OG.nil ?_
                  exact QG.next (j + 1, xs.set j 77) ⟨by simp only; rw [List.length_set]; exact hxl, by simp only; omega⟩ (by simp only; omega) (by repeat (first | exact Env.sub_nil _ | refine Env.sub_cons rfl ?_)) (by repeat (first | exact Imp.refl _ | exact Imp.none _ | apply Imp.pull (by repeat (first | exact Ext.here | apply Ext.there)) | apply Imp.trans Imp.drop))
                · try replace hc := of_decide_eq_false hc
                  refine CG.exit ?_
                  refine QG.pass_exit ?_
                  refine QG.pass_exit ?_
                  refine QG.block_exit ?_
                  refine QG.block_normal ?_
                  refine QG.block_normal ?_
                  refine QG.then ?_
                  refine CG.region ?_
                  refine OG.yield (Yield.move rfl) rfl ?_
                  refine OG.yield (Yield.add rfl rfl (w64 (by omega) (by omega))) rfl ?_
                  refine OG.yield (Yield.assign rfl) rfl ?_
                  refine OG.nil ?_
                  exact QG.next ⟨i + 1, t, overB bs (k * 256) (fillB B)⟩ ⟨by simp only; omega, hol⟩ (by simp only; omega) (by repeat (first | exact Env.sub_nil _ | refine Env.sub_cons rfl ?_)) (by repeat (first | exact Imp.refl _ | exact Imp.none _ | apply Imp.pull (by repeat (first | exact Ext.here | apply Ext.there)) | apply Imp.trans Imp.drop))
              · skip
                skip
                refine CG.draw (.look 0 1 (.look 1 1 (.look 2 1 (.look 3 1 (.look 4 1 (.look 5 1 (.look 6 1 (.look 7 1 (.look 9 0 (.look 10 0 (.look 11 0 (.look 12 0 (.look 13 0 (.eff1 8 false (.eff1 14 false (.look 15 1 (.look 16 1 (.look 17 1 (.look 18 1 (.look 19 1 (.look 20 1 (.look 21 1 (.look 22 1 (.look 23 1 (.look 24 1 (.look 25 1 (.look 26 1 (.look 27 1 (.done))))))))))))))))))))))))))))) [8, 14] [] ([blk b10 (MOp.cells ⟨Kind, ad, Size, v, N, Ba, Bc, B⟩) 50]) ([]) mixed (by kernel_rfl) ((by repeat (first | exact Imp.refl _ | exact Imp.none _ | apply Imp.pull (by repeat (first | exact Ext.here | apply Ext.there)) | apply Imp.trans Imp.drop))) (Imp.none _) ?_
                refine DG.look rfl rfl (Yield.move rfl) rfl ?_
                refine DG.look rfl rfl (Yield.fieldAddr fa50_4 rfl) rfl ?_
                refine DG.look rfl rfl (Yield.load ti3 rfl (by first | exact Cel.of_blk (by repeat (first | exact Ext.here | apply Ext.there)) rfl | exact (hrow (by repeat (first | exact Ext.here | apply Ext.there))) _ _ rfl)) rfl ?_
                refine DG.look rfl rfl (Yield.move rfl) rfl ?_
                refine DG.look rfl rfl (Yield.fieldAddr fa50_5 rfl) rfl ?_
                refine DG.look rfl rfl (Yield.load (v := .slice Ba B.length Bc) ti48 rfl (Cel.of_blk (b := b10) (by repeat (first | exact Ext.here | apply Ext.there)) rfl)) rfl ?_
                refine DG.look rfl rfl (Yield.len_slice Try.underlying48 rfl rfl) rfl ?_
                refine DG.look rfl rfl (Yield.slice_hi Try.underlying48 ti5 rfl (Bound.some rfl) (by omega) (by omega)) rfl ?_
                refine DG.look rfl rfl (Yield.move rfl) rfl ?_
                refine DG.look rfl rfl (Yield.fieldAddr fa50_4 rfl) rfl ?_
                refine DG.look rfl rfl (Yield.load ti3 rfl (by first | exact Cel.of_blk (by repeat (first | exact Ext.here | apply Ext.there)) rfl | exact (hrow (by repeat (first | exact Ext.here | apply Ext.there))) _ _ rfl)) rfl ?_
                refine DG.look rfl rfl (Yield.fieldAddr fa50_5 rfl) rfl ?_
                refine DG.look rfl rfl (Yield.load (v := .slice Ba B.length Bc) ti48 rfl (Cel.of_blk (b := b10) (by repeat (first | exact Ext.here | apply Ext.there)) rfl)) rfl ?_
                refine DG.eff1 ?_
                refine Chg.callo rfl rfl call48 rfl ((by repeat (first | exact Imp.refl _ | exact Imp.none _ | apply Imp.pull (by repeat (first | exact Ext.here | apply Ext.there)) | apply Imp.trans Imp.drop))) (fill_bad W _ (bs := bs) (ws := B) hx) rfl (fun _ => (by repeat (first | exact Imp.refl _ | exact Imp.none _ | apply Imp.pull (by repeat (first | exact Ext.here | apply Ext.there)) | apply Imp.trans Imp.drop))) (fun _ => Imp.refl _) (fun _ => (by repeat (first | exact Imp.refl _ | exact Imp.none _ | apply Imp.pull (by repeat (first | exact Ext.here | apply Ext.there)) | apply Imp.trans Imp.drop))) ?_
                rintro ⟨⟩ -
                refine DG.eff1 ?_
                refine Chg.callo rfl rfl call49 rfl ((by repeat (first | exact Imp.refl _ | exact Imp.none _ | apply Imp.pull (by repeat (first | exact Ext.here | apply Ext.there)) | apply Imp.trans Imp.drop))) (rfill_bad W _ (bs := bs) (ws := B) hx) rfl (fun _ => (by repeat (first | exact Imp.refl _ | exact Imp.none _ | apply Imp.pull (by repeat (first | exact Ext.here | apply Ext.there)) | apply Imp.trans Imp.drop))) (fun _ => Imp.refl _) (fun _ => (by repeat (first | exact Imp.refl _ | exact Imp.none _ | apply Imp.pull (by repeat (first | exact Ext.here | apply Ext.there)) | apply Imp.trans Imp.drop))) ?_
                rintro ⟨⟩ -
                refine DG.look rfl rfl (Yield.as (Yield.neq rfl rfl) (bF (by omega))) rfl ?_
                refine DG.look rfl rfl (Yield.move rfl) rfl ?_
                refine DG.look rfl rfl (Yield.move rfl) rfl ?_
                refine DG.look rfl rfl (Yield.fieldAddr fa50_5 rfl) rfl ?_
                refine DG.look rfl rfl (Yield.load (v := .slice Ba B.length Bc) ti48 rfl (Cel.of_blk (b := b10) (by repeat (first | exact Ext.here | apply Ext.there)) rfl)) rfl ?_
                refine DG.look rfl rfl (Yield.len_slice Try.underlying48 rfl rfl) rfl ?_
                refine DG.look rfl rfl (Yield.slice_hi Try.underlying48 ti5 rfl (Bound.some rfl) (by omega) (by omega)) rfl ?_
                refine DG.look rfl rfl (Yield.toStr (bs := B) Try.underlying48 Try.underlying9 Try.underlying5 rfl (SlR.preB (bs := [3]) (SlR.of_osl (a := some ⟨b20, o20, none⟩) (by repeat (first | exact Ext.here | apply Ext.there))))) rfl ?_
                refine DG.look rfl rfl (Yield.fieldAddr fa50_5 rfl) rfl ?_
                refine DG.look rfl rfl (Yield.load (v := .slice Ba B.length Bc) ti48 rfl (Cel.of_blk (b := b10) (by repeat (first | exact Ext.here | apply Ext.there)) rfl)) rfl ?_
                refine DG.look rfl rfl (Yield.toStr (bs := B) Try.underlying48 Try.underlying9 Try.underlying5 rfl (SlAt.old hB (by repeat (first | exact Ext.here | apply Ext.there)))) rfl ?_
                refine DG.look rfl rfl (by first | exact Yield.str_samen rfl rfl | exact Yield.str_neq rfl rfl) rfl ?_
                refine DG.look rfl rfl (by first | exact Yield.pick_t rfl rfl | exact Yield.pick_f rfl rfl | exact Yield.pick rfl (fun _ => rfl) (fun _ => rfl)) rfl ?_
                refine DG.done ?_
                refine QG.then ?_
                refine CG.cond_f rfl ?_
                refine CG.skip ?_
                refine QG.then ?_
                have hBl : (B ++ [3]).length = B.length + 1 := by simp
                refine CG.seq ?_
                refine CG.region ?_
                refine OG.yield (Yield.assign rfl) rfl ?_
                refine OG.nil ?_
                refine QG.then ?_
                refine CG.block ?_
                refine CG.loop (fun s : Nat × List UInt8 => s.2.length = B.length + 1 ∧ s.1 ≤ B.length + 1) (fun s => [(1, .slice (some ⟨b, o, none⟩) ops.length c1), (5, .pointer (some ⟨t, 0, none⟩)), (7, .pointer (some ⟨r, 0, none⟩)), (9, .int .i64 i), (20, .slice (some ⟨b20, o20, none⟩) (B.length + 1 : Nat) c20), (21, .int .i64 s.1)]) (fun s => oby 5 (some ⟨b20, o20, none⟩) c20 s.2 :: St.G W r n ⟨i, t, bs⟩) (fun s => B.length + 1 - s.1) (0, B ++ [3]) ⟨hBl, Nat.zero_le _⟩ (by rw [← hBl]; exact (by repeat (first | exact Env.sub_nil _ | refine Env.sub_cons rfl ?_))) (by repeat (first | exact Imp.refl _ | exact Imp.none _ | apply Imp.pull (by repeat (first | exact Ext.here | apply Ext.there)) | apply Imp.trans Imp.drop)) ?_
                rintro ⟨j, xs⟩ ⟨hxl, hj⟩
                dsimp only at hxl hj ⊢
                refine CG.seq ?_
                refine CG.seq ?_
                refine CG.region ?_
                refine OG.yield (Yield.move rfl) rfl ?_
                refine OG.yield (Yield.move rfl) rfl ?_
                refine OG.yield (Yield.len_slice Try.underlying48 rfl rfl) rfl ?_
                refine OG.yield (by first | exact Yield.as (Yield.lss rfl rfl) (bT (by omega)) | exact Yield.as (Yield.lss rfl rfl) (bF (by omega)) | exact Yield.lss rfl rfl) rfl ?_
                refine OG.nil ?_
                refine QG.then ?_
                refine CG.cond rfl (fun hc => ?_) (fun hc => ?_)
                · try replace hc := of_decide_eq_true hc
                  refine CG.skip ?_
                  refine QG.then ?_
                  refine CG.seq ?_
                  refine CG.block ?_
                  refine CG.region ?_
                  refine OG.yield (Yield.move rfl) rfl ?_
                  refine OG.yield (Yield.move rfl) rfl ?_
                  refine OG.yield (Yield.index_slice Try.underlying48 ti5 rfl rfl (by omega) (by omega)) rfl ?_
                  refine OG.eff (Eff.storeByteS (i := j) (z := 77) (bs := xs) ti5 (show o20 + (j : Int).toNat * 1 = o20 + j by omega) rfl rfl (by repeat (first | exact Foc.here | apply Foc.there)) (by omega)) rfl ?_
                  rintro ⟨⟩ -
                  refine OG.nil ?_
                  refine QG.block_normal ?_
                  refine QG.then ?_
                  refine CG.region ?_
                  refine OG.yield (Yield.move rfl) rfl ?_
                  refine OG.yield (Yield.add rfl rfl (w64 (by omega) (by omega))) rfl ?_
                  refine OG.yield (Yield.assign rfl) rfl ?_
                  refine OG.nil ?_
                  exact QG.next (j + 1, xs.set j 77) ⟨by simp only; rw [List.length_set]; exact hxl, by simp only; omega⟩ (by simp only; omega) (by repeat (first | exact Env.sub_nil _ | refine Env.sub_cons rfl ?_)) (by repeat (first | exact Imp.refl _ | exact Imp.none _ | apply Imp.pull (by repeat (first | exact Ext.here | apply Ext.there)) | apply Imp.trans Imp.drop))
                · try replace hc := of_decide_eq_false hc
                  refine CG.exit ?_
                  refine QG.pass_exit ?_
                  refine QG.pass_exit ?_
                  refine QG.block_exit ?_
                  refine QG.block_normal ?_
                  refine QG.block_normal ?_
                  refine QG.then ?_
                  refine CG.region ?_
                  refine OG.yield (Yield.move rfl) rfl ?_
                  refine OG.yield (Yield.add rfl rfl (w64 (by omega) (by omega))) rfl ?_
                  refine OG.yield (Yield.assign rfl) rfl ?_
                  refine OG.nil ?_
                  exact QG.next ⟨i + 1, t, bs⟩ ⟨by simp only; omega, hbl⟩ (by simp only; omega) (by repeat (first | exact Env.sub_nil _ | refine Env.sub_cons rfl ?_)) (by repeat (first | exact Imp.refl _ | exact Imp.none _ | apply Imp.pull (by repeat (first | exact Ext.here | apply Ext.there)) | apply Imp.trans Imp.drop))
            · try replace hc := of_decide_eq_false hc
              refine CG.seq ?_
              refine CG.region ?_
              refine OG.yield (Yield.move rfl) rfl ?_
              refine OG.callo call50 rfl ((by repeat (first | exact Imp.refl _ | exact Imp.none _ | apply Imp.pull (by repeat (first | exact Ext.here | apply Ext.there)) | apply Imp.trans Imp.drop))) (clone_spec W _ (bs := bs)) rfl ?_
              rintro u -
              refine OG.yield (Yield.assign rfl) rfl ?_
              refine OG.nil ?_
              refine QG.then ?_
              refine CG.seq ?_
              refine CG.seq ?_
              refine CG.region ?_
              refine OG.yield (Yield.move rfl) rfl ?_
              refine OG.yield (by first | exact Yield.ptr_nil Try.underlying44 rfl rfl | exact Yield.nil_nil Try.underlying44 rfl rfl) rfl ?_
              refine OG.nil ?_
              refine QG.then ?_
              refine CG.cond_f rfl ?_
              refine CG.skip ?_
              refine QG.then ?_
              refine CG.seq ?_
              refine CG.region ?_
              refine OG.yield (Yield.move rfl) rfl ?_
              refine OG.effd (Eff.lit [(.const (.int .u8 9)), (.const (.int .u8 9)), (.const (.int .u8 9))] Try.underlying48 ti5 rfl rfl rfl rfl (by decide) (by simp [Value.cells]) (by simp [Value.cells]; rfl)) rfl ?_
              rintro b66 -
              refine OG.callo call48 rfl ((by repeat (first | exact Imp.refl _ | exact Imp.none _ | apply Imp.pull (by repeat (first | exact Ext.here | apply Ext.there)) | apply Imp.trans Imp.drop))) (fill_ok W _ (m := t) (bs := bs) (k := 0) (ws := [9, 9, 9]) (by exact RdB.of_osl (a := some ⟨b66, 0, none⟩) (by repeat (first | exact Ext.here | apply Ext.there)) rfl rfl) (by omega) (by decide)) rfl ?_
              rintro ⟨⟩ -
              refine OG.nil ?_
              refine QG.then ?_
              refine CG.seq ?_
              refine CG.region ?_
              refine OG.yield (Yield.move rfl) rfl ?_
              refine OG.callo call27 rfl ((by repeat (first | exact Imp.refl _ | exact Imp.none _ | apply Imp.pull (by repeat (first | exact Ext.here | apply Ext.there)) | apply Imp.trans Imp.drop))) (store_ok W _ (m := t) (s := 4) (a := 0) (v := 5) (by decide) (by decide) (by omega) (by decide)) rfl ?_
              rintro ⟨⟩ -
              refine OG.nil ?_
              refine QG.then ?_
              refine CG.region ?_
              refine OG.yield (Yield.move rfl) rfl ?_
              refine OG.yield (Yield.assign rfl) rfl ?_
              refine OG.nil ?_
              refine QG.block_normal ?_
              refine QG.block_normal ?_
              refine QG.then ?_
              refine CG.region ?_
              refine OG.yield (Yield.move rfl) rfl ?_
              refine OG.yield (Yield.add rfl rfl (w64 (by omega) (by omega))) rfl ?_
              refine OG.yield (Yield.assign rfl) rfl ?_
              refine OG.nil ?_
              exact QG.next ⟨i + 1, u, bs⟩ ⟨by simp only; omega, hbl⟩ (by simp only; omega) (by repeat (first | exact Env.sub_nil _ | refine Env.sub_cons rfl ?_)) (by repeat (first | exact Imp.refl _ | exact Imp.none _ | apply Imp.pull (by repeat (first | exact Ext.here | apply Ext.there)) | apply Imp.trans Imp.drop))
    · skip
      refine CG.region ?_
      refine OG.yield (Yield.move rfl) rfl ?_
      refine OG.yield (Yield.move rfl) rfl ?_
      refine OG.yield (Yield.len_slice Try.underlying43 rfl rfl) rfl ?_
      refine OG.yield (by first | exact Yield.as (Yield.lss rfl rfl) (bT (by omega)) | exact Yield.as (Yield.lss rfl rfl) (bF (by omega)) | exact Yield.lss rfl rfl) rfl ?_
      refine OG.yield (Yield.move rfl) rfl ?_
      refine OG.guard_yes rfl rfl rfl (by decide) ?_
      refine OG.yield (Yield.move rfl) rfl ?_
      refine OG.guard_yes rfl rfl rfl (by decide) ?_
      refine OG.yield (by first | exact Yield.as (Yield.lss rfl rfl) (bT (by omega)) | exact Yield.as (Yield.lss rfl rfl) (bF (by omega)) | exact Yield.lss rfl rfl) rfl ?_
      refine OG.yield (by first | exact Yield.pick_t rfl rfl | exact Yield.pick_f rfl rfl | exact Yield.pick rfl (fun _ => rfl) (fun _ => rfl)) rfl ?_
      refine OG.nil ?_
      refine QG.then ?_
      refine CG.cond_f rfl ?_
      refine CG.exit ?_
      refine QG.pass_exit ?_
      refine QG.pass_exit ?_
      refine QG.block_exit ?_
      exact QG.mid ⟨i, t, bs⟩ hbl (by repeat (first | exact Env.sub_nil _ | refine Env.sub_cons rfl ?_)) (by repeat (first | exact Imp.refl _ | exact Imp.none _ | apply Imp.pull (by repeat (first | exact Ext.here | apply Ext.there)) | apply Imp.trans Imp.drop))
    · skip
      refine CG.region ?_
      refine OG.yield (Yield.move rfl) rfl ?_
      refine OG.yield (Yield.move rfl) rfl ?_
      refine OG.yield (Yield.len_slice Try.underlying43 rfl rfl) rfl ?_
      refine OG.yield (by first | exact Yield.as (Yield.lss rfl rfl) (bT (by omega)) | exact Yield.as (Yield.lss rfl rfl) (bF (by omega)) | exact Yield.lss rfl rfl) rfl ?_
      refine OG.yield (Yield.move rfl) rfl ?_
      refine OG.guard_no rfl rfl rfl rfl rfl (by decide) (by decide) ?_
      refine OG.guard_no rfl rfl rfl rfl rfl (by decide) (by decide) ?_
      refine OG.yield (by first | exact Yield.pick_t rfl rfl | exact Yield.pick_f rfl rfl | exact Yield.pick rfl (fun _ => rfl) (fun _ => rfl)) rfl ?_
      refine OG.nil ?_
      refine QG.then ?_
      refine CG.cond_f rfl ?_
      refine CG.exit ?_
      refine QG.pass_exit ?_
      refine QG.pass_exit ?_
      refine QG.block_exit ?_
      exact QG.mid ⟨i, t, bs⟩ hbl (by repeat (first | exact Env.sub_nil _ | refine Env.sub_cons rfl ?_)) (by repeat (first | exact Imp.refl _ | exact Imp.none _ | apply Imp.pull (by repeat (first | exact Ext.here | apply Ext.there)) | apply Imp.trans Imp.drop))
  rintro ⟨i, t, bs⟩ hbl
  dsimp only at hbl ⊢
  refine CG.seq ?_
  refine CG.region ?_
  refine OG.yield (Yield.move rfl) rfl ?_
  refine OG.yield (Yield.move rfl) rfl ?_
  refine OG.callo call51 rfl ((by repeat (first | exact Imp.refl _ | exact Imp.none _ | apply Imp.pull (by repeat (first | exact Ext.here | apply Ext.there)) | apply Imp.trans Imp.drop))) (same_spec W _ (n := n) (bs := bs)) rfl ?_
  rintro ⟨⟩ -
  refine OG.yield (Yield.assign rfl) rfl ?_
  refine OG.nil ?_
  refine QG.then ?_
  refine CG.ret ?_
  exact QG.ret1 rfl rfl () trivial rfl (by repeat (first | exact Imp.refl _ | exact Imp.none _ | apply Imp.pull (by repeat (first | exact Ext.here | apply Ext.there)) | apply Imp.trans Imp.drop))
open Go.ChangeShapes Go.WideShapes Go.ChangeAt
theorem own : ownKnob Try.prog.godebug = none := by kernel_rfl
theorem laid : laidOutB Try.prog = true := by kernel_rfl
set_option maxRecDepth 100000 in
theorem lifted (os : Os) (started : os.Started) (H : Type) (enc : TypeId × Value → H) :
    ReturnsInHanded {} Try.checked os 11 .any (Rows.memoryPlaysSpec.pre6 enc Try.prog Try.f11 Rows.memoryPlaysRow.domain false) (Rows.memoryPlaysSpec.post enc Try.prog Try.f11 false true false false) := by
  refine returnsInHanded_of_change_sized (C := Try.checked) own started (by kernel_rfl) Try.func11
    (ChangeSpec.witness6 (enc := enc) (C := Try.checked) false ⟨#[], #[.int .i64 0, .slice none 0 0], []⟩ 8 (by kernel_rfl) (by kernel_rfl) (by kernel_rfl) (by kernel_rfl)) ?_
  intro W base args ds gs before hval0 hW hcnd hsz0 _
  have hsz : (DataW.weightsEach Try.prog (Try.f11.params.toList ++ Rows.memoryPlaysSpec.plain.varTypes Try.prog) (ds ++ gs)).all (· ≤ reachBytes) = true := hsz0
  have hval : ∀ (j : Nat) t v, Try.f11.params[j]? = some t → args[j]? = some v → Value.okWide Try.prog W .any base t v := hval0
  have hW' := hW
  obtain ⟨p, q, hA0, hV, rfl, hfz, hnd⟩ := hW
  have hA : DataW.TrodAll enc Try.prog W 0 (fun _ => true) true Try.f11.params.toList args.toList ds p := hA0
  rw [Try.params11] at hA hval hsz
  obtain ⟨v0, vs0, d0, ds0, p0, q0, hargs, rfl, rfl, h0, r0⟩ := trodAll_cons hA
  obtain ⟨v1, vs1, d1, ds1, p1, q1, rfl, rfl, rfl, h1, r1⟩ := trodAll_cons r0
  obtain ⟨rfl, rfl, rfl⟩ := trodAll_nil r1
  obtain rfl : args = #[v0, v1] := by cases args; simp_all
  obtain ⟨rfl, rfl⟩ := trodVars_none hV
  obtain ⟨a0, rfl, rfl, rfl, w0⟩ := open_int Try.underlying3 (hval 0 3 v0 rfl rfl) h0
  have k1 := weights_le hsz 1 (t := 43) (d := d1) rfl rfl
  have s1 := Opn.param Try.underlying43 (MOp.list W) (hval 1 43 v1 rfl rfl) h1 k1
  obtain ⟨x1, c1, ops, e1, l1, ok1, s1, m1⟩ := s1
  cases e1
  clear hA0 hval0 hsz0 hsz
  refine ((walk W s1 ok1) W (Sat.start W)).mono fun e W' he => ?_
  obtain ⟨_, _, he, hs⟩ := he
  subst he
  exact ⟨_, rfl, law_post laid (params_ok (by kernel_rfl)) rfl Try.underlying4 hW' rfl rfl (Sat.below (by repeat (first | exact Ext.here | apply Ext.there)) hs)⟩
theorem over : Rows.memoryPlaysRow.holds Try.pinned (OpenSpec.ofChange Rows.memoryPlaysSpec) :=
  OpenClaim.holds_of_wide 11 Try.f11 rfl rfl rfl rfl rfl rfl rfl ⟨rfl, rfl, rfl, rfl, rfl⟩ rfl rfl rfl rfl rfl (by kernel_rfl) Try.func11 (by kernel_rfl)
    (of_decide_eq_true (by kernel_rfl)) (by unfold Func.isWrapper; first | (rw [if_pos (by decide +kernel)]; kernel_rfl) | (rw [if_neg (by decide +kernel)]; exact ⟨rfl, rfl⟩))
    (fun os started H enc _ => lifted os started H enc)
theorem proved : Rows.MemoryPlaysSaid := over
#print axioms proved
end Go.Proofs.Ytjdaglakhiifjaa.memoryPlays
