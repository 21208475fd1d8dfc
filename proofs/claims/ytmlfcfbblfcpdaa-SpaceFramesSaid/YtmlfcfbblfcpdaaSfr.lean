/- SpaceFrames: at all times a space has of its quota one frame for its root, one for each page, and one for each second table: the law returns true and changes nothing that was there. -/
import Derived.Test.YtmlfcfbblfcpdaaSlw
namespace Go.Proofs.Ytmlfcfbblfcpdaa.spaceFrames
open Go Go.Sl Go.RowKit Go.Proofs Go.Proofs.Ytmlfcfbblfcpdaa.T Go.Proofs.Ytmlfcfbblfcpdaa.Me Go.Proofs.Ytmlfcfbblfcpdaa.Pe Go.Proofs.Ytmlfcfbblfcpdaa.Pg Go.Proofs.Ytmlfcfbblfcpdaa.Sp
open Go.Proofs.Ytmlfcfbblfcpdaa.Fz (iv)
set_option linter.unusedVariables false
set_option linter.unusedSimpArgs false
set_option maxRecDepth 100000
structure FI (o : Ob) (th tb : List (Int × Bool)) : Prop where
  nd : (th.map (·.1)).Nodup
  ndt : (tb.map (·.1)).Nodup
  has : ∀ p, mget th p = if (vI o 0 p).isSome then some true else none
  hast : ∀ g, mget tb g = if 0 ≤ g ∧ g < 64 ∧ o.ts 0 g.toNat = true then some true else none
  len : th.length = cN (fun p => (o.vw 0 p).isSome) 4096
  lent : tb.length = cN (o.ts 0) 64
  one : ∀ p, o.vw 1 p = none
  onet : used o 1 = 1
theorem FI.start {fr : Nat} : FI ⟨fun _ _ => none, fun _ _ => false, fr⟩ [] [] :=
  ⟨by simp, by simp, fun p => (by unfold vI; simp only; split <;> rfl), fun g => (by simp [mget_nil]), (cN_zero 4096).symm, (cN_zero 64).symm, fun _ => rfl, used_zero⟩
theorem vI_up {o : Ob} {q fr : Nat} {v : Option (Nat × List UInt8)} {ts : Nat → Nat → Bool} (hq : q < 4096) (p : Int) : vI ⟨up2 o.vw 0 q v, ts, fr⟩ 0 p = if (q : Int) = p then v else vI o 0 p := by
  unfold vI
  dsimp only
  by_cases h : (q : Int) = p
  · subst h; rw [if_pos rfl, if_pos (by omega), Int.toNat_natCast, up2_at]
  · rw [if_neg h]
    by_cases h2 : 0 ≤ p ∧ p < 4096
    · rw [if_pos h2, if_pos h2, up2_ne (by omega)]
    · rw [if_neg h2, if_neg h2]
theorem FI.map {o : Ob} {th tb : List (Int × Bool)} (K : FI o th tb) {q m fr : Nat} (hq : q < 4096) (hn : o.vw 0 q = none) : FI ⟨up2 o.vw 0 q (some (m, zs)), up2 o.ts 0 (q / 64) true, fr⟩ (mset th (q : Int) true) (mset tb ((q / 64 : Nat) : Int) true) := by
  refine ⟨mset_nodup K.nd _ _, mset_nodup K.ndt _ _, fun p => ?_, fun g => ?_, ?_, ?_, fun p => ?_, ?_⟩
  · rw [mget_mset, K.has p, vI_up hq p]
    by_cases h : (q : Int) = p <;> simp [h]
  · rw [mget_mset, K.hast g]
    dsimp only
    by_cases h : ((q / 64 : Nat) : Int) = g
    · subst h; rw [if_pos rfl, if_pos ⟨by omega, by omega, by rw [Int.toNat_natCast, up2_at]⟩]
    · rw [if_neg h]
      by_cases h2 : 0 ≤ g ∧ g < 64
      · have e : up2 o.ts 0 (q / 64) true 0 g.toNat = o.ts 0 g.toNat := up2_ne (by omega)
        simp only [e]
      · rw [if_neg (fun x => h2 ⟨x.1, x.2.1⟩), if_neg (fun x => h2 ⟨x.1, x.2.1⟩)]
  · have := cN_up2 (h := o.vw) (k := 0) (p := q) (k' := 0) (v := some (m, zs)) hq
    rw [mset_length, K.has, vI_nat hq, hn]
    rw [hn] at this
    simp at this ⊢
    have := K.len
    omega
  · have := cN_ts (h := o.ts) (k := 0) (g := q / 64) (k' := 0) (m := 64) (by omega)
    rw [mset_length, K.hast, Int.toNat_natCast]
    dsimp only
    have h2 := K.lent
    cases ht : o.ts 0 (q / 64)
    · simp [ht] at this ⊢; omega
    · rw [if_pos (by rw [if_pos ⟨by omega, by omega, rfl⟩]; rfl)]; simp [ht] at this; omega
  · dsimp only; rw [up2_ne (by omega)]; exact K.one p
  · have h1 := K.onet
    unfold used at h1 ⊢
    dsimp only
    rw [cN_congr (f := up2 o.ts 0 (q / 64) true 1) (g := o.ts 1) 64 fun g _ => up2_ne (by omega), cN_congr (f := fun p => (up2 o.vw 0 q (some (m, zs)) 1 p).isSome) (g := fun p => (o.vw 1 p).isSome) 4096 fun p _ => by show (up2 o.vw 0 q (some (m, zs)) 1 p).isSome = _; rw [up2_ne (by omega)]]
    exact h1
theorem FI.unmap {o : Ob} {th tb : List (Int × Bool)} (K : FI o th tb) {q fr : Nat} {x : Nat × List UInt8} (hq : q < 4096) (hx : o.vw 0 q = some x) : FI ⟨up2 o.vw 0 q none, o.ts, fr⟩ (mdel th (q : Int)) tb := by
  refine ⟨mdel_nodup K.nd _, K.ndt, fun p => ?_, K.hast, ?_, K.lent, fun p => ?_, ?_⟩
  · rw [mget_mdel K.nd, K.has p, vI_up hq p]
    by_cases h : (q : Int) = p <;> simp [h]
  · have := cN_up2 (h := o.vw) (k := 0) (p := q) (k' := 0) (v := none) hq
    rw [mdel_length, K.has, vI_nat hq, hx]
    rw [hx] at this
    simp at this ⊢
    have := K.len
    omega
  · dsimp only; rw [up2_ne (by omega)]; exact K.one p
  · have h1 := K.onet
    unfold used at h1 ⊢
    dsimp only
    rw [cN_congr (f := fun p => (up2 o.vw 0 q none 1 p).isSome) (g := fun p => (o.vw 1 p).isSome) 4096 fun p _ => by show (up2 o.vw 0 q none 1 p).isSome = _; rw [up2_ne (by omega)]]
    exact h1
theorem FI.nomap {o : Ob} {th tb : List (Int × Bool)} (K : FI o th tb) {p : Int} (hn : vI o 0 p = none) : mdel th p = th := by
  have : mget th p = none := by rw [K.has, hn]; rfl
  unfold mdel
  unfold mget at this
  cases h : midx th p with
  | none => rfl
  | some i =>
    rw [h] at this
    have hi : i < th.length := (List.findIdx?_eq_some_iff_getElem.1 h).1
    simp [hi] at this
theorem FI.write {o : Ob} {th tb : List (Int × Bool)} (K : FI o th tb) {o' : Ob} (h1 : ∀ k p, (o'.vw k p).isSome = (o.vw k p).isSome) (h2 : o'.ts = o.ts) : FI o' th tb := by
  refine ⟨K.nd, K.ndt, fun p => ?_, fun g => by rw [h2]; exact K.hast g, ?_, by rw [h2]; exact K.lent, fun p => ?_, by rw [used_some h1 h2]; exact K.onet⟩
  · rw [K.has p]
    have : (vI o' 0 p).isSome = (vI o 0 p).isSome := by unfold vI; split <;> simp [h1]
    rw [this]
  · rw [K.len]; exact cN_congr _ fun p _ => (h1 0 p).symm
  · have := h1 1 p
    rw [K.one p] at this
    cases h : o'.vw 1 p with
    | none => rfl
    | some x => rw [h] at this; cases this
abbrev FS := Ob × List (Int × Bool) × List (Int × Bool) × St
/-- What lies in the memory. -/
abbrev GF (W : World) (m f t bx bw s0 r0 s1 r1 : Nat) (sbb so : Nat) (sc : Nat) (ra : Option Addr) (rc rth rtb : Nat) (s : FS) : List HProp :=
  blk bx [.pointer (some ⟨m, 0, none⟩), .pointer (some ⟨f, 0, none⟩), .pointer (some ⟨t, 0, none⟩), .slice (some ⟨sbb, so, none⟩) 2 sc, .pointer (some ⟨bw, 0, none⟩), .slice ra 2 rc] 70 ::
  osl 81 1 (some ⟨sbb, so, none⟩) sc 2 [.pointer (some ⟨s0, 0, none⟩), .pointer (some ⟨s1, 0, none⟩)] :: sb s0 0 r0 m f t :: sb s1 1 r1 m f t :: hmap vi vb rth s.2.1 :: hmap vi vb rtb s.2.2.1 :: WG m f t 30 [16, 9] s.2.2.2 [old W]
set_option maxHeartbeats 8000000 in
theorem walk (W : World) {a0 : Option Addr} {c0 : Nat} {ops : List SOp} (hops : SlAt W 10 a0 ops.length ((ops.map SOp.cells).flatten)) (hok : ∀ o ∈ ops, o.OK W) :
    Ctr Try.prog W 7 [.slice a0 ops.length c0] [old W] (fun _ : Unit => True) (fun _ => .bool true) (fun _ => [old W]) := by
  have hq : ∀ q ∈ ([16, 9] : List Int), 0 ≤ q ∧ q ≤ 1024 := by decide
  refine Ctr.of_body Try.func7 rfl Try.ntmps7 rfl ?_
  refine CG.seq ?_
  refine CG.region ?_
  refine OG.yield (Yield.assign rfl) rfl ?_
  refine OG.nil ?_
  refine QG.then ?_
  refine CG.seq ?_
  refine CG.seq ?_
  refine CG.region ?_
  refine OG.callo call23 rfl (Imp.refl _) (works_spec W _) rfl ?_
  rintro ⟨⟩ -
  refine OG.yield (Yield.not rfl) rfl ?_
  refine OG.nil ?_
  refine QG.then ?_
  refine CG.cond_f rfl ?_
  refine CG.skip ?_
  refine QG.then ?_
  refine CG.seq ?_
  refine CG.region ?_
  refine OG.effd (Eff.lit [.const (.int .i64 16), .const (.int .i64 9)] (vs := [.int .i64 16, .int .i64 9]) (cells := iv [16, 9]) Try.underlying63 ti3 rfl rfl rfl rfl (by decide) (by simp [Value.cells]) (by simp [Value.cells]; rfl)) rfl ?_
  rintro b12 -
  refine OG.callo call24 rfl (Imp.refl _) (made2 W _ (n := 30) (q0 := 16) (q1 := 9) (by decide) (by decide) (by decide) (by exact SlR.of_osl (a := some ⟨b12, 0, none⟩) (by repeat (first | exact Ext.here | apply Ext.there)))) rfl ?_
  rintro ⟨m, f, t, bx, bw, sa, sc, ra, rc, s0, r0, s1, r1, σ⟩ L
  dsimp only at L ⊢
  refine OG.yield (Yield.move rfl) rfl ?_
  refine OG.yield (Yield.extract rfl rfl) rfl ?_
  refine OG.yield (Yield.extract rfl rfl) rfl ?_
  refine OG.yield (Yield.assign rfl) rfl ?_
  refine OG.yield (Yield.assign rfl) rfl ?_
  refine OG.nil ?_
  refine QG.then ?_
  refine CG.seq ?_
  refine CG.seq ?_
  refine CG.region ?_
  refine OG.yield (Yield.move rfl) rfl ?_
  refine OG.yield (Yield.not rfl) rfl ?_
  refine OG.yield (Yield.move rfl) rfl ?_
  refine OG.guard_yes rfl rfl rfl (by decide) ?_
  refine OG.yield (Yield.move rfl) rfl ?_
  refine OG.guard_yes rfl rfl rfl (by decide) ?_
  refine OG.yield (Yield.nilCheck rfl) rfl ?_
  refine OG.guard_yes rfl rfl rfl (by decide) ?_
  refine OG.yield (Yield.fieldAddr fa70_3 rfl) rfl ?_
  refine OG.guard_yes rfl rfl rfl (by decide) ?_
  refine OG.yield (Yield.load ti66 rfl (by first | exact Cel.of_blk (by repeat (first | exact Ext.here | apply Ext.there)) rfl | exact (hrow (by repeat (first | exact Ext.here | apply Ext.there))) _ _ rfl)) rfl ?_
  refine OG.guard_yes rfl rfl rfl (by decide) ?_
  refine OG.yield (Yield.len_slice Try.underlying66 rfl rfl) rfl ?_
  refine OG.guard_yes rfl rfl rfl (by decide) ?_
  refine OG.yield (by first | exact Yield.as (Yield.neq rfl rfl) (bT (by omega)) | exact Yield.as (Yield.neq rfl rfl) (bF (by omega)) | exact Yield.neq rfl rfl) rfl ?_
  refine OG.yield (by first | exact Yield.pick_t rfl rfl | exact Yield.pick_f rfl rfl | exact Yield.pick rfl (fun _ => rfl) (fun _ => rfl)) rfl ?_
  refine OG.nil ?_
  refine QG.then ?_
  refine CG.cond_f rfl ?_
  refine CG.skip ?_
  refine QG.then ?_
  refine CG.seq ?_
  refine CG.region ?_
  refine OG.effd (Eff.makeMap vi vb) rfl ?_
  rintro rth -
  refine OG.yield (Yield.assign rfl) rfl ?_
  refine OG.nil ?_
  refine QG.then ?_
  refine CG.seq ?_
  refine CG.region ?_
  refine OG.effd (Eff.makeMap vi vb) rfl ?_
  rintro rtb -
  refine OG.yield (Yield.assign rfl) rfl ?_
  refine OG.nil ?_
  refine QG.then ?_
  refine CG.seq ?_
  refine CG.seq ?_
  refine CG.pure (fun w hw => SlR.shape (SlR.of_osl (W0 := W) (a := sa) (by repeat (first | exact Ext.here | apply Ext.there))) (by simp) w hw) ?_
  rintro ⟨sbb, so, rfl⟩
  refine CG.region ?_
  refine OG.yield (Yield.assign rfl) rfl ?_
  refine OG.nil ?_
  refine QG.then ?_
  refine CG.block ?_
  refine CG.loop (fun s : Nat × FS => s.1 ≤ ops.length ∧ s.1 ≤ 100 ∧ Lk 30 [16, 9] (rt2 r0 r1) s.2.1 s.1 s.2.2.2.2 ∧ FI s.2.1 s.2.2.1 s.2.2.2.1) (fun s => [(0, .slice a0 ops.length c0), (3, .pointer (some ⟨bx, 0, none⟩)), (5, .map (some rth)), (6, .map (some rtb)), (7, .int .i64 s.1)]) (fun s => GF W m f t bx bw s0 r0 s1 r1 sbb so sc ra rc rth rtb s.2) (fun s => ops.length - s.1) (0, ⟨fun _ _ => none, fun _ _ => false, 30 - 2⟩, [], [], σ) ⟨Nat.zero_le _, Nat.zero_le _, L, FI.start⟩ (by repeat (first | exact Env.sub_nil _ | refine Env.sub_cons rfl ?_)) (by repeat (first | exact Imp.refl _ | exact Imp.none _ | apply Imp.pull (by repeat (first | exact Ext.here | apply Ext.there)) | apply Imp.trans Imp.drop)) ?_
  rintro ⟨i, o, th, tb, σ⟩ ⟨hi, hi1, L, K⟩
  dsimp only at hi hi1 L K ⊢
  refine CG.seq ?_
  refine CG.seq ?_
  rcases loop_head (i) (ops.length) 100 with hh | hh | hh
  · skip
    refine CG.region ?_
    refine OG.yield (Yield.move rfl) rfl ?_
    refine OG.yield (Yield.move rfl) rfl ?_
    refine OG.yield (Yield.len_slice Try.underlying59 rfl rfl) rfl ?_
    refine OG.yield (by first | exact Yield.as (Yield.lss rfl rfl) (bT (by omega)) | exact Yield.as (Yield.lss rfl rfl) (bF (by omega)) | exact Yield.lss rfl rfl) rfl ?_
    refine OG.yield (Yield.move rfl) rfl ?_
    refine OG.guard_yes rfl rfl rfl (by decide) ?_
    refine OG.yield (Yield.move rfl) rfl ?_
    refine OG.guard_yes rfl rfl rfl (by decide) ?_
    refine OG.yield (by first | exact Yield.as (Yield.lss rfl rfl) (bT (by omega)) | exact Yield.as (Yield.lss rfl rfl) (bF (by omega)) | exact Yield.lss rfl rfl) rfl ?_
    refine OG.yield (by first | exact Yield.pick_t rfl rfl | exact Yield.pick_f rfl rfl | exact Yield.pick rfl (fun _ => rfl) (fun _ => rfl)) rfl ?_
    refine OG.nil ?_
    refine QG.then ?_
    refine CG.cond_t rfl ?_
    refine CG.skip ?_
    refine QG.then ?_
    refine CG.seq ?_
    refine CG.block ?_
    refine CG.seq ?_
    obtain ⟨h1, h2⟩ := hh
    have hget : ops[i]? = some ops[i] := by simp [h1]
    have hko := hok ops[i] (List.getElem_mem h1)
    generalize ops[i] = op at hget hko
    refine CG.pure (fun w hw => (hops.old (G := GF W m f t bx bw s0 r0 s1 r1 sbb so sc ra rc rth rtb (o, th, tb, σ)) (by repeat (first | exact Ext.here | apply Ext.there))).elem_shape SOp.len (by decide) h1 w hw) ?_
    rintro ⟨b, oo, rfl⟩
    have hrow : ∀ {G R : List HProp}, Ext G (old W) R → Row W G b (oo + i * 10) op.cells := fun x => (hops.old x).elem SOp.len hget
    obtain ⟨hA0, hA1⟩ := wf_u32 hko.Addr
    obtain ⟨hV0, hV1⟩ := wf_u64 hko.V
    obtain ⟨v, hv⟩ : ∃ v : Nat, op.V = (v : Int) := ⟨op.V.toNat, by omega⟩
    obtain ⟨ad, had⟩ : ∃ v : Nat, op.Addr = (v : Int) := ⟨op.Addr.toNat, by omega⟩
    refine CG.region ?_
    refine OG.yield (Yield.move rfl) rfl ?_
    refine OG.yield (Yield.move rfl) rfl ?_
    refine OG.yield (Yield.index_slice Try.underlying59 ti78 rfl rfl (by omega) (by omega)) rfl ?_
    refine OG.yield (Yield.load_agg (vs := op.cells) ti78 rfl (SOp.len _) (hrow (by repeat (first | exact Ext.here | apply Ext.there)))) rfl ?_
    refine OG.effd (Eff.alloc ti78) rfl ?_
    rintro b8 -
    refine OG.eff (Eff.storeAll ti78 rfl rfl (by repeat (first | exact Foc.here | apply Foc.there)) rfl (by simp [SOp.cells, one]) (by first | rfl | simp)) rfl ?_
    rintro ⟨⟩ -
    refine OG.nil ?_
    refine QG.then ?_
    refine CG.cut (fun s : FS => Lk 30 [16, 9] (rt2 r0 r1) s.1 (i + 1) s.2.2.2 ∧ FI s.1 s.2.1 s.2.2.1) (fun s => [(0, .slice (some ⟨b, oo, none⟩) ops.length c0), (3, .pointer (some ⟨bx, 0, none⟩)), (5, .map (some rth)), (6, .map (some rtb)), (7, .int .i64 i)]) (fun s => GF W m f t bx bw s0 r0 s1 r1 sbb so sc ra rc rth rtb s) ?_ ?_
    · skip
      refine CG.seq ?_
      refine CG.region ?_
      refine OG.yield (Yield.fieldAddr fa78_0 rfl) rfl ?_
      refine OG.yield (Yield.load (v := .int .i64 op.Kind) ti3 rfl (Cel.of_blk (by repeat (first | exact Ext.here | apply Ext.there)) rfl)) rfl ?_
      refine OG.nil ?_
      refine QG.then ?_
      refine CG.block ?_
      refine CG.seq ?_
      refine CG.region ?_
      refine OG.yield (by first | exact Yield.as (Yield.eql rfl rfl) (bT (by omega)) | exact Yield.as (Yield.eql rfl rfl) (bF (by omega)) | exact Yield.eql rfl rfl) rfl ?_
      refine OG.yield (Yield.assign rfl) rfl ?_
      refine OG.nil ?_
      refine QG.then ?_
      refine CG.cond rfl (fun hc => ?_) (fun hc => ?_)
      · try replace hc := of_decide_eq_true hc
        refine CG.seq ?_
        rcases map_two 16 o 0 op.Page op.Perm with ⟨hm, hm2⟩ | ⟨hm, hn, -, he⟩
        · skip
          refine CG.draw (.look 0 1 (.look 1 1 (.look 2 1 (.look 3 1 (.look 4 1 (.look 5 1 (.look 6 1 (.look 7 1 (.look 8 1 (.look 9 1 (.eff1 10 false (.look 11 1 (.done))))))))))))) [10] [] ([]) ([]) mixed (by kernel_rfl) (Imp.none _) (Imp.none _) ?_
          refine DG.look rfl rfl (Yield.move rfl) rfl ?_
          refine DG.look rfl rfl (Yield.nilCheck rfl) rfl ?_
          refine DG.look rfl rfl (Yield.fieldAddr fa70_3 rfl) rfl ?_
          refine DG.look rfl rfl (Yield.load ti66 rfl (by first | exact Cel.of_blk (by repeat (first | exact Ext.here | apply Ext.there)) rfl | exact (hrow (by repeat (first | exact Ext.here | apply Ext.there))) _ _ rfl)) rfl ?_
          refine DG.look rfl rfl (Yield.index_slice Try.underlying66 ti81 rfl rfl (by omega) (by omega)) rfl ?_
          refine DG.look rfl rfl (Yield.load (v := .pointer (some ⟨s0, 0, none⟩)) ti81 rfl ((SlR.of_osl (W0 := W) (a := some ⟨sbb, so, none⟩) (by repeat (first | exact Ext.here | apply Ext.there))).cel (i := 0) rfl)) rfl ?_
          refine DG.look rfl rfl (Yield.fieldAddr fa78_2 rfl) rfl ?_
          refine DG.look rfl rfl (Yield.load (v := .int .i64 op.Page) ti3 rfl (Cel.of_blk (by repeat (first | exact Ext.here | apply Ext.there)) rfl)) rfl ?_
          refine DG.look rfl rfl (Yield.fieldAddr fa78_3 rfl) rfl ?_
          refine DG.look rfl rfl (Yield.load (v := .int .i64 op.Perm) ti3 rfl (Cel.of_blk (by repeat (first | exact Ext.here | apply Ext.there)) rfl)) rfl ?_
          refine DG.eff1 ?_
          refine Chg.callo rfl rfl call25 rfl ((by repeat (first | exact Imp.refl _ | exact Imp.none _ | apply Imp.pull (by repeat (first | exact Ext.here | apply Ext.there)) | apply Imp.trans Imp.drop))) (map_spec W _ (s := s0) (m := m) (f := f) (t := t) (k := 0) (r := r0) L hq (qk := 16) rfl rfl op.Page op.Perm) rfl (fun _ => (by repeat (first | exact Imp.refl _ | exact Imp.none _ | apply Imp.pull (by repeat (first | exact Ext.here | apply Ext.there)) | apply Imp.trans Imp.drop))) (fun _ => Imp.refl _) (fun _ => (by repeat (first | exact Imp.refl _ | exact Imp.none _ | apply Imp.pull (by repeat (first | exact Ext.here | apply Ext.there)) | apply Imp.trans Imp.drop))) ?_
          rintro σ2 L2
          refine DG.look rfl rfl (Yield.as (Yield.eql rfl rfl) (v' := .bool false) (bF hm)) rfl ?_
          refine DG.done ?_
          refine QG.then ?_
          refine CG.cond_f rfl ?_
          refine CG.skip ?_
          refine QG.block_normal ?_
          rw [hm2] at L2
          exact QG.mid (o, th, tb, σ2) ⟨L2.mono (Nat.le_succ _), K⟩ (by repeat (first | exact Env.sub_nil _ | refine Env.sub_cons rfl ?_)) (by repeat (first | exact Imp.refl _ | exact Imp.none _ | apply Imp.pull (by repeat (first | exact Ext.here | apply Ext.there)) | apply Imp.trans Imp.drop))
        · skip
          refine CG.draw (.look 0 1 (.look 1 1 (.look 2 1 (.look 3 1 (.look 4 1 (.look 5 1 (.look 6 1 (.look 7 1 (.look 8 1 (.look 9 1 (.eff1 10 false (.look 11 1 (.done))))))))))))) [10] [] ([]) ([]) mixed (by kernel_rfl) (Imp.none _) (Imp.none _) ?_
          refine DG.look rfl rfl (Yield.move rfl) rfl ?_
          refine DG.look rfl rfl (Yield.nilCheck rfl) rfl ?_
          refine DG.look rfl rfl (Yield.fieldAddr fa70_3 rfl) rfl ?_
          refine DG.look rfl rfl (Yield.load ti66 rfl (by first | exact Cel.of_blk (by repeat (first | exact Ext.here | apply Ext.there)) rfl | exact (hrow (by repeat (first | exact Ext.here | apply Ext.there))) _ _ rfl)) rfl ?_
          refine DG.look rfl rfl (Yield.index_slice Try.underlying66 ti81 rfl rfl (by omega) (by omega)) rfl ?_
          refine DG.look rfl rfl (Yield.load (v := .pointer (some ⟨s0, 0, none⟩)) ti81 rfl ((SlR.of_osl (W0 := W) (a := some ⟨sbb, so, none⟩) (by repeat (first | exact Ext.here | apply Ext.there))).cel (i := 0) rfl)) rfl ?_
          refine DG.look rfl rfl (Yield.fieldAddr fa78_2 rfl) rfl ?_
          refine DG.look rfl rfl (Yield.load (v := .int .i64 op.Page) ti3 rfl (Cel.of_blk (by repeat (first | exact Ext.here | apply Ext.there)) rfl)) rfl ?_
          refine DG.look rfl rfl (Yield.fieldAddr fa78_3 rfl) rfl ?_
          refine DG.look rfl rfl (Yield.load (v := .int .i64 op.Perm) ti3 rfl (Cel.of_blk (by repeat (first | exact Ext.here | apply Ext.there)) rfl)) rfl ?_
          refine DG.eff1 ?_
          refine Chg.callo rfl rfl call25 rfl ((by repeat (first | exact Imp.refl _ | exact Imp.none _ | apply Imp.pull (by repeat (first | exact Ext.here | apply Ext.there)) | apply Imp.trans Imp.drop))) (map_spec W _ (s := s0) (m := m) (f := f) (t := t) (k := 0) (r := r0) L hq (qk := 16) rfl rfl op.Page op.Perm) rfl (fun _ => (by repeat (first | exact Imp.refl _ | exact Imp.none _ | apply Imp.pull (by repeat (first | exact Ext.here | apply Ext.there)) | apply Imp.trans Imp.drop))) (fun _ => Imp.refl _) (fun _ => (by repeat (first | exact Imp.refl _ | exact Imp.none _ | apply Imp.pull (by repeat (first | exact Ext.here | apply Ext.there)) | apply Imp.trans Imp.drop))) ?_
          rintro σ2 L2
          refine DG.look rfl rfl (Yield.as (Yield.eql rfl rfl) (v' := .bool true) (by rw [he]; rfl)) rfl ?_
          refine DG.done ?_
          refine QG.then ?_
          refine CG.cond_t rfl ?_
          refine CG.seq ?_
          refine CG.seq ?_
          obtain ⟨q, hq1⟩ : ∃ q : Nat, op.Page = q := ⟨op.Page.toNat, by omega⟩
          rw [he, hq1, Int.toNat_natCast] at L2
          rw [hq1, Int.toNat_natCast] at hn
          have hq4 : q < 4096 := by omega
          refine CG.region ?_
          refine OG.yield (Yield.move rfl) rfl ?_
          refine OG.yield (Yield.fieldAddr fa78_2 rfl) rfl ?_
          refine OG.yield (Yield.load (v := .int .i64 op.Page) ti3 rfl (Cel.of_blk (by repeat (first | exact Ext.here | apply Ext.there)) rfl)) rfl ?_
          refine OG.yield (Yield.as (Yield.lookup vi vb (l := th) Try.underlying91 ti4 keyInt op.Page rfl rfl (by repeat (first | exact Ext.here | apply Ext.there))) (v' := .bool false) (by rw [K.has, hq1, vI_nat hq4, hn]; rfl)) rfl ?_
          refine OG.nil ?_
          refine QG.then ?_
          refine CG.cond_f rfl ?_
          refine CG.skip ?_
          refine QG.then ?_
          refine CG.seq ?_
          refine CG.region ?_
          refine OG.yield (Yield.move rfl) rfl ?_
          refine OG.yield (Yield.fieldAddr fa78_2 rfl) rfl ?_
          refine OG.yield (Yield.load (v := .int .i64 op.Page) ti3 rfl (Cel.of_blk (by repeat (first | exact Ext.here | apply Ext.there)) rfl)) rfl ?_
          refine OG.eff (Eff.mapUpdate vi vb Try.underlying91 keyInt op.Page true rfl rfl rfl (by repeat (first | exact Foc.here | apply Foc.there))) rfl ?_
          rintro ⟨⟩ -
          refine OG.nil ?_
          refine QG.then ?_
          refine CG.region ?_
          refine OG.yield (Yield.move rfl) rfl ?_
          refine OG.yield (Yield.fieldAddr fa78_2 rfl) rfl ?_
          refine OG.yield (Yield.as (Yield.load (v := .int .i64 op.Page) ti3 rfl (Cel.of_blk (by repeat (first | exact Ext.here | apply Ext.there)) rfl)) (v' := .int .i64 q) (by rw [hq1])) rfl ?_
          refine OG.yield (Yield.quo (c := ((q / 64 : Nat) : Int)) rfl rfl (by decide) (quo_nat (b := 64) (by decide) (by omega))) rfl ?_
          refine OG.eff (Eff.mapUpdate vi vb Try.underlying91 keyInt ((q / 64 : Nat) : Int) true rfl rfl rfl (by repeat (first | exact Foc.here | apply Foc.there))) rfl ?_
          rintro ⟨⟩ -
          refine OG.nil ?_
          refine QG.block_normal ?_
          refine QG.mid (_, mset th (q : Int) true, mset tb ((q / 64 : Nat) : Int) true, σ2) ⟨L2.mono (Nat.le_succ _), K.map hq4 hn⟩ (by repeat (first | exact Env.sub_nil _ | refine Env.sub_cons rfl ?_)) ?_
          rw [hq1]
          exact (by repeat (first | exact Imp.refl _ | exact Imp.none _ | apply Imp.pull (by repeat (first | exact Ext.here | apply Ext.there)) | apply Imp.trans Imp.drop))
      · try replace hc := of_decide_eq_false hc
        refine CG.seq ?_
        refine CG.region ?_
        refine OG.yield (by first | exact Yield.as (Yield.eql rfl rfl) (bT (by omega)) | exact Yield.as (Yield.eql rfl rfl) (bF (by omega)) | exact Yield.eql rfl rfl) rfl ?_
        refine OG.yield (Yield.assign rfl) rfl ?_
        refine OG.nil ?_
        refine QG.then ?_
        refine CG.cond rfl (fun hc => ?_) (fun hc => ?_)
        · try replace hc := of_decide_eq_true hc
          refine CG.seq ?_
          refine CG.seq ?_
          rcases unmap_two o 0 op.Page with ⟨hm, hm2, hvn⟩ | ⟨q, x, hq1, hq4, hx, he⟩
          · skip
            refine CG.draw (.look 0 1 (.look 1 1 (.look 2 1 (.look 3 1 (.look 4 1 (.look 5 1 (.look 6 1 (.look 7 1 (.look 10 0 (.look 11 0 (.look 12 0 (.look 13 0 (.eff1 8 false (.look 9 1 (.look 14 1 (.done)))))))))))))))) [8] [] ([hmap vi vb rth th, blk b8 op.cells 78]) ([]) mixed (by kernel_rfl) (by repeat (first | exact Imp.refl _ | exact Imp.none _ | apply Imp.pull (by repeat (first | exact Ext.here | apply Ext.there)) | apply Imp.trans Imp.drop)) (Imp.none _) ?_
            refine DG.look rfl rfl (Yield.move rfl) rfl ?_
            refine DG.look rfl rfl (Yield.nilCheck rfl) rfl ?_
            refine DG.look rfl rfl (Yield.fieldAddr fa70_3 rfl) rfl ?_
            refine DG.look rfl rfl (Yield.load ti66 rfl (by first | exact Cel.of_blk (by repeat (first | exact Ext.here | apply Ext.there)) rfl | exact (hrow (by repeat (first | exact Ext.here | apply Ext.there))) _ _ rfl)) rfl ?_
            refine DG.look rfl rfl (Yield.index_slice Try.underlying66 ti81 rfl rfl (by omega) (by omega)) rfl ?_
            refine DG.look rfl rfl (Yield.load (v := .pointer (some ⟨s0, 0, none⟩)) ti81 rfl ((SlR.of_osl (W0 := W) (a := some ⟨sbb, so, none⟩) (by repeat (first | exact Ext.here | apply Ext.there))).cel (i := 0) rfl)) rfl ?_
            refine DG.look rfl rfl (Yield.fieldAddr fa78_2 rfl) rfl ?_
            refine DG.look rfl rfl (Yield.load (v := .int .i64 op.Page) ti3 rfl (Cel.of_blk (by repeat (first | exact Ext.here | apply Ext.there)) rfl)) rfl ?_
            refine DG.look rfl rfl (Yield.move rfl) rfl ?_
            refine DG.look rfl rfl (Yield.fieldAddr fa78_2 rfl) rfl ?_
            refine DG.look rfl rfl (Yield.load (v := .int .i64 op.Page) ti3 rfl (Cel.of_blk (by repeat (first | exact Ext.here | apply Ext.there)) rfl)) rfl ?_
            refine DG.look rfl rfl (Yield.as (Yield.lookup vi vb (l := th) Try.underlying91 ti4 keyInt op.Page rfl rfl (by repeat (first | exact Ext.here | apply Ext.there))) (v' := .bool (vI o 0 op.Page).isSome) (by rw [K.has]; cases (vI o 0 op.Page).isSome <;> rfl)) rfl ?_
            refine DG.eff1 ?_
            refine Chg.callo rfl rfl call26 rfl ((by repeat (first | exact Imp.refl _ | exact Imp.none _ | apply Imp.pull (by repeat (first | exact Ext.here | apply Ext.there)) | apply Imp.trans Imp.drop))) (unmap_spec W _ (s := s0) (m := m) (f := f) (t := t) (k := 0) (r := r0) L (qk := 16) rfl rfl op.Page) rfl (fun _ => (by repeat (first | exact Imp.refl _ | exact Imp.none _ | apply Imp.pull (by repeat (first | exact Ext.here | apply Ext.there)) | apply Imp.trans Imp.drop))) (fun _ => Imp.refl _) (fun _ => (by repeat (first | exact Imp.refl _ | exact Imp.none _ | apply Imp.pull (by repeat (first | exact Ext.here | apply Ext.there)) | apply Imp.trans Imp.drop))) ?_
            rintro σ2 L2
            refine DG.look rfl rfl (Yield.as (Yield.eql rfl rfl) (v' := .bool false) (bF hm)) rfl ?_
            refine DG.look rfl rfl (Yield.as (Yield.bool_neq Try.underlying4 rfl rfl) (v' := .bool false) (by rw [hvn]; rfl)) rfl ?_
            refine DG.done ?_
            refine QG.then ?_
            refine CG.cond_f rfl ?_
            refine CG.skip ?_
            refine QG.then ?_
            refine CG.region ?_
            refine OG.yield (Yield.move rfl) rfl ?_
            refine OG.yield (Yield.fieldAddr fa78_2 rfl) rfl ?_
            refine OG.yield (Yield.load (v := .int .i64 op.Page) ti3 rfl (Cel.of_blk (by repeat (first | exact Ext.here | apply Ext.there)) rfl)) rfl ?_
            refine OG.eff (Eff.mapDelete vi vb rfl Try.underlying91 keyInt op.Page rfl rfl (by repeat (first | exact Foc.here | apply Foc.there))) rfl ?_
            rintro ⟨⟩ -
            refine OG.nil ?_
            refine QG.block_normal ?_
            rw [hm2] at L2
            rw [K.nomap hvn]
            exact QG.mid (o, th, tb, σ2) ⟨L2.mono (Nat.le_succ _), K⟩ (by repeat (first | exact Env.sub_nil _ | refine Env.sub_cons rfl ?_)) (by repeat (first | exact Imp.refl _ | exact Imp.none _ | apply Imp.pull (by repeat (first | exact Ext.here | apply Ext.there)) | apply Imp.trans Imp.drop))
          · skip
            refine CG.draw (.look 0 1 (.look 1 1 (.look 2 1 (.look 3 1 (.look 4 1 (.look 5 1 (.look 6 1 (.look 7 1 (.look 10 0 (.look 11 0 (.look 12 0 (.look 13 0 (.eff1 8 false (.look 9 1 (.look 14 1 (.done)))))))))))))))) [8] [] ([hmap vi vb rth th, blk b8 op.cells 78]) ([]) mixed (by kernel_rfl) (by repeat (first | exact Imp.refl _ | exact Imp.none _ | apply Imp.pull (by repeat (first | exact Ext.here | apply Ext.there)) | apply Imp.trans Imp.drop)) (Imp.none _) ?_
            refine DG.look rfl rfl (Yield.move rfl) rfl ?_
            refine DG.look rfl rfl (Yield.nilCheck rfl) rfl ?_
            refine DG.look rfl rfl (Yield.fieldAddr fa70_3 rfl) rfl ?_
            refine DG.look rfl rfl (Yield.load ti66 rfl (by first | exact Cel.of_blk (by repeat (first | exact Ext.here | apply Ext.there)) rfl | exact (hrow (by repeat (first | exact Ext.here | apply Ext.there))) _ _ rfl)) rfl ?_
            refine DG.look rfl rfl (Yield.index_slice Try.underlying66 ti81 rfl rfl (by omega) (by omega)) rfl ?_
            refine DG.look rfl rfl (Yield.load (v := .pointer (some ⟨s0, 0, none⟩)) ti81 rfl ((SlR.of_osl (W0 := W) (a := some ⟨sbb, so, none⟩) (by repeat (first | exact Ext.here | apply Ext.there))).cel (i := 0) rfl)) rfl ?_
            refine DG.look rfl rfl (Yield.fieldAddr fa78_2 rfl) rfl ?_
            refine DG.look rfl rfl (Yield.load (v := .int .i64 op.Page) ti3 rfl (Cel.of_blk (by repeat (first | exact Ext.here | apply Ext.there)) rfl)) rfl ?_
            refine DG.look rfl rfl (Yield.move rfl) rfl ?_
            refine DG.look rfl rfl (Yield.fieldAddr fa78_2 rfl) rfl ?_
            refine DG.look rfl rfl (Yield.load (v := .int .i64 op.Page) ti3 rfl (Cel.of_blk (by repeat (first | exact Ext.here | apply Ext.there)) rfl)) rfl ?_
            refine DG.look rfl rfl (Yield.as (Yield.lookup vi vb (l := th) Try.underlying91 ti4 keyInt op.Page rfl rfl (by repeat (first | exact Ext.here | apply Ext.there))) (v' := .bool (vI o 0 op.Page).isSome) (by rw [K.has]; cases (vI o 0 op.Page).isSome <;> rfl)) rfl ?_
            refine DG.eff1 ?_
            refine Chg.callo rfl rfl call26 rfl ((by repeat (first | exact Imp.refl _ | exact Imp.none _ | apply Imp.pull (by repeat (first | exact Ext.here | apply Ext.there)) | apply Imp.trans Imp.drop))) (unmap_spec W _ (s := s0) (m := m) (f := f) (t := t) (k := 0) (r := r0) L (qk := 16) rfl rfl op.Page) rfl (fun _ => (by repeat (first | exact Imp.refl _ | exact Imp.none _ | apply Imp.pull (by repeat (first | exact Ext.here | apply Ext.there)) | apply Imp.trans Imp.drop))) (fun _ => Imp.refl _) (fun _ => (by repeat (first | exact Imp.refl _ | exact Imp.none _ | apply Imp.pull (by repeat (first | exact Ext.here | apply Ext.there)) | apply Imp.trans Imp.drop))) ?_
            rintro σ2 L2
            refine DG.look rfl rfl (Yield.as (Yield.eql rfl rfl) (v' := .bool true) (by rw [he]; rfl)) rfl ?_
            refine DG.look rfl rfl (Yield.as (Yield.bool_neq Try.underlying4 rfl rfl) (v' := .bool false) (by rw [hq1, vI_nat hq4, hx]; rfl)) rfl ?_
            refine DG.done ?_
            refine QG.then ?_
            refine CG.cond_f rfl ?_
            refine CG.skip ?_
            refine QG.then ?_
            refine CG.region ?_
            refine OG.yield (Yield.move rfl) rfl ?_
            refine OG.yield (Yield.fieldAddr fa78_2 rfl) rfl ?_
            refine OG.yield (Yield.load (v := .int .i64 op.Page) ti3 rfl (Cel.of_blk (by repeat (first | exact Ext.here | apply Ext.there)) rfl)) rfl ?_
            refine OG.eff (Eff.mapDelete vi vb rfl Try.underlying91 keyInt op.Page rfl rfl (by repeat (first | exact Foc.here | apply Foc.there))) rfl ?_
            rintro ⟨⟩ -
            refine OG.nil ?_
            refine QG.block_normal ?_
            rw [he] at L2
            rw [hq1]
            exact QG.mid (_, mdel th (q : Int), tb, σ2) ⟨L2.mono (Nat.le_succ _), K.unmap hq4 hx⟩ (by repeat (first | exact Env.sub_nil _ | refine Env.sub_cons rfl ?_)) (by repeat (first | exact Imp.refl _ | exact Imp.none _ | apply Imp.pull (by repeat (first | exact Ext.here | apply Ext.there)) | apply Imp.trans Imp.drop))
        · try replace hc := of_decide_eq_false hc
          refine CG.draw (.look 0 1 (.look 1 1 (.look 2 1 (.look 3 1 (.look 4 1 (.look 5 1 (.look 6 1 (.look 7 1 (.look 8 1 (.look 9 1 (.look 10 1 (.look 11 1 (.eff1 12 false (.done)))))))))))))) [12] [] ([]) ([]) mixed (by kernel_rfl) (Imp.none _) (Imp.none _) ?_
          refine DG.look rfl rfl (Yield.move rfl) rfl ?_
          refine DG.look rfl rfl (Yield.nilCheck rfl) rfl ?_
          refine DG.look rfl rfl (Yield.fieldAddr fa70_3 rfl) rfl ?_
          refine DG.look rfl rfl (Yield.load ti66 rfl (by first | exact Cel.of_blk (by repeat (first | exact Ext.here | apply Ext.there)) rfl | exact (hrow (by repeat (first | exact Ext.here | apply Ext.there))) _ _ rfl)) rfl ?_
          refine DG.look rfl rfl (Yield.index_slice Try.underlying66 ti81 rfl rfl (by omega) (by omega)) rfl ?_
          refine DG.look rfl rfl (Yield.load (v := .pointer (some ⟨s0, 0, none⟩)) ti81 rfl ((SlR.of_osl (W0 := W) (a := some ⟨sbb, so, none⟩) (by repeat (first | exact Ext.here | apply Ext.there))).cel (i := 0) rfl)) rfl ?_
          refine DG.look rfl rfl (Yield.fieldAddr fa78_4 rfl) rfl ?_
          refine DG.look rfl rfl (Yield.as (Yield.load (v := .int .u32 op.Addr) ti32 rfl (Cel.of_blk (by repeat (first | exact Ext.here | apply Ext.there)) rfl)) (v' := .int .u32 ad) (by rw [had])) rfl ?_
          refine DG.look rfl rfl (Yield.fieldAddr fa78_5 rfl) rfl ?_
          refine DG.look rfl rfl (Yield.load (v := .int .i64 op.Size) ti3 rfl (Cel.of_blk (by repeat (first | exact Ext.here | apply Ext.there)) rfl)) rfl ?_
          refine DG.look rfl rfl (Yield.fieldAddr fa78_6 rfl) rfl ?_
          refine DG.look rfl rfl (Yield.as (Yield.load (v := .int .u64 op.V) ti29 rfl (Cel.of_blk (by repeat (first | exact Ext.here | apply Ext.there)) rfl)) (v' := .int .u64 v) (by rw [hv])) rfl ?_
          refine DG.eff1 ?_
          refine Chg.callo rfl rfl call27 rfl ((by repeat (first | exact Imp.refl _ | exact Imp.none _ | apply Imp.pull (by repeat (first | exact Ext.here | apply Ext.there)) | apply Imp.trans Imp.drop))) (write_spec W _ (s := s0) (m := m) (f := f) (t := t) (k := 0) (r := r0) L rfl (by omega) (ad := ad) (v := v) (by omega) (by omega) op.Size) rfl (fun _ => (by repeat (first | exact Imp.refl _ | exact Imp.none _ | apply Imp.pull (by repeat (first | exact Ext.here | apply Ext.there)) | apply Imp.trans Imp.drop))) (fun _ => Imp.refl _) (fun _ => (by repeat (first | exact Imp.refl _ | exact Imp.none _ | apply Imp.pull (by repeat (first | exact Ext.here | apply Ext.there)) | apply Imp.trans Imp.drop))) ?_
          rintro σ2 L2
          refine DG.done ?_
          refine QG.block_normal ?_
          obtain ⟨w1, w2, -, -⟩ := write_some o 0 ad op.Size v
          exact QG.mid (_, th, tb, σ2) ⟨L2, K.write w1 w2⟩ (by repeat (first | exact Env.sub_nil _ | refine Env.sub_cons rfl ?_)) (by repeat (first | exact Imp.refl _ | exact Imp.none _ | apply Imp.pull (by repeat (first | exact Ext.here | apply Ext.there)) | apply Imp.trans Imp.drop))
    rintro ⟨o', th', tb', σ'⟩ ⟨L', K'⟩
    dsimp only at L' K' ⊢
    refine CG.seq ?_
    have hu : used o' 0 = 1 + tb'.length + th'.length := by rw [K'.len, K'.lent]; rfl
    have hle := cN_le (fun p => (o'.vw 0 p).isSome) 4096
    have hle2 := cN_le (o'.ts 0) 64
    rw [← K'.len] at hle
    rw [← K'.lent] at hle2
    refine CG.region ?_
    refine OG.yield (Yield.move rfl) rfl ?_
    refine OG.yield (Yield.nilCheck rfl) rfl ?_
    refine OG.yield (Yield.fieldAddr fa70_1 rfl) rfl ?_
    refine OG.yield (Yield.load ti64 rfl (by first | exact Cel.of_blk (by repeat (first | exact Ext.here | apply Ext.there)) rfl | exact (hrow (by repeat (first | exact Ext.here | apply Ext.there))) _ _ rfl)) rfl ?_
    refine OG.callo call30 rfl ((by repeat (first | exact Imp.refl _ | exact Imp.none _ | apply Imp.pull (by repeat (first | exact Ext.here | apply Ext.there)) | apply Imp.trans Imp.drop))) (left_lk W _ (m := m) (f := f) (t := t) (k := 0) (r := r0) L' hq (qk := 16) rfl rfl) rfl ?_
    rintro ⟨⟩ -
    rw [hu]
    refine OG.yield (Yield.move rfl) rfl ?_
    refine OG.yield (Yield.len_map (l := th') Try.underlying91 rfl rfl (by repeat (first | exact Ext.here | apply Ext.there))) rfl ?_
    refine OG.yield (Yield.sub rfl rfl (w64 (by omega) (by omega))) rfl ?_
    refine OG.yield (Yield.move rfl) rfl ?_
    refine OG.yield (Yield.len_map (l := tb') Try.underlying91 rfl rfl (by repeat (first | exact Ext.here | apply Ext.there))) rfl ?_
    refine OG.yield (Yield.sub rfl rfl (w64 (by omega) (by omega))) rfl ?_
    refine OG.yield (Yield.as (Yield.neq rfl rfl) (v' := .bool false) (bF (by push_cast; omega))) rfl ?_
    refine OG.yield (Yield.move rfl) rfl ?_
    refine OG.guard_yes rfl rfl rfl (by decide) ?_
    refine OG.yield (Yield.move rfl) rfl ?_
    refine OG.guard_yes rfl rfl rfl (by decide) ?_
    refine OG.yield (Yield.nilCheck rfl) rfl ?_
    refine OG.guard_yes rfl rfl rfl (by decide) ?_
    refine OG.yield (Yield.fieldAddr fa70_1 rfl) rfl ?_
    refine OG.guard_yes rfl rfl rfl (by decide) ?_
    refine OG.yield (Yield.load ti64 rfl (by first | exact Cel.of_blk (by repeat (first | exact Ext.here | apply Ext.there)) rfl | exact (hrow (by repeat (first | exact Ext.here | apply Ext.there))) _ _ rfl)) rfl ?_
    refine OG.guard_yes rfl rfl rfl (by decide) ?_
    refine OG.callo call30 rfl ((by repeat (first | exact Imp.refl _ | exact Imp.none _ | apply Imp.pull (by repeat (first | exact Ext.here | apply Ext.there)) | apply Imp.trans Imp.drop))) (left_lk W _ (m := m) (f := f) (t := t) (k := 1) (r := r1) L' hq (qk := 9) rfl rfl) rfl ?_
    rintro ⟨⟩ -
    rw [K'.onet]
    refine OG.guard_yes rfl rfl rfl (by decide) ?_
    refine OG.yield (Yield.as (Yield.neq rfl rfl) (v' := .bool false) rfl) rfl ?_
    refine OG.yield (by first | exact Yield.pick_t rfl rfl | exact Yield.pick_f rfl rfl | exact Yield.pick rfl (fun _ => rfl) (fun _ => rfl)) rfl ?_
    refine OG.yield (Yield.move rfl) rfl ?_
    refine OG.guard_yes rfl rfl rfl (by decide) ?_
    refine OG.yield (Yield.move rfl) rfl ?_
    refine OG.guard_yes rfl rfl rfl (by decide) ?_
    refine OG.yield (Yield.nilCheck rfl) rfl ?_
    refine OG.guard_yes rfl rfl rfl (by decide) ?_
    refine OG.yield (Yield.fieldAddr fa70_3 rfl) rfl ?_
    refine OG.guard_yes rfl rfl rfl (by decide) ?_
    refine OG.yield (Yield.load ti66 rfl (by first | exact Cel.of_blk (by repeat (first | exact Ext.here | apply Ext.there)) rfl | exact (hrow (by repeat (first | exact Ext.here | apply Ext.there))) _ _ rfl)) rfl ?_
    refine OG.guard_yes rfl rfl rfl (by decide) ?_
    refine OG.yield (Yield.index_slice Try.underlying66 ti81 rfl rfl (by omega) (by omega)) rfl ?_
    refine OG.guard_yes rfl rfl rfl (by decide) ?_
    refine OG.yield (Yield.load (v := .pointer (some ⟨s0, 0, none⟩)) ti81 rfl ((SlR.of_osl (W0 := W) (a := some ⟨sbb, so, none⟩) (by repeat (first | exact Ext.here | apply Ext.there))).cel (i := 0) rfl)) rfl ?_
    refine OG.guard_yes rfl rfl rfl (by decide) ?_
    refine OG.callo call29 rfl ((by repeat (first | exact Imp.refl _ | exact Imp.none _ | apply Imp.pull (by repeat (first | exact Ext.here | apply Ext.there)) | apply Imp.trans Imp.drop))) (pages_of W _ (s := s0) (m := m) (f := f) (t := t) (k := 0) (r := r0) L' rfl) rfl ?_
    rintro ⟨pa, pc, pl⟩ hpl
    dsimp only [List.cons_append, List.nil_append] at hpl ⊢
    have hpl2 : pl.length = th'.length := by rw [← List.length_map (f := PV.v), hpl, pvTo_len, K'.len]
    refine OG.guard_yes rfl rfl rfl (by decide) ?_
    refine OG.yield (Yield.len_slice Try.underlying86 rfl rfl) rfl ?_
    refine OG.guard_yes rfl rfl rfl (by decide) ?_
    refine OG.yield (Yield.move rfl) rfl ?_
    refine OG.guard_yes rfl rfl rfl (by decide) ?_
    refine OG.yield (Yield.len_map (l := th') Try.underlying91 rfl rfl (by repeat (first | exact Ext.here | apply Ext.there))) rfl ?_
    refine OG.guard_yes rfl rfl rfl (by decide) ?_
    refine OG.yield (Yield.as (Yield.neq rfl rfl) (v' := .bool false) (bF (by omega))) rfl ?_
    refine OG.yield (by first | exact Yield.pick_t rfl rfl | exact Yield.pick_f rfl rfl | exact Yield.pick rfl (fun _ => rfl) (fun _ => rfl)) rfl ?_
    refine OG.yield (Yield.move rfl) rfl ?_
    refine OG.guard_yes rfl rfl rfl (by decide) ?_
    refine OG.yield (Yield.move rfl) rfl ?_
    refine OG.guard_yes rfl rfl rfl (by decide) ?_
    refine OG.yield (Yield.nilCheck rfl) rfl ?_
    refine OG.guard_yes rfl rfl rfl (by decide) ?_
    refine OG.yield (Yield.fieldAddr fa70_3 rfl) rfl ?_
    refine OG.guard_yes rfl rfl rfl (by decide) ?_
    refine OG.yield (Yield.load ti66 rfl (by first | exact Cel.of_blk (by repeat (first | exact Ext.here | apply Ext.there)) rfl | exact (hrow (by repeat (first | exact Ext.here | apply Ext.there))) _ _ rfl)) rfl ?_
    refine OG.guard_yes rfl rfl rfl (by decide) ?_
    refine OG.yield (Yield.index_slice Try.underlying66 ti81 rfl rfl (by omega) (by omega)) rfl ?_
    refine OG.guard_yes rfl rfl rfl (by decide) ?_
    refine OG.yield (Yield.load (v := .pointer (some ⟨s1, 0, none⟩)) ti81 rfl ((SlR.of_osl (W0 := W) (a := some ⟨sbb, so, none⟩) (by repeat (first | exact Ext.here | apply Ext.there))).cel (i := 1) rfl)) rfl ?_
    refine OG.guard_yes rfl rfl rfl (by decide) ?_
    refine OG.callo call29 rfl ((by repeat (first | exact Imp.refl _ | exact Imp.none _ | apply Imp.pull (by repeat (first | exact Ext.here | apply Ext.there)) | apply Imp.trans Imp.drop))) (pages_of W _ (s := s1) (m := m) (f := f) (t := t) (k := 1) (r := r1) L' rfl) rfl ?_
    rintro ⟨pa2, pc2, pl2⟩ hpl3
    dsimp only [List.cons_append, List.nil_append] at hpl3 ⊢
    have hpl4 : pl2.length = 0 := by rw [← List.length_map (f := PV.v), hpl3, pvTo_len, cN_congr (g := fun _ => false) 4096 (fun p _ => by rw [K'.one p]; rfl), cN_zero]
    refine OG.guard_yes rfl rfl rfl (by decide) ?_
    refine OG.yield (Yield.len_slice Try.underlying86 rfl rfl) rfl ?_
    refine OG.guard_yes rfl rfl rfl (by decide) ?_
    refine OG.yield (Yield.as (Yield.neq rfl rfl) (v' := .bool false) (bF (by omega))) rfl ?_
    refine OG.yield (by first | exact Yield.pick_t rfl rfl | exact Yield.pick_f rfl rfl | exact Yield.pick rfl (fun _ => rfl) (fun _ => rfl)) rfl ?_
    refine OG.nil ?_
    refine QG.then ?_
    refine CG.cond_f rfl ?_
    refine CG.skip ?_
    refine QG.block_normal ?_
    refine QG.then ?_
    refine CG.region ?_
    refine OG.yield (Yield.move rfl) rfl ?_
    refine OG.yield (Yield.add rfl rfl (w64 (by omega) (by omega))) rfl ?_
    refine OG.yield (Yield.assign rfl) rfl ?_
    refine OG.nil ?_
    exact QG.next (i + 1, o', th', tb', σ') ⟨h1, h2, L', K'⟩ (by simp only; omega) (by repeat (first | exact Env.sub_nil _ | refine Env.sub_cons rfl ?_)) (by repeat (first | exact Imp.refl _ | exact Imp.none _ | apply Imp.pull (by repeat (first | exact Ext.here | apply Ext.there)) | apply Imp.trans Imp.drop))
  · skip
    refine CG.region ?_
    refine OG.yield (Yield.move rfl) rfl ?_
    refine OG.yield (Yield.move rfl) rfl ?_
    refine OG.yield (Yield.len_slice Try.underlying59 rfl rfl) rfl ?_
    refine OG.yield (by first | exact Yield.as (Yield.lss rfl rfl) (bT (by omega)) | exact Yield.as (Yield.lss rfl rfl) (bF (by omega)) | exact Yield.lss rfl rfl) rfl ?_
    refine OG.yield (Yield.move rfl) rfl ?_
    refine OG.guard_yes rfl rfl rfl (by decide) ?_
    refine OG.yield (Yield.move rfl) rfl ?_
    refine OG.guard_yes rfl rfl rfl (by decide) ?_
    refine OG.yield (by first | exact Yield.as (Yield.lss rfl rfl) (bT (by omega)) | exact Yield.as (Yield.lss rfl rfl) (bF (by omega)) | exact Yield.lss rfl rfl) rfl ?_
    refine OG.yield (by first | exact Yield.pick_t rfl rfl | exact Yield.pick_f rfl rfl | exact Yield.pick rfl (fun _ => rfl) (fun _ => rfl)) rfl ?_
    refine OG.nil ?_
    refine QG.then ?_
    refine CG.cond_f rfl ?_
    refine CG.exit ?_
    refine QG.pass_exit ?_
    refine QG.pass_exit ?_
    refine QG.block_exit ?_
    refine QG.then ?_
    refine CG.seq ?_
    refine CG.region ?_
    refine OG.yield (Yield.assign rfl) rfl ?_
    refine OG.nil ?_
    refine QG.then ?_
    refine CG.ret ?_
    exact QG.ret1 rfl rfl () trivial rfl (by repeat (first | exact Imp.refl _ | exact Imp.none _ | apply Imp.pull (by repeat (first | exact Ext.here | apply Ext.there)) | apply Imp.trans Imp.drop))
  · skip
    refine CG.region ?_
    refine OG.yield (Yield.move rfl) rfl ?_
    refine OG.yield (Yield.move rfl) rfl ?_
    refine OG.yield (Yield.len_slice Try.underlying59 rfl rfl) rfl ?_
    refine OG.yield (by first | exact Yield.as (Yield.lss rfl rfl) (bT (by omega)) | exact Yield.as (Yield.lss rfl rfl) (bF (by omega)) | exact Yield.lss rfl rfl) rfl ?_
    refine OG.yield (Yield.move rfl) rfl ?_
    refine OG.guard_no rfl rfl rfl rfl rfl (by decide) (by decide) ?_
    refine OG.guard_no rfl rfl rfl rfl rfl (by decide) (by decide) ?_
    refine OG.yield (by first | exact Yield.pick_t rfl rfl | exact Yield.pick_f rfl rfl | exact Yield.pick rfl (fun _ => rfl) (fun _ => rfl)) rfl ?_
    refine OG.nil ?_
    refine QG.then ?_
    refine CG.cond_f rfl ?_
    refine CG.exit ?_
    refine QG.pass_exit ?_
    refine QG.pass_exit ?_
    refine QG.block_exit ?_
    refine QG.then ?_
    refine CG.seq ?_
    refine CG.region ?_
    refine OG.yield (Yield.assign rfl) rfl ?_
    refine OG.nil ?_
    refine QG.then ?_
    refine CG.ret ?_
    exact QG.ret1 rfl rfl () trivial rfl (by repeat (first | exact Imp.refl _ | exact Imp.none _ | apply Imp.pull (by repeat (first | exact Ext.here | apply Ext.there)) | apply Imp.trans Imp.drop))
open Go.ChangeShapes Go.WideShapes Go.ChangeAt
theorem own : ownKnob Try.prog.godebug = none := by kernel_rfl
theorem laid : laidOutB Try.prog = true := by kernel_rfl
set_option maxRecDepth 100000 in
theorem lifted (os : Os) (started : os.Started) (H : Type) (enc : TypeId × Value → H) :
    ReturnsInHanded {} Try.checked os 7 .any (Rows.spaceFramesSpec.pre6 enc Try.prog Try.f7 Rows.spaceFramesRow.domain false) (Rows.spaceFramesSpec.post enc Try.prog Try.f7 false true false false) := by
  refine returnsInHanded_of_change_sized (C := Try.checked) own started (by kernel_rfl) Try.func7
    (ChangeSpec.witness6 (enc := enc) (C := Try.checked) false ⟨#[], #[.slice none 0 0], []⟩ 8 (by kernel_rfl) (by kernel_rfl) (by kernel_rfl) (by kernel_rfl)) ?_
  intro W base args ds gs before hval0 hW hcnd hsz0 _
  have hsz : (DataW.weightsEach Try.prog (Try.f7.params.toList ++ Rows.spaceFramesSpec.plain.varTypes Try.prog) (ds ++ gs)).all (· ≤ reachBytes) = true := hsz0
  have hval : ∀ (j : Nat) t v, Try.f7.params[j]? = some t → args[j]? = some v → Value.okWide Try.prog W .any base t v := hval0
  have hW' := hW
  obtain ⟨p, q, hA0, hV, rfl, hfz, hnd⟩ := hW
  have hA : DataW.TrodAll enc Try.prog W 0 (fun _ => true) true Try.f7.params.toList args.toList ds p := hA0
  rw [Try.params7] at hA hval hsz
  obtain ⟨v0, vs0, d0, ds0, p0, q0, hargs, rfl, rfl, h0, r0⟩ := trodAll_cons hA
  obtain ⟨rfl, rfl, rfl⟩ := trodAll_nil r0
  obtain rfl : args = #[v0] := by cases args; simp_all
  obtain ⟨rfl, rfl⟩ := trodVars_none hV
  have k0 := weights_le hsz 0 (t := 59) (d := d0) rfl rfl
  have s0 := Opn.param Try.underlying59 (SOp.list W) (hval 0 59 v0 rfl rfl) h0 k0
  obtain ⟨x0, c0, ops, e0, l0, ok0, s0, m0⟩ := s0
  cases e0
  clear hA0 hval0 hsz0 hsz
  refine ((walk W s0 ok0) W (Sat.start W)).mono fun e W' he => ?_
  obtain ⟨_, _, he, hs⟩ := he
  subst he
  exact ⟨_, rfl, law_post laid (params_ok (by kernel_rfl)) rfl Try.underlying4 hW' rfl rfl (Sat.below (by repeat (first | exact Ext.here | apply Ext.there)) hs)⟩
theorem over : Rows.spaceFramesRow.holds Try.pinned (OpenSpec.ofChange Rows.spaceFramesSpec) :=
  OpenClaim.holds_of_wide 7 Try.f7 rfl rfl rfl rfl rfl rfl rfl ⟨rfl, rfl, rfl, rfl, rfl⟩ rfl rfl rfl rfl rfl (by kernel_rfl) Try.func7 (by kernel_rfl)
    (of_decide_eq_true (by kernel_rfl)) (by unfold Func.isWrapper; first | (rw [if_pos (by decide +kernel)]; kernel_rfl) | (rw [if_neg (by decide +kernel)]; exact ⟨rfl, rfl⟩))
    (fun os started H enc _ => lifted os started H enc)
theorem proved : Rows.SpaceFramesSaid := over
#print axioms proved
end Go.Proofs.Ytmlfcfbblfcpdaa.spaceFrames
