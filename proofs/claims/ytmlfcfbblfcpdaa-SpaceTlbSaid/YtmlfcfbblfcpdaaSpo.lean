/- Spaces: how many frames are used; Left and Free; the laws' machine of two partitions; the example of the chapter. -/
import Derived.Test.YtmlfcfbblfcpdaaSpm
namespace Go.Proofs.Ytmlfcfbblfcpdaa.Sp
open Go Go.Sl Go.RowKit Go.Proofs Go.Proofs.Ytmlfcfbblfcpdaa.T Go.Proofs.Ytmlfcfbblfcpdaa.Me Go.Proofs.Ytmlfcfbblfcpdaa.Pe Go.Proofs.Ytmlfcfbblfcpdaa.Pg
open Go.Proofs.Ytmlfcfbblfcpdaa.Fz (cnt cnt_set inv_take inv_give free_frame isP isF left left_in iv iv_len iv_get iv_set iv_ones oiv nerr nerr_ok inv_new)
open Go.Proofs.Ytmlfcfbblfcpdaa.Tl (Slot hitB putL flushPL put_cases)
set_option linter.unusedVariables false
set_option linter.unusedSimpArgs false
set_option maxRecDepth 100000
theorem Lk.mono {n : Nat} {qs : List Int} {rt : Nat → Option Nat} {o : Ob} {c d : Nat} {σ : St} (L : Lk n qs rt o c σ) (h : c ≤ d) : Lk n qs rt o d σ := by
  obtain ⟨A, h1, h2, h3, h4, h5⟩ := L; exact ⟨A, h1, h2, h3, h4, Nat.le_trans h5 h⟩
theorem cN_zero (m : Nat) : cN (fun _ => false) m = 0 := by
  induction m with
  | zero => rfl
  | succ m ih => simp [cN, ih]
theorem used_zero {fr k : Nat} : used ⟨fun _ _ => none, fun _ _ => false, fr⟩ k = 1 := by
  unfold used
  rw [show (fun p => ((none : Option (Nat × List UInt8))).isSome) = fun _ : Nat => false from rfl, cN_zero, cN_zero]
theorem cN_ts {h : Nat → Nat → Bool} {k g k' m : Nat} (hg : g < m) : cN (up2 h k g true k') m = cN (h k') m + (if k = k' ∧ h k g = false then 1 else 0) := by
  by_cases hk : k = k'
  · subst hk
    have := cN_upd (f := h k) (g := up2 h k g true k) (i := g) (fun q hq => up2_ne (by omega)) m hg
    rw [up2_at] at this
    cases hh : h k g <;> simp [hh] at this ⊢ <;> omega
  · rw [cN_congr (f := up2 h k g true k') (g := h k') m fun q _ => up2_ne (by omega)]
    simp [hk]
theorem used_vw {o : Ob} {k p k' : Nat} {v : Option (Nat × List UInt8)} {fr : Nat} (hp : p < 4096) : used ⟨up2 o.vw k p v, o.ts, fr⟩ k' + (if k = k' ∧ (o.vw k p).isSome then 1 else 0) = used o k' + (if k = k' ∧ v.isSome then 1 else 0) := by
  have := cN_up2 (h := o.vw) (k := k) (p := p) (k' := k') (v := v) hp
  unfold used
  dsimp only
  omega
theorem map_cases (qk : Int) (o : Ob) (k : Nat) (p pm : Int) : mapO qk o k p pm = (2, o) ∨ mapO qk o k p pm = (91, o) ∨ mapO qk o k p pm = (141, o) ∨
    (((0 ≤ p ∧ p < 4096) ∧ 1 ≤ pm ∧ pm ≤ 7) ∧ o.vw k p.toNat = none ∧ ((if o.ts k (p.toNat / 64) then 1 else 2 : Nat) : Int) ≤ qk - used o k ∧ mapO qk o k p pm = (0, ⟨up2 o.vw k p.toNat (some (pm.toNat, zs)), up2 o.ts k (p.toNat / 64) true, o.fr - (if o.ts k (p.toNat / 64) then 1 else 2)⟩)) := by
  unfold mapO
  by_cases h1 : (0 ≤ p ∧ p < 4096) ∧ 1 ≤ pm ∧ pm ≤ 7
  · rw [if_neg (fun q => q h1)]
    cases h2 : o.vw k p.toNat with
    | some x => exact .inr (.inl (if_pos rfl))
    | none =>
      rw [if_neg (by simp)]
      by_cases h3 : qk - used o k < (if o.ts k (p.toNat / 64) then 1 else 2 : Nat)
      · rw [if_pos h3]; exact .inr (.inr (.inl rfl))
      · rw [if_neg h3]; exact .inr (.inr (.inr ⟨h1, rfl, by omega, rfl⟩))
  · rw [if_pos h1]; exact .inl rfl
theorem used_map {qk : Int} {o : Ob} {k k' : Nat} {p pm : Int} (h : (mapO qk o k p pm).1 = 0) : used (mapO qk o k p pm).2 k' = used o k' + (if k = k' then (if o.ts k (p.toNat / 64) then 1 else 2) else 0) := by
  rcases map_cases qk o k p pm with e | e | e | ⟨h1, h2, h3, e⟩
  · rw [e] at h; cases h
  · rw [e] at h; cases h
  · rw [e] at h; cases h
  · rw [e]
    have a1 := used_vw (o := ⟨o.vw, up2 o.ts k (p.toNat / 64) true, 0⟩) (k := k) (p := p.toNat) (k' := k') (v := some (pm.toNat, zs)) (fr := o.fr - (if o.ts k (p.toNat / 64) then 1 else 2)) (by omega)
    have a2 := cN_ts (h := o.ts) (k := k) (g := p.toNat / 64) (k' := k') (m := 64) (by omega)
    have a3 : used ⟨o.vw, up2 o.ts k (p.toNat / 64) true, 0⟩ k' = used o k' + (if k = k' ∧ o.ts k (p.toNat / 64) = false then 1 else 0) := by unfold used; dsimp only; omega
    dsimp only at a1 ⊢
    rw [h2] at a1
    generalize used ⟨up2 o.vw k p.toNat (some (pm.toNat, zs)), up2 o.ts k (p.toNat / 64) true, o.fr - (if o.ts k (p.toNat / 64) then 1 else 2)⟩ k' = u1 at a1 ⊢
    generalize used ⟨o.vw, up2 o.ts k (p.toNat / 64) true, 0⟩ k' = u2 at a1 a3
    by_cases hk : k = k'
    · subst hk
      cases ht : o.ts k (p.toNat / 64) <;> simp [ht] at a1 a3 ⊢ <;> omega
    · simp [hk] at a1 a3 ⊢; omega
theorem map_same {qk : Int} {o : Ob} {k : Nat} {p pm : Int} (h : (mapO qk o k p pm).1 ≠ 0) : (mapO qk o k p pm).2 = o := by
  rcases map_cases qk o k p pm with e | e | e | ⟨h1, h2, h3, e⟩
  · rw [e]
  · rw [e]
  · rw [e]
  · rw [e] at h; exact absurd rfl h
theorem used_unmap {o : Ob} {k k' : Nat} {p : Int} : used (unmapO o k p).2 k' + (if k = k' ∧ (unmapO o k p).1 = 0 then 1 else 0) = used o k' := by
  unfold unmapO
  split
  · simp
  · rename_i h1
    split
    · rename_i h2
      have := used_vw (o := o) (k := k) (p := p.toNat) (k' := k') (v := none) (fr := o.fr + 1) (by omega)
      simp only [h2, and_true, Option.isSome_none, Bool.false_eq_true, and_false, if_false] at this ⊢
      omega
    · simp
section
variable (W0 : World) (Fr : List HProp)
variable {n : Nat} {qs : List Int} {rt : Nat → Option Nat} {o : Ob} {c : Nat} {σ : St} {k r s m f t : Nat}
theorem left_lk (L : Lk n qs rt o c σ) (hq : ∀ q ∈ qs, 0 ≤ q ∧ q ≤ 1024) {qk : Int} (hqk : qs[k]? = some qk) (hk : rt k = some r) : Ctr Try.prog W0 30 [.pointer (some ⟨f, 0, none⟩), .int .i64 k] (WG m f t n qs σ Fr) (fun _ : Unit => True) (fun _ => .int .i64 (qk - used o k)) (fun _ => WG m f t n qs σ Fr) := by
  obtain ⟨A, rfl, hh, G, rfl, hcc⟩ := L
  have h1 := Fz.left_spec W0 (M m n σ.bs :: Tl.T t σ.l σ.hand σ.hits σ.miss :: Fr) (f := f) (own := σ.own) (qs := qs) (k : Int) hq
  rw [left_in hqk, used_cnt G hh hk] at h1
  exact Ctr.imp (by repeat (first | exact Imp.refl _ | exact Imp.none _ | apply Imp.pull (by repeat (first | exact Ext.here | apply Ext.there)) | apply Imp.trans Imp.drop)) (h1.to id (fun _ h => h) (fun _ => rfl) (fun _ => (by repeat (first | exact Imp.refl _ | exact Imp.none _ | apply Imp.pull (by repeat (first | exact Ext.here | apply Ext.there)) | apply Imp.trans Imp.drop))))
theorem free_lk (L : Lk n qs rt o c σ) : Ctr Try.prog W0 81 [.pointer (some ⟨f, 0, none⟩)] (WG m f t n qs σ Fr) (fun _ : Unit => True) (fun _ => .int .i64 o.fr) (fun _ => WG m f t n qs σ Fr) := by
  obtain ⟨A, rfl, hh, G, rfl, hcc⟩ := L
  have h1 := Fz.free_spec W0 (M m n σ.bs :: Tl.T t σ.l σ.hand σ.hits σ.miss :: Fr) (f := f) (own := σ.own) (qs := qs)
  exact Ctr.imp (by repeat (first | exact Imp.refl _ | exact Imp.none _ | apply Imp.pull (by repeat (first | exact Ext.here | apply Ext.there)) | apply Imp.trans Imp.drop)) (h1.to id (fun _ h => h) (fun _ => rfl) (fun _ => (by repeat (first | exact Imp.refl _ | exact Imp.none _ | apply Imp.pull (by repeat (first | exact Ext.here | apply Ext.there)) | apply Imp.trans Imp.drop))))
structure M2 where
  m : Nat
  f : Nat
  t : Nat
  bx : Nat
  bw : Nat
  sa : Option Addr
  sc : Nat
  ra : Option Addr
  rc : Nat
  s0 : Nat
  r0 : Nat
  s1 : Nat
  r1 : Nat
  σ : St
def rt2 (r0 r1 : Nat) (k : Nat) : Option Nat := if k = 0 then some r0 else if k = 1 then some r1 else none
theorem sl_two {l : List SpE} (h : l.map (·.k) = [0, 1]) : ∃ s0 r0 b0 s1 r1 b1, l = [⟨0, s0, r0, b0⟩, ⟨1, s1, r1, b1⟩] := by
  match l, h with
  | [⟨k0, s0, r0, b0⟩, ⟨k1, s1, r1, b1⟩], h =>
    simp only [List.map_cons, List.map_nil, List.cons.injEq, and_true] at h
    obtain ⟨rfl, rfl⟩ := h
    exact ⟨s0, r0, b0, s1, r1, b1, rfl⟩
theorem rtOf_two {s0 r0 b0 s1 r1 b1 : Nat} : rtOf [⟨0, s0, r0, b0⟩, ⟨1, s1, r1, b1⟩] = rt2 r0 r1 := by
  funext k
  unfold rtOf rt2
  by_cases h0 : k = 0
  · subst h0; simp
  · by_cases h1 : k = 1
    · subst h1; simp
    · have e0 : ¬ 0 = k := fun q => h0 q.symm
      have e1 : ¬ 1 = k := fun q => h1 q.symm
      simp [h0, h1, e0, e1]
abbrev MG2 (n : Nat) (qs : List Int) (z : M2) (Fr : List HProp) : List HProp :=
  blk z.bx [.pointer (some ⟨z.m, 0, none⟩), .pointer (some ⟨z.f, 0, none⟩), .pointer (some ⟨z.t, 0, none⟩), .slice z.sa 2 z.sc, .pointer (some ⟨z.bw, 0, none⟩), .slice z.ra 2 z.rc] 70 ::
  osl 81 1 z.sa z.sc 2 [.pointer (some ⟨z.s0, 0, none⟩), .pointer (some ⟨z.s1, 0, none⟩)] :: sb z.s0 0 z.r0 z.m z.f z.t :: sb z.s1 1 z.r1 z.m z.f z.t :: WG z.m z.f z.t n qs z.σ Fr
theorem made2 {n qc : Nat} {qa : Option Addr} {q0 q1 : Int} (hne : nerr n [q0, q1] = 0) (hp0 : 0 < q0) (hp1 : 0 < q1) (hqs : SlR W0 Fr 1 qa 2 (iv [q0, q1])) : Ctr Try.prog W0 24 [.int .i64 n, .slice qa 2 qc] Fr
    (fun z : M2 => Lk n [q0, q1] (rt2 z.r0 z.r1) ⟨fun _ _ => none, fun _ _ => false, n - 2⟩ 0 z.σ) (fun z => .tuple #[.pointer (some ⟨z.bx, 0, none⟩), .bool true]) (fun z => MG2 n [q0, q1] z Fr) := by
  intro w hw
  refine (made_spec W0 Fr (qs := [q0, q1]) hne hqs w hw).mono ?_
  rintro e w' ⟨z, ⟨hk, L, -⟩, he, hs⟩
  have hpk : posK [q0, q1] 2 = [0, 1] := by rw [posK_succ, posK_succ]; simp [posK, hp0, hp1]
  obtain ⟨s0, r0, b0, s1, r1, b1, hsl⟩ := sl_two (hk.trans hpk)
  obtain ⟨m, f, t, bx, bw, sa, sc, ra, rc, sl, σ⟩ := z
  dsimp only at hsl L he hs
  subst hsl
  rw [rtOf_two] at L
  refine ⟨⟨m, f, t, bx, bw, sa, sc, ra, rc, s0, r0, s1, r1, σ⟩, L, he, hs.imp ?_⟩
  exact Imp.trans (B := Star [sb s0 0 r0 m f t, sb s1 1 r1 m f t] :: blk bx [.pointer (some ⟨m, 0, none⟩), .pointer (some ⟨f, 0, none⟩), .pointer (some ⟨t, 0, none⟩), .slice sa 2 sc, .pointer (some ⟨bw, 0, none⟩), .slice ra 2 rc] 70 :: osl 81 1 sa sc 2 [.pointer (some ⟨s0, 0, none⟩), .pointer (some ⟨s1, 0, none⟩)] :: WG m f t n [q0, q1] σ Fr) (by repeat (first | exact Imp.refl _ | exact Imp.none _ | apply Imp.pull (by repeat (first | exact Ext.here | apply Ext.there)) | apply Imp.trans Imp.drop)) (Imp.trans star_open (by repeat (first | exact Imp.refl _ | exact Imp.none _ | apply Imp.pull (by repeat (first | exact Ext.here | apply Ext.there)) | apply Imp.trans Imp.drop)))
theorem works_spec : Ctr Try.prog W0 23 [] Fr (fun _ : Unit => True) (fun _ => .bool true) (fun _ => Fr) := by
  have hq : ∀ q ∈ ([5, 3] : List Int), 0 ≤ q ∧ q ≤ 1024 := by decide
  obtain ⟨o0, ho0⟩ : ∃ o : Ob, o = ⟨fun _ _ => none, fun _ _ => false, 6⟩ := ⟨_, rfl⟩
  have u0 : used o0 0 = 1 := by rw [ho0]; exact used_zero
  have e1 : mapO 5 o0 0 1 3 = (0, ⟨up2 o0.vw 0 1 (some (3, zs)), up2 o0.ts 0 0 true, 4⟩) := by
    unfold mapO; rw [if_neg (by decide), if_neg (by rw [ho0]; decide), if_neg (by rw [u0, ho0]; decide)]; rw [ho0]; rfl
  obtain ⟨o1, ho1⟩ : ∃ o : Ob, o = ⟨up2 o0.vw 0 1 (some (3, zs)), up2 o0.ts 0 0 true, 4⟩ := ⟨_, rfl⟩
  rw [← ho1] at e1
  have u1 : used o1 0 = 3 := by have := used_map (qk := 5) (o := o0) (k := 0) (k' := 0) (p := 1) (pm := 3) (by rw [e1]); rw [e1, u0, ho0] at this; exact this
  have e2 : mapO 5 o1 0 2 1 = (0, ⟨up2 o1.vw 0 2 (some (1, zs)), up2 o1.ts 0 0 true, 3⟩) := by
    unfold mapO; rw [if_neg (by decide), if_neg (by rw [ho1, ho0]; decide), if_neg (by rw [u1, ho1, ho0]; decide)]; rw [ho1, ho0]; rfl
  obtain ⟨o2, ho2⟩ : ∃ o : Ob, o = ⟨up2 o1.vw 0 2 (some (1, zs)), up2 o1.ts 0 0 true, 3⟩ := ⟨_, rfl⟩
  rw [← ho2] at e2
  have u2 : used o2 0 = 4 := by have := used_map (qk := 5) (o := o1) (k := 0) (k' := 0) (p := 2) (pm := 1) (by rw [e2]); rw [e2, u1, ho1, ho0] at this; exact this
  have e3 : mapO 5 o2 0 64 1 = (141, o2) := by
    unfold mapO; rw [if_neg (by decide), if_neg (by rw [ho2, ho1, ho0]; decide), if_pos (by rw [u2, ho2, ho1, ho0]; decide)]
  have v2 : o2.vw 0 1 = some (3, zs) := by rw [ho2, ho1, ho0]; rfl
  have e4 : writeO o2 0 256 4 7 = (0, ⟨up2 o2.vw 0 1 (some (3, overB zs 0 (putB 7 4))), o2.ts, o2.fr⟩) := by
    unfold writeO; rw [if_neg (by decide), if_neg (by decide), if_neg (by decide), show 256 / 256 = 1 from rfl, v2]; simp only; rw [if_pos (by decide)]; rfl
  obtain ⟨o4, ho4⟩ : ∃ o : Ob, o = ⟨up2 o2.vw 0 1 (some (3, overB zs 0 (putB 7 4))), o2.ts, o2.fr⟩ := ⟨_, rfl⟩
  rw [← ho4] at e4
  have v4 : o4.vw 0 1 = some (3, overB zs 0 (putB 7 4)) := by rw [ho4]; show up2 o2.vw 0 1 (some (3, overB zs 0 (putB 7 4))) 0 1 = _; rw [up2_at]
  have u4 : used o4 0 = 4 := by
    have := used_vw (o := o2) (k := 0) (p := 1) (k' := 0) (v := some (3, overB zs 0 (putB 7 4))) (fr := o2.fr) (by decide)
    rw [← ho4, v2, u2] at this; simpa using this
  have e5 : readO o4 0 256 4 (Go.bits .and .i64 1 7) = (7, 0) := by
    rw [show Go.bits .and .i64 1 7 = 1 by decide]
    unfold readO; rw [if_neg (by decide), if_neg (by decide), if_neg (by decide), show 256 / 256 = 1 from rfl, v4]; simp only; rw [if_pos (by decide)]; decide
  have e6 : readO o4 0 256 4 (Go.bits .and .i64 4 7) = (0, 90) := by
    rw [show Go.bits .and .i64 4 7 = 4 by decide]
    unfold readO; rw [if_neg (by decide), if_neg (by decide), if_neg (by decide), show 256 / 256 = 1 from rfl, v4]; simp only; rw [if_neg (by decide)]
  refine Ctr.of_body Try.func23 rfl Try.ntmps23 rfl ?_
  refine CG.seq ?_
  refine CG.region ?_
  refine OG.yield (Yield.assign rfl) rfl ?_
  refine OG.nil ?_
  refine QG.then ?_
  refine CG.seq ?_
  refine CG.region ?_
  refine OG.effd (Eff.lit [.const (.int .i64 5), .const (.int .i64 3)] (vs := [.int .i64 5, .int .i64 3]) (cells := iv [5, 3]) Try.underlying63 ti3 rfl rfl rfl rfl (by decide) (by simp [Value.cells]) (by simp [Value.cells]; rfl)) rfl ?_
  rintro b13 -
  refine OG.callo call24 rfl (Imp.refl _) (made2 W0 _ (n := 8) (q0 := 5) (q1 := 3) (by decide) (by decide) (by decide) (by exact SlR.of_osl (a := some ⟨b13, 0, none⟩) (by repeat (first | exact Ext.here | apply Ext.there)))) rfl ?_
  rintro ⟨m, f, t, bx, bw, sa, sc, ra, rc, s0, r0, s1, r1, σ⟩ L
  dsimp only at L ⊢
  rw [show (8 - 2 : Nat) = 6 from rfl, ← ho0] at L
  refine OG.yield (Yield.move rfl) rfl ?_
  refine OG.yield (Yield.extract rfl rfl) rfl ?_
  refine OG.yield (Yield.extract rfl rfl) rfl ?_
  refine OG.yield (Yield.assign rfl) rfl ?_
  refine OG.yield (Yield.assign rfl) rfl ?_
  refine OG.nil ?_
  refine QG.then ?_
  refine CG.seq ?_
  refine CG.seq ?_
  refine CG.region ?_
  refine OG.yield (Yield.move rfl) rfl ?_
  refine OG.yield (Yield.not rfl) rfl ?_
  refine OG.yield (Yield.move rfl) rfl ?_
  refine OG.guard_yes rfl rfl rfl (by decide) ?_
  refine OG.yield (Yield.move rfl) rfl ?_
  refine OG.guard_yes rfl rfl rfl (by decide) ?_
  refine OG.yield (Yield.nilCheck rfl) rfl ?_
  refine OG.guard_yes rfl rfl rfl (by decide) ?_
  refine OG.yield (Yield.fieldAddr fa70_3 rfl) rfl ?_
  refine OG.guard_yes rfl rfl rfl (by decide) ?_
  refine OG.yield (Yield.load ti66 rfl (by first | exact Cel.of_blk (by repeat (first | exact Ext.here | apply Ext.there)) rfl | exact (hrow (by repeat (first | exact Ext.here | apply Ext.there))) _ _ rfl)) rfl ?_
  refine OG.guard_yes rfl rfl rfl (by decide) ?_
  refine OG.yield (Yield.len_slice Try.underlying66 rfl rfl) rfl ?_
  refine OG.guard_yes rfl rfl rfl (by decide) ?_
  refine OG.yield (by first | exact Yield.as (Yield.neq rfl rfl) (bT (by omega)) | exact Yield.as (Yield.neq rfl rfl) (bF (by omega)) | exact Yield.neq rfl rfl) rfl ?_
  refine OG.yield (by first | exact Yield.pick_t rfl rfl | exact Yield.pick_f rfl rfl | exact Yield.pick rfl (fun _ => rfl) (fun _ => rfl)) rfl ?_
  refine OG.nil ?_
  refine QG.then ?_
  refine CG.cond_f rfl ?_
  refine CG.skip ?_
  refine QG.then ?_
  refine CG.seq ?_
  refine CG.pure (fun w hw => SlR.shape (SlR.of_osl (W0 := W0) (a := sa) (by repeat (first | exact Ext.here | apply Ext.there))) (by simp) w hw) ?_
  rintro ⟨sbb, so, rfl⟩
  refine CG.region ?_
  refine OG.yield (Yield.move rfl) rfl ?_
  refine OG.yield (Yield.nilCheck rfl) rfl ?_
  refine OG.yield (Yield.fieldAddr fa70_3 rfl) rfl ?_
  refine OG.yield (Yield.load ti66 rfl (by first | exact Cel.of_blk (by repeat (first | exact Ext.here | apply Ext.there)) rfl | exact (hrow (by repeat (first | exact Ext.here | apply Ext.there))) _ _ rfl)) rfl ?_
  refine OG.yield (Yield.index_slice Try.underlying66 ti81 rfl rfl (by omega) (by omega)) rfl ?_
  refine OG.yield (Yield.load (v := .pointer (some ⟨s0, 0, none⟩)) ti81 rfl ((SlR.of_osl (W0 := W0) (a := some ⟨sbb, so, none⟩) (by repeat (first | exact Ext.here | apply Ext.there))).cel (i := 0) rfl)) rfl ?_
  refine OG.yield (Yield.assign rfl) rfl ?_
  refine OG.nil ?_
  refine QG.then ?_
  refine CG.seq ?_
  refine CG.region ?_
  refine OG.yield (Yield.move rfl) rfl ?_
  refine OG.callo call25 rfl ((by repeat (first | exact Imp.refl _ | exact Imp.none _ | apply Imp.pull (by repeat (first | exact Ext.here | apply Ext.there)) | apply Imp.trans Imp.drop))) (map_spec W0 _ (s := s0) (m := m) (f := f) (t := t) (k := 0) (r := r0) L hq (qk := 5) rfl rfl 1 3) rfl ?_
  rintro σ1 L1
  rw [e1] at L1 ⊢
  refine OG.yield (Yield.move rfl) rfl ?_
  refine OG.callo call25 rfl ((by repeat (first | exact Imp.refl _ | exact Imp.none _ | apply Imp.pull (by repeat (first | exact Ext.here | apply Ext.there)) | apply Imp.trans Imp.drop))) (map_spec W0 _ (s := s0) (m := m) (f := f) (t := t) (k := 0) (r := r0) L1 hq (qk := 5) rfl rfl 2 1) rfl ?_
  rintro σ2 L2
  rw [e2] at L2 ⊢
  refine OG.yield (Yield.move rfl) rfl ?_
  refine OG.callo call25 rfl ((by repeat (first | exact Imp.refl _ | exact Imp.none _ | apply Imp.pull (by repeat (first | exact Ext.here | apply Ext.there)) | apply Imp.trans Imp.drop))) (map_spec W0 _ (s := s0) (m := m) (f := f) (t := t) (k := 0) (r := r0) L2 hq (qk := 5) rfl rfl 64 1) rfl ?_
  rintro σ3 L3
  rw [e3] at L3 ⊢
  refine OG.yield (Yield.assign rfl) rfl ?_
  refine OG.yield (Yield.assign rfl) rfl ?_
  refine OG.yield (Yield.assign rfl) rfl ?_
  refine OG.nil ?_
  refine QG.then ?_
  refine CG.seq ?_
  refine CG.region ?_
  refine OG.yield (Yield.move rfl) rfl ?_
  refine OG.callo call27 rfl ((by repeat (first | exact Imp.refl _ | exact Imp.none _ | apply Imp.pull (by repeat (first | exact Ext.here | apply Ext.there)) | apply Imp.trans Imp.drop))) (write_spec W0 _ (s := s0) (m := m) (f := f) (t := t) (k := 0) (r := r0) L3 rfl (by decide) (ad := 256) (v := 7) (by decide) (by decide) 4) rfl ?_
  rintro σ4 L4
  rw [e4] at L4 ⊢
  refine OG.yield (Yield.assign rfl) rfl ?_
  refine OG.nil ?_
  refine QG.then ?_
  refine CG.seq ?_
  refine CG.region ?_
  refine OG.yield (Yield.move rfl) rfl ?_
  refine OG.callo call28 rfl ((by repeat (first | exact Imp.refl _ | exact Imp.none _ | apply Imp.pull (by repeat (first | exact Ext.here | apply Ext.there)) | apply Imp.trans Imp.drop))) (read_spec W0 _ (s := s0) (m := m) (f := f) (t := t) (k := 0) (r := r0) L4 rfl (by decide) (ad := 256) (by decide) 4 1) rfl ?_
  rintro σ5 L5
  rw [e5]
  refine OG.yield (Yield.move rfl) rfl ?_
  refine OG.yield (Yield.extract rfl rfl) rfl ?_
  refine OG.yield (Yield.extract rfl rfl) rfl ?_
  refine OG.yield (Yield.assign rfl) rfl ?_
  refine OG.yield (Yield.assign rfl) rfl ?_
  refine OG.nil ?_
  refine QG.then ?_
  refine CG.seq ?_
  refine CG.region ?_
  refine OG.yield (Yield.move rfl) rfl ?_
  refine OG.callo call28 rfl ((by repeat (first | exact Imp.refl _ | exact Imp.none _ | apply Imp.pull (by repeat (first | exact Ext.here | apply Ext.there)) | apply Imp.trans Imp.drop))) (read_spec W0 _ (s := s0) (m := m) (f := f) (t := t) (k := 0) (r := r0) L5 rfl (by decide) (ad := 256) (by decide) 4 4) rfl ?_
  rintro σ6 L6
  rw [e6]
  refine OG.yield (Yield.move rfl) rfl ?_
  refine OG.yield (Yield.extract rfl rfl) rfl ?_
  refine OG.yield (Yield.extract rfl rfl) rfl ?_
  refine OG.yield (Yield.assign rfl) rfl ?_
  refine OG.yield (Yield.assign rfl) rfl ?_
  refine OG.nil ?_
  refine QG.then ?_
  refine CG.seq ?_
  refine CG.region ?_
  refine OG.yield (Yield.move rfl) rfl ?_
  refine OG.yield (by first | exact Yield.as (Yield.eql rfl rfl) (bT (by omega)) | exact Yield.as (Yield.eql rfl rfl) (bF (by omega)) | exact Yield.eql rfl rfl) rfl ?_
  refine OG.yield (Yield.move rfl) rfl ?_
  refine OG.guard_yes rfl rfl rfl (by decide) ?_
  refine OG.yield (Yield.move rfl) rfl ?_
  refine OG.guard_yes rfl rfl rfl (by decide) ?_
  refine OG.yield (by first | exact Yield.as (Yield.eql rfl rfl) (bT (by omega)) | exact Yield.as (Yield.eql rfl rfl) (bF (by omega)) | exact Yield.eql rfl rfl) rfl ?_
  refine OG.yield (by first | exact Yield.pick_t rfl rfl | exact Yield.pick_f rfl rfl | exact Yield.pick rfl (fun _ => rfl) (fun _ => rfl)) rfl ?_
  refine OG.yield (Yield.move rfl) rfl ?_
  refine OG.guard_yes rfl rfl rfl (by decide) ?_
  refine OG.yield (Yield.move rfl) rfl ?_
  refine OG.guard_yes rfl rfl rfl (by decide) ?_
  refine OG.yield (by first | exact Yield.as (Yield.eql rfl rfl) (bT (by omega)) | exact Yield.as (Yield.eql rfl rfl) (bF (by omega)) | exact Yield.eql rfl rfl) rfl ?_
  refine OG.yield (by first | exact Yield.pick_t rfl rfl | exact Yield.pick_f rfl rfl | exact Yield.pick rfl (fun _ => rfl) (fun _ => rfl)) rfl ?_
  refine OG.yield (Yield.move rfl) rfl ?_
  refine OG.guard_yes rfl rfl rfl (by decide) ?_
  refine OG.yield (Yield.move rfl) rfl ?_
  refine OG.guard_yes rfl rfl rfl (by decide) ?_
  refine OG.yield (by first | exact Yield.as (Yield.eql rfl rfl) (bT (by omega)) | exact Yield.as (Yield.eql rfl rfl) (bF (by omega)) | exact Yield.eql rfl rfl) rfl ?_
  refine OG.yield (by first | exact Yield.pick_t rfl rfl | exact Yield.pick_f rfl rfl | exact Yield.pick rfl (fun _ => rfl) (fun _ => rfl)) rfl ?_
  refine OG.yield (Yield.move rfl) rfl ?_
  refine OG.guard_yes rfl rfl rfl (by decide) ?_
  refine OG.yield (Yield.move rfl) rfl ?_
  refine OG.guard_yes rfl rfl rfl (by decide) ?_
  refine OG.yield (by first | exact Yield.as (Yield.eql rfl rfl) (bT (by omega)) | exact Yield.as (Yield.eql rfl rfl) (bF (by omega)) | exact Yield.eql rfl rfl) rfl ?_
  refine OG.yield (by first | exact Yield.pick_t rfl rfl | exact Yield.pick_f rfl rfl | exact Yield.pick rfl (fun _ => rfl) (fun _ => rfl)) rfl ?_
  refine OG.yield (Yield.move rfl) rfl ?_
  refine OG.guard_yes rfl rfl rfl (by decide) ?_
  refine OG.yield (Yield.move rfl) rfl ?_
  refine OG.guard_yes rfl rfl rfl (by decide) ?_
  refine OG.yield (by first | exact Yield.as (Yield.eql rfl rfl) (bT (by omega)) | exact Yield.as (Yield.eql rfl rfl) (bF (by omega)) | exact Yield.eql rfl rfl) rfl ?_
  refine OG.yield (by first | exact Yield.pick_t rfl rfl | exact Yield.pick_f rfl rfl | exact Yield.pick rfl (fun _ => rfl) (fun _ => rfl)) rfl ?_
  refine OG.yield (Yield.move rfl) rfl ?_
  refine OG.guard_yes rfl rfl rfl (by decide) ?_
  refine OG.yield (Yield.move rfl) rfl ?_
  refine OG.guard_yes rfl rfl rfl (by decide) ?_
  refine OG.yield (by first | exact Yield.as (Yield.eql rfl rfl) (bT (by omega)) | exact Yield.as (Yield.eql rfl rfl) (bF (by omega)) | exact Yield.eql rfl rfl) rfl ?_
  refine OG.yield (by first | exact Yield.pick_t rfl rfl | exact Yield.pick_f rfl rfl | exact Yield.pick rfl (fun _ => rfl) (fun _ => rfl)) rfl ?_
  refine OG.yield (Yield.move rfl) rfl ?_
  refine OG.guard_yes rfl rfl rfl (by decide) ?_
  refine OG.yield (Yield.move rfl) rfl ?_
  refine OG.guard_yes rfl rfl rfl (by decide) ?_
  refine OG.yield (Yield.nilCheck rfl) rfl ?_
  refine OG.guard_yes rfl rfl rfl (by decide) ?_
  refine OG.yield (Yield.fieldAddr fa70_1 rfl) rfl ?_
  refine OG.guard_yes rfl rfl rfl (by decide) ?_
  refine OG.yield (Yield.load ti64 rfl (by first | exact Cel.of_blk (by repeat (first | exact Ext.here | apply Ext.there)) rfl | exact (hrow (by repeat (first | exact Ext.here | apply Ext.there))) _ _ rfl)) rfl ?_
  refine OG.guard_yes rfl rfl rfl (by decide) ?_
  refine OG.callo call30 rfl ((by repeat (first | exact Imp.refl _ | exact Imp.none _ | apply Imp.pull (by repeat (first | exact Ext.here | apply Ext.there)) | apply Imp.trans Imp.drop))) (left_lk W0 _ (m := m) (f := f) (t := t) (k := 0) (r := r0) L6 hq (qk := 5) rfl rfl) rfl ?_
  rintro ⟨⟩ -
  rw [u4]
  refine OG.guard_yes rfl rfl rfl (by decide) ?_
  refine OG.yield (by first | exact Yield.as (Yield.eql rfl rfl) (bT (by omega)) | exact Yield.as (Yield.eql rfl rfl) (bF (by omega)) | exact Yield.eql rfl rfl) rfl ?_
  refine OG.yield (by first | exact Yield.pick_t rfl rfl | exact Yield.pick_f rfl rfl | exact Yield.pick rfl (fun _ => rfl) (fun _ => rfl)) rfl ?_
  refine OG.yield (Yield.assign rfl) rfl ?_
  refine OG.nil ?_
  refine QG.then ?_
  refine CG.ret ?_
  exact QG.ret1 rfl rfl () trivial rfl (by repeat (first | exact Imp.refl _ | exact Imp.none _ | apply Imp.pull (by repeat (first | exact Ext.here | apply Ext.there)) | apply Imp.trans Imp.drop))
end
end Go.Proofs.Ytmlfcfbblfcpdaa.Sp
