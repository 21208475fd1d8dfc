/- PageKeeps: pages are laid and taken away: each page has at all times the frame and the rights that were laid last, and no other page is there: the law returns true and changes nothing that was there. -/
import Derived.Test.YtmlfcfbblfcpdaaPkw
namespace Go.Proofs.Ytmlfcfbblfcpdaa.pageKeeps
open Go Go.Sl Go.RowKit Go.Proofs Go.Proofs.Ytmlfcfbblfcpdaa.T Go.Proofs.Ytmlfcfbblfcpdaa.Me Go.Proofs.Ytmlfcfbblfcpdaa.Pe Go.Proofs.Ytmlfcfbblfcpdaa.Pg
set_option linter.unusedVariables false
set_option linter.unusedSimpArgs false
set_option maxRecDepth 100000
abbrev vu : Int → Value := fun n => .int .u32 n
/-- What a page's entry is as the law keeps it. -/
def code (x : Nat × Nat) : Int := ((x.1 * 8 + x.2 : Nat) : Int)
/-- Between two acts: bytes, wanted pages, spare frame, after i acts. -/
structure KI (i : Nat) (bs : List UInt8) (l : List (Int × Int)) (sp : Nat) : Prop where
  tree : Tree 90 bs 0
  tabs : ∀ g, g < 64 → ∀ q, tab 90 bs 0 g = some q → 1 ≤ q ∧ q < sp
  sp1 : 1 ≤ sp
  sp2 : sp ≤ i + 1
  nd : (l.map (·.1)).Nodup
  has : ∀ p, p < 4096 → mget l ((p : Nat) : Int) = (wk 90 bs 0 p).map code
  small : ∀ p x, p < 4096 → wk 90 bs 0 p = some x → x.1 < 90 ∧ x.2 < 8
theorem KI.start : KI 0 (List.replicate (90 * 256) 0) [] 1 :=
  ⟨Tree.zeros (by decide), fun g _ q h => (by rw [tab_zeros] at h; cases h), by decide, by decide, by simp, fun p _ => (by rw [wk_zeros]; rfl), fun p x _ h => (by rw [wk_zeros] at h; cases h)⟩
theorem KI.clear {i : Nat} {bs : List UInt8} {l : List (Int × Int)} {sp p : Nat} (K : KI i bs l sp) (hp : p < 4096) : KI (i + 1) (clearR 90 bs 0 p) (mdel l (p : Int)) sp := by
  cases hx : wk 90 bs 0 p with
  | none =>
    rw [clearR_none hx]
    refine ⟨K.tree, K.tabs, K.sp1, by have := K.sp2; omega, mdel_nodup K.nd _, fun p' hp' => ?_, K.small⟩
    rw [mget_mdel K.nd]
    split
    · rename_i h; have : p' = p := by omega
      subst this; rw [hx]; rfl
    · exact K.has p' hp'
  | some x =>
    obtain ⟨q, hq⟩ := wk_tab hx
    rw [clearR_some hx hq]
    obtain ⟨a1, a2, a3⟩ := K.tree.st hp hq 0
    refine ⟨a1, fun g hg q' h => K.tabs g hg q' (by rw [← a2 g hg]; exact h), K.sp1, by have := K.sp2; omega, mdel_nodup K.nd _, fun p' hp' => ?_, fun p' x' hp' h => ?_⟩
    · rw [mget_mdel K.nd, a3 p' hp']
      by_cases h : p' = p
      · subst h; rw [if_pos rfl, if_pos rfl]; rfl
      · rw [if_neg (by omega), if_neg h]; exact K.has p' hp'
    · rw [a3 p' hp'] at h
      split at h
      · rw [show (0 : Nat) % 4294967296 = 0 from rfl, ent_zero] at h; cases h
      · exact K.small p' x' hp' h
theorem KI.set {i : Nat} {bs : List UInt8} {l : List (Int × Int)} {sp p f pm : Nat} (K : KI i bs l sp) (hi : i < 80) (hp : p < 4096) (hf : f < 86) (hpm : pm < 8) : ∃ u cs, setR 90 bs 0 p (entryOf f pm).toNat (sp : Nat) = (u, 0, cs) ∧ KI (i + 1) cs (mset l (p : Int) (code (f, pm))) (if u then sp + 1 else sp) := by
  have hent : ent ((entryOf f pm).toNat % 4294967296) = some (f, pm) := by rw [entry_mod]; exact ent_entry (by omega) (by omega)
  have h2 := K.sp2
  have h1 := K.sp1
  have fin : ∀ (cs : List UInt8) (sp' : Nat), Tree 90 cs 0 → (∀ g, g < 64 → ∀ q, tab 90 cs 0 g = some q → 1 ≤ q ∧ q < sp') → 1 ≤ sp' → sp' ≤ i + 1 + 1 → (∀ p', p' < 4096 → wk 90 cs 0 p' = if p' = p then some (f, pm) else wk 90 bs 0 p') → KI (i + 1) cs (mset l (p : Int) (code (f, pm))) sp' := fun cs sp' a1 a2 a4 a5 a3 => by
    refine ⟨a1, a2, a4, a5, mset_nodup K.nd _ _, fun p' hp' => ?_, fun p' x' hp' h => ?_⟩
    · rw [mget_mset, a3 p' hp']
      by_cases h : p' = p
      · subst h; rw [if_pos rfl, if_pos rfl]; rfl
      · rw [if_neg (by omega), if_neg h]; exact K.has p' hp'
    · rw [a3 p' hp'] at h
      split at h
      · cases h; exact ⟨by show f < 90; omega, hpm⟩
      · exact K.small p' x' hp' h
  cases hq : tab 90 bs 0 (p / 64) with
  | some q =>
    obtain ⟨a1, a2, a3⟩ := K.tree.st hp hq (entryOf f pm).toNat
    refine ⟨false, _, setR_tab hq, fin _ _ a1 (fun g hg q' h => K.tabs g hg q' (by rw [← a2 g hg]; exact h)) h1 (by simp; omega) ?_⟩
    rw [hent] at a3; exact a3
  | none =>
    obtain ⟨a1, a2, a3⟩ := K.tree.new (by decide) hp hq (show sp < 90 by omega) (by omega) (fun g hg h => by have := K.tabs g hg _ h; omega) (entryOf f pm).toNat
    refine ⟨true, _, setR_new hq (by omega), fin _ _ a1 (fun g hg q' h => ?_) (by simp) (by simp; omega) ?_⟩
    · rw [a2 g hg] at h
      split at h
      · cases h; simp; omega
      · have := K.tabs g hg q' h; simp; omega
    · rw [hent] at a3; exact a3
theorem walk_0 {n : Nat} {bs : List UInt8} {root p : Nat} : decide ((walkR n bs root p).2.2 = 0) = (wk n bs root p).isSome := by
  rw [walkR_wk]; cases wk n bs root p <;> rfl
theorem len_wk {n : Nat} {bs : List UInt8} {root p : Nat} : (pagesTo n bs root (p + 1)).length = (pagesTo n bs root p).length + if (wk n bs root p).isSome then 1 else 0 := by
  rw [pagesTo, pl_wk]; cases wk n bs root p <;> simp
theorem code_wrap {x : Nat × Nat} (h : x.1 < 90 ∧ x.2 < 8) : IntKind.u32.wrap ((x.1 : Int) * 8 + (x.2 : Int)) = code x := by
  unfold code; rw [IntKind.wrap_u32]; omega
theorem pages_le {n : Nat} {bs : List UInt8} {root : Nat} : ∀ p, (pagesTo n bs root p).length ≤ p
  | 0 => Nat.le_refl _
  | p + 1 => by rw [len_wk]; have := pages_le (n := n) (bs := bs) (root := root) p; split <;> omega
set_option maxHeartbeats 4000000 in
theorem walk (W : World) {a0 : Option Addr} {c0 : Nat} {ops : List POp} (hops : SlAt W 8 a0 ops.length ((ops.map POp.cells).flatten)) (hok : ∀ o ∈ ops, o.OK W) :
    Ctr Try.prog W 3 [.slice a0 ops.length c0] [old W] (fun _ : Unit => True) (fun _ => .bool true) (fun _ => [old W]) := by
  refine Ctr.of_bodyM Try.func3 rfl Try.ntmps3 rfl ?_
  refine CG.seq ?_
  refine CG.region ?_
  refine OG.yield (Yield.assign rfl) rfl ?_
  refine OG.nil ?_
  refine QG.then ?_
  refine CG.seq ?_
  refine CG.seq ?_
  refine CG.region ?_
  refine OG.callo call9 rfl (Imp.refl _) (works_spec W _) rfl ?_
  rintro ⟨⟩ -
  refine OG.yield (Yield.not rfl) rfl ?_
  refine OG.nil ?_
  refine QG.then ?_
  refine CG.cond_f rfl ?_
  refine CG.skip ?_
  refine QG.then ?_
  refine CG.seq ?_
  refine CG.region ?_
  refine OG.callo call10 rfl ((by repeat (first | exact Imp.refl _ | exact Imp.none _ | apply Imp.pull (by repeat (first | exact Ext.here | apply Ext.there)) | apply Imp.trans Imp.drop))) (Me.new_spec W _ (n := 90) (by decide) (by decide)) rfl ?_
  rintro m -
  refine OG.yield (Yield.move rfl) rfl ?_
  refine OG.yield (Yield.extract rfl rfl) rfl ?_
  refine OG.yield (Yield.extract rfl rfl) rfl ?_
  refine OG.yield (Yield.assign rfl) rfl ?_
  refine OG.yield (Yield.assign rfl) rfl ?_
  refine OG.nil ?_
  refine QG.then ?_
  refine CG.seq ?_
  refine CG.seq ?_
  refine CG.region ?_
  refine OG.yield (Yield.move rfl) rfl ?_
  refine OG.yield (by first | exact Yield.as (Yield.neq rfl rfl) (bT (by omega)) | exact Yield.as (Yield.neq rfl rfl) (bF (by omega)) | exact Yield.neq rfl rfl) rfl ?_
  refine OG.yield (Yield.move rfl) rfl ?_
  refine OG.guard_yes rfl rfl rfl (by decide) ?_
  refine OG.yield (Yield.move rfl) rfl ?_
  refine OG.guard_yes rfl rfl rfl (by decide) ?_
  refine OG.yield (by first | exact Yield.ptr_nil Try.underlying24 rfl rfl | exact Yield.nil_nil Try.underlying24 rfl rfl) rfl ?_
  refine OG.yield (by first | exact Yield.pick_t rfl rfl | exact Yield.pick_f rfl rfl | exact Yield.pick rfl (fun _ => rfl) (fun _ => rfl)) rfl ?_
  refine OG.nil ?_
  refine QG.then ?_
  refine CG.cond_f rfl ?_
  refine CG.skip ?_
  refine QG.then ?_
  refine CG.seq ?_
  refine CG.region ?_
  refine OG.effd (Eff.makeMap vi vu) rfl ?_
  rintro r -
  refine OG.yield (Yield.assign rfl) rfl ?_
  refine OG.nil ?_
  refine QG.then ?_
  refine CG.seq ?_
  refine CG.region ?_
  refine OG.yield (Yield.assign rfl) rfl ?_
  refine OG.nil ?_
  refine QG.then ?_
  refine CG.cut (fun s : List UInt8 × List (Int × Int) => ∃ i sp, KI i s.1 s.2 sp) (fun s => [(3, .pointer (some ⟨m, 0, none⟩)), (5, .map (some r))]) (fun s => [hmap vi vu r s.2, M m 90 s.1, old W]) ?_ ?_
  · skip
    refine CG.seq ?_
    refine CG.region ?_
    refine OG.yield (Yield.assign rfl) rfl ?_
    refine OG.nil ?_
    refine QG.then ?_
    refine CG.block ?_
    refine CG.loop (fun s : Nat × List UInt8 × List (Int × Int) × Nat => s.1 ≤ ops.length ∧ s.1 ≤ 80 ∧ KI s.1 s.2.1 s.2.2.1 s.2.2.2) (fun s => [(0, .slice a0 ops.length c0), (3, .pointer (some ⟨m, 0, none⟩)), (5, .map (some r)), (6, .int .i64 s.2.2.2), (7, .int .i64 s.1)]) (fun s => [hmap vi vu r s.2.2.1, M m 90 s.2.1, old W]) (fun s => ops.length - s.1) (0, List.replicate (90 * 256) 0, [], 1) ⟨Nat.zero_le _, by decide, KI.start⟩ (by repeat (first | exact Env.sub_nil _ | refine Env.sub_cons rfl ?_)) (by repeat (first | exact Imp.refl _ | exact Imp.none _ | apply Imp.pull (by repeat (first | exact Ext.here | apply Ext.there)) | apply Imp.trans Imp.drop)) ?_
    rintro ⟨i, bs, l, sp⟩ ⟨hi, hi8, K⟩
    dsimp only at hi hi8 K ⊢
    have hsp1 := K.sp1
    have hsp2 := K.sp2
    refine CG.seq ?_
    refine CG.seq ?_
    rcases loop_head (i) (ops.length) 80 with hh | hh | hh
    · skip
      refine CG.region ?_
      refine OG.yield (Yield.move rfl) rfl ?_
      refine OG.yield (Yield.move rfl) rfl ?_
      refine OG.yield (Yield.len_slice Try.underlying22 rfl rfl) rfl ?_
      refine OG.yield (by first | exact Yield.as (Yield.lss rfl rfl) (bT (by omega)) | exact Yield.as (Yield.lss rfl rfl) (bF (by omega)) | exact Yield.lss rfl rfl) rfl ?_
      refine OG.yield (Yield.move rfl) rfl ?_
      refine OG.guard_yes rfl rfl rfl (by decide) ?_
      refine OG.yield (Yield.move rfl) rfl ?_
      refine OG.guard_yes rfl rfl rfl (by decide) ?_
      refine OG.yield (by first | exact Yield.as (Yield.lss rfl rfl) (bT (by omega)) | exact Yield.as (Yield.lss rfl rfl) (bF (by omega)) | exact Yield.lss rfl rfl) rfl ?_
      refine OG.yield (by first | exact Yield.pick_t rfl rfl | exact Yield.pick_f rfl rfl | exact Yield.pick rfl (fun _ => rfl) (fun _ => rfl)) rfl ?_
      refine OG.nil ?_
      refine QG.then ?_
      refine CG.cond_t rfl ?_
      refine CG.skip ?_
      refine QG.then ?_
      refine CG.seq ?_
      refine CG.block ?_
      refine CG.seq ?_
      obtain ⟨h1, h2⟩ := hh
      have hget : ops[i]? = some ops[i] := by simp [h1]
      have hko := hok ops[i] (List.getElem_mem h1)
      generalize ops[i] = op at hget hko
      refine CG.pure (fun w hw => (hops.old (G := [hmap vi vu r l, M m 90 bs, old W]) (by repeat (first | exact Ext.here | apply Ext.there))).elem_shape POp.len (by decide) h1 w hw) ?_
      rintro ⟨b, o, rfl⟩
      have hrow : ∀ {G R : List HProp}, Ext G (old W) R → Row W G b (o + i * 8) op.cells := fun x => (hops.old x).elem POp.len hget
      have hw := wrap_u64_range op.Put_Page
      have hwf := wrap_u64_range op.Put_Frame
      have hwp := wrap_u64_range op.Put_Perm
      refine CG.region ?_
      refine OG.yield (Yield.move rfl) rfl ?_
      refine OG.yield (Yield.move rfl) rfl ?_
      refine OG.yield (Yield.index_slice Try.underlying22 ti34 rfl rfl (by omega) (by omega)) rfl ?_
      refine OG.yield (Yield.fieldAddr fa34_2 rfl) rfl ?_
      refine OG.yield (Yield.fieldAddr fa31_0 rfl) rfl ?_
      refine OG.yield (Yield.load (v := .int .i64 op.Put_Page) ti3 rfl ((hrow (by repeat (first | exact Ext.here | apply Ext.there))) 2 _ rfl)) rfl ?_
      refine OG.yield (Yield.conv Try.underlying29 rfl rfl rfl) rfl ?_
      generalize IntKind.u64.wrap op.Put_Page = wr at hw ⊢
      obtain ⟨p, hp, hp4⟩ : ∃ p : Nat, wr % 4096 = (p : Int) ∧ p < 4096 := ⟨(wr % 4096).toNat, by omega, by omega⟩
      refine OG.yield (Yield.rem (c := (p : Int)) rfl rfl (by decide) (by rw [← hp]; exact tmod_pos (by omega) (by omega))) rfl ?_
      refine OG.yield (by first | exact Yield.conv Try.underlying3 rfl rfl (w64 (by omega) (by omega)) | exact Yield.conv Try.underlying3 rfl rfl rfl) rfl ?_
      refine OG.yield (Yield.assign rfl) rfl ?_
      refine OG.nil ?_
      refine QG.then ?_
      refine CG.seq ?_
      refine CG.seq ?_
      refine CG.region ?_
      refine OG.yield (Yield.move rfl) rfl ?_
      refine OG.yield (Yield.move rfl) rfl ?_
      refine OG.yield (Yield.index_slice Try.underlying22 ti34 rfl rfl (by omega) (by omega)) rfl ?_
      refine OG.yield (Yield.fieldAddr fa34_0 rfl) rfl ?_
      refine OG.yield (Yield.load (v := .int .i64 op.Kind) ti3 rfl ((hrow (by repeat (first | exact Ext.here | apply Ext.there))) 0 _ rfl)) rfl ?_
      refine OG.yield (Yield.eql rfl rfl) rfl ?_
      refine OG.nil ?_
      refine QG.then ?_
      refine CG.cond rfl (fun hc => ?_) (fun hc => ?_)
      · try replace hc := of_decide_eq_true hc
        refine CG.seq ?_
        refine CG.region ?_
        refine OG.yield (Yield.move rfl) rfl ?_
        refine OG.yield (Yield.move rfl) rfl ?_
        refine OG.yield (Yield.lookup vi vu (l := l) Try.underlying28 ti32 keyInt (p : Int) rfl rfl (by repeat (first | exact Ext.here | apply Ext.there))) rfl ?_
        refine OG.yield (Yield.move rfl) rfl ?_
        refine OG.yield (Yield.extract rfl rfl) rfl ?_
        refine OG.yield (Yield.extract rfl rfl) rfl ?_
        refine OG.yield (Yield.assign rfl) rfl ?_
        refine OG.yield (Yield.assign rfl) rfl ?_
        refine OG.nil ?_
        refine QG.then ?_
        refine CG.seq ?_
        refine CG.seq ?_
        refine CG.region ?_
        refine OG.yield (Yield.move rfl) rfl ?_
        refine OG.yield (Yield.move rfl) rfl ?_
        refine OG.callo call11 rfl ((by repeat (first | exact Imp.refl _ | exact Imp.none _ | apply Imp.pull (by repeat (first | exact Ext.here | apply Ext.there)) | apply Imp.trans Imp.drop))) (clear_spec W _ (m := m) (n := 90) (root := 0) (p := p) (bs := bs) (by decide) hp4) rfl ?_
        rintro ⟨⟩ -
        refine OG.yield (Yield.as (Yield.eql rfl rfl) (v' := .bool (wk 90 bs 0 p).isSome) (by rw [walk_0])) rfl ?_
        refine OG.yield (Yield.move rfl) rfl ?_
        refine OG.yield (Yield.as (Yield.bool_neq Try.underlying4 rfl rfl) (v' := .bool false) (by rw [K.has p hp4]; cases wk 90 bs 0 p <;> rfl)) rfl ?_
        refine OG.nil ?_
        refine QG.then ?_
        refine CG.cond_f rfl ?_
        refine CG.skip ?_
        refine QG.then ?_
        refine CG.seq ?_
        refine CG.region ?_
        refine OG.yield (Yield.move rfl) rfl ?_
        refine OG.yield (Yield.move rfl) rfl ?_
        refine OG.eff (Eff.mapDelete vi vu rfl Try.underlying28 keyInt (p : Int) rfl rfl (by repeat (first | exact Foc.here | apply Foc.there))) rfl ?_
        rintro ⟨⟩ -
        refine OG.nil ?_
        refine QG.then ?_
        refine CG.exit ?_
        refine QG.pass_exit ?_
        refine QG.block_exit ?_
        refine QG.then ?_
        refine CG.region ?_
        refine OG.yield (Yield.move rfl) rfl ?_
        refine OG.yield (Yield.add rfl rfl (w64 (by omega) (by omega))) rfl ?_
        refine OG.yield (Yield.assign rfl) rfl ?_
        refine OG.nil ?_
        exact QG.next (i + 1, clearR 90 bs 0 p, mdel l (p : Int), sp) ⟨h1, h2, K.clear hp4⟩ (by simp only; omega) (by repeat (first | exact Env.sub_nil _ | refine Env.sub_cons rfl ?_)) (by repeat (first | exact Imp.refl _ | exact Imp.none _ | apply Imp.pull (by repeat (first | exact Ext.here | apply Ext.there)) | apply Imp.trans Imp.drop))
      · try replace hc := of_decide_eq_false hc
        refine CG.skip ?_
        refine QG.then ?_
        refine CG.seq ?_
        refine CG.draw (.look 0 1 (.look 1 1 (.look 2 1 (.look 3 1 (.look 4 1 (.look 5 1 (.look 6 1 (.look 7 1 (.look 8 1 (.look 9 1 (.look 10 1 (.look 11 1 (.look 12 1 (.look 13 1 (.look 14 1 (.look 15 1 (.look 16 1 (.look 17 1 (.look 18 1 (.look 19 1 (.look 20 1 (.done)))))))))))))))))))))) [] [] ([]) ([]) mixed (by kernel_rfl) (Imp.none _) (Imp.none _) ?_
        refine DG.look rfl rfl (Yield.move rfl) rfl ?_
        refine DG.look rfl rfl (Yield.move rfl) rfl ?_
        refine DG.look rfl rfl (Yield.index_slice Try.underlying22 ti34 rfl rfl (by omega) (by omega)) rfl ?_
        refine DG.look rfl rfl (Yield.fieldAddr fa34_2 rfl) rfl ?_
        refine DG.look rfl rfl (Yield.fieldAddr fa31_1 rfl) rfl ?_
        refine DG.look rfl rfl (Yield.load (v := .int .i64 op.Put_Frame) ti3 rfl ((hrow (by repeat (first | exact Ext.here | apply Ext.there))) 3 _ rfl)) rfl ?_
        refine DG.look rfl rfl (Yield.conv Try.underlying29 rfl rfl rfl) rfl ?_
        generalize IntKind.u64.wrap op.Put_Frame = wf at hwf ⊢
        obtain ⟨f0, hf0, hf4⟩ : ∃ p : Nat, wf % 20 = (p : Int) ∧ p < 20 := ⟨(wf % 20).toNat, by omega, by omega⟩
        refine DG.look rfl rfl (Yield.rem (c := (f0 : Int)) rfl rfl (by decide) (by rw [← hf0]; exact tmod_pos (by omega) (by omega))) rfl ?_
        refine DG.look rfl rfl (by first | exact Yield.conv Try.underlying3 rfl rfl (w64 (by omega) (by omega)) | exact Yield.conv Try.underlying3 rfl rfl rfl) rfl ?_
        refine DG.look rfl rfl (Yield.add (c := ((66 + f0 : Nat) : Int)) rfl rfl (by rw [w64 (by omega) (by omega)]; omega)) rfl ?_
        refine DG.look rfl rfl (Yield.move rfl) rfl ?_
        refine DG.look rfl rfl (Yield.move rfl) rfl ?_
        refine DG.look rfl rfl (Yield.index_slice Try.underlying22 ti34 rfl rfl (by omega) (by omega)) rfl ?_
        refine DG.look rfl rfl (Yield.fieldAddr fa34_2 rfl) rfl ?_
        refine DG.look rfl rfl (Yield.fieldAddr fa31_2 rfl) rfl ?_
        refine DG.look rfl rfl (Yield.load (v := .int .i64 op.Put_Perm) ti3 rfl ((hrow (by repeat (first | exact Ext.here | apply Ext.there))) 4 _ rfl)) rfl ?_
        refine DG.look rfl rfl (Yield.conv Try.underlying29 rfl rfl rfl) rfl ?_
        generalize IntKind.u64.wrap op.Put_Perm = wp at hwp ⊢
        obtain ⟨pm, hpm, hpm4⟩ : ∃ p : Nat, wp % 8 = (p : Int) ∧ p < 8 := ⟨(wp % 8).toNat, by omega, by omega⟩
        refine DG.look rfl rfl (Yield.rem (c := (pm : Int)) rfl rfl (by decide) (by rw [← hpm]; exact tmod_pos (by omega) (by omega))) rfl ?_
        refine DG.look rfl rfl (by first | exact Yield.conv Try.underlying3 rfl rfl (w64 (by omega) (by omega)) | exact Yield.conv Try.underlying3 rfl rfl rfl) rfl ?_
        refine DG.look rfl rfl (Yield.assign rfl) rfl ?_
        refine DG.look rfl rfl (Yield.assign rfl) rfl ?_
        refine DG.done ?_
        refine QG.then ?_
        refine CG.seq ?_
        obtain ⟨u, cs, hset, K2⟩ := K.set (i := i) (p := p) (f := 66 + f0) (pm := pm) (by omega) hp4 (by omega) hpm4
        have hent := (sp_entry (f := 66 + f0) (p := pm) (by omega) (by omega)).1
        refine CG.region ?_
        refine OG.yield (Yield.move rfl) rfl ?_
        refine OG.yield (Yield.move rfl) rfl ?_
        refine OG.yield (Yield.move rfl) rfl ?_
        refine OG.yield (Yield.move rfl) rfl ?_
        refine OG.yield (Yield.move rfl) rfl ?_
        refine OG.callo call12 rfl ((by repeat (first | exact Imp.refl _ | exact Imp.none _ | apply Imp.pull (by repeat (first | exact Ext.here | apply Ext.there)) | apply Imp.trans Imp.drop))) (set_spec W _ (m := m) (n := 90) (root := 0) (p := p) (e := (entryOf ((66 + f0 : Nat) : Int) pm).toNat) (f := ((66 + f0 : Nat) : Int)) (pm := pm) (spare := (sp : Int)) (bs := bs) (by decide) hp4 (by rw [hent]; rfl) (by rw [hent]; omega) (by omega)) rfl ?_
        rintro ⟨⟩ -
        rw [hset]
        refine OG.yield (Yield.move rfl) rfl ?_
        refine OG.yield (Yield.extract rfl rfl) rfl ?_
        refine OG.yield (Yield.extract rfl rfl) rfl ?_
        refine OG.yield (Yield.assign rfl) rfl ?_
        refine OG.yield (Yield.assign rfl) rfl ?_
        refine OG.nil ?_
        refine QG.then ?_
        refine CG.seq ?_
        refine CG.seq ?_
        refine CG.region ?_
        refine OG.yield (Yield.move rfl) rfl ?_
        refine OG.yield (by first | exact Yield.as (Yield.neq rfl rfl) (bT (by omega)) | exact Yield.as (Yield.neq rfl rfl) (bF (by omega)) | exact Yield.neq rfl rfl) rfl ?_
        refine OG.nil ?_
        refine QG.then ?_
        refine CG.cond_f rfl ?_
        refine CG.skip ?_
        refine QG.then ?_
        refine CG.seq ?_
        refine CG.seq ?_
        cases u
        · skip
          refine CG.region ?_
          refine OG.yield (Yield.move rfl) rfl ?_
          refine OG.nil ?_
          refine QG.then ?_
          refine CG.cond_f rfl ?_
          refine CG.skip ?_
          refine QG.then ?_
          refine CG.region ?_
          refine OG.yield (Yield.move rfl) rfl ?_
          refine OG.yield (Yield.move rfl) rfl ?_
          refine OG.yield (Yield.move rfl) rfl ?_
          refine OG.yield (Yield.mul (c := (((66 + f0) * 8 : Nat) : Int)) rfl rfl (by rw [w64 (by omega) (by omega)]; omega)) rfl ?_
          refine OG.yield (Yield.move rfl) rfl ?_
          refine OG.yield (Yield.add (c := code (66 + f0, pm)) rfl rfl (by unfold code; rw [w64 (by omega) (by omega)]; simp only; omega)) rfl ?_
          refine OG.yield (Yield.conv (c := code (66 + f0, pm)) Try.underlying32 rfl rfl (by unfold code; rw [wu32 (by omega) (by simp only; omega)])) rfl ?_
          refine OG.eff (Eff.mapUpdate vi vu Try.underlying28 keyInt (p : Int) (code (66 + f0, pm)) rfl rfl rfl (by repeat (first | exact Foc.here | apply Foc.there))) rfl ?_
          rintro ⟨⟩ -
          refine OG.nil ?_
          refine QG.block_normal ?_
          refine QG.then ?_
          refine CG.region ?_
          refine OG.yield (Yield.move rfl) rfl ?_
          refine OG.yield (Yield.add rfl rfl (w64 (by omega) (by omega))) rfl ?_
          refine OG.yield (Yield.assign rfl) rfl ?_
          refine OG.nil ?_
          exact QG.next (i + 1, cs, mset l (p : Int) (code (66 + f0, pm)), sp) ⟨h1, h2, K2⟩ (by simp only; omega) (by repeat (first | exact Env.sub_nil _ | refine Env.sub_cons rfl ?_)) (by repeat (first | exact Imp.refl _ | exact Imp.none _ | apply Imp.pull (by repeat (first | exact Ext.here | apply Ext.there)) | apply Imp.trans Imp.drop))
        · skip
          refine CG.region ?_
          refine OG.yield (Yield.move rfl) rfl ?_
          refine OG.nil ?_
          refine QG.then ?_
          refine CG.cond_t rfl ?_
          refine CG.region ?_
          refine OG.yield (Yield.move rfl) rfl ?_
          refine OG.yield (Yield.add rfl rfl (w64 (by omega) (by omega))) rfl ?_
          refine OG.yield (Yield.assign rfl) rfl ?_
          refine OG.nil ?_
          refine QG.then ?_
          refine CG.region ?_
          refine OG.yield (Yield.move rfl) rfl ?_
          refine OG.yield (Yield.move rfl) rfl ?_
          refine OG.yield (Yield.move rfl) rfl ?_
          refine OG.yield (Yield.mul (c := (((66 + f0) * 8 : Nat) : Int)) rfl rfl (by rw [w64 (by omega) (by omega)]; omega)) rfl ?_
          refine OG.yield (Yield.move rfl) rfl ?_
          refine OG.yield (Yield.add (c := code (66 + f0, pm)) rfl rfl (by unfold code; rw [w64 (by omega) (by omega)]; simp only; omega)) rfl ?_
          refine OG.yield (Yield.conv (c := code (66 + f0, pm)) Try.underlying32 rfl rfl (by unfold code; rw [wu32 (by omega) (by simp only; omega)])) rfl ?_
          refine OG.eff (Eff.mapUpdate vi vu Try.underlying28 keyInt (p : Int) (code (66 + f0, pm)) rfl rfl rfl (by repeat (first | exact Foc.here | apply Foc.there))) rfl ?_
          rintro ⟨⟩ -
          refine OG.nil ?_
          refine QG.block_normal ?_
          refine QG.then ?_
          refine CG.region ?_
          refine OG.yield (Yield.move rfl) rfl ?_
          refine OG.yield (Yield.add rfl rfl (w64 (by omega) (by omega))) rfl ?_
          refine OG.yield (Yield.assign rfl) rfl ?_
          refine OG.nil ?_
          exact QG.next (i + 1, cs, mset l (p : Int) (code (66 + f0, pm)), sp + 1) ⟨h1, h2, K2⟩ (by simp only; omega) (by repeat (first | exact Env.sub_nil _ | refine Env.sub_cons rfl ?_)) (by repeat (first | exact Imp.refl _ | exact Imp.none _ | apply Imp.pull (by repeat (first | exact Ext.here | apply Ext.there)) | apply Imp.trans Imp.drop))
    · skip
      refine CG.region ?_
      refine OG.yield (Yield.move rfl) rfl ?_
      refine OG.yield (Yield.move rfl) rfl ?_
      refine OG.yield (Yield.len_slice Try.underlying22 rfl rfl) rfl ?_
      refine OG.yield (by first | exact Yield.as (Yield.lss rfl rfl) (bT (by omega)) | exact Yield.as (Yield.lss rfl rfl) (bF (by omega)) | exact Yield.lss rfl rfl) rfl ?_
      refine OG.yield (Yield.move rfl) rfl ?_
      refine OG.guard_yes rfl rfl rfl (by decide) ?_
      refine OG.yield (Yield.move rfl) rfl ?_
      refine OG.guard_yes rfl rfl rfl (by decide) ?_
      refine OG.yield (by first | exact Yield.as (Yield.lss rfl rfl) (bT (by omega)) | exact Yield.as (Yield.lss rfl rfl) (bF (by omega)) | exact Yield.lss rfl rfl) rfl ?_
      refine OG.yield (by first | exact Yield.pick_t rfl rfl | exact Yield.pick_f rfl rfl | exact Yield.pick rfl (fun _ => rfl) (fun _ => rfl)) rfl ?_
      refine OG.nil ?_
      refine QG.then ?_
      refine CG.cond_f rfl ?_
      refine CG.exit ?_
      refine QG.pass_exit ?_
      refine QG.pass_exit ?_
      refine QG.block_exit ?_
      exact QG.mid (bs, l) ⟨i, sp, K⟩ (by repeat (first | exact Env.sub_nil _ | refine Env.sub_cons rfl ?_)) (by repeat (first | exact Imp.refl _ | exact Imp.none _ | apply Imp.pull (by repeat (first | exact Ext.here | apply Ext.there)) | apply Imp.trans Imp.drop))
    · skip
      refine CG.region ?_
      refine OG.yield (Yield.move rfl) rfl ?_
      refine OG.yield (Yield.move rfl) rfl ?_
      refine OG.yield (Yield.len_slice Try.underlying22 rfl rfl) rfl ?_
      refine OG.yield (by first | exact Yield.as (Yield.lss rfl rfl) (bT (by omega)) | exact Yield.as (Yield.lss rfl rfl) (bF (by omega)) | exact Yield.lss rfl rfl) rfl ?_
      refine OG.yield (Yield.move rfl) rfl ?_
      refine OG.guard_no rfl rfl rfl rfl rfl (by decide) (by decide) ?_
      refine OG.guard_no rfl rfl rfl rfl rfl (by decide) (by decide) ?_
      refine OG.yield (by first | exact Yield.pick_t rfl rfl | exact Yield.pick_f rfl rfl | exact Yield.pick rfl (fun _ => rfl) (fun _ => rfl)) rfl ?_
      refine OG.nil ?_
      refine QG.then ?_
      refine CG.cond_f rfl ?_
      refine CG.exit ?_
      refine QG.pass_exit ?_
      refine QG.pass_exit ?_
      refine QG.block_exit ?_
      exact QG.mid (bs, l) ⟨i, sp, K⟩ (by repeat (first | exact Env.sub_nil _ | refine Env.sub_cons rfl ?_)) (by repeat (first | exact Imp.refl _ | exact Imp.none _ | apply Imp.pull (by repeat (first | exact Ext.here | apply Ext.there)) | apply Imp.trans Imp.drop))
  rintro ⟨bs, l⟩ ⟨i, sp, K⟩
  dsimp only at K ⊢
  refine CG.seq ?_
  refine CG.region ?_
  refine OG.effd (Eff.alloc ti3) rfl ?_
  rintro b15 -
  refine OG.eff (Eff.store1 ti3 rfl rfl (by repeat (first | exact Foc.here | apply Foc.there)) rfl (by decide)) rfl ?_
  rintro ⟨⟩ -
  refine OG.nil ?_
  refine QG.then ?_
  refine CG.seq ?_
  refine CG.seq ?_
  refine CG.region ?_
  refine OG.yield (Yield.assign rfl) rfl ?_
  refine OG.nil ?_
  refine QG.then ?_
  refine CG.block ?_
  refine CG.loop (fun p : Nat => p ≤ 4096) (fun p => [(3, .pointer (some ⟨m, 0, none⟩)), (5, .map (some r)), (15, .pointer (some ⟨b15, 0, none⟩)), (16, .int .i64 p)]) (fun p => [blk b15 [.int .i64 ((pagesTo 90 bs 0 p).length : Nat)] 3, hmap vi vu r l, M m 90 bs, old W]) (fun p => 4096 - p) 0 (Nat.zero_le _) (by repeat (first | exact Env.sub_nil _ | refine Env.sub_cons rfl ?_)) (by repeat (first | exact Imp.refl _ | exact Imp.none _ | apply Imp.pull (by repeat (first | exact Ext.here | apply Ext.there)) | apply Imp.trans Imp.drop)) ?_
  intro p hp
  refine CG.seq ?_
  refine CG.seq ?_
  refine CG.region ?_
  refine OG.yield (Yield.move rfl) rfl ?_
  refine OG.yield (by first | exact Yield.as (Yield.lss rfl rfl) (bT (by omega)) | exact Yield.as (Yield.lss rfl rfl) (bF (by omega)) | exact Yield.lss rfl rfl) rfl ?_
  refine OG.nil ?_
  refine QG.then ?_
  refine CG.cond rfl (fun hc => ?_) (fun hc => ?_)
  · try replace hc := of_decide_eq_true hc
    have hp4 : p < 4096 := by omega
    have hle := pages_le (n := 90) (bs := bs) (root := 0) p
    refine CG.skip ?_
    refine QG.then ?_
    refine CG.seq ?_
    refine CG.block ?_
    refine CG.seq ?_
    refine CG.region ?_
    refine OG.yield (Yield.move rfl) rfl ?_
    refine OG.yield (Yield.move rfl) rfl ?_
    refine OG.yield (Yield.lookup vi vu (l := l) Try.underlying28 ti32 keyInt (p : Int) rfl rfl (by repeat (first | exact Ext.here | apply Ext.there))) rfl ?_
    refine OG.yield (Yield.move rfl) rfl ?_
    refine OG.yield (Yield.extract rfl rfl) rfl ?_
    refine OG.yield (Yield.extract rfl rfl) rfl ?_
    refine OG.yield (Yield.assign rfl) rfl ?_
    refine OG.yield (Yield.assign rfl) rfl ?_
    refine OG.nil ?_
    refine QG.then ?_
    refine CG.seq ?_
    refine CG.region ?_
    refine OG.yield (Yield.move rfl) rfl ?_
    refine OG.yield (Yield.move rfl) rfl ?_
    refine OG.callo call13 rfl ((by repeat (first | exact Imp.refl _ | exact Imp.none _ | apply Imp.pull (by repeat (first | exact Ext.here | apply Ext.there)) | apply Imp.trans Imp.drop))) (walk_spec W _ (m := m) (n := 90) (root := 0) (p := p) (bs := bs) (by decide) hp4) rfl ?_
    rintro ⟨⟩ -
    refine OG.yield (Yield.move rfl) rfl ?_
    refine OG.yield (Yield.extract rfl rfl) rfl ?_
    refine OG.yield (Yield.extract rfl rfl) rfl ?_
    refine OG.yield (Yield.extract rfl rfl) rfl ?_
    refine OG.yield (Yield.assign rfl) rfl ?_
    refine OG.yield (Yield.assign rfl) rfl ?_
    refine OG.yield (Yield.assign rfl) rfl ?_
    refine OG.nil ?_
    refine QG.then ?_
    refine CG.seq ?_
    refine CG.seq ?_
    rcases hwk : wk 90 bs 0 p with _ | x
    · skip
      rw [K.has p hp4, walkR_none hwk, hwk]
      have hlw := len_wk (n := 90) (bs := bs) (root := 0) (p := p)
      refine CG.region ?_
      refine OG.yield (Yield.move rfl) rfl ?_
      refine OG.yield (Yield.move rfl) rfl ?_
      refine OG.yield (by first | exact Yield.as (Yield.eql rfl rfl) (bT (by omega)) | exact Yield.as (Yield.eql rfl rfl) (bF (by omega)) | exact Yield.eql rfl rfl) rfl ?_
      refine OG.yield (by first | exact Yield.bool_samen Try.underlying4 rfl rfl | exact Yield.bool_neq Try.underlying4 rfl rfl) rfl ?_
      refine OG.yield (Yield.move rfl) rfl ?_
      refine OG.guard_yes rfl rfl rfl (by decide) ?_
      refine OG.yield (Yield.move rfl) rfl ?_
      refine OG.guard_yes rfl rfl rfl (by decide) ?_
      refine OG.yield (Yield.move rfl) rfl ?_
      refine OG.guard_no rfl rfl rfl rfl rfl (by decide) (by decide) ?_
      refine OG.guard_no rfl rfl rfl rfl rfl (by decide) (by decide) ?_
      refine OG.guard_no rfl rfl rfl rfl rfl (by decide) (by decide) ?_
      refine OG.guard_no rfl rfl rfl rfl rfl (by decide) (by decide) ?_
      refine OG.guard_no rfl rfl rfl rfl rfl (by decide) (by decide) ?_
      refine OG.guard_no rfl rfl rfl rfl rfl (by decide) (by decide) ?_
      refine OG.guard_no rfl rfl rfl rfl rfl (by decide) (by decide) ?_
      refine OG.guard_yes rfl rfl rfl (by decide) ?_
      refine OG.yield (by first | exact Yield.pick_t rfl rfl | exact Yield.pick_f rfl rfl | exact Yield.pick rfl (fun _ => rfl) (fun _ => rfl)) rfl ?_
      refine OG.yield (by first | exact Yield.pick_t rfl rfl | exact Yield.pick_f rfl rfl | exact Yield.pick rfl (fun _ => rfl) (fun _ => rfl)) rfl ?_
      refine OG.nil ?_
      refine QG.then ?_
      refine CG.cond_f rfl ?_
      refine CG.skip ?_
      refine QG.then ?_
      refine CG.seq ?_
      refine CG.region ?_
      refine OG.yield (Yield.move rfl) rfl ?_
      refine OG.nil ?_
      refine QG.then ?_
      refine CG.cond_f rfl ?_
      refine CG.skip ?_
      refine QG.block_normal ?_
      refine QG.then ?_
      refine CG.region ?_
      refine OG.yield (Yield.move rfl) rfl ?_
      refine OG.yield (Yield.add rfl rfl (w64 (by omega) (by omega))) rfl ?_
      refine OG.yield (Yield.assign rfl) rfl ?_
      refine OG.nil ?_
      exact QG.next (p + 1) hp4 (show 4096 - (p + 1) < 4096 - p by omega) (by repeat (first | exact Env.sub_nil _ | refine Env.sub_cons rfl ?_)) (by rw [show (pagesTo 90 bs 0 (p + 1)).length = (pagesTo 90 bs 0 p).length by rw [hlw, hwk]; rfl]; exact (by repeat (first | exact Imp.refl _ | exact Imp.none _ | apply Imp.pull (by repeat (first | exact Ext.here | apply Ext.there)) | apply Imp.trans Imp.drop)))
    · skip
      rw [K.has p hp4, walkR_some hwk, hwk]
      have hlw := len_wk (n := 90) (bs := bs) (root := 0) (p := p)
      have hsm := K.small p x hp4 hwk
      refine CG.region ?_
      refine OG.yield (Yield.move rfl) rfl ?_
      refine OG.yield (Yield.move rfl) rfl ?_
      refine OG.yield (by first | exact Yield.as (Yield.eql rfl rfl) (bT (by omega)) | exact Yield.as (Yield.eql rfl rfl) (bF (by omega)) | exact Yield.eql rfl rfl) rfl ?_
      refine OG.yield (by first | exact Yield.bool_samen Try.underlying4 rfl rfl | exact Yield.bool_neq Try.underlying4 rfl rfl) rfl ?_
      refine OG.yield (Yield.move rfl) rfl ?_
      refine OG.guard_yes rfl rfl rfl (by decide) ?_
      refine OG.yield (Yield.move rfl) rfl ?_
      refine OG.guard_yes rfl rfl rfl (by decide) ?_
      refine OG.yield (Yield.move rfl) rfl ?_
      refine OG.guard_yes rfl rfl rfl (by decide) ?_
      refine OG.yield (Yield.move rfl) rfl ?_
      refine OG.guard_yes rfl rfl rfl (by decide) ?_
      refine OG.yield (Yield.mul rfl rfl (w64 (by omega) (by omega))) rfl ?_
      refine OG.guard_yes rfl rfl rfl (by decide) ?_
      refine OG.yield (Yield.move rfl) rfl ?_
      refine OG.guard_yes rfl rfl rfl (by decide) ?_
      refine OG.yield (Yield.add (c := code x) rfl rfl (by unfold code; dsimp only; rw [w64 (by omega) (by omega)]; omega)) rfl ?_
      refine OG.guard_yes rfl rfl rfl (by decide) ?_
      refine OG.yield (Yield.conv (c := code x) Try.underlying32 rfl rfl (by unfold code; rw [wu32 (by omega) (by omega)])) rfl ?_
      refine OG.guard_yes rfl rfl rfl (by decide) ?_
      refine OG.yield (Yield.move rfl) rfl ?_
      refine OG.guard_yes rfl rfl rfl (by decide) ?_
      refine OG.yield (Yield.as (Yield.neq rfl rfl) (v' := .bool false) (by simp)) rfl ?_
      refine OG.guard_yes rfl rfl rfl (by decide) ?_
      refine OG.yield (by first | exact Yield.pick_t rfl rfl | exact Yield.pick_f rfl rfl | exact Yield.pick rfl (fun _ => rfl) (fun _ => rfl)) rfl ?_
      refine OG.yield (by first | exact Yield.pick_t rfl rfl | exact Yield.pick_f rfl rfl | exact Yield.pick rfl (fun _ => rfl) (fun _ => rfl)) rfl ?_
      refine OG.nil ?_
      refine QG.then ?_
      refine CG.cond_f rfl ?_
      refine CG.skip ?_
      refine QG.then ?_
      refine CG.seq ?_
      refine CG.region ?_
      refine OG.yield (Yield.move rfl) rfl ?_
      refine OG.nil ?_
      refine QG.then ?_
      refine CG.cond_t rfl ?_
      refine CG.region ?_
      refine OG.yield (Yield.load ti3 rfl (by first | exact Cel.of_blk (by repeat (first | exact Ext.here | apply Ext.there)) rfl | exact (hrow (by repeat (first | exact Ext.here | apply Ext.there))) _ _ rfl)) rfl ?_
      refine OG.yield (Yield.add (c := (((pagesTo 90 bs 0 (p + 1)).length : Nat) : Int)) rfl rfl (by rw [hlw, hwk]; rw [w64 (by omega) (by omega)]; simp)) rfl ?_
      refine OG.eff (Eff.store1 ti3 rfl rfl (by repeat (first | exact Foc.here | apply Foc.there)) rfl (by simp)) rfl ?_
      rintro ⟨⟩ -
      refine OG.nil ?_
      refine QG.block_normal ?_
      refine QG.then ?_
      refine CG.region ?_
      refine OG.yield (Yield.move rfl) rfl ?_
      refine OG.yield (Yield.add rfl rfl (w64 (by omega) (by omega))) rfl ?_
      refine OG.yield (Yield.assign rfl) rfl ?_
      refine OG.nil ?_
      exact QG.next (p + 1) hp4 (show 4096 - (p + 1) < 4096 - p by omega) (by repeat (first | exact Env.sub_nil _ | refine Env.sub_cons rfl ?_)) (by repeat (first | exact Imp.refl _ | exact Imp.none _ | apply Imp.pull (by repeat (first | exact Ext.here | apply Ext.there)) | apply Imp.trans Imp.drop))
  · try replace hc := of_decide_eq_false hc
    refine CG.exit ?_
    refine QG.pass_exit ?_
    refine QG.pass_exit ?_
    refine QG.block_exit ?_
    refine QG.then ?_
    refine CG.seq ?_
    refine CG.region ?_
    refine OG.yield (Yield.move rfl) rfl ?_
    refine OG.callo call14 rfl (Imp.refl _) (pages_spec W _ (m := m) (root := 0)) rfl ?_
    rintro ⟨bm, br⟩ -
    dsimp only
    refine OG.yield (Yield.assign rfl) rfl ?_
    refine OG.nil ?_
    refine QG.then ?_
    refine CG.seq ?_
    refine CG.seq ?_
    refine CG.region ?_
    refine OG.yield (Yield.move rfl) rfl ?_
    refine OG.yield (Yield.fn_nil Try.underlying42 rfl rfl) rfl ?_
    refine OG.nil ?_
    refine QG.then ?_
    refine CG.cond_f rfl ?_
    refine CG.skip ?_
    refine QG.then ?_
    refine CG.seq ?_
    refine CG.seq ?_
    refine CG.region ?_
    refine OG.yield (Yield.move rfl) rfl ?_
    refine OG.nil ?_
    refine QG.then ?_
    refine CG.block ?_
    obtain rfl : p = 4096 := by omega
    refine CG.range (ι := Empty) (pages 90 bs 0).length (pgEnc (pages 90 bs 0)) (fun _ => True) (fun i => i.elim) (fun k => [blk b15 [.int .i64 (((pages 90 bs 0).length : Int) - k)] 3, blk br [.int .i64 0] 3, blk bm [.pointer (some ⟨m, 0, none⟩)] 24, M m 90 bs, old W]) (fun i => i.elim) rfl call44 rfl (fun _ => rfl) ?_ ?_ ?_ ?_ ?_
    · rw [Int.natCast_zero, Int.sub_zero]; exact (by repeat (first | exact Imp.refl _ | exact Imp.none _ | apply Imp.pull (by repeat (first | exact Ext.here | apply Ext.there)) | apply Imp.trans Imp.drop))
    · intro D l q
      exact (pages_hit0 W (root := 0) (m := m) (bm := bm) (br := br) (by decide) (Y := fun k => [lrec l q .ready none, dblk D, blk b15 [.int .i64 (((pages 90 bs 0).length : Int) - k)] 3, old W]) (Z := fun i : Empty => i.elim)).conv (fun _ => (by repeat (first | exact Imp.refl _ | exact Imp.none _ | apply Imp.pull (by repeat (first | exact Ext.here | apply Ext.there)) | apply Imp.trans Imp.drop))) (fun _ => (by repeat (first | exact Imp.refl _ | exact Imp.none _ | apply Imp.pull (by repeat (first | exact Ext.here | apply Ext.there)) | apply Imp.trans Imp.drop))) (fun i => i.elim) (fun i => i.elim)
    · intro D l q k hk
      refine CG.skip ?_
      refine QG.begin (by repeat (first | exact Ext.here | apply Ext.there)) ?_
      have hle := pages_le (n := 90) (bs := bs) (root := 0) 4096
      have hkk : k < (pagesTo 90 bs 0 4096).length := hk
      refine CG.block ?_
      refine CG.region ?_
      refine OG.yield (Yield.load ti3 rfl (by first | exact Cel.of_blk (by repeat (first | exact Ext.here | apply Ext.there)) rfl | exact (hrow (by repeat (first | exact Ext.here | apply Ext.there))) _ _ rfl)) rfl ?_
      refine OG.yield (Yield.sub (c := ((pages 90 bs 0).length : Int) - ((k + 1 : Nat) : Int)) rfl rfl (by unfold pages; rw [w64 (by omega) (by omega)]; omega)) rfl ?_
      refine OG.eff (Eff.store1 ti3 rfl rfl (by repeat (first | exact Foc.here | apply Foc.there)) rfl (by simp)) rfl ?_
      rintro ⟨⟩ -
      refine OG.nil ?_
      refine QG.block_normal ?_
      exact QG.round_next (by repeat (first | exact Ext.here | apply Ext.there)) (by repeat (first | exact Imp.refl _ | exact Imp.none _ | apply Imp.pull (by repeat (first | exact Ext.here | apply Ext.there)) | apply Imp.trans Imp.drop))
    · intro D
      rw [Int.sub_self]
      refine QG.block_normal ?_
      refine QG.then ?_
      refine CG.seq ?_
      refine CG.region ?_
      refine OG.yield (Yield.load ti3 rfl (by first | exact Cel.of_blk (by repeat (first | exact Ext.here | apply Ext.there)) rfl | exact (hrow (by repeat (first | exact Ext.here | apply Ext.there))) _ _ rfl)) rfl ?_
      refine OG.yield (Yield.as (Yield.eql rfl rfl) (v' := .bool true) rfl) rfl ?_
      refine OG.yield (Yield.assign rfl) rfl ?_
      refine OG.nil ?_
      refine QG.then ?_
      refine CG.ret ?_
      refine QG.mark1 (.inl rfl) (by repeat (first | exact Ext.here | apply Ext.there)) ?_
      exact QG.ret1 rfl rfl () trivial rfl (by repeat (first | exact Imp.refl _ | exact Imp.none _ | apply Imp.pull (by repeat (first | exact Ext.here | apply Ext.there)) | apply Imp.trans Imp.drop))
    · intro D i
      exact i.elim
open Go.ChangeShapes Go.WideShapes Go.ChangeAt
theorem own : ownKnob Try.prog.godebug = none := by kernel_rfl
theorem laid : laidOutB Try.prog = true := by kernel_rfl
set_option maxRecDepth 100000 in
theorem lifted (os : Os) (started : os.Started) (H : Type) (enc : TypeId × Value → H) :
    ReturnsInHanded {} Try.checked os 3 .any (Rows.pageKeepsSpec.pre6 enc Try.prog Try.f3 Rows.pageKeepsRow.domain false) (Rows.pageKeepsSpec.post enc Try.prog Try.f3 false true false false) := by
  refine returnsInHanded_of_change_sized (C := Try.checked) own started (by kernel_rfl) Try.func3
    (ChangeSpec.witness6 (enc := enc) (C := Try.checked) false ⟨#[], #[.slice none 0 0], []⟩ 8 (by kernel_rfl) (by kernel_rfl) (by kernel_rfl) (by kernel_rfl)) ?_
  intro W base args ds gs before hval0 hW hcnd hsz0 _
  have hsz : (DataW.weightsEach Try.prog (Try.f3.params.toList ++ Rows.pageKeepsSpec.plain.varTypes Try.prog) (ds ++ gs)).all (· ≤ reachBytes) = true := hsz0
  have hval : ∀ (j : Nat) t v, Try.f3.params[j]? = some t → args[j]? = some v → Value.okWide Try.prog W .any base t v := hval0
  have hW' := hW
  obtain ⟨p, q, hA0, hV, rfl, hfz, hnd⟩ := hW
  have hA : DataW.TrodAll enc Try.prog W 0 (fun _ => true) true Try.f3.params.toList args.toList ds p := hA0
  rw [Try.params3] at hA hval hsz
  obtain ⟨v0, vs0, d0, ds0, p0, q0, hargs, rfl, rfl, h0, r0⟩ := trodAll_cons hA
  obtain ⟨rfl, rfl, rfl⟩ := trodAll_nil r0
  obtain rfl : args = #[v0] := by cases args; simp_all
  obtain ⟨rfl, rfl⟩ := trodVars_none hV
  have k0 := weights_le hsz 0 (t := 22) (d := d0) rfl rfl
  have s0 := Opn.param Try.underlying22 (POp.list W) (hval 0 22 v0 rfl rfl) h0 k0
  obtain ⟨x0, c0, ops, e0, l0, ok0, s0, m0⟩ := s0
  cases e0
  clear hA0 hval0 hsz0 hsz
  refine ((walk W s0 ok0) W (Sat.start W)).mono fun e W' he => ?_
  obtain ⟨_, _, he, hs⟩ := he
  subst he
  exact ⟨_, rfl, law_post laid (params_ok (by kernel_rfl)) rfl Try.underlying4 hW' rfl rfl (Sat.below (by repeat (first | exact Ext.here | apply Ext.there)) hs)⟩
theorem over : Rows.pageKeepsRow.holds Try.pinned (OpenSpec.ofChange Rows.pageKeepsSpec) :=
  OpenClaim.holds_of_wide 3 Try.f3 rfl rfl rfl rfl rfl rfl rfl ⟨rfl, rfl, rfl, rfl, rfl⟩ rfl rfl rfl rfl rfl (by kernel_rfl) Try.func3 (by kernel_rfl)
    (of_decide_eq_true (by kernel_rfl)) (by unfold Func.isWrapper; first | (rw [if_pos (by decide +kernel)]; kernel_rfl) | (rw [if_neg (by decide +kernel)]; exact ⟨rfl, rfl⟩))
    (fun os started H enc _ => lifted os started H enc)
theorem proved : Rows.PageKeepsSaid := over
#print axioms proved
end Go.Proofs.Ytmlfcfbblfcpdaa.pageKeeps
