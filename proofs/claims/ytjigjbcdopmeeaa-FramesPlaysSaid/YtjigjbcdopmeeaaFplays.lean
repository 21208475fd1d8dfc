/- FramesPlays: whatever is taken and given, each answer, and who owns what behind it, are the reference's: the law returns true and changes nothing that was there. -/
import Derived.Test.YtjigjbcdopmeeaaFref
namespace Go.Proofs.Ytjigjbcdopmeeaa.framesPlays
open Go Go.Sl Go.RowKit Go.Proofs Go.Proofs.Ytjigjbcdopmeeaa.T Go.Proofs.Ytjigjbcdopmeeaa.Fz
set_option linter.unusedVariables false
set_option linter.unusedSimpArgs false
set_option maxRecDepth 100000
section
variable (W0 : World) (Fr : List HProp)
theorem alike_spec {f r : Nat} {own qs : List Int} (fr : Int) (inv : Inv own qs) (hq : ∀ q ∈ qs, 0 ≤ q ∧ q ≤ 1024) : Ctr Try.prog W0 31 [.pointer (some ⟨f, 0, none⟩), .pointer (some ⟨r, 0, none⟩), .int .i64 fr] (F f own qs :: RF r own qs :: Fr) (fun _ : Unit => True) (fun _ => .bool true) (fun _ => F f own qs :: RF r own qs :: Fr) := by
  have htl := inv.tot
  have hql := inv.ql
  obtain ⟨who, hwho⟩ : ∃ x : Int, (∃ k : Nat, fr = k ∧ own[k]? = some x) ∨ (¬ isF own fr ∧ x = -1) := by
    by_cases hf : isF own fr
    · exact ⟨own[fr.toNat]'(by have := hf.1; have := hf.2; omega), .inl ⟨fr.toNat, by have := hf.1; omega, by simp⟩⟩
    · exact ⟨-1, .inr ⟨hf, rfl⟩⟩
  refine Ctr.of_body Try.func31 rfl Try.ntmps31 rfl ?_
  refine CG.seq ?_
  refine CG.region ?_
  refine OG.yield (Yield.assign rfl) rfl ?_
  refine OG.nil ?_
  refine QG.then ?_
  refine CG.seq ?_
  refine CG.seq ?_
  refine CG.region ?_
  refine OG.yield (Yield.move rfl) rfl ?_
  refine OG.callo call20 rfl ((by repeat (first | exact Imp.refl _ | exact Imp.none _ | apply Imp.pull (by repeat (first | exact Ext.here | apply Ext.there)) | apply Imp.trans Imp.drop))) (free_spec W0 _ (own := own) (qs := qs)) rfl ?_
  rintro ⟨⟩ -
  refine OG.yield (Yield.move rfl) rfl ?_
  refine OG.callo call52 rfl ((by repeat (first | exact Imp.refl _ | exact Imp.none _ | apply Imp.pull (by repeat (first | exact Ext.here | apply Ext.there)) | apply Imp.trans Imp.drop))) (rfree_spec W0 _ inv) rfl ?_
  rintro ⟨⟩ -
  refine OG.yield (by first | exact Yield.as (Yield.neq rfl rfl) (bT (by omega)) | exact Yield.as (Yield.neq rfl rfl) (bF (by omega)) | exact Yield.neq rfl rfl) rfl ?_
  refine OG.yield (Yield.move rfl) rfl ?_
  refine OG.guard_yes rfl rfl rfl (by decide) ?_
  refine OG.yield (Yield.move rfl) rfl ?_
  refine OG.guard_yes rfl rfl rfl (by decide) ?_
  refine OG.yield (Yield.move rfl) rfl ?_
  refine OG.guard_yes rfl rfl rfl (by decide) ?_
  refine OG.callo call16 rfl ((by repeat (first | exact Imp.refl _ | exact Imp.none _ | apply Imp.pull (by repeat (first | exact Ext.here | apply Ext.there)) | apply Imp.trans Imp.drop))) (owner_spec W0 _ (own := own) (qs := qs) fr hwho) rfl ?_
  rintro ⟨⟩ -
  refine OG.guard_yes rfl rfl rfl (by decide) ?_
  refine OG.yield (Yield.move rfl) rfl ?_
  refine OG.guard_yes rfl rfl rfl (by decide) ?_
  refine OG.yield (Yield.move rfl) rfl ?_
  refine OG.guard_yes rfl rfl rfl (by decide) ?_
  refine OG.callo call53 rfl ((by repeat (first | exact Imp.refl _ | exact Imp.none _ | apply Imp.pull (by repeat (first | exact Ext.here | apply Ext.there)) | apply Imp.trans Imp.drop))) (rowner_spec W0 _ (own := own) (qs := qs) fr hwho) rfl ?_
  rintro ⟨⟩ -
  refine OG.guard_yes rfl rfl rfl (by decide) ?_
  refine OG.yield (by first | exact Yield.as (Yield.neq rfl rfl) (bT (by omega)) | exact Yield.as (Yield.neq rfl rfl) (bF (by omega)) | exact Yield.neq rfl rfl) rfl ?_
  refine OG.yield (by first | exact Yield.pick_t rfl rfl | exact Yield.pick_f rfl rfl | exact Yield.pick rfl (fun _ => rfl) (fun _ => rfl)) rfl ?_
  refine OG.nil ?_
  refine QG.then ?_
  refine CG.cond_f rfl ?_
  refine CG.skip ?_
  refine QG.then ?_
  refine CG.seq ?_
  refine CG.seq ?_
  refine CG.region ?_
  refine OG.yield (Yield.assign rfl) rfl ?_
  refine OG.nil ?_
  refine QG.then ?_
  refine CG.block ?_
  refine CG.loop (fun k : Nat => k ≤ qs.length + 2) (fun k => [(0, .pointer (some ⟨f, 0, none⟩)), (1, .pointer (some ⟨r, 0, none⟩)), (7, .int .i64 ((k : Int) - 1))]) (fun _ => F f own qs :: RF r own qs :: Fr) (fun k => qs.length + 2 - k) 0 (Nat.zero_le _) (by repeat (first | exact Env.sub_nil _ | refine Env.sub_cons rfl ?_)) (by repeat (first | exact Imp.refl _ | exact Imp.none _ | apply Imp.pull (by repeat (first | exact Ext.here | apply Ext.there)) | apply Imp.trans Imp.drop)) ?_
  intro k hk
  refine CG.seq ?_
  refine CG.seq ?_
  refine CG.ex (A := RF r own qs) (by repeat (first | exact Ext.here | apply Ext.there)) rf_open ?_
  rintro ⟨⟨⟨b, o⟩, c⟩, a, c2⟩ -
  refine CG.imp star_open ?_
  dsimp only [RO, List.cons_append, List.nil_append]
  refine CG.region ?_
  refine OG.yield (Yield.move rfl) rfl ?_
  refine OG.yield (Yield.move rfl) rfl ?_
  refine OG.yield (Yield.nilCheck rfl) rfl ?_
  refine OG.yield (Yield.fieldAddr fa92_1 rfl) rfl ?_
  refine OG.yield (Yield.load (v := .slice a qs.length c2) ti29 rfl (Cel.of_blk (b := r) (by repeat (first | exact Ext.here | apply Ext.there)) rfl)) rfl ?_
  refine OG.yield (Yield.len_slice Try.underlying29 rfl rfl) rfl ?_
  refine OG.yield (by first | exact Yield.as (Yield.leq rfl rfl) (bT (by omega)) | exact Yield.as (Yield.leq rfl rfl) (bF (by omega)) | exact Yield.leq rfl rfl) rfl ?_
  refine OG.nil ?_
  refine QG.then ?_
  refine CG.cond rfl (fun hc => ?_) (fun hc => ?_)
  · try replace hc := of_decide_eq_true hc
    have hk' : k < qs.length + 2 := by omega
    refine CG.imp (Imp.trans (by repeat (first | exact Imp.refl _ | exact Imp.none _ | apply Imp.pull (by repeat (first | exact Ext.here | apply Ext.there)) | apply Imp.trans Imp.drop)) (Imp.trans (rf_close (r := r) (own := own) (qs := qs) (((b, o), c), a, c2)) (by repeat (first | exact Imp.refl _ | exact Imp.none _ | apply Imp.pull (by repeat (first | exact Ext.here | apply Ext.there)) | apply Imp.trans Imp.drop)))) ?_
    refine CG.skip ?_
    refine QG.then ?_
    refine CG.seq ?_
    refine CG.block ?_
    refine CG.seq ?_
    refine CG.region ?_
    refine OG.yield (Yield.move rfl) rfl ?_
    refine OG.yield (Yield.move rfl) rfl ?_
    refine OG.callo call19 rfl ((by repeat (first | exact Imp.refl _ | exact Imp.none _ | apply Imp.pull (by repeat (first | exact Ext.here | apply Ext.there)) | apply Imp.trans Imp.drop))) (held_spec W0 _ (own := own) (qs := qs) ((k : Int) - 1)) rfl ?_
    rintro ⟨a8, c8⟩ -
    refine OG.yield (Yield.assign rfl) rfl ?_
    refine OG.nil ?_
    refine QG.then ?_
    have hhl : (held own qs ((k : Int) - 1)).length ≤ 1024 := by
      by_cases hp : isP qs ((k : Int) - 1)
      · rw [held_len hp]; have := cnt_le own ((k : Int) - 1); omega
      · unfold held; rw [if_neg hp]; simp
    refine CG.seq ?_
    refine CG.seq ?_
    refine CG.region ?_
    refine OG.yield (Yield.move rfl) rfl ?_
    refine OG.yield (Yield.move rfl) rfl ?_
    refine OG.yield (Yield.move rfl) rfl ?_
    refine OG.callo call54 rfl ((by repeat (first | exact Imp.refl _ | exact Imp.none _ | apply Imp.pull (by repeat (first | exact Ext.here | apply Ext.there)) | apply Imp.trans Imp.drop))) (rheld_spec W0 _ (own := own) (qs := qs) ((k : Int) - 1) htl.2) rfl ?_
    rintro ⟨a9, c9⟩ -
    refine OG.callo call27 rfl (Imp.refl _) (same_spec W0 _ (xs := held own qs ((k : Int) - 1)) (by exact SlR.of_osl (E := 3) (a := a8) (c := c8) (by repeat (first | exact Ext.here | apply Ext.there))) (by exact SlR.of_osl (E := 3) (a := a9) (c := c9) (by repeat (first | exact Ext.here | apply Ext.there))) (by omega)) rfl ?_
    rintro ⟨⟩ -
    refine OG.yield (Yield.not rfl) rfl ?_
    refine OG.yield (Yield.move rfl) rfl ?_
    refine OG.guard_yes rfl rfl rfl (by decide) ?_
    refine OG.yield (Yield.move rfl) rfl ?_
    refine OG.guard_yes rfl rfl rfl (by decide) ?_
    refine OG.yield (Yield.move rfl) rfl ?_
    refine OG.guard_yes rfl rfl rfl (by decide) ?_
    refine OG.callo call17 rfl ((by repeat (first | exact Imp.refl _ | exact Imp.none _ | apply Imp.pull (by repeat (first | exact Ext.here | apply Ext.there)) | apply Imp.trans Imp.drop))) (left_spec W0 _ (own := own) (qs := qs) ((k : Int) - 1) hq) rfl ?_
    rintro ⟨⟩ -
    refine OG.guard_yes rfl rfl rfl (by decide) ?_
    refine OG.yield (Yield.move rfl) rfl ?_
    refine OG.guard_yes rfl rfl rfl (by decide) ?_
    refine OG.yield (Yield.move rfl) rfl ?_
    refine OG.guard_yes rfl rfl rfl (by decide) ?_
    refine OG.callo call51 rfl ((by repeat (first | exact Imp.refl _ | exact Imp.none _ | apply Imp.pull (by repeat (first | exact Ext.here | apply Ext.there)) | apply Imp.trans Imp.drop))) (rleft_spec W0 _ (own := own) (qs := qs) ((k : Int) - 1) htl.2 hq) rfl ?_
    rintro ⟨⟩ -
    refine OG.guard_yes rfl rfl rfl (by decide) ?_
    refine OG.yield (by first | exact Yield.as (Yield.neq rfl rfl) (bT (by omega)) | exact Yield.as (Yield.neq rfl rfl) (bF (by omega)) | exact Yield.neq rfl rfl) rfl ?_
    refine OG.yield (by first | exact Yield.pick_t rfl rfl | exact Yield.pick_f rfl rfl | exact Yield.pick rfl (fun _ => rfl) (fun _ => rfl)) rfl ?_
    refine OG.nil ?_
    refine QG.then ?_
    refine CG.cond_f rfl ?_
    refine CG.skip ?_
    refine QG.then ?_
    generalize held own qs ((k : Int) - 1) = hs at hhl ⊢
    refine CG.seq ?_
    refine CG.region ?_
    refine OG.yield (Yield.assign rfl) rfl ?_
    refine OG.nil ?_
    refine QG.then ?_
    refine CG.block ?_
    refine CG.loop (fun s : Nat × List Int => s.1 ≤ hs.length ∧ s.2.length = hs.length) (fun s => [(0, .pointer (some ⟨f, 0, none⟩)), (1, .pointer (some ⟨r, 0, none⟩)), (7, .int .i64 ((k : Int) - 1)), (8, .slice a8 hs.length c8), (9, .int .i64 s.1)]) (fun s => oiv a8 c8 s.2 :: F f own qs :: RF r own qs :: Fr) (fun s => hs.length - s.1) (0, hs) ⟨Nat.zero_le _, rfl⟩ (by repeat (first | exact Env.sub_nil _ | refine Env.sub_cons rfl ?_)) (by repeat (first | exact Imp.refl _ | exact Imp.none _ | apply Imp.pull (by repeat (first | exact Ext.here | apply Ext.there)) | apply Imp.trans Imp.drop)) ?_
    rintro ⟨i, xs⟩ ⟨hi, hxl⟩
    dsimp only at hi hxl ⊢
    refine CG.seq ?_
    refine CG.seq ?_
    refine CG.region ?_
    refine OG.yield (Yield.move rfl) rfl ?_
    refine OG.yield (Yield.move rfl) rfl ?_
    refine OG.yield (Yield.len_slice Try.underlying29 rfl rfl) rfl ?_
    refine OG.yield (by first | exact Yield.as (Yield.lss rfl rfl) (bT (by omega)) | exact Yield.as (Yield.lss rfl rfl) (bF (by omega)) | exact Yield.lss rfl rfl) rfl ?_
    refine OG.nil ?_
    refine QG.then ?_
    refine CG.cond rfl (fun hc => ?_) (fun hc => ?_)
    · try replace hc := of_decide_eq_true hc
      have hi' : i < xs.length := by omega
      refine CG.pure (fun w hw => iv_shape (l := xs) (SlR.of_osl (W0 := W0) (E := 3) (sz := 1) (a := a8) (c := c8) (m := xs.length) (xs := iv xs) (by repeat (first | exact Ext.here | apply Ext.there))) (by omega) w hw) ?_
      rintro ⟨b8, o8, rfl⟩
      refine CG.skip ?_
      refine QG.then ?_
      refine CG.seq ?_
      refine CG.block ?_
      refine CG.region ?_
      refine OG.yield (Yield.move rfl) rfl ?_
      refine OG.yield (Yield.move rfl) rfl ?_
      refine OG.yield (Yield.index_slice Try.underlying29 ti3 rfl rfl (by omega) (by omega)) rfl ?_
      refine OG.eff (Eff.storeInt (i := i) (o := o8) (bs := xs) ti3 (show o8 + (i : Int).toNat * 1 = o8 + i by omega) rfl rfl (by repeat (first | exact Foc.here | apply Foc.there)) hi') rfl ?_
      rintro ⟨⟩ -
      refine OG.nil ?_
      refine QG.block_normal ?_
      refine QG.then ?_
      refine CG.region ?_
      refine OG.yield (Yield.move rfl) rfl ?_
      refine OG.yield (Yield.add rfl rfl (w64 (by omega) (by omega))) rfl ?_
      refine OG.yield (Yield.assign rfl) rfl ?_
      refine OG.nil ?_
      exact QG.next (i + 1, xs.set i (-9)) ⟨by simp only; omega, by simp only; rw [List.length_set]; exact hxl⟩ (by simp only; omega) (by repeat (first | exact Env.sub_nil _ | refine Env.sub_cons rfl ?_)) (by repeat (first | exact Imp.refl _ | exact Imp.none _ | apply Imp.pull (by repeat (first | exact Ext.here | apply Ext.there)) | apply Imp.trans Imp.drop))
    · try replace hc := of_decide_eq_false hc
      refine CG.exit ?_
      refine QG.pass_exit ?_
      refine QG.pass_exit ?_
      refine QG.block_exit ?_
      refine QG.block_normal ?_
      refine QG.then ?_
      refine CG.region ?_
      refine OG.yield (Yield.move rfl) rfl ?_
      refine OG.yield (Yield.add rfl rfl (w64 (by omega) (by omega))) rfl ?_
      refine OG.yield (Yield.assign rfl) rfl ?_
      refine OG.nil ?_
      refine QG.next (k + 1) (show k + 1 ≤ qs.length + 2 by omega) (show qs.length + 2 - (k + 1) < qs.length + 2 - k by omega) ?_ (by repeat (first | exact Imp.refl _ | exact Imp.none _ | apply Imp.pull (by repeat (first | exact Ext.here | apply Ext.there)) | apply Imp.trans Imp.drop))
      rw [show ((k + 1 : Nat) : Int) - 1 = (k : Int) - 1 + 1 by omega]; exact (by repeat (first | exact Env.sub_nil _ | refine Env.sub_cons rfl ?_))
  · try replace hc := of_decide_eq_false hc
    refine CG.exit ?_
    refine QG.pass_exit ?_
    refine QG.pass_exit ?_
    refine QG.block_exit ?_
    refine QG.then ?_
    refine CG.seq ?_
    refine CG.region ?_
    refine OG.yield (Yield.assign rfl) rfl ?_
    refine OG.nil ?_
    refine QG.then ?_
    refine CG.ret ?_
    exact QG.ret1 rfl rfl () trivial rfl (Imp.trans (by repeat (first | exact Imp.refl _ | exact Imp.none _ | apply Imp.pull (by repeat (first | exact Ext.here | apply Ext.there)) | apply Imp.trans Imp.drop)) (Imp.trans (rf_close (r := r) (own := own) (qs := qs) (((b, o), c), a, c2)) (by repeat (first | exact Imp.refl _ | exact Imp.none _ | apply Imp.pull (by repeat (first | exact Ext.here | apply Ext.there)) | apply Imp.trans Imp.drop))))
end
structure St where
  i : Nat
  t : Nat
  own : List Int
def St.env (a2 : Option Addr) (m c2 r : Nat) (s : St) : Env := [(2, .slice a2 m c2), (8, .pointer (some ⟨s.t, 0, none⟩)), (10, .pointer (some ⟨r, 0, none⟩)), (13, .int .i64 s.i)]
abbrev St.G (W : World) (r : Nat) (qs : List Int) (s : St) : List HProp := [F s.t s.own qs, RF r s.own qs, old W]
theorem walk0 (W : World) {n0 : Int} {a1 a2 : Option Addr} {c1 c2 : Nat} {qs : List Int} {ops : List FAct} (hqs : SlAt W 1 a1 qs.length (iv qs)) (hqb : qs.length ≤ 17592186043904) (hn : nerr n0 qs ≠ 0) :
    Ctr Try.prog W 8 [.int .i64 n0, .slice a1 qs.length c1, .slice a2 ops.length c2] [old W] (fun _ : Unit => True) (fun _ => .bool true) (fun _ => [old W]) := by
  refine Ctr.of_body Try.func8 rfl Try.ntmps8 rfl ?_
  refine CG.seq ?_
  refine CG.region ?_
  refine OG.yield (Yield.assign rfl) rfl ?_
  refine OG.nil ?_
  refine QG.then ?_
  refine CG.seq ?_
  refine CG.region ?_
  refine OG.effd (Eff.lit0 Try.underlying29 ti3 rfl) rfl ?_
  rintro b20 -
  refine OG.yield (Yield.move rfl) rfl ?_
  refine OG.effd (Eff.append0 (k := qs.length) (ys := iv qs) rfl rfl rfl Try.underlying29 Try.underlying29 ti3 rfl (by decide) (by repeat (first | exact Foc.here | apply Foc.there)) (hqs.old (by repeat (first | exact Ext.here | apply Ext.there))) (iv_ones qs) (by omega)) rfl ?_
  rintro ⟨a7, c7⟩ -
  refine OG.yield (Yield.assign rfl) rfl ?_
  refine OG.nil ?_
  refine QG.then ?_
  refine CG.seq ?_
  refine CG.region ?_
  refine OG.yield (Yield.move rfl) rfl ?_
  refine OG.yield (Yield.move rfl) rfl ?_
  refine OG.callo call13 rfl (Imp.refl _) (new_bad W _ (qs := qs) (by exact SlR.of_osl (E := 3) (a := a7) (c := c7) (by repeat (first | exact Ext.here | apply Ext.there))) hn) rfl ?_
  rintro ⟨⟩ -
  refine OG.yield (Yield.move rfl) rfl ?_
  refine OG.yield (Yield.extract rfl rfl) rfl ?_
  refine OG.yield (Yield.extract rfl rfl) rfl ?_
  refine OG.yield (Yield.assign rfl) rfl ?_
  refine OG.yield (Yield.assign rfl) rfl ?_
  refine OG.nil ?_
  refine QG.then ?_
  refine CG.seq ?_
  refine CG.region ?_
  refine OG.yield (Yield.move rfl) rfl ?_
  refine OG.yield (Yield.move rfl) rfl ?_
  refine OG.callo call26 rfl (Imp.refl _) (rnew_bad W _ (qs := qs) (by exact hqs.old (by repeat (first | exact Ext.here | apply Ext.there))) hn) rfl ?_
  rintro ⟨⟩ -
  refine OG.yield (Yield.move rfl) rfl ?_
  refine OG.yield (Yield.extract rfl rfl) rfl ?_
  refine OG.yield (Yield.extract rfl rfl) rfl ?_
  refine OG.yield (Yield.assign rfl) rfl ?_
  refine OG.yield (Yield.assign rfl) rfl ?_
  refine OG.nil ?_
  refine QG.then ?_
  refine CG.seq ?_
  refine CG.seq ?_
  refine CG.region ?_
  refine OG.yield (Yield.move rfl) rfl ?_
  refine OG.yield (Yield.move rfl) rfl ?_
  refine OG.yield (by first | exact Yield.as (Yield.neq rfl rfl) (bT (by omega)) | exact Yield.as (Yield.neq rfl rfl) (bF (by omega)) | exact Yield.neq rfl rfl) rfl ?_
  refine OG.yield (Yield.move rfl) rfl ?_
  refine OG.guard_yes rfl rfl rfl (by decide) ?_
  refine OG.yield (Yield.move rfl) rfl ?_
  refine OG.guard_yes rfl rfl rfl (by decide) ?_
  refine OG.yield (by first | exact Yield.ptr_nil Try.underlying25 rfl rfl | exact Yield.nil_nil Try.underlying25 rfl rfl) rfl ?_
  refine OG.guard_yes rfl rfl rfl (by decide) ?_
  refine OG.yield (Yield.move rfl) rfl ?_
  refine OG.guard_yes rfl rfl rfl (by decide) ?_
  refine OG.yield (by first | exact Yield.ptr_nil Try.underlying58 rfl rfl | exact Yield.nil_nil Try.underlying58 rfl rfl) rfl ?_
  refine OG.guard_yes rfl rfl rfl (by decide) ?_
  refine OG.yield (by first | exact Yield.bool_samen Try.underlying4 rfl rfl | exact Yield.bool_neq Try.underlying4 rfl rfl) rfl ?_
  refine OG.yield (by first | exact Yield.pick_t rfl rfl | exact Yield.pick_f rfl rfl | exact Yield.pick rfl (fun _ => rfl) (fun _ => rfl)) rfl ?_
  refine OG.yield (Yield.move rfl) rfl ?_
  refine OG.guard_yes rfl rfl rfl (by decide) ?_
  refine OG.yield (Yield.move rfl) rfl ?_
  refine OG.guard_yes rfl rfl rfl (by decide) ?_
  refine OG.yield (Yield.move rfl) rfl ?_
  refine OG.guard_yes rfl rfl rfl (by decide) ?_
  refine OG.callo call27 rfl (Imp.refl _) (same_spec W _ (xs := qs) (by exact SlR.of_osl (E := 3) (a := a7) (c := c7) (by repeat (first | exact Ext.here | apply Ext.there))) (by exact hqs.old (by repeat (first | exact Ext.here | apply Ext.there))) (by omega)) rfl ?_
  rintro ⟨⟩ -
  refine OG.guard_yes rfl rfl rfl (by decide) ?_
  refine OG.yield (Yield.not rfl) rfl ?_
  refine OG.yield (by first | exact Yield.pick_t rfl rfl | exact Yield.pick_f rfl rfl | exact Yield.pick rfl (fun _ => rfl) (fun _ => rfl)) rfl ?_
  refine OG.nil ?_
  refine QG.then ?_
  refine CG.cond_f rfl ?_
  refine CG.skip ?_
  refine QG.then ?_
  refine CG.seq ?_
  refine CG.seq ?_
  refine CG.region ?_
  refine OG.yield (Yield.assign rfl) rfl ?_
  refine OG.nil ?_
  refine QG.then ?_
  refine CG.block ?_
  refine CG.loop (fun s : Nat × List Int => s.1 ≤ qs.length ∧ s.2.length = qs.length) (fun s => [(7, .slice a7 qs.length c7), (10, .pointer none), (12, .int .i64 s.1)]) (fun s => [oiv a7 c7 s.2, old W]) (fun s => qs.length - s.1) (0, qs) ⟨Nat.zero_le _, rfl⟩ (by repeat (first | exact Env.sub_nil _ | refine Env.sub_cons rfl ?_)) (by repeat (first | exact Imp.refl _ | exact Imp.none _ | apply Imp.pull (by repeat (first | exact Ext.here | apply Ext.there)) | apply Imp.trans Imp.drop)) ?_
  rintro ⟨i, xs⟩ ⟨hi, hxl⟩
  dsimp only at hi hxl ⊢
  refine CG.seq ?_
  refine CG.seq ?_
  refine CG.region ?_
  refine OG.yield (Yield.move rfl) rfl ?_
  refine OG.yield (Yield.move rfl) rfl ?_
  refine OG.yield (Yield.len_slice Try.underlying29 rfl rfl) rfl ?_
  refine OG.yield (by first | exact Yield.as (Yield.lss rfl rfl) (bT (by omega)) | exact Yield.as (Yield.lss rfl rfl) (bF (by omega)) | exact Yield.lss rfl rfl) rfl ?_
  refine OG.nil ?_
  refine QG.then ?_
  refine CG.cond rfl (fun hc => ?_) (fun hc => ?_)
  · try replace hc := of_decide_eq_true hc
    have hi' : i < xs.length := by omega
    refine CG.pure (fun w hw => iv_shape (l := xs) (SlR.of_osl (W0 := W) (E := 3) (sz := 1) (a := a7) (c := c7) (m := xs.length) (xs := iv xs) (by repeat (first | exact Ext.here | apply Ext.there))) (by omega) w hw) ?_
    rintro ⟨b8, o8, rfl⟩
    refine CG.skip ?_
    refine QG.then ?_
    refine CG.seq ?_
    refine CG.block ?_
    refine CG.region ?_
    refine OG.yield (Yield.move rfl) rfl ?_
    refine OG.yield (Yield.move rfl) rfl ?_
    refine OG.yield (Yield.index_slice Try.underlying29 ti3 rfl rfl (by omega) (by omega)) rfl ?_
    refine OG.eff (Eff.storeInt (i := i) (o := o8) (bs := xs) ti3 (show o8 + (i : Int).toNat * 1 = o8 + i by omega) rfl rfl (by repeat (first | exact Foc.here | apply Foc.there)) hi') rfl ?_
    rintro ⟨⟩ -
    refine OG.nil ?_
    refine QG.block_normal ?_
    refine QG.then ?_
    refine CG.region ?_
    refine OG.yield (Yield.move rfl) rfl ?_
    refine OG.yield (Yield.add rfl rfl (w64 (by omega) (by omega))) rfl ?_
    refine OG.yield (Yield.assign rfl) rfl ?_
    refine OG.nil ?_
    exact QG.next (i + 1, xs.set i 999) ⟨by simp only; omega, by simp only; rw [List.length_set]; exact hxl⟩ (by simp only; omega) (by repeat (first | exact Env.sub_nil _ | refine Env.sub_cons rfl ?_)) (by repeat (first | exact Imp.refl _ | exact Imp.none _ | apply Imp.pull (by repeat (first | exact Ext.here | apply Ext.there)) | apply Imp.trans Imp.drop))
  · try replace hc := of_decide_eq_false hc
    refine CG.exit ?_
    refine QG.pass_exit ?_
    refine QG.pass_exit ?_
    refine QG.block_exit ?_
    refine QG.then ?_
    refine CG.seq ?_
    refine CG.seq ?_
    refine CG.region ?_
    refine OG.yield (Yield.move rfl) rfl ?_
    refine OG.yield (by first | exact Yield.ptr_nil Try.underlying58 rfl rfl | exact Yield.nil_nil Try.underlying58 rfl rfl) rfl ?_
    refine OG.yield (Yield.move rfl) rfl ?_
    refine OG.guard_no rfl rfl rfl rfl rfl (by decide) (by decide) ?_
    refine OG.guard_no rfl rfl rfl rfl rfl (by decide) (by decide) ?_
    refine OG.guard_no rfl rfl rfl rfl rfl (by decide) (by decide) ?_
    refine OG.yield (by first | exact Yield.pick_t rfl rfl | exact Yield.pick_f rfl rfl | exact Yield.pick rfl (fun _ => rfl) (fun _ => rfl)) rfl ?_
    refine OG.nil ?_
    refine QG.then ?_
    refine CG.cond_t rfl ?_
    refine CG.seq ?_
    refine CG.region ?_
    refine OG.yield (Yield.assign rfl) rfl ?_
    refine OG.nil ?_
    refine QG.then ?_
    refine CG.ret ?_
    refine QG.pass_ret ?_
    exact QG.ret1 rfl rfl () trivial rfl (by repeat (first | exact Imp.refl _ | exact Imp.none _ | apply Imp.pull (by repeat (first | exact Ext.here | apply Ext.there)) | apply Imp.trans Imp.drop))
set_option maxHeartbeats 8000000 in
theorem walk (W : World) {n0 : Int} {a1 a2 : Option Addr} {c1 c2 : Nat} {qs : List Int} {ops : List FAct} (hqs0 : SlAt W 1 a1 qs.length ((qs.map (intC .i64)).flatten)) (hqb0 : qs.length * 8 ≤ reachBytes) (hops : SlAt W 3 a2 ops.length ((ops.map FAct.cells).flatten)) :
    Ctr Try.prog W 8 [.int .i64 n0, .slice a1 qs.length c1, .slice a2 ops.length c2] [old W] (fun _ : Unit => True) (fun _ => .bool true) (fun _ => [old W]) := by
  have hqs : SlAt W 1 a1 qs.length (iv qs) := by rw [← flat_ints]; exact hqs0
  unfold reachBytes at hqb0
  have hqb : qs.length ≤ 17592186043904 := by omega
  by_cases hn : nerr n0 qs = 0
  case neg => exact walk0 W hqs hqb hn
  obtain ⟨htt, hql, hqm, hsum⟩ := nerr_ok hn
  obtain ⟨n, rfl⟩ : ∃ n : Nat, n0 = (n : Int) := ⟨n0.toNat, by omega⟩
  refine Ctr.of_body Try.func8 rfl Try.ntmps8 rfl ?_
  refine CG.seq ?_
  refine CG.region ?_
  refine OG.yield (Yield.assign rfl) rfl ?_
  refine OG.nil ?_
  refine QG.then ?_
  refine CG.seq ?_
  refine CG.region ?_
  refine OG.effd (Eff.lit0 Try.underlying29 ti3 rfl) rfl ?_
  rintro b20 -
  refine OG.yield (Yield.move rfl) rfl ?_
  refine OG.effd (Eff.append0 (k := qs.length) (ys := iv qs) rfl rfl rfl Try.underlying29 Try.underlying29 ti3 rfl (by decide) (by repeat (first | exact Foc.here | apply Foc.there)) (hqs.old (by repeat (first | exact Ext.here | apply Ext.there))) (iv_ones qs) (by omega)) rfl ?_
  rintro ⟨a7, c7⟩ -
  refine OG.yield (Yield.assign rfl) rfl ?_
  refine OG.nil ?_
  refine QG.then ?_
  refine CG.seq ?_
  refine CG.region ?_
  refine OG.yield (Yield.move rfl) rfl ?_
  refine OG.yield (Yield.move rfl) rfl ?_
  refine OG.callo call13 rfl (Imp.refl _) (new_ok W _ (qs := qs) (by exact SlR.of_osl (E := 3) (a := a7) (c := c7) (by repeat (first | exact Ext.here | apply Ext.there))) hn) rfl ?_
  rintro t -
  refine OG.yield (Yield.move rfl) rfl ?_
  refine OG.yield (Yield.extract rfl rfl) rfl ?_
  refine OG.yield (Yield.extract rfl rfl) rfl ?_
  refine OG.yield (Yield.assign rfl) rfl ?_
  refine OG.yield (Yield.assign rfl) rfl ?_
  refine OG.nil ?_
  refine QG.then ?_
  refine CG.seq ?_
  refine CG.region ?_
  refine OG.yield (Yield.move rfl) rfl ?_
  refine OG.yield (Yield.move rfl) rfl ?_
  refine OG.callo call26 rfl (Imp.refl _) (rnew_ok W _ (qs := qs) (by exact hqs.old (by repeat (first | exact Ext.here | apply Ext.there))) hn) rfl ?_
  rintro r -
  refine OG.yield (Yield.move rfl) rfl ?_
  refine OG.yield (Yield.extract rfl rfl) rfl ?_
  refine OG.yield (Yield.extract rfl rfl) rfl ?_
  refine OG.yield (Yield.assign rfl) rfl ?_
  refine OG.yield (Yield.assign rfl) rfl ?_
  refine OG.nil ?_
  refine QG.then ?_
  refine CG.seq ?_
  refine CG.seq ?_
  refine CG.region ?_
  refine OG.yield (Yield.move rfl) rfl ?_
  refine OG.yield (Yield.move rfl) rfl ?_
  refine OG.yield (by first | exact Yield.as (Yield.neq rfl rfl) (bT (by omega)) | exact Yield.as (Yield.neq rfl rfl) (bF (by omega)) | exact Yield.neq rfl rfl) rfl ?_
  refine OG.yield (Yield.move rfl) rfl ?_
  refine OG.guard_yes rfl rfl rfl (by decide) ?_
  refine OG.yield (Yield.move rfl) rfl ?_
  refine OG.guard_yes rfl rfl rfl (by decide) ?_
  refine OG.yield (by first | exact Yield.ptr_nil Try.underlying25 rfl rfl | exact Yield.nil_nil Try.underlying25 rfl rfl) rfl ?_
  refine OG.guard_yes rfl rfl rfl (by decide) ?_
  refine OG.yield (Yield.move rfl) rfl ?_
  refine OG.guard_yes rfl rfl rfl (by decide) ?_
  refine OG.yield (by first | exact Yield.ptr_nil Try.underlying58 rfl rfl | exact Yield.nil_nil Try.underlying58 rfl rfl) rfl ?_
  refine OG.guard_yes rfl rfl rfl (by decide) ?_
  refine OG.yield (by first | exact Yield.bool_samen Try.underlying4 rfl rfl | exact Yield.bool_neq Try.underlying4 rfl rfl) rfl ?_
  refine OG.yield (by first | exact Yield.pick_t rfl rfl | exact Yield.pick_f rfl rfl | exact Yield.pick rfl (fun _ => rfl) (fun _ => rfl)) rfl ?_
  refine OG.yield (Yield.move rfl) rfl ?_
  refine OG.guard_yes rfl rfl rfl (by decide) ?_
  refine OG.yield (Yield.move rfl) rfl ?_
  refine OG.guard_yes rfl rfl rfl (by decide) ?_
  refine OG.yield (Yield.move rfl) rfl ?_
  refine OG.guard_yes rfl rfl rfl (by decide) ?_
  refine OG.callo call27 rfl (Imp.refl _) (same_spec W _ (xs := qs) (by exact SlR.of_osl (E := 3) (a := a7) (c := c7) (by repeat (first | exact Ext.here | apply Ext.there))) (by exact hqs.old (by repeat (first | exact Ext.here | apply Ext.there))) (by omega)) rfl ?_
  rintro ⟨⟩ -
  refine OG.guard_yes rfl rfl rfl (by decide) ?_
  refine OG.yield (Yield.not rfl) rfl ?_
  refine OG.yield (by first | exact Yield.pick_t rfl rfl | exact Yield.pick_f rfl rfl | exact Yield.pick rfl (fun _ => rfl) (fun _ => rfl)) rfl ?_
  refine OG.nil ?_
  refine QG.then ?_
  refine CG.cond_f rfl ?_
  refine CG.skip ?_
  refine QG.then ?_
  refine CG.seq ?_
  refine CG.seq ?_
  refine CG.region ?_
  refine OG.yield (Yield.assign rfl) rfl ?_
  refine OG.nil ?_
  refine QG.then ?_
  refine CG.block ?_
  refine CG.loop (fun s : Nat × List Int => s.1 ≤ qs.length ∧ s.2.length = qs.length) (fun s => [(2, .slice a2 ops.length c2), (7, .slice a7 qs.length c7), (8, .pointer (some ⟨t, 0, none⟩)), (10, .pointer (some ⟨r, 0, none⟩)), (12, .int .i64 s.1)]) (fun s => [oiv a7 c7 s.2, F t (List.replicate n (-1)) qs, RF r (List.replicate n (-1)) qs, old W]) (fun s => qs.length - s.1) (0, qs) ⟨Nat.zero_le _, rfl⟩ (by repeat (first | exact Env.sub_nil _ | refine Env.sub_cons rfl ?_)) (by repeat (first | exact Imp.refl _ | exact Imp.none _ | apply Imp.pull (by repeat (first | exact Ext.here | apply Ext.there)) | apply Imp.trans Imp.drop)) ?_
  rintro ⟨i, xs⟩ ⟨hi, hxl⟩
  dsimp only at hi hxl ⊢
  refine CG.seq ?_
  refine CG.seq ?_
  refine CG.region ?_
  refine OG.yield (Yield.move rfl) rfl ?_
  refine OG.yield (Yield.move rfl) rfl ?_
  refine OG.yield (Yield.len_slice Try.underlying29 rfl rfl) rfl ?_
  refine OG.yield (by first | exact Yield.as (Yield.lss rfl rfl) (bT (by omega)) | exact Yield.as (Yield.lss rfl rfl) (bF (by omega)) | exact Yield.lss rfl rfl) rfl ?_
  refine OG.nil ?_
  refine QG.then ?_
  refine CG.cond rfl (fun hc => ?_) (fun hc => ?_)
  · try replace hc := of_decide_eq_true hc
    have hi' : i < xs.length := by omega
    refine CG.pure (fun w hw => iv_shape (l := xs) (SlR.of_osl (W0 := W) (E := 3) (sz := 1) (a := a7) (c := c7) (m := xs.length) (xs := iv xs) (by repeat (first | exact Ext.here | apply Ext.there))) (by omega) w hw) ?_
    rintro ⟨b8, o8, rfl⟩
    refine CG.skip ?_
    refine QG.then ?_
    refine CG.seq ?_
    refine CG.block ?_
    refine CG.region ?_
    refine OG.yield (Yield.move rfl) rfl ?_
    refine OG.yield (Yield.move rfl) rfl ?_
    refine OG.yield (Yield.index_slice Try.underlying29 ti3 rfl rfl (by omega) (by omega)) rfl ?_
    refine OG.eff (Eff.storeInt (i := i) (o := o8) (bs := xs) ti3 (show o8 + (i : Int).toNat * 1 = o8 + i by omega) rfl rfl (by repeat (first | exact Foc.here | apply Foc.there)) hi') rfl ?_
    rintro ⟨⟩ -
    refine OG.nil ?_
    refine QG.block_normal ?_
    refine QG.then ?_
    refine CG.region ?_
    refine OG.yield (Yield.move rfl) rfl ?_
    refine OG.yield (Yield.add rfl rfl (w64 (by omega) (by omega))) rfl ?_
    refine OG.yield (Yield.assign rfl) rfl ?_
    refine OG.nil ?_
    exact QG.next (i + 1, xs.set i 999) ⟨by simp only; omega, by simp only; rw [List.length_set]; exact hxl⟩ (by simp only; omega) (by repeat (first | exact Env.sub_nil _ | refine Env.sub_cons rfl ?_)) (by repeat (first | exact Imp.refl _ | exact Imp.none _ | apply Imp.pull (by repeat (first | exact Ext.here | apply Ext.there)) | apply Imp.trans Imp.drop))
  · try replace hc := of_decide_eq_false hc
    refine CG.exit ?_
    refine QG.pass_exit ?_
    refine QG.pass_exit ?_
    refine QG.block_exit ?_
    refine QG.then ?_
    refine CG.seq ?_
    refine CG.seq ?_
    rcases (show 300 < ops.length ∨ ops.length ≤ 300 by omega) with hp | hp
    · skip
      refine CG.region ?_
      refine OG.yield (Yield.move rfl) rfl ?_
      refine OG.yield (by first | exact Yield.ptr_nil Try.underlying58 rfl rfl | exact Yield.nil_nil Try.underlying58 rfl rfl) rfl ?_
      refine OG.yield (Yield.move rfl) rfl ?_
      refine OG.guard_yes rfl rfl rfl (by decide) ?_
      refine OG.yield (Yield.move rfl) rfl ?_
      refine OG.guard_yes rfl rfl rfl (by decide) ?_
      refine OG.yield (Yield.len_slice Try.underlying22 rfl rfl) rfl ?_
      refine OG.guard_yes rfl rfl rfl (by decide) ?_
      refine OG.yield (by first | exact Yield.as (Yield.gtr rfl rfl) (bT (by omega)) | exact Yield.as (Yield.gtr rfl rfl) (bF (by omega)) | exact Yield.gtr rfl rfl) rfl ?_
      refine OG.yield (by first | exact Yield.pick_t rfl rfl | exact Yield.pick_f rfl rfl | exact Yield.pick rfl (fun _ => rfl) (fun _ => rfl)) rfl ?_
      refine OG.nil ?_
      refine QG.then ?_
      refine CG.cond_t rfl ?_
      refine CG.seq ?_
      refine CG.region ?_
      refine OG.yield (Yield.assign rfl) rfl ?_
      refine OG.nil ?_
      refine QG.then ?_
      refine CG.ret ?_
      refine QG.pass_ret ?_
      exact QG.ret1 rfl rfl () trivial rfl (by repeat (first | exact Imp.refl _ | exact Imp.none _ | apply Imp.pull (by repeat (first | exact Ext.here | apply Ext.there)) | apply Imp.trans Imp.drop))
    · skip
      refine CG.region ?_
      refine OG.yield (Yield.move rfl) rfl ?_
      refine OG.yield (by first | exact Yield.ptr_nil Try.underlying58 rfl rfl | exact Yield.nil_nil Try.underlying58 rfl rfl) rfl ?_
      refine OG.yield (Yield.move rfl) rfl ?_
      refine OG.guard_yes rfl rfl rfl (by decide) ?_
      refine OG.yield (Yield.move rfl) rfl ?_
      refine OG.guard_yes rfl rfl rfl (by decide) ?_
      refine OG.yield (Yield.len_slice Try.underlying22 rfl rfl) rfl ?_
      refine OG.guard_yes rfl rfl rfl (by decide) ?_
      refine OG.yield (by first | exact Yield.as (Yield.gtr rfl rfl) (bT (by omega)) | exact Yield.as (Yield.gtr rfl rfl) (bF (by omega)) | exact Yield.gtr rfl rfl) rfl ?_
      refine OG.yield (by first | exact Yield.pick_t rfl rfl | exact Yield.pick_f rfl rfl | exact Yield.pick rfl (fun _ => rfl) (fun _ => rfl)) rfl ?_
      refine OG.nil ?_
      refine QG.then ?_
      refine CG.cond_f rfl ?_
      refine CG.skip ?_
      refine QG.then ?_
      refine CG.seq ?_
      refine CG.seq ?_
      refine CG.region ?_
      refine OG.yield (Yield.assign rfl) rfl ?_
      refine OG.nil ?_
      refine QG.then ?_
      refine CG.block ?_
      refine CG.loop (fun s : St => s.i ≤ ops.length ∧ Inv s.own qs) (St.env a2 ops.length c2 r) (St.G W r qs) (fun s => ops.length - s.i) ⟨0, t, List.replicate n (-1)⟩ ⟨Nat.zero_le _, inv_new hn⟩ (by repeat (first | exact Env.sub_nil _ | refine Env.sub_cons rfl ?_)) (by repeat (first | exact Imp.refl _ | exact Imp.none _ | apply Imp.pull (by repeat (first | exact Ext.here | apply Ext.there)) | apply Imp.trans Imp.drop)) ?_
      rintro ⟨i, t, own⟩ ⟨im, inv⟩
      unfold St.env
      dsimp only at im inv ⊢
      have htl := inv.tot
      refine CG.seq ?_
      refine CG.seq ?_
      refine CG.region ?_
      refine OG.yield (Yield.move rfl) rfl ?_
      refine OG.yield (Yield.move rfl) rfl ?_
      refine OG.yield (Yield.len_slice Try.underlying22 rfl rfl) rfl ?_
      refine OG.yield (by first | exact Yield.as (Yield.lss rfl rfl) (bT (by omega)) | exact Yield.as (Yield.lss rfl rfl) (bF (by omega)) | exact Yield.lss rfl rfl) rfl ?_
      refine OG.nil ?_
      refine QG.then ?_
      refine CG.cond rfl (fun hc => ?_) (fun hc => ?_)
      · try replace hc := of_decide_eq_true hc
        refine CG.skip ?_
        refine QG.then ?_
        refine CG.seq ?_
        refine CG.block ?_
        refine CG.seq ?_
        have h1 : i < ops.length := by omega
        have hget : ops[i]? = some ops[i] := by simp [h1]
        generalize ops[i] = op at hget
        refine CG.pure (fun w hw => (hops.old (G := St.G W r qs ⟨i, t, own⟩) (by repeat (first | exact Ext.here | apply Ext.there))).elem_shape FAct.len (by decide) h1 w hw) ?_
        rintro ⟨b, o, rfl⟩
        have hrow : ∀ {G R : List HProp}, Ext G (old W) R → Row W G b (o + i * 3) op.cells := fun x => (hops.old x).elem FAct.len hget
        refine CG.region ?_
        refine OG.yield (Yield.move rfl) rfl ?_
        refine OG.yield (Yield.move rfl) rfl ?_
        refine OG.yield (Yield.index_slice Try.underlying22 ti32 rfl rfl (by omega) (by omega)) rfl ?_
        refine OG.yield (Yield.load_agg (vs := op.cells) ti32 rfl (FAct.len op) (hrow (by repeat (first | exact Ext.here | apply Ext.there)))) rfl ?_
        refine OG.effd (Eff.alloc ti32) rfl ?_
        rintro b14 -
        refine OG.eff (Eff.storeAll ti32 rfl rfl (by repeat (first | exact Foc.here | apply Foc.there)) (FAct.len op) (FAct.ones op) rfl) rfl ?_
        rintro ⟨⟩ -
        refine OG.nil ?_
        refine QG.then ?_
        refine CG.cut (fun s' : St => s'.i = i ∧ Inv s'.own qs) (fun s' => (14, .pointer (some ⟨b14, 0, none⟩)) :: St.env (some ⟨b, o, none⟩) ops.length c2 r s') (fun s' => blk b14 op.cells 32 :: St.G W r qs s') ?_ ?_
        · skip
          refine CG.seq ?_
          refine CG.region ?_
          refine OG.yield (Yield.fieldAddr fa32_0 rfl) rfl ?_
          refine OG.yield (Yield.load (v := .int .i64 op.Kind) ti3 rfl (Cel.of_blk (b := b14) (by repeat (first | exact Ext.here | apply Ext.there)) rfl)) rfl ?_
          refine OG.nil ?_
          refine QG.then ?_
          refine CG.block ?_
          refine CG.seq ?_
          refine CG.region ?_
          refine OG.yield (Yield.eql rfl rfl) rfl ?_
          refine OG.yield (Yield.assign rfl) rfl ?_
          refine OG.nil ?_
          refine QG.then ?_
          refine CG.cond rfl (fun hc => ?_) (fun hc => ?_)
          · try replace hc := of_decide_eq_true hc
            refine CG.seq ?_
            rcases (show ¬ isP qs op.Part ∨ (isP qs op.Part ∧ left own qs op.Part ≤ 0) ∨ (isP qs op.Part ∧ 0 < left own qs op.Part) by omega) with hk | ⟨hk, hlf⟩ | ⟨hk, hlf⟩
            · skip
              skip
              refine CG.region ?_
              refine OG.yield (Yield.move rfl) rfl ?_
              refine OG.yield (Yield.fieldAddr fa32_1 rfl) rfl ?_
              refine OG.yield (Yield.load ti3 rfl (by first | exact Cel.of_blk (by repeat (first | exact Ext.here | apply Ext.there)) rfl | exact (hrow (by repeat (first | exact Ext.here | apply Ext.there))) _ _ rfl)) rfl ?_
              refine OG.callo call18 rfl ((by repeat (first | exact Imp.refl _ | exact Imp.none _ | apply Imp.pull (by repeat (first | exact Ext.here | apply Ext.there)) | apply Imp.trans Imp.drop))) (take_range W _ (own := own) op.Part hk) rfl ?_
              rintro ⟨⟩ -
              refine OG.yield (Yield.move rfl) rfl ?_
              refine OG.yield (Yield.extract rfl rfl) rfl ?_
              refine OG.yield (Yield.extract rfl rfl) rfl ?_
              refine OG.yield (Yield.assign rfl) rfl ?_
              refine OG.yield (Yield.assign rfl) rfl ?_
              refine OG.nil ?_
              refine QG.then ?_
              refine CG.seq ?_
              refine CG.region ?_
              refine OG.yield (Yield.move rfl) rfl ?_
              refine OG.yield (Yield.fieldAddr fa32_1 rfl) rfl ?_
              refine OG.yield (Yield.load ti3 rfl (by first | exact Cel.of_blk (by repeat (first | exact Ext.here | apply Ext.there)) rfl | exact (hrow (by repeat (first | exact Ext.here | apply Ext.there))) _ _ rfl)) rfl ?_
              refine OG.callo call28 rfl ((by repeat (first | exact Imp.refl _ | exact Imp.none _ | apply Imp.pull (by repeat (first | exact Ext.here | apply Ext.there)) | apply Imp.trans Imp.drop))) (rtake_range W _ (own := own) op.Part hk) rfl ?_
              rintro ⟨⟩ -
              refine OG.yield (Yield.move rfl) rfl ?_
              refine OG.yield (Yield.extract rfl rfl) rfl ?_
              refine OG.yield (Yield.extract rfl rfl) rfl ?_
              refine OG.yield (Yield.assign rfl) rfl ?_
              refine OG.yield (Yield.assign rfl) rfl ?_
              refine OG.nil ?_
              refine QG.then ?_
              refine CG.seq ?_
              refine CG.region ?_
              refine OG.yield (Yield.move rfl) rfl ?_
              refine OG.yield (Yield.move rfl) rfl ?_
              refine OG.yield (by first | exact Yield.as (Yield.neq rfl rfl) (bT (by omega)) | exact Yield.as (Yield.neq rfl rfl) (bF (by omega)) | exact Yield.neq rfl rfl) rfl ?_
              refine OG.yield (Yield.move rfl) rfl ?_
              refine OG.guard_yes rfl rfl rfl (by decide) ?_
              refine OG.yield (Yield.move rfl) rfl ?_
              refine OG.guard_yes rfl rfl rfl (by decide) ?_
              refine OG.yield (Yield.move rfl) rfl ?_
              refine OG.guard_yes rfl rfl rfl (by decide) ?_
              refine OG.yield (by first | exact Yield.as (Yield.neq rfl rfl) (bT (by omega)) | exact Yield.as (Yield.neq rfl rfl) (bF (by omega)) | exact Yield.neq rfl rfl) rfl ?_
              refine OG.yield (by first | exact Yield.pick_t rfl rfl | exact Yield.pick_f rfl rfl | exact Yield.pick rfl (fun _ => rfl) (fun _ => rfl)) rfl ?_
              refine OG.nil ?_
              refine QG.then ?_
              refine CG.cond_f rfl ?_
              refine CG.skip ?_
              refine QG.block_normal ?_
              exact QG.mid ⟨i, t, own⟩ ⟨rfl, inv⟩ (by repeat (first | exact Env.sub_nil _ | refine Env.sub_cons rfl ?_)) (by repeat (first | exact Imp.refl _ | exact Imp.none _ | apply Imp.pull (by repeat (first | exact Ext.here | apply Ext.there)) | apply Imp.trans Imp.drop))
            · skip
              skip
              refine CG.region ?_
              refine OG.yield (Yield.move rfl) rfl ?_
              refine OG.yield (Yield.fieldAddr fa32_1 rfl) rfl ?_
              refine OG.yield (Yield.load ti3 rfl (by first | exact Cel.of_blk (by repeat (first | exact Ext.here | apply Ext.there)) rfl | exact (hrow (by repeat (first | exact Ext.here | apply Ext.there))) _ _ rfl)) rfl ?_
              refine OG.callo call18 rfl ((by repeat (first | exact Imp.refl _ | exact Imp.none _ | apply Imp.pull (by repeat (first | exact Ext.here | apply Ext.there)) | apply Imp.trans Imp.drop))) (take_quota W _ (own := own) op.Part hqm hk hlf) rfl ?_
              rintro ⟨⟩ -
              refine OG.yield (Yield.move rfl) rfl ?_
              refine OG.yield (Yield.extract rfl rfl) rfl ?_
              refine OG.yield (Yield.extract rfl rfl) rfl ?_
              refine OG.yield (Yield.assign rfl) rfl ?_
              refine OG.yield (Yield.assign rfl) rfl ?_
              refine OG.nil ?_
              refine QG.then ?_
              refine CG.seq ?_
              refine CG.region ?_
              refine OG.yield (Yield.move rfl) rfl ?_
              refine OG.yield (Yield.fieldAddr fa32_1 rfl) rfl ?_
              refine OG.yield (Yield.load ti3 rfl (by first | exact Cel.of_blk (by repeat (first | exact Ext.here | apply Ext.there)) rfl | exact (hrow (by repeat (first | exact Ext.here | apply Ext.there))) _ _ rfl)) rfl ?_
              refine OG.callo call28 rfl ((by repeat (first | exact Imp.refl _ | exact Imp.none _ | apply Imp.pull (by repeat (first | exact Ext.here | apply Ext.there)) | apply Imp.trans Imp.drop))) (rtake_quota W _ (own := own) op.Part htl.2 hqm hk hlf) rfl ?_
              rintro ⟨⟩ -
              refine OG.yield (Yield.move rfl) rfl ?_
              refine OG.yield (Yield.extract rfl rfl) rfl ?_
              refine OG.yield (Yield.extract rfl rfl) rfl ?_
              refine OG.yield (Yield.assign rfl) rfl ?_
              refine OG.yield (Yield.assign rfl) rfl ?_
              refine OG.nil ?_
              refine QG.then ?_
              refine CG.seq ?_
              refine CG.region ?_
              refine OG.yield (Yield.move rfl) rfl ?_
              refine OG.yield (Yield.move rfl) rfl ?_
              refine OG.yield (by first | exact Yield.as (Yield.neq rfl rfl) (bT (by omega)) | exact Yield.as (Yield.neq rfl rfl) (bF (by omega)) | exact Yield.neq rfl rfl) rfl ?_
              refine OG.yield (Yield.move rfl) rfl ?_
              refine OG.guard_yes rfl rfl rfl (by decide) ?_
              refine OG.yield (Yield.move rfl) rfl ?_
              refine OG.guard_yes rfl rfl rfl (by decide) ?_
              refine OG.yield (Yield.move rfl) rfl ?_
              refine OG.guard_yes rfl rfl rfl (by decide) ?_
              refine OG.yield (by first | exact Yield.as (Yield.neq rfl rfl) (bT (by omega)) | exact Yield.as (Yield.neq rfl rfl) (bF (by omega)) | exact Yield.neq rfl rfl) rfl ?_
              refine OG.yield (by first | exact Yield.pick_t rfl rfl | exact Yield.pick_f rfl rfl | exact Yield.pick rfl (fun _ => rfl) (fun _ => rfl)) rfl ?_
              refine OG.nil ?_
              refine QG.then ?_
              refine CG.cond_f rfl ?_
              refine CG.skip ?_
              refine QG.block_normal ?_
              exact QG.mid ⟨i, t, own⟩ ⟨rfl, inv⟩ (by repeat (first | exact Env.sub_nil _ | refine Env.sub_cons rfl ?_)) (by repeat (first | exact Imp.refl _ | exact Imp.none _ | apply Imp.pull (by repeat (first | exact Ext.here | apply Ext.there)) | apply Imp.trans Imp.drop))
            · skip
              obtain ⟨p, q, hpe, hq⟩ := isP_get hk
              have hlp := left_in (own := own) hq
              rw [← hpe] at hlp
              obtain ⟨n, hn, hgn⟩ := free_frame inv hq (by rw [← hpe]; omega)
              refine CG.region ?_
              refine OG.yield (Yield.move rfl) rfl ?_
              refine OG.yield (Yield.fieldAddr fa32_1 rfl) rfl ?_
              refine OG.yield (Yield.load ti3 rfl (by first | exact Cel.of_blk (by repeat (first | exact Ext.here | apply Ext.there)) rfl | exact (hrow (by repeat (first | exact Ext.here | apply Ext.there))) _ _ rfl)) rfl ?_
              refine OG.callo call18 rfl ((by repeat (first | exact Imp.refl _ | exact Imp.none _ | apply Imp.pull (by repeat (first | exact Ext.here | apply Ext.there)) | apply Imp.trans Imp.drop))) (take_ok W _ (own := own) op.Part hqm hk hlf hn) rfl ?_
              rintro ⟨⟩ -
              refine OG.yield (Yield.move rfl) rfl ?_
              refine OG.yield (Yield.extract rfl rfl) rfl ?_
              refine OG.yield (Yield.extract rfl rfl) rfl ?_
              refine OG.yield (Yield.assign rfl) rfl ?_
              refine OG.yield (Yield.assign rfl) rfl ?_
              refine OG.nil ?_
              refine QG.then ?_
              refine CG.seq ?_
              refine CG.region ?_
              refine OG.yield (Yield.move rfl) rfl ?_
              refine OG.yield (Yield.fieldAddr fa32_1 rfl) rfl ?_
              refine OG.yield (Yield.load ti3 rfl (by first | exact Cel.of_blk (by repeat (first | exact Ext.here | apply Ext.there)) rfl | exact (hrow (by repeat (first | exact Ext.here | apply Ext.there))) _ _ rfl)) rfl ?_
              refine OG.callo call28 rfl ((by repeat (first | exact Imp.refl _ | exact Imp.none _ | apply Imp.pull (by repeat (first | exact Ext.here | apply Ext.there)) | apply Imp.trans Imp.drop))) (rtake_ok W _ (own := own) op.Part inv hqm hk hlf hn) rfl ?_
              rintro ⟨⟩ -
              refine OG.yield (Yield.move rfl) rfl ?_
              refine OG.yield (Yield.extract rfl rfl) rfl ?_
              refine OG.yield (Yield.extract rfl rfl) rfl ?_
              refine OG.yield (Yield.assign rfl) rfl ?_
              refine OG.yield (Yield.assign rfl) rfl ?_
              refine OG.nil ?_
              refine QG.then ?_
              refine CG.seq ?_
              refine CG.region ?_
              refine OG.yield (Yield.move rfl) rfl ?_
              refine OG.yield (Yield.move rfl) rfl ?_
              refine OG.yield (by first | exact Yield.as (Yield.neq rfl rfl) (bT (by omega)) | exact Yield.as (Yield.neq rfl rfl) (bF (by omega)) | exact Yield.neq rfl rfl) rfl ?_
              refine OG.yield (Yield.move rfl) rfl ?_
              refine OG.guard_yes rfl rfl rfl (by decide) ?_
              refine OG.yield (Yield.move rfl) rfl ?_
              refine OG.guard_yes rfl rfl rfl (by decide) ?_
              refine OG.yield (Yield.move rfl) rfl ?_
              refine OG.guard_yes rfl rfl rfl (by decide) ?_
              refine OG.yield (by first | exact Yield.as (Yield.neq rfl rfl) (bT (by omega)) | exact Yield.as (Yield.neq rfl rfl) (bF (by omega)) | exact Yield.neq rfl rfl) rfl ?_
              refine OG.yield (by first | exact Yield.pick_t rfl rfl | exact Yield.pick_f rfl rfl | exact Yield.pick rfl (fun _ => rfl) (fun _ => rfl)) rfl ?_
              refine OG.nil ?_
              refine QG.then ?_
              refine CG.cond_f rfl ?_
              refine CG.skip ?_
              refine QG.block_normal ?_
              exact QG.mid ⟨i, t, own.set n op.Part⟩ ⟨rfl, by rw [hpe]; exact inv_take inv hq (by rw [← hpe]; omega) hgn⟩ (by repeat (first | exact Env.sub_nil _ | refine Env.sub_cons rfl ?_)) (by repeat (first | exact Imp.refl _ | exact Imp.none _ | apply Imp.pull (by repeat (first | exact Ext.here | apply Ext.there)) | apply Imp.trans Imp.drop))
          · try replace hc := of_decide_eq_false hc
            refine CG.seq ?_
            refine CG.region ?_
            refine OG.yield (Yield.eql rfl rfl) rfl ?_
            refine OG.yield (Yield.assign rfl) rfl ?_
            refine OG.nil ?_
            refine QG.then ?_
            refine CG.cond rfl (fun hc => ?_) (fun hc => ?_)
            · try replace hc := of_decide_eq_true hc
              obtain ⟨who, hwho⟩ : ∃ x : Int, (∃ k : Nat, op.Frame = k ∧ own[k]? = some x) ∨ (¬ isF own op.Frame ∧ x = -1) := by
                by_cases hf : isF own op.Frame
                · exact ⟨own[op.Frame.toNat]'(by have := hf.1; have := hf.2; omega), .inl ⟨op.Frame.toNat, by have := hf.1; omega, by simp⟩⟩
                · exact ⟨-1, .inr ⟨hf, rfl⟩⟩
              refine CG.seq ?_
              rcases (show (¬ isP qs op.Part ∨ ¬ isF own op.Frame) ∨ (isP qs op.Part ∧ ∃ k x, op.Frame = (k : Nat) ∧ own[k]? = some x ∧ x ≠ op.Part) ∨ (isP qs op.Part ∧ ∃ k, op.Frame = (k : Nat) ∧ own[k]? = some op.Part) by (by_cases hpp : isP qs op.Part; (rcases hwho with ⟨k, h1, h2⟩ | ⟨h1, h2⟩; (by_cases hx : who = op.Part; exact .inr (.inr ⟨hpp, k, h1, by rw [← hx]; exact h2⟩); exact .inr (.inl ⟨hpp, k, who, h1, h2, hx⟩)); exact .inl (.inr h1)); exact .inl (.inl hpp))) with hb | ⟨hk, n, x, hne, hgn, hx⟩ | ⟨hk, n, hne, hgn⟩
              · skip
                refine CG.draw (.look 0 1 (.look 1 1 (.look 2 1 (.look 3 1 (.look 4 1 (.look 6 0 (.look 7 0 (.look 8 0 (.look 9 0 (.look 10 0 (.eff1 5 false (.eff1 11 false (.look 12 1 (.done)))))))))))))) [5, 11] [] ([blk b14 op.cells 32]) ([]) mixed (by kernel_rfl) ((by repeat (first | exact Imp.refl _ | exact Imp.none _ | apply Imp.pull (by repeat (first | exact Ext.here | apply Ext.there)) | apply Imp.trans Imp.drop))) (Imp.none _) ?_
                refine DG.look rfl rfl (Yield.move rfl) rfl ?_
                refine DG.look rfl rfl (Yield.fieldAddr fa32_1 rfl) rfl ?_
                refine DG.look rfl rfl (Yield.load ti3 rfl (by first | exact Cel.of_blk (by repeat (first | exact Ext.here | apply Ext.there)) rfl | exact (hrow (by repeat (first | exact Ext.here | apply Ext.there))) _ _ rfl)) rfl ?_
                refine DG.look rfl rfl (Yield.fieldAddr fa32_2 rfl) rfl ?_
                refine DG.look rfl rfl (Yield.load (v := .int .i64 op.Frame) ti3 rfl (Cel.of_blk (b := b14) (by repeat (first | exact Ext.here | apply Ext.there)) rfl)) rfl ?_
                refine DG.look rfl rfl (Yield.move rfl) rfl ?_
                refine DG.look rfl rfl (Yield.fieldAddr fa32_1 rfl) rfl ?_
                refine DG.look rfl rfl (Yield.load ti3 rfl (by first | exact Cel.of_blk (by repeat (first | exact Ext.here | apply Ext.there)) rfl | exact (hrow (by repeat (first | exact Ext.here | apply Ext.there))) _ _ rfl)) rfl ?_
                refine DG.look rfl rfl (Yield.fieldAddr fa32_2 rfl) rfl ?_
                refine DG.look rfl rfl (Yield.load (v := .int .i64 op.Frame) ti3 rfl (Cel.of_blk (b := b14) (by repeat (first | exact Ext.here | apply Ext.there)) rfl)) rfl ?_
                refine DG.eff1 ?_
                refine Chg.callo rfl rfl call15 rfl ((by repeat (first | exact Imp.refl _ | exact Imp.none _ | apply Imp.pull (by repeat (first | exact Ext.here | apply Ext.there)) | apply Imp.trans Imp.drop))) (give_bad W _ (own := own) op.Part op.Frame hb) rfl (fun _ => (by repeat (first | exact Imp.refl _ | exact Imp.none _ | apply Imp.pull (by repeat (first | exact Ext.here | apply Ext.there)) | apply Imp.trans Imp.drop))) (fun _ => Imp.refl _) (fun _ => (by repeat (first | exact Imp.refl _ | exact Imp.none _ | apply Imp.pull (by repeat (first | exact Ext.here | apply Ext.there)) | apply Imp.trans Imp.drop))) ?_
                rintro ⟨⟩ -
                refine DG.eff1 ?_
                refine Chg.callo rfl rfl call29 rfl ((by repeat (first | exact Imp.refl _ | exact Imp.none _ | apply Imp.pull (by repeat (first | exact Ext.here | apply Ext.there)) | apply Imp.trans Imp.drop))) (rgive_bad W _ (own := own) op.Part op.Frame hb) rfl (fun _ => (by repeat (first | exact Imp.refl _ | exact Imp.none _ | apply Imp.pull (by repeat (first | exact Ext.here | apply Ext.there)) | apply Imp.trans Imp.drop))) (fun _ => Imp.refl _) (fun _ => (by repeat (first | exact Imp.refl _ | exact Imp.none _ | apply Imp.pull (by repeat (first | exact Ext.here | apply Ext.there)) | apply Imp.trans Imp.drop))) ?_
                rintro ⟨⟩ -
                refine DG.look rfl rfl (by first | exact Yield.as (Yield.neq rfl rfl) (bT (by omega)) | exact Yield.as (Yield.neq rfl rfl) (bF (by omega)) | exact Yield.neq rfl rfl) rfl ?_
                refine DG.done ?_
                refine QG.then ?_
                refine CG.cond_f rfl ?_
                refine CG.skip ?_
                refine QG.block_normal ?_
                exact QG.mid ⟨i, t, own⟩ ⟨rfl, inv⟩ (by repeat (first | exact Env.sub_nil _ | refine Env.sub_cons rfl ?_)) (by repeat (first | exact Imp.refl _ | exact Imp.none _ | apply Imp.pull (by repeat (first | exact Ext.here | apply Ext.there)) | apply Imp.trans Imp.drop))
              · skip
                refine CG.draw (.look 0 1 (.look 1 1 (.look 2 1 (.look 3 1 (.look 4 1 (.look 6 0 (.look 7 0 (.look 8 0 (.look 9 0 (.look 10 0 (.eff1 5 false (.eff1 11 false (.look 12 1 (.done)))))))))))))) [5, 11] [] ([blk b14 op.cells 32]) ([]) mixed (by kernel_rfl) ((by repeat (first | exact Imp.refl _ | exact Imp.none _ | apply Imp.pull (by repeat (first | exact Ext.here | apply Ext.there)) | apply Imp.trans Imp.drop))) (Imp.none _) ?_
                refine DG.look rfl rfl (Yield.move rfl) rfl ?_
                refine DG.look rfl rfl (Yield.fieldAddr fa32_1 rfl) rfl ?_
                refine DG.look rfl rfl (Yield.load ti3 rfl (by first | exact Cel.of_blk (by repeat (first | exact Ext.here | apply Ext.there)) rfl | exact (hrow (by repeat (first | exact Ext.here | apply Ext.there))) _ _ rfl)) rfl ?_
                refine DG.look rfl rfl (Yield.fieldAddr fa32_2 rfl) rfl ?_
                refine DG.look rfl rfl (Yield.as (Yield.load (v := .int .i64 op.Frame) ti3 rfl (Cel.of_blk (b := b14) (by repeat (first | exact Ext.here | apply Ext.there)) rfl)) (v' := .int .i64 n) (by rw [hne])) rfl ?_
                refine DG.look rfl rfl (Yield.move rfl) rfl ?_
                refine DG.look rfl rfl (Yield.fieldAddr fa32_1 rfl) rfl ?_
                refine DG.look rfl rfl (Yield.load ti3 rfl (by first | exact Cel.of_blk (by repeat (first | exact Ext.here | apply Ext.there)) rfl | exact (hrow (by repeat (first | exact Ext.here | apply Ext.there))) _ _ rfl)) rfl ?_
                refine DG.look rfl rfl (Yield.fieldAddr fa32_2 rfl) rfl ?_
                refine DG.look rfl rfl (Yield.as (Yield.load (v := .int .i64 op.Frame) ti3 rfl (Cel.of_blk (b := b14) (by repeat (first | exact Ext.here | apply Ext.there)) rfl)) (v' := .int .i64 n) (by rw [hne])) rfl ?_
                refine DG.eff1 ?_
                refine Chg.callo rfl rfl call15 rfl ((by repeat (first | exact Imp.refl _ | exact Imp.none _ | apply Imp.pull (by repeat (first | exact Ext.here | apply Ext.there)) | apply Imp.trans Imp.drop))) (give_owner W _ (own := own) op.Part n hk hgn hx) rfl (fun _ => (by repeat (first | exact Imp.refl _ | exact Imp.none _ | apply Imp.pull (by repeat (first | exact Ext.here | apply Ext.there)) | apply Imp.trans Imp.drop))) (fun _ => Imp.refl _) (fun _ => (by repeat (first | exact Imp.refl _ | exact Imp.none _ | apply Imp.pull (by repeat (first | exact Ext.here | apply Ext.there)) | apply Imp.trans Imp.drop))) ?_
                rintro ⟨⟩ -
                refine DG.eff1 ?_
                refine Chg.callo rfl rfl call29 rfl ((by repeat (first | exact Imp.refl _ | exact Imp.none _ | apply Imp.pull (by repeat (first | exact Ext.here | apply Ext.there)) | apply Imp.trans Imp.drop))) (rgive_owner W _ (own := own) op.Part n hk hgn hx) rfl (fun _ => (by repeat (first | exact Imp.refl _ | exact Imp.none _ | apply Imp.pull (by repeat (first | exact Ext.here | apply Ext.there)) | apply Imp.trans Imp.drop))) (fun _ => Imp.refl _) (fun _ => (by repeat (first | exact Imp.refl _ | exact Imp.none _ | apply Imp.pull (by repeat (first | exact Ext.here | apply Ext.there)) | apply Imp.trans Imp.drop))) ?_
                rintro ⟨⟩ -
                refine DG.look rfl rfl (by first | exact Yield.as (Yield.neq rfl rfl) (bT (by omega)) | exact Yield.as (Yield.neq rfl rfl) (bF (by omega)) | exact Yield.neq rfl rfl) rfl ?_
                refine DG.done ?_
                refine QG.then ?_
                refine CG.cond_f rfl ?_
                refine CG.skip ?_
                refine QG.block_normal ?_
                exact QG.mid ⟨i, t, own⟩ ⟨rfl, inv⟩ (by repeat (first | exact Env.sub_nil _ | refine Env.sub_cons rfl ?_)) (by repeat (first | exact Imp.refl _ | exact Imp.none _ | apply Imp.pull (by repeat (first | exact Ext.here | apply Ext.there)) | apply Imp.trans Imp.drop))
              · skip
                refine CG.draw (.look 0 1 (.look 1 1 (.look 2 1 (.look 3 1 (.look 4 1 (.look 6 0 (.look 7 0 (.look 8 0 (.look 9 0 (.look 10 0 (.eff1 5 false (.eff1 11 false (.look 12 1 (.done)))))))))))))) [5, 11] [] ([blk b14 op.cells 32]) ([]) mixed (by kernel_rfl) ((by repeat (first | exact Imp.refl _ | exact Imp.none _ | apply Imp.pull (by repeat (first | exact Ext.here | apply Ext.there)) | apply Imp.trans Imp.drop))) (Imp.none _) ?_
                refine DG.look rfl rfl (Yield.move rfl) rfl ?_
                refine DG.look rfl rfl (Yield.fieldAddr fa32_1 rfl) rfl ?_
                refine DG.look rfl rfl (Yield.load ti3 rfl (by first | exact Cel.of_blk (by repeat (first | exact Ext.here | apply Ext.there)) rfl | exact (hrow (by repeat (first | exact Ext.here | apply Ext.there))) _ _ rfl)) rfl ?_
                refine DG.look rfl rfl (Yield.fieldAddr fa32_2 rfl) rfl ?_
                refine DG.look rfl rfl (Yield.as (Yield.load (v := .int .i64 op.Frame) ti3 rfl (Cel.of_blk (b := b14) (by repeat (first | exact Ext.here | apply Ext.there)) rfl)) (v' := .int .i64 n) (by rw [hne])) rfl ?_
                refine DG.look rfl rfl (Yield.move rfl) rfl ?_
                refine DG.look rfl rfl (Yield.fieldAddr fa32_1 rfl) rfl ?_
                refine DG.look rfl rfl (Yield.load ti3 rfl (by first | exact Cel.of_blk (by repeat (first | exact Ext.here | apply Ext.there)) rfl | exact (hrow (by repeat (first | exact Ext.here | apply Ext.there))) _ _ rfl)) rfl ?_
                refine DG.look rfl rfl (Yield.fieldAddr fa32_2 rfl) rfl ?_
                refine DG.look rfl rfl (Yield.as (Yield.load (v := .int .i64 op.Frame) ti3 rfl (Cel.of_blk (b := b14) (by repeat (first | exact Ext.here | apply Ext.there)) rfl)) (v' := .int .i64 n) (by rw [hne])) rfl ?_
                refine DG.eff1 ?_
                refine Chg.callo rfl rfl call15 rfl ((by repeat (first | exact Imp.refl _ | exact Imp.none _ | apply Imp.pull (by repeat (first | exact Ext.here | apply Ext.there)) | apply Imp.trans Imp.drop))) (give_ok W _ (own := own) op.Part n hk hgn) rfl (fun _ => (by repeat (first | exact Imp.refl _ | exact Imp.none _ | apply Imp.pull (by repeat (first | exact Ext.here | apply Ext.there)) | apply Imp.trans Imp.drop))) (fun _ => Imp.refl _) (fun _ => (by repeat (first | exact Imp.refl _ | exact Imp.none _ | apply Imp.pull (by repeat (first | exact Ext.here | apply Ext.there)) | apply Imp.trans Imp.drop))) ?_
                rintro ⟨⟩ -
                refine DG.eff1 ?_
                refine Chg.callo rfl rfl call29 rfl ((by repeat (first | exact Imp.refl _ | exact Imp.none _ | apply Imp.pull (by repeat (first | exact Ext.here | apply Ext.there)) | apply Imp.trans Imp.drop))) (rgive_ok W _ (own := own) op.Part n hk hgn) rfl (fun _ => (by repeat (first | exact Imp.refl _ | exact Imp.none _ | apply Imp.pull (by repeat (first | exact Ext.here | apply Ext.there)) | apply Imp.trans Imp.drop))) (fun _ => Imp.refl _) (fun _ => (by repeat (first | exact Imp.refl _ | exact Imp.none _ | apply Imp.pull (by repeat (first | exact Ext.here | apply Ext.there)) | apply Imp.trans Imp.drop))) ?_
                rintro ⟨⟩ -
                refine DG.look rfl rfl (by first | exact Yield.as (Yield.neq rfl rfl) (bT (by omega)) | exact Yield.as (Yield.neq rfl rfl) (bF (by omega)) | exact Yield.neq rfl rfl) rfl ?_
                refine DG.done ?_
                refine QG.then ?_
                refine CG.cond_f rfl ?_
                refine CG.skip ?_
                refine QG.block_normal ?_
                exact QG.mid ⟨i, t, own.set n (-1)⟩ ⟨rfl, inv_give inv hgn⟩ (by repeat (first | exact Env.sub_nil _ | refine Env.sub_cons rfl ?_)) (by repeat (first | exact Imp.refl _ | exact Imp.none _ | apply Imp.pull (by repeat (first | exact Ext.here | apply Ext.there)) | apply Imp.trans Imp.drop))
            · try replace hc := of_decide_eq_false hc
              refine CG.seq ?_
              refine CG.region ?_
              refine OG.yield (Yield.move rfl) rfl ?_
              refine OG.callo call30 rfl ((by repeat (first | exact Imp.refl _ | exact Imp.none _ | apply Imp.pull (by repeat (first | exact Ext.here | apply Ext.there)) | apply Imp.trans Imp.drop))) (clone_spec W _ (own := own) (qs := qs) inv.ql) rfl ?_
              rintro u -
              refine OG.yield (Yield.assign rfl) rfl ?_
              refine OG.nil ?_
              refine QG.then ?_
              refine CG.seq ?_
              refine CG.seq ?_
              refine CG.region ?_
              refine OG.yield (Yield.move rfl) rfl ?_
              refine OG.yield (by first | exact Yield.ptr_nil Try.underlying25 rfl rfl | exact Yield.nil_nil Try.underlying25 rfl rfl) rfl ?_
              refine OG.nil ?_
              refine QG.then ?_
              refine CG.cond_f rfl ?_
              refine CG.skip ?_
              refine QG.then ?_
              refine CG.seq ?_
              refine CG.region ?_
              refine OG.yield (Yield.move rfl) rfl ?_
              refine OG.yield (Yield.fieldAddr fa32_1 rfl) rfl ?_
              refine OG.yield (Yield.load ti3 rfl (by first | exact Cel.of_blk (by repeat (first | exact Ext.here | apply Ext.there)) rfl | exact (hrow (by repeat (first | exact Ext.here | apply Ext.there))) _ _ rfl)) rfl ?_
              refine OG.callo call18 rfl ((by repeat (first | exact Imp.refl _ | exact Imp.none _ | apply Imp.pull (by repeat (first | exact Ext.here | apply Ext.there)) | apply Imp.trans Imp.drop))) (take_any W _ (f := t) (own := own) op.Part inv hqm) rfl ?_
              rintro ⟨v, own2⟩ hlk
              refine OG.nil ?_
              refine QG.then ?_
              refine CG.seq ?_
              refine CG.region ?_
              refine OG.yield (Yield.move rfl) rfl ?_
              refine OG.yield (Yield.fieldAddr fa32_1 rfl) rfl ?_
              refine OG.yield (Yield.load ti3 rfl (by first | exact Cel.of_blk (by repeat (first | exact Ext.here | apply Ext.there)) rfl | exact (hrow (by repeat (first | exact Ext.here | apply Ext.there))) _ _ rfl)) rfl ?_
              refine OG.yield (Yield.fieldAddr fa32_2 rfl) rfl ?_
              refine OG.yield (Yield.load ti3 rfl (by first | exact Cel.of_blk (by repeat (first | exact Ext.here | apply Ext.there)) rfl | exact (hrow (by repeat (first | exact Ext.here | apply Ext.there))) _ _ rfl)) rfl ?_
              refine OG.callo call15 rfl ((by repeat (first | exact Imp.refl _ | exact Imp.none _ | apply Imp.pull (by repeat (first | exact Ext.here | apply Ext.there)) | apply Imp.trans Imp.drop))) (give_any W _ (f := t) (own := own2) op.Part op.Frame hlk.inv) rfl ?_
              rintro ⟨v2, own3⟩ hlk3
              refine OG.nil ?_
              refine QG.then ?_
              refine CG.region ?_
              refine OG.yield (Yield.move rfl) rfl ?_
              refine OG.yield (Yield.assign rfl) rfl ?_
              refine OG.nil ?_
              refine QG.block_normal ?_
              exact QG.mid ⟨i, u, own⟩ ⟨rfl, inv⟩ (by repeat (first | exact Env.sub_nil _ | refine Env.sub_cons rfl ?_)) (by repeat (first | exact Imp.refl _ | exact Imp.none _ | apply Imp.pull (by repeat (first | exact Ext.here | apply Ext.there)) | apply Imp.trans Imp.drop))
        clear inv htl hrow
        rintro ⟨i', t, own⟩ ⟨hi', inv⟩
        dsimp only at hi' inv
        subst hi'
        unfold St.env
        dsimp only
        refine CG.seq ?_
        refine CG.region ?_
        refine OG.yield (Yield.move rfl) rfl ?_
        refine OG.yield (Yield.move rfl) rfl ?_
        refine OG.yield (Yield.fieldAddr fa32_2 rfl) rfl ?_
        refine OG.yield (Yield.load ti3 rfl (by first | exact Cel.of_blk (by repeat (first | exact Ext.here | apply Ext.there)) rfl | exact (hrow (by repeat (first | exact Ext.here | apply Ext.there))) _ _ rfl)) rfl ?_
        refine OG.callo call31 rfl ((by repeat (first | exact Imp.refl _ | exact Imp.none _ | apply Imp.pull (by repeat (first | exact Ext.here | apply Ext.there)) | apply Imp.trans Imp.drop))) (alike_spec W _ (own := own) (qs := qs) op.Frame inv hqm) rfl ?_
        rintro ⟨⟩ -
        refine OG.yield (Yield.not rfl) rfl ?_
        refine OG.nil ?_
        refine QG.then ?_
        refine CG.cond_f rfl ?_
        refine CG.skip ?_
        refine QG.block_normal ?_
        refine QG.then ?_
        refine CG.region ?_
        refine OG.yield (Yield.move rfl) rfl ?_
        refine OG.yield (Yield.add rfl rfl (w64 (by omega) (by omega))) rfl ?_
        refine OG.yield (Yield.assign rfl) rfl ?_
        refine OG.nil ?_
        exact QG.next ⟨i' + 1, t, own⟩ ⟨by simp only; omega, inv⟩ (by simp only; omega) (by repeat (first | exact Env.sub_nil _ | refine Env.sub_cons rfl ?_)) (by repeat (first | exact Imp.refl _ | exact Imp.none _ | apply Imp.pull (by repeat (first | exact Ext.here | apply Ext.there)) | apply Imp.trans Imp.drop))
      · try replace hc := of_decide_eq_false hc
        refine CG.exit ?_
        refine QG.pass_exit ?_
        refine QG.pass_exit ?_
        refine QG.block_exit ?_
        refine QG.then ?_
        refine CG.seq ?_
        refine CG.region ?_
        refine OG.yield (Yield.move rfl) rfl ?_
        refine OG.yield (Yield.move rfl) rfl ?_
        refine OG.callo call31 rfl ((by repeat (first | exact Imp.refl _ | exact Imp.none _ | apply Imp.pull (by repeat (first | exact Ext.here | apply Ext.there)) | apply Imp.trans Imp.drop))) (alike_spec W _ (own := own) (qs := qs) 0 inv hqm) rfl ?_
        rintro ⟨⟩ -
        refine OG.yield (Yield.assign rfl) rfl ?_
        refine OG.nil ?_
        refine QG.then ?_
        refine CG.ret ?_
        exact QG.ret1 rfl rfl () trivial rfl (by repeat (first | exact Imp.refl _ | exact Imp.none _ | apply Imp.pull (by repeat (first | exact Ext.here | apply Ext.there)) | apply Imp.trans Imp.drop))
open Go.ChangeShapes Go.WideShapes Go.ChangeAt
theorem own : ownKnob Try.prog.godebug = none := by kernel_rfl
theorem laid : laidOutB Try.prog = true := by kernel_rfl
set_option maxRecDepth 100000 in
theorem lifted (os : Os) (started : os.Started) (H : Type) (enc : TypeId × Value → H) :
    ReturnsInHanded {} Try.checked os 8 .any (Rows.framesPlaysSpec.pre6 enc Try.prog Try.f8 Rows.framesPlaysRow.domain false) (Rows.framesPlaysSpec.post enc Try.prog Try.f8 false true false false) := by
  refine returnsInHanded_of_change_sized (C := Try.checked) own started (by kernel_rfl) Try.func8
    (ChangeSpec.witness6 (enc := enc) (C := Try.checked) false ⟨#[], #[.int .i64 0, .slice none 0 0, .slice none 0 0], []⟩ 8 (by kernel_rfl) (by kernel_rfl) (by kernel_rfl) (by kernel_rfl)) ?_
  intro W base args ds gs before hval0 hW hcnd hsz0 _
  have hsz : (DataW.weightsEach Try.prog (Try.f8.params.toList ++ Rows.framesPlaysSpec.plain.varTypes Try.prog) (ds ++ gs)).all (· ≤ reachBytes) = true := hsz0
  have hval : ∀ (j : Nat) t v, Try.f8.params[j]? = some t → args[j]? = some v → Value.okWide Try.prog W .any base t v := hval0
  have hW' := hW
  obtain ⟨p, q, hA0, hV, rfl, hfz, hnd⟩ := hW
  have hA : DataW.TrodAll enc Try.prog W 0 (fun _ => true) true Try.f8.params.toList args.toList ds p := hA0
  rw [Try.params8] at hA hval hsz
  obtain ⟨v0, vs0, d0, ds0, p0, q0, hargs, rfl, rfl, h0, r0⟩ := trodAll_cons hA
  obtain ⟨v1, vs1, d1, ds1, p1, q1, rfl, rfl, rfl, h1, r1⟩ := trodAll_cons r0
  obtain ⟨v2, vs2, d2, ds2, p2, q2, rfl, rfl, rfl, h2, r2⟩ := trodAll_cons r1
  obtain ⟨rfl, rfl, rfl⟩ := trodAll_nil r2
  obtain rfl : args = #[v0, v1, v2] := by cases args; simp_all
  obtain ⟨rfl, rfl⟩ := trodVars_none hV
  obtain ⟨a0, rfl, rfl, rfl, w0⟩ := open_int Try.underlying3 (hval 0 3 v0 rfl rfl) h0
  have k1 := weights_le hsz 1 (t := 29) (d := d1) rfl rfl
  have s1 := Opn.param Try.underlying29 (Opn.ints (by' := 8) Try.underlying29 Try.underlying3 (by kernel_rfl) (by kernel_rfl)) (hval 1 29 v1 rfl rfl) h1 k1
  obtain ⟨x1, c1, qs, e1, l1, ok1, s1, m1⟩ := s1
  cases e1
  have k2 := weights_le hsz 2 (t := 22) (d := d2) rfl rfl
  have s2 := Opn.param Try.underlying22 (FAct.list W) (hval 2 22 v2 rfl rfl) h2 k2
  obtain ⟨x2, c2, ops, e2, l2, ok2, s2, m2⟩ := s2
  cases e2
  clear hA0 hval0 hsz0 hsz
  refine ((walk W s1 m1 s2) W (Sat.start W)).mono fun e W' he => ?_
  obtain ⟨_, _, he, hs⟩ := he
  subst he
  exact ⟨_, rfl, law_post laid (params_ok (by kernel_rfl)) rfl Try.underlying4 hW' rfl rfl (Sat.below (by repeat (first | exact Ext.here | apply Ext.there)) hs)⟩
theorem over : Rows.framesPlaysRow.holds Try.pinned (OpenSpec.ofChange Rows.framesPlaysSpec) :=
  OpenClaim.holds_of_wide 8 Try.f8 rfl rfl rfl rfl rfl rfl rfl ⟨rfl, rfl, rfl, rfl, rfl⟩ rfl rfl rfl rfl rfl (by kernel_rfl) Try.func8 (by kernel_rfl)
    (of_decide_eq_true (by kernel_rfl)) (by unfold Func.isWrapper; first | (rw [if_pos (by decide +kernel)]; kernel_rfl) | (rw [if_neg (by decide +kernel)]; exact ⟨rfl, rfl⟩))
    (fun os started H enc _ => lifted os started H enc)
theorem proved : Rows.FramesPlaysSaid := over
#print axioms proved
end Go.Proofs.Ytjigjbcdopmeeaa.framesPlays
