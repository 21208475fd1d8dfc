/- space.Space: place, Read, Write, New. -/
import Derived.Test.YtmlfcfbblfcpdaaSpu
namespace Go.Proofs.Ytmlfcfbblfcpdaa.Sp
open Go Go.Sl Go.RowKit Go.Proofs Go.Proofs.Ytmlfcfbblfcpdaa.T Go.Proofs.Ytmlfcfbblfcpdaa.Me Go.Proofs.Ytmlfcfbblfcpdaa.Pe Go.Proofs.Ytmlfcfbblfcpdaa.Pg
open Go.Proofs.Ytmlfcfbblfcpdaa.Fz (cnt cnt_set inv_take inv_give free_frame isP isF left left_in)
open Go.Proofs.Ytmlfcfbblfcpdaa.Tl (Slot hitB putL flushPL put_cases)
set_option linter.unusedVariables false
set_option linter.unusedSimpArgs false
set_option maxRecDepth 100000
/-- May a page with these rights be reached so? -/
abbrev may (pm : Nat) (how : Int) : Prop := Go.bits .and .i64 (pm : Int) how = how
/-- Where an access goes, and what is wrong with it. -/
def placeR (A : Ab) (k ad : Nat) (sz how : Int) : Nat × Int :=
  if ¬(sz = 1 ∨ sz = 2 ∨ sz = 4 ∨ sz = 8) then (0, 5) else if (ad : Int) % sz ≠ 0 then (0, 30) else if 1048576 ≤ ad ∨ how = 0 then (0, 90) else match A.pg k (ad / 256) with
    | some x => if may x.2 how then (x.1 * 256 + ad % 256, 0) else (0, 90)
    | none => (0, 90)
/-- What Read tells. -/
def readO (o : Ob) (k ad : Nat) (sz how : Int) : Nat × Int :=
  if ¬(sz = 1 ∨ sz = 2 ∨ sz = 4 ∨ sz = 8) then (0, 5) else if (ad : Int) % sz ≠ 0 then (0, 30) else if 1048576 ≤ ad ∨ how = 0 then (0, 90) else match o.vw k (ad / 256) with
    | some x => if may x.1 how then (leN ((x.2.drop (ad % 256)).take sz.toNat), 0) else (0, 90)
    | none => (0, 90)
/-- What Write does. -/
def writeO (o : Ob) (k ad : Nat) (sz : Int) (v : Nat) : Int × Ob :=
  if ¬(sz = 1 ∨ sz = 2 ∨ sz = 4 ∨ sz = 8) then (5, o) else if (ad : Int) % sz ≠ 0 then (30, o) else if 1048576 ≤ ad then (90, o) else match o.vw k (ad / 256) with
    | some x => if may x.1 2 then (0, ⟨up2 o.vw k (ad / 256) (some (x.1, overB x.2 (ad % 256) (putB v sz.toNat))), o.ts, o.fr⟩) else (90, o)
    | none => (90, o)
theorem place_cases (A : Ab) (k ad : Nat) (sz how : Int) : (∃ (s : Nat) (x : Nat × Nat), sz = s ∧ (s = 1 ∨ s = 2 ∨ s = 4 ∨ s = 8) ∧ ad % s = 0 ∧ ad < 1048576 ∧ how ≠ 0 ∧ A.pg k (ad / 256) = some x ∧ may x.2 how ∧ placeR A k ad sz how = (x.1 * 256 + ad % 256, 0)) ∨ (placeR A k ad sz how).2 ≠ 0 := by
  unfold placeR
  by_cases h1 : sz = 1 ∨ sz = 2 ∨ sz = 4 ∨ sz = 8
  · rw [if_neg (fun q => q h1)]
    by_cases h2 : (ad : Int) % sz = 0
    · rw [if_neg (fun q => q h2)]
      by_cases h3 : 1048576 ≤ ad ∨ how = 0
      · rw [if_pos h3]; exact .inr (by decide)
      · rw [if_neg h3]
        cases hx : A.pg k (ad / 256) with
        | none => exact .inr (show (90 : Int) ≠ 0 by decide)
        | some x =>
          simp only
          by_cases h4 : may x.2 how
          · refine .inl ⟨sz.toNat, x, by omega, by omega, ?_, by omega, by omega, rfl, h4, by rw [if_pos h4]⟩
            rcases h1 with rfl | rfl | rfl | rfl
            · show ad % 1 = 0; omega
            · show ad % 2 = 0; omega
            · show ad % 4 = 0; omega
            · show ad % 8 = 0; omega
          · rw [if_neg h4]; exact .inr (by decide)
    · rw [if_pos h2]; exact .inr (by decide)
  · rw [if_pos h1]; exact .inr (by decide)
theorem F0sum {s ad : Nat} (hs : s = 1 ∨ s = 2 ∨ s = 4 ∨ s = 8) (hal : ad % s = 0) : ad % 256 + s ≤ 256 := by
  rcases hs with rfl | rfl | rfl | rfl <;> omega
theorem F0len {s ad x : Nat} (hs : s = 1 ∨ s = 2 ∨ s = 4 ∨ s = 8) (hal : ad % s = 0) : (x * 256 + ad % 256) % s = 0 ∧ x * 256 + ad % 256 + s ≤ x * 256 + 256 := by
  rcases hs with rfl | rfl | rfl | rfl <;> omega
theorem fr_part {bs : List UInt8} {q o s : Nat} (h : o + s ≤ 256) : ((frB bs q).drop o).take s = (bs.drop (q * 256 + o)).take s := by
  unfold frB
  rw [List.drop_take, List.drop_drop, List.take_take, show min s (256 - o) = s by omega]
section
variable (W0 : World) (Fr : List HProp)
variable {n : Nat} {qs : List Int} {rt : Nat → Option Nat} {o : Ob} {c : Nat} {σ : St} {k r s m f t : Nat}
theorem place_spec {A : Ab} (G : Good n qs A σ) (hk : A.rt k = some r) (hb : σ.hits + σ.miss < 1000000000000000000) {ad : Nat} (had : ad < 4294967296) (sz how : Int) : Ctr Try.prog W0 68 [.pointer (some ⟨s, 0, none⟩), .int .u32 ad, .int .i64 sz, .int .i64 how] (WG m f t n qs σ (sb s k r m f t :: Fr)) (fun σ' : St => Fnd n qs A σ σ') (fun _ => .tuple #[.int .u32 (placeR A k ad sz how).1, .int .i64 (placeR A k ad sz how).2]) (fun σ' => WG m f t n qs σ' (sb s k r m f t :: Fr)) := by
  have hn2 := G.n2
  have F0 : Fnd n qs A σ σ := ⟨G, rfl, rfl, by omega⟩
  refine Ctr.of_body Try.func68 rfl Try.ntmps68 rfl ?_
  refine CG.seq ?_
  refine CG.region ?_
  refine OG.yield (Yield.assign rfl) rfl ?_
  refine OG.yield (Yield.assign rfl) rfl ?_
  refine OG.nil ?_
  refine QG.then ?_
  refine CG.seq ?_
  refine CG.block ?_
  refine CG.seq ?_
  rcases (show ¬(sz = 1 ∨ sz = 2 ∨ sz = 4 ∨ sz = 8) ∨ sz = 1 ∨ sz = 2 ∨ sz = 4 ∨ sz = 8 by omega) with hh | hh | hh | hh | hh
  · skip
    refine CG.region ?_
    refine OG.yield (Yield.move rfl) rfl ?_
    refine OG.yield (by first | exact Yield.as (Yield.neq rfl rfl) (bT (by omega)) | exact Yield.as (Yield.neq rfl rfl) (bF (by omega)) | exact Yield.neq rfl rfl) rfl ?_
    refine OG.yield (Yield.move rfl) rfl ?_
    refine OG.guard_yes rfl rfl rfl (by decide) ?_
    refine OG.yield (Yield.move rfl) rfl ?_
    refine OG.guard_yes rfl rfl rfl (by decide) ?_
    refine OG.yield (by first | exact Yield.as (Yield.neq rfl rfl) (bT (by omega)) | exact Yield.as (Yield.neq rfl rfl) (bF (by omega)) | exact Yield.neq rfl rfl) rfl ?_
    refine OG.yield (by first | exact Yield.pick_t rfl rfl | exact Yield.pick_f rfl rfl | exact Yield.pick rfl (fun _ => rfl) (fun _ => rfl)) rfl ?_
    refine OG.yield (Yield.move rfl) rfl ?_
    refine OG.guard_yes rfl rfl rfl (by decide) ?_
    refine OG.yield (Yield.move rfl) rfl ?_
    refine OG.guard_yes rfl rfl rfl (by decide) ?_
    refine OG.yield (by first | exact Yield.as (Yield.neq rfl rfl) (bT (by omega)) | exact Yield.as (Yield.neq rfl rfl) (bF (by omega)) | exact Yield.neq rfl rfl) rfl ?_
    refine OG.yield (by first | exact Yield.pick_t rfl rfl | exact Yield.pick_f rfl rfl | exact Yield.pick rfl (fun _ => rfl) (fun _ => rfl)) rfl ?_
    refine OG.yield (Yield.move rfl) rfl ?_
    refine OG.guard_yes rfl rfl rfl (by decide) ?_
    refine OG.yield (Yield.move rfl) rfl ?_
    refine OG.guard_yes rfl rfl rfl (by decide) ?_
    refine OG.yield (by first | exact Yield.as (Yield.neq rfl rfl) (bT (by omega)) | exact Yield.as (Yield.neq rfl rfl) (bF (by omega)) | exact Yield.neq rfl rfl) rfl ?_
    refine OG.yield (by first | exact Yield.pick_t rfl rfl | exact Yield.pick_f rfl rfl | exact Yield.pick rfl (fun _ => rfl) (fun _ => rfl)) rfl ?_
    refine OG.yield (Yield.assign rfl) rfl ?_
    refine OG.nil ?_
    refine QG.then ?_
    refine CG.cond_t rfl ?_
    refine CG.seq ?_
    refine CG.region ?_
    refine OG.yield (Yield.assign rfl) rfl ?_
    refine OG.yield (Yield.assign rfl) rfl ?_
    refine OG.nil ?_
    refine QG.then ?_
    refine CG.ret ?_
    refine QG.block_ret ?_
    refine QG.pass_ret ?_
    have e : placeR A k ad sz how = (0, 5) := by unfold placeR; rw [if_pos hh]
    rw [e]
    exact QG.rets [.int .u32 0, .int .i64 5] rfl ⟨rfl, rfl, trivial⟩ σ F0 rfl (by repeat (first | exact Imp.refl _ | exact Imp.none _ | apply Imp.pull (by repeat (first | exact Ext.here | apply Ext.there)) | apply Imp.trans Imp.drop))
  · skip
    refine CG.region ?_
    refine OG.yield (Yield.move rfl) rfl ?_
    refine OG.yield (by first | exact Yield.as (Yield.neq rfl rfl) (bT (by omega)) | exact Yield.as (Yield.neq rfl rfl) (bF (by omega)) | exact Yield.neq rfl rfl) rfl ?_
    refine OG.yield (Yield.move rfl) rfl ?_
    refine OG.guard_no rfl rfl rfl rfl rfl (by decide) (by decide) ?_
    refine OG.guard_no rfl rfl rfl rfl rfl (by decide) (by decide) ?_
    refine OG.yield (by first | exact Yield.pick_t rfl rfl | exact Yield.pick_f rfl rfl | exact Yield.pick rfl (fun _ => rfl) (fun _ => rfl)) rfl ?_
    refine OG.yield (Yield.move rfl) rfl ?_
    refine OG.guard_no rfl rfl rfl rfl rfl (by decide) (by decide) ?_
    refine OG.guard_no rfl rfl rfl rfl rfl (by decide) (by decide) ?_
    refine OG.yield (by first | exact Yield.pick_t rfl rfl | exact Yield.pick_f rfl rfl | exact Yield.pick rfl (fun _ => rfl) (fun _ => rfl)) rfl ?_
    refine OG.yield (Yield.move rfl) rfl ?_
    refine OG.guard_no rfl rfl rfl rfl rfl (by decide) (by decide) ?_
    refine OG.guard_no rfl rfl rfl rfl rfl (by decide) (by decide) ?_
    refine OG.yield (by first | exact Yield.pick_t rfl rfl | exact Yield.pick_f rfl rfl | exact Yield.pick rfl (fun _ => rfl) (fun _ => rfl)) rfl ?_
    refine OG.yield (Yield.assign rfl) rfl ?_
    refine OG.nil ?_
    refine QG.then ?_
    refine CG.cond_f rfl ?_
    refine CG.seq ?_
    by_cases hal : (ad : Int) % sz = 0
    · skip
      refine CG.region ?_
      refine OG.yield (Yield.move rfl) rfl ?_
      refine OG.yield (Yield.move rfl) rfl ?_
      refine OG.yield (Yield.conv (c := sz) Try.underlying32 rfl rfl (wu32 (by omega) (by omega))) rfl ?_
      refine OG.yield (Yield.rem (c := (ad : Int) % sz) rfl rfl (by omega) (tmod_pos (by omega) (by omega))) rfl ?_
      refine OG.yield (Yield.as (Yield.neq rfl rfl) (v' := .bool false) (by rw [hal]; rfl)) rfl ?_
      refine OG.yield (Yield.assign rfl) rfl ?_
      refine OG.nil ?_
      refine QG.then ?_
      refine CG.cond_f rfl ?_
      refine CG.seq ?_
      rcases (show 1048576 ≤ ad ∨ (ad < 1048576 ∧ how = 0) ∨ (ad < 1048576 ∧ how ≠ 0) by omega) with hr | hr | hr
      · skip
        refine CG.region ?_
        refine OG.yield (Yield.move rfl) rfl ?_
        refine OG.yield (by first | exact Yield.as (Yield.geq rfl rfl) (bT (by omega)) | exact Yield.as (Yield.geq rfl rfl) (bF (by omega)) | exact Yield.geq rfl rfl) rfl ?_
        refine OG.yield (Yield.move rfl) rfl ?_
        refine OG.guard_no rfl rfl rfl rfl rfl (by decide) (by decide) ?_
        refine OG.guard_no rfl rfl rfl rfl rfl (by decide) (by decide) ?_
        refine OG.yield (by first | exact Yield.pick_t rfl rfl | exact Yield.pick_f rfl rfl | exact Yield.pick rfl (fun _ => rfl) (fun _ => rfl)) rfl ?_
        refine OG.yield (Yield.assign rfl) rfl ?_
        refine OG.nil ?_
        refine QG.then ?_
        refine CG.cond_t rfl ?_
        refine CG.seq ?_
        refine CG.region ?_
        refine OG.yield (Yield.assign rfl) rfl ?_
        refine OG.yield (Yield.assign rfl) rfl ?_
        refine OG.nil ?_
        refine QG.then ?_
        refine CG.ret ?_
        refine QG.block_ret ?_
        refine QG.pass_ret ?_
        have e : placeR A k ad sz how = (0, 90) := by unfold placeR; rw [if_neg (fun q => q (by omega)), if_neg (fun q => q hal), if_pos (by omega)]
        rw [e]
        exact QG.rets [.int .u32 0, .int .i64 90] rfl ⟨rfl, rfl, trivial⟩ σ F0 rfl (by repeat (first | exact Imp.refl _ | exact Imp.none _ | apply Imp.pull (by repeat (first | exact Ext.here | apply Ext.there)) | apply Imp.trans Imp.drop))
      · skip
        refine CG.region ?_
        refine OG.yield (Yield.move rfl) rfl ?_
        refine OG.yield (by first | exact Yield.as (Yield.geq rfl rfl) (bT (by omega)) | exact Yield.as (Yield.geq rfl rfl) (bF (by omega)) | exact Yield.geq rfl rfl) rfl ?_
        refine OG.yield (Yield.move rfl) rfl ?_
        refine OG.guard_yes rfl rfl rfl (by decide) ?_
        refine OG.yield (Yield.move rfl) rfl ?_
        refine OG.guard_yes rfl rfl rfl (by decide) ?_
        refine OG.yield (by first | exact Yield.as (Yield.eql rfl rfl) (bT (by omega)) | exact Yield.as (Yield.eql rfl rfl) (bF (by omega)) | exact Yield.eql rfl rfl) rfl ?_
        refine OG.yield (by first | exact Yield.pick_t rfl rfl | exact Yield.pick_f rfl rfl | exact Yield.pick rfl (fun _ => rfl) (fun _ => rfl)) rfl ?_
        refine OG.yield (Yield.assign rfl) rfl ?_
        refine OG.nil ?_
        refine QG.then ?_
        refine CG.cond_t rfl ?_
        refine CG.seq ?_
        refine CG.region ?_
        refine OG.yield (Yield.assign rfl) rfl ?_
        refine OG.yield (Yield.assign rfl) rfl ?_
        refine OG.nil ?_
        refine QG.then ?_
        refine CG.ret ?_
        refine QG.block_ret ?_
        refine QG.pass_ret ?_
        have e : placeR A k ad sz how = (0, 90) := by unfold placeR; rw [if_neg (fun q => q (by omega)), if_neg (fun q => q hal), if_pos (by omega)]
        rw [e]
        exact QG.rets [.int .u32 0, .int .i64 90] rfl ⟨rfl, rfl, trivial⟩ σ F0 rfl (by repeat (first | exact Imp.refl _ | exact Imp.none _ | apply Imp.pull (by repeat (first | exact Ext.here | apply Ext.there)) | apply Imp.trans Imp.drop))
      · skip
        refine CG.region ?_
        refine OG.yield (Yield.move rfl) rfl ?_
        refine OG.yield (by first | exact Yield.as (Yield.geq rfl rfl) (bT (by omega)) | exact Yield.as (Yield.geq rfl rfl) (bF (by omega)) | exact Yield.geq rfl rfl) rfl ?_
        refine OG.yield (Yield.move rfl) rfl ?_
        refine OG.guard_yes rfl rfl rfl (by decide) ?_
        refine OG.yield (Yield.move rfl) rfl ?_
        refine OG.guard_yes rfl rfl rfl (by decide) ?_
        refine OG.yield (by first | exact Yield.as (Yield.eql rfl rfl) (bT (by omega)) | exact Yield.as (Yield.eql rfl rfl) (bF (by omega)) | exact Yield.eql rfl rfl) rfl ?_
        refine OG.yield (by first | exact Yield.pick_t rfl rfl | exact Yield.pick_f rfl rfl | exact Yield.pick rfl (fun _ => rfl) (fun _ => rfl)) rfl ?_
        refine OG.yield (Yield.assign rfl) rfl ?_
        refine OG.nil ?_
        refine QG.then ?_
        refine CG.cond_f rfl ?_
        refine CG.skip ?_
        refine QG.block_normal ?_
        refine QG.then ?_
        refine CG.seq ?_
        refine CG.region ?_
        refine OG.yield (Yield.move rfl) rfl ?_
        refine OG.yield (Yield.move rfl) rfl ?_
        refine OG.yield (Yield.quo (c := ((ad / 256 : Nat) : Int)) rfl rfl (by decide) (quo_nat32 (b := 256) (by decide) (by omega))) rfl ?_
        refine OG.yield (by first | exact Yield.conv Try.underlying3 rfl rfl (w64 (by omega) (by omega)) | exact Yield.conv Try.underlying3 rfl rfl rfl) rfl ?_
        refine OG.callo call84 rfl ((by repeat (first | exact Imp.refl _ | exact Imp.none _ | apply Imp.pull (by repeat (first | exact Ext.here | apply Ext.there)) | apply Imp.trans Imp.drop))) (find_spec W0 _ (s := s) (m := m) (f := f) (t := t) G hk hb ((ad / 256 : Nat) : Int)) rfl ?_
        rintro σ' hF
        rw [vp_in (show ad / 256 < 4096 by omega)]
        refine OG.yield (Yield.move rfl) rfl ?_
        refine OG.yield (Yield.extract rfl rfl) rfl ?_
        refine OG.yield (Yield.extract rfl rfl) rfl ?_
        refine OG.yield (Yield.extract rfl rfl) rfl ?_
        refine OG.yield (Yield.assign rfl) rfl ?_
        refine OG.yield (Yield.assign rfl) rfl ?_
        refine OG.yield (Yield.assign rfl) rfl ?_
        refine OG.nil ?_
        refine QG.then ?_
        refine CG.seq ?_
        refine CG.seq ?_
        rcases (show (A.pg k (ad / 256) = none) ∨ (∃ x, A.pg k (ad / 256) = some x ∧ may x.2 how) ∨ (∃ x, A.pg k (ad / 256) = some x ∧ ¬ may x.2 how) by cases A.pg k (ad / 256) with | none => exact .inl rfl | some x => exact .inr ((Decidable.em (may x.2 how)).elim (fun h => .inl ⟨x, rfl, h⟩) (fun h => .inr ⟨x, rfl, h⟩))) with hx | ⟨x, hx, hm⟩ | ⟨x, hx, hm⟩
        · skip
          rw [wV_none (by omega) hx, hx]
          refine CG.region ?_
          refine OG.yield (Yield.move rfl) rfl ?_
          refine OG.yield (Yield.not rfl) rfl ?_
          refine OG.yield (Yield.move rfl) rfl ?_
          refine OG.guard_no rfl rfl rfl rfl rfl (by decide) (by decide) ?_
          refine OG.guard_no rfl rfl rfl rfl rfl (by decide) (by decide) ?_
          refine OG.guard_no rfl rfl rfl rfl rfl (by decide) (by decide) ?_
          refine OG.guard_no rfl rfl rfl rfl rfl (by decide) (by decide) ?_
          refine OG.guard_no rfl rfl rfl rfl rfl (by decide) (by decide) ?_
          refine OG.yield (by first | exact Yield.pick_t rfl rfl | exact Yield.pick_f rfl rfl | exact Yield.pick rfl (fun _ => rfl) (fun _ => rfl)) rfl ?_
          refine OG.nil ?_
          refine QG.then ?_
          refine CG.cond_t rfl ?_
          refine CG.seq ?_
          refine CG.region ?_
          refine OG.yield (Yield.assign rfl) rfl ?_
          refine OG.yield (Yield.assign rfl) rfl ?_
          refine OG.nil ?_
          refine QG.then ?_
          refine CG.ret ?_
          refine QG.pass_ret ?_
          have e : placeR A k ad sz how = (0, 90) := by unfold placeR; rw [if_neg (fun q => q (by omega)), if_neg (fun q => q hal), if_neg (by omega), hx]
          rw [e]
          exact QG.rets [.int .u32 0, .int .i64 90] rfl ⟨rfl, rfl, trivial⟩ σ' hF rfl (by repeat (first | exact Imp.refl _ | exact Imp.none _ | apply Imp.pull (by repeat (first | exact Ext.here | apply Ext.there)) | apply Imp.trans Imp.drop))
        · skip
          rw [wV_some (by omega) hx, hx]
          refine CG.region ?_
          refine OG.yield (Yield.move rfl) rfl ?_
          refine OG.yield (Yield.not rfl) rfl ?_
          refine OG.yield (Yield.move rfl) rfl ?_
          refine OG.guard_yes rfl rfl rfl (by decide) ?_
          refine OG.yield (Yield.move rfl) rfl ?_
          refine OG.guard_yes rfl rfl rfl (by decide) ?_
          refine OG.yield (Yield.move rfl) rfl ?_
          refine OG.guard_yes rfl rfl rfl (by decide) ?_
          refine OG.yield (Yield.bitop rfl rfl rfl rfl) rfl ?_
          refine OG.guard_yes rfl rfl rfl (by decide) ?_
          refine OG.yield (Yield.move rfl) rfl ?_
          refine OG.guard_yes rfl rfl rfl (by decide) ?_
          refine OG.yield (Yield.as (Yield.neq rfl rfl) (v' := .bool false) (by simp [hm])) rfl ?_
          refine OG.yield (by first | exact Yield.pick_t rfl rfl | exact Yield.pick_f rfl rfl | exact Yield.pick rfl (fun _ => rfl) (fun _ => rfl)) rfl ?_
          refine OG.nil ?_
          refine QG.then ?_
          refine CG.cond_f rfl ?_
          refine CG.skip ?_
          refine QG.then ?_
          refine CG.seq ?_
          have hxn := G.plt hx
          refine CG.region ?_
          refine OG.yield (Yield.move rfl) rfl ?_
          refine OG.yield (Yield.conv (c := (x.1 : Int)) Try.underlying32 rfl rfl (wu32 (by omega) (by omega))) rfl ?_
          refine OG.yield (Yield.mul (c := ((x.1 * 256 : Nat) : Int)) rfl rfl (by rw [wu32 (by omega) (by omega)]; omega)) rfl ?_
          refine OG.yield (Yield.move rfl) rfl ?_
          refine OG.yield (Yield.rem (c := ((ad % 256 : Nat) : Int)) rfl rfl (by decide) (tmod_nat ad 256 (by decide))) rfl ?_
          refine OG.yield (Yield.add (c := ((x.1 * 256 + ad % 256 : Nat) : Int)) rfl rfl (by rw [wu32 (by omega) (by omega)]; omega)) rfl ?_
          refine OG.yield (Yield.assign rfl) rfl ?_
          refine OG.yield (Yield.assign rfl) rfl ?_
          refine OG.nil ?_
          refine QG.then ?_
          refine CG.ret ?_
          have e : placeR A k ad sz how = (x.1 * 256 + ad % 256, 0) := by unfold placeR; rw [if_neg (fun q => q (by omega)), if_neg (fun q => q hal), if_neg (by omega), hx]; simp only; rw [if_pos hm]
          rw [e]
          exact QG.rets [.int .u32 ((x.1 * 256 + ad % 256 : Nat) : Int), .int .i64 0] rfl ⟨rfl, rfl, trivial⟩ σ' hF rfl (by repeat (first | exact Imp.refl _ | exact Imp.none _ | apply Imp.pull (by repeat (first | exact Ext.here | apply Ext.there)) | apply Imp.trans Imp.drop))
        · skip
          rw [wV_some (by omega) hx, hx]
          refine CG.region ?_
          refine OG.yield (Yield.move rfl) rfl ?_
          refine OG.yield (Yield.not rfl) rfl ?_
          refine OG.yield (Yield.move rfl) rfl ?_
          refine OG.guard_yes rfl rfl rfl (by decide) ?_
          refine OG.yield (Yield.move rfl) rfl ?_
          refine OG.guard_yes rfl rfl rfl (by decide) ?_
          refine OG.yield (Yield.move rfl) rfl ?_
          refine OG.guard_yes rfl rfl rfl (by decide) ?_
          refine OG.yield (Yield.bitop rfl rfl rfl rfl) rfl ?_
          refine OG.guard_yes rfl rfl rfl (by decide) ?_
          refine OG.yield (Yield.move rfl) rfl ?_
          refine OG.guard_yes rfl rfl rfl (by decide) ?_
          refine OG.yield (Yield.as (Yield.neq rfl rfl) (v' := .bool true) (by simp [hm])) rfl ?_
          refine OG.yield (by first | exact Yield.pick_t rfl rfl | exact Yield.pick_f rfl rfl | exact Yield.pick rfl (fun _ => rfl) (fun _ => rfl)) rfl ?_
          refine OG.nil ?_
          refine QG.then ?_
          refine CG.cond_t rfl ?_
          refine CG.seq ?_
          refine CG.region ?_
          refine OG.yield (Yield.assign rfl) rfl ?_
          refine OG.yield (Yield.assign rfl) rfl ?_
          refine OG.nil ?_
          refine QG.then ?_
          refine CG.ret ?_
          refine QG.pass_ret ?_
          have e : placeR A k ad sz how = (0, 90) := by unfold placeR; rw [if_neg (fun q => q (by omega)), if_neg (fun q => q hal), if_neg (by omega), hx]; simp only; rw [if_neg hm]
          rw [e]
          exact QG.rets [.int .u32 0, .int .i64 90] rfl ⟨rfl, rfl, trivial⟩ σ' hF rfl (by repeat (first | exact Imp.refl _ | exact Imp.none _ | apply Imp.pull (by repeat (first | exact Ext.here | apply Ext.there)) | apply Imp.trans Imp.drop))
    · skip
      refine CG.region ?_
      refine OG.yield (Yield.move rfl) rfl ?_
      refine OG.yield (Yield.move rfl) rfl ?_
      refine OG.yield (Yield.conv (c := sz) Try.underlying32 rfl rfl (wu32 (by omega) (by omega))) rfl ?_
      refine OG.yield (Yield.rem (c := (ad : Int) % sz) rfl rfl (by omega) (tmod_pos (by omega) (by omega))) rfl ?_
      refine OG.yield (Yield.as (Yield.neq rfl rfl) (v' := .bool true) (by simp [hal])) rfl ?_
      refine OG.yield (Yield.assign rfl) rfl ?_
      refine OG.nil ?_
      refine QG.then ?_
      refine CG.cond_t rfl ?_
      refine CG.seq ?_
      refine CG.region ?_
      refine OG.yield (Yield.assign rfl) rfl ?_
      refine OG.yield (Yield.assign rfl) rfl ?_
      refine OG.nil ?_
      refine QG.then ?_
      refine CG.ret ?_
      refine QG.block_ret ?_
      refine QG.pass_ret ?_
      have e : placeR A k ad sz how = (0, 30) := by unfold placeR; rw [if_neg (fun q => q (by omega)), if_pos hal]
      rw [e]
      exact QG.rets [.int .u32 0, .int .i64 30] rfl ⟨rfl, rfl, trivial⟩ σ F0 rfl (by repeat (first | exact Imp.refl _ | exact Imp.none _ | apply Imp.pull (by repeat (first | exact Ext.here | apply Ext.there)) | apply Imp.trans Imp.drop))
  · skip
    refine CG.region ?_
    refine OG.yield (Yield.move rfl) rfl ?_
    refine OG.yield (by first | exact Yield.as (Yield.neq rfl rfl) (bT (by omega)) | exact Yield.as (Yield.neq rfl rfl) (bF (by omega)) | exact Yield.neq rfl rfl) rfl ?_
    refine OG.yield (Yield.move rfl) rfl ?_
    refine OG.guard_yes rfl rfl rfl (by decide) ?_
    refine OG.yield (Yield.move rfl) rfl ?_
    refine OG.guard_yes rfl rfl rfl (by decide) ?_
    refine OG.yield (by first | exact Yield.as (Yield.neq rfl rfl) (bT (by omega)) | exact Yield.as (Yield.neq rfl rfl) (bF (by omega)) | exact Yield.neq rfl rfl) rfl ?_
    refine OG.yield (by first | exact Yield.pick_t rfl rfl | exact Yield.pick_f rfl rfl | exact Yield.pick rfl (fun _ => rfl) (fun _ => rfl)) rfl ?_
    refine OG.yield (Yield.move rfl) rfl ?_
    refine OG.guard_no rfl rfl rfl rfl rfl (by decide) (by decide) ?_
    refine OG.guard_no rfl rfl rfl rfl rfl (by decide) (by decide) ?_
    refine OG.yield (by first | exact Yield.pick_t rfl rfl | exact Yield.pick_f rfl rfl | exact Yield.pick rfl (fun _ => rfl) (fun _ => rfl)) rfl ?_
    refine OG.yield (Yield.move rfl) rfl ?_
    refine OG.guard_no rfl rfl rfl rfl rfl (by decide) (by decide) ?_
    refine OG.guard_no rfl rfl rfl rfl rfl (by decide) (by decide) ?_
    refine OG.yield (by first | exact Yield.pick_t rfl rfl | exact Yield.pick_f rfl rfl | exact Yield.pick rfl (fun _ => rfl) (fun _ => rfl)) rfl ?_
    refine OG.yield (Yield.assign rfl) rfl ?_
    refine OG.nil ?_
    refine QG.then ?_
    refine CG.cond_f rfl ?_
    refine CG.seq ?_
    by_cases hal : (ad : Int) % sz = 0
    · skip
      refine CG.region ?_
      refine OG.yield (Yield.move rfl) rfl ?_
      refine OG.yield (Yield.move rfl) rfl ?_
      refine OG.yield (Yield.conv (c := sz) Try.underlying32 rfl rfl (wu32 (by omega) (by omega))) rfl ?_
      refine OG.yield (Yield.rem (c := (ad : Int) % sz) rfl rfl (by omega) (tmod_pos (by omega) (by omega))) rfl ?_
      refine OG.yield (Yield.as (Yield.neq rfl rfl) (v' := .bool false) (by rw [hal]; rfl)) rfl ?_
      refine OG.yield (Yield.assign rfl) rfl ?_
      refine OG.nil ?_
      refine QG.then ?_
      refine CG.cond_f rfl ?_
      refine CG.seq ?_
      rcases (show 1048576 ≤ ad ∨ (ad < 1048576 ∧ how = 0) ∨ (ad < 1048576 ∧ how ≠ 0) by omega) with hr | hr | hr
      · skip
        refine CG.region ?_
        refine OG.yield (Yield.move rfl) rfl ?_
        refine OG.yield (by first | exact Yield.as (Yield.geq rfl rfl) (bT (by omega)) | exact Yield.as (Yield.geq rfl rfl) (bF (by omega)) | exact Yield.geq rfl rfl) rfl ?_
        refine OG.yield (Yield.move rfl) rfl ?_
        refine OG.guard_no rfl rfl rfl rfl rfl (by decide) (by decide) ?_
        refine OG.guard_no rfl rfl rfl rfl rfl (by decide) (by decide) ?_
        refine OG.yield (by first | exact Yield.pick_t rfl rfl | exact Yield.pick_f rfl rfl | exact Yield.pick rfl (fun _ => rfl) (fun _ => rfl)) rfl ?_
        refine OG.yield (Yield.assign rfl) rfl ?_
        refine OG.nil ?_
        refine QG.then ?_
        refine CG.cond_t rfl ?_
        refine CG.seq ?_
        refine CG.region ?_
        refine OG.yield (Yield.assign rfl) rfl ?_
        refine OG.yield (Yield.assign rfl) rfl ?_
        refine OG.nil ?_
        refine QG.then ?_
        refine CG.ret ?_
        refine QG.block_ret ?_
        refine QG.pass_ret ?_
        have e : placeR A k ad sz how = (0, 90) := by unfold placeR; rw [if_neg (fun q => q (by omega)), if_neg (fun q => q hal), if_pos (by omega)]
        rw [e]
        exact QG.rets [.int .u32 0, .int .i64 90] rfl ⟨rfl, rfl, trivial⟩ σ F0 rfl (by repeat (first | exact Imp.refl _ | exact Imp.none _ | apply Imp.pull (by repeat (first | exact Ext.here | apply Ext.there)) | apply Imp.trans Imp.drop))
      · skip
        refine CG.region ?_
        refine OG.yield (Yield.move rfl) rfl ?_
        refine OG.yield (by first | exact Yield.as (Yield.geq rfl rfl) (bT (by omega)) | exact Yield.as (Yield.geq rfl rfl) (bF (by omega)) | exact Yield.geq rfl rfl) rfl ?_
        refine OG.yield (Yield.move rfl) rfl ?_
        refine OG.guard_yes rfl rfl rfl (by decide) ?_
        refine OG.yield (Yield.move rfl) rfl ?_
        refine OG.guard_yes rfl rfl rfl (by decide) ?_
        refine OG.yield (by first | exact Yield.as (Yield.eql rfl rfl) (bT (by omega)) | exact Yield.as (Yield.eql rfl rfl) (bF (by omega)) | exact Yield.eql rfl rfl) rfl ?_
        refine OG.yield (by first | exact Yield.pick_t rfl rfl | exact Yield.pick_f rfl rfl | exact Yield.pick rfl (fun _ => rfl) (fun _ => rfl)) rfl ?_
        refine OG.yield (Yield.assign rfl) rfl ?_
        refine OG.nil ?_
        refine QG.then ?_
        refine CG.cond_t rfl ?_
        refine CG.seq ?_
        refine CG.region ?_
        refine OG.yield (Yield.assign rfl) rfl ?_
        refine OG.yield (Yield.assign rfl) rfl ?_
        refine OG.nil ?_
        refine QG.then ?_
        refine CG.ret ?_
        refine QG.block_ret ?_
        refine QG.pass_ret ?_
        have e : placeR A k ad sz how = (0, 90) := by unfold placeR; rw [if_neg (fun q => q (by omega)), if_neg (fun q => q hal), if_pos (by omega)]
        rw [e]
        exact QG.rets [.int .u32 0, .int .i64 90] rfl ⟨rfl, rfl, trivial⟩ σ F0 rfl (by repeat (first | exact Imp.refl _ | exact Imp.none _ | apply Imp.pull (by repeat (first | exact Ext.here | apply Ext.there)) | apply Imp.trans Imp.drop))
      · skip
        refine CG.region ?_
        refine OG.yield (Yield.move rfl) rfl ?_
        refine OG.yield (by first | exact Yield.as (Yield.geq rfl rfl) (bT (by omega)) | exact Yield.as (Yield.geq rfl rfl) (bF (by omega)) | exact Yield.geq rfl rfl) rfl ?_
        refine OG.yield (Yield.move rfl) rfl ?_
        refine OG.guard_yes rfl rfl rfl (by decide) ?_
        refine OG.yield (Yield.move rfl) rfl ?_
        refine OG.guard_yes rfl rfl rfl (by decide) ?_
        refine OG.yield (by first | exact Yield.as (Yield.eql rfl rfl) (bT (by omega)) | exact Yield.as (Yield.eql rfl rfl) (bF (by omega)) | exact Yield.eql rfl rfl) rfl ?_
        refine OG.yield (by first | exact Yield.pick_t rfl rfl | exact Yield.pick_f rfl rfl | exact Yield.pick rfl (fun _ => rfl) (fun _ => rfl)) rfl ?_
        refine OG.yield (Yield.assign rfl) rfl ?_
        refine OG.nil ?_
        refine QG.then ?_
        refine CG.cond_f rfl ?_
        refine CG.skip ?_
        refine QG.block_normal ?_
        refine QG.then ?_
        refine CG.seq ?_
        refine CG.region ?_
        refine OG.yield (Yield.move rfl) rfl ?_
        refine OG.yield (Yield.move rfl) rfl ?_
        refine OG.yield (Yield.quo (c := ((ad / 256 : Nat) : Int)) rfl rfl (by decide) (quo_nat32 (b := 256) (by decide) (by omega))) rfl ?_
        refine OG.yield (by first | exact Yield.conv Try.underlying3 rfl rfl (w64 (by omega) (by omega)) | exact Yield.conv Try.underlying3 rfl rfl rfl) rfl ?_
        refine OG.callo call84 rfl ((by repeat (first | exact Imp.refl _ | exact Imp.none _ | apply Imp.pull (by repeat (first | exact Ext.here | apply Ext.there)) | apply Imp.trans Imp.drop))) (find_spec W0 _ (s := s) (m := m) (f := f) (t := t) G hk hb ((ad / 256 : Nat) : Int)) rfl ?_
        rintro σ' hF
        rw [vp_in (show ad / 256 < 4096 by omega)]
        refine OG.yield (Yield.move rfl) rfl ?_
        refine OG.yield (Yield.extract rfl rfl) rfl ?_
        refine OG.yield (Yield.extract rfl rfl) rfl ?_
        refine OG.yield (Yield.extract rfl rfl) rfl ?_
        refine OG.yield (Yield.assign rfl) rfl ?_
        refine OG.yield (Yield.assign rfl) rfl ?_
        refine OG.yield (Yield.assign rfl) rfl ?_
        refine OG.nil ?_
        refine QG.then ?_
        refine CG.seq ?_
        refine CG.seq ?_
        rcases (show (A.pg k (ad / 256) = none) ∨ (∃ x, A.pg k (ad / 256) = some x ∧ may x.2 how) ∨ (∃ x, A.pg k (ad / 256) = some x ∧ ¬ may x.2 how) by cases A.pg k (ad / 256) with | none => exact .inl rfl | some x => exact .inr ((Decidable.em (may x.2 how)).elim (fun h => .inl ⟨x, rfl, h⟩) (fun h => .inr ⟨x, rfl, h⟩))) with hx | ⟨x, hx, hm⟩ | ⟨x, hx, hm⟩
        · skip
          rw [wV_none (by omega) hx, hx]
          refine CG.region ?_
          refine OG.yield (Yield.move rfl) rfl ?_
          refine OG.yield (Yield.not rfl) rfl ?_
          refine OG.yield (Yield.move rfl) rfl ?_
          refine OG.guard_no rfl rfl rfl rfl rfl (by decide) (by decide) ?_
          refine OG.guard_no rfl rfl rfl rfl rfl (by decide) (by decide) ?_
          refine OG.guard_no rfl rfl rfl rfl rfl (by decide) (by decide) ?_
          refine OG.guard_no rfl rfl rfl rfl rfl (by decide) (by decide) ?_
          refine OG.guard_no rfl rfl rfl rfl rfl (by decide) (by decide) ?_
          refine OG.yield (by first | exact Yield.pick_t rfl rfl | exact Yield.pick_f rfl rfl | exact Yield.pick rfl (fun _ => rfl) (fun _ => rfl)) rfl ?_
          refine OG.nil ?_
          refine QG.then ?_
          refine CG.cond_t rfl ?_
          refine CG.seq ?_
          refine CG.region ?_
          refine OG.yield (Yield.assign rfl) rfl ?_
          refine OG.yield (Yield.assign rfl) rfl ?_
          refine OG.nil ?_
          refine QG.then ?_
          refine CG.ret ?_
          refine QG.pass_ret ?_
          have e : placeR A k ad sz how = (0, 90) := by unfold placeR; rw [if_neg (fun q => q (by omega)), if_neg (fun q => q hal), if_neg (by omega), hx]
          rw [e]
          exact QG.rets [.int .u32 0, .int .i64 90] rfl ⟨rfl, rfl, trivial⟩ σ' hF rfl (by repeat (first | exact Imp.refl _ | exact Imp.none _ | apply Imp.pull (by repeat (first | exact Ext.here | apply Ext.there)) | apply Imp.trans Imp.drop))
        · skip
          rw [wV_some (by omega) hx, hx]
          refine CG.region ?_
          refine OG.yield (Yield.move rfl) rfl ?_
          refine OG.yield (Yield.not rfl) rfl ?_
          refine OG.yield (Yield.move rfl) rfl ?_
          refine OG.guard_yes rfl rfl rfl (by decide) ?_
          refine OG.yield (Yield.move rfl) rfl ?_
          refine OG.guard_yes rfl rfl rfl (by decide) ?_
          refine OG.yield (Yield.move rfl) rfl ?_
          refine OG.guard_yes rfl rfl rfl (by decide) ?_
          refine OG.yield (Yield.bitop rfl rfl rfl rfl) rfl ?_
          refine OG.guard_yes rfl rfl rfl (by decide) ?_
          refine OG.yield (Yield.move rfl) rfl ?_
          refine OG.guard_yes rfl rfl rfl (by decide) ?_
          refine OG.yield (Yield.as (Yield.neq rfl rfl) (v' := .bool false) (by simp [hm])) rfl ?_
          refine OG.yield (by first | exact Yield.pick_t rfl rfl | exact Yield.pick_f rfl rfl | exact Yield.pick rfl (fun _ => rfl) (fun _ => rfl)) rfl ?_
          refine OG.nil ?_
          refine QG.then ?_
          refine CG.cond_f rfl ?_
          refine CG.skip ?_
          refine QG.then ?_
          refine CG.seq ?_
          have hxn := G.plt hx
          refine CG.region ?_
          refine OG.yield (Yield.move rfl) rfl ?_
          refine OG.yield (Yield.conv (c := (x.1 : Int)) Try.underlying32 rfl rfl (wu32 (by omega) (by omega))) rfl ?_
          refine OG.yield (Yield.mul (c := ((x.1 * 256 : Nat) : Int)) rfl rfl (by rw [wu32 (by omega) (by omega)]; omega)) rfl ?_
          refine OG.yield (Yield.move rfl) rfl ?_
          refine OG.yield (Yield.rem (c := ((ad % 256 : Nat) : Int)) rfl rfl (by decide) (tmod_nat ad 256 (by decide))) rfl ?_
          refine OG.yield (Yield.add (c := ((x.1 * 256 + ad % 256 : Nat) : Int)) rfl rfl (by rw [wu32 (by omega) (by omega)]; omega)) rfl ?_
          refine OG.yield (Yield.assign rfl) rfl ?_
          refine OG.yield (Yield.assign rfl) rfl ?_
          refine OG.nil ?_
          refine QG.then ?_
          refine CG.ret ?_
          have e : placeR A k ad sz how = (x.1 * 256 + ad % 256, 0) := by unfold placeR; rw [if_neg (fun q => q (by omega)), if_neg (fun q => q hal), if_neg (by omega), hx]; simp only; rw [if_pos hm]
          rw [e]
          exact QG.rets [.int .u32 ((x.1 * 256 + ad % 256 : Nat) : Int), .int .i64 0] rfl ⟨rfl, rfl, trivial⟩ σ' hF rfl (by repeat (first | exact Imp.refl _ | exact Imp.none _ | apply Imp.pull (by repeat (first | exact Ext.here | apply Ext.there)) | apply Imp.trans Imp.drop))
        · skip
          rw [wV_some (by omega) hx, hx]
          refine CG.region ?_
          refine OG.yield (Yield.move rfl) rfl ?_
          refine OG.yield (Yield.not rfl) rfl ?_
          refine OG.yield (Yield.move rfl) rfl ?_
          refine OG.guard_yes rfl rfl rfl (by decide) ?_
          refine OG.yield (Yield.move rfl) rfl ?_
          refine OG.guard_yes rfl rfl rfl (by decide) ?_
          refine OG.yield (Yield.move rfl) rfl ?_
          refine OG.guard_yes rfl rfl rfl (by decide) ?_
          refine OG.yield (Yield.bitop rfl rfl rfl rfl) rfl ?_
          refine OG.guard_yes rfl rfl rfl (by decide) ?_
          refine OG.yield (Yield.move rfl) rfl ?_
          refine OG.guard_yes rfl rfl rfl (by decide) ?_
          refine OG.yield (Yield.as (Yield.neq rfl rfl) (v' := .bool true) (by simp [hm])) rfl ?_
          refine OG.yield (by first | exact Yield.pick_t rfl rfl | exact Yield.pick_f rfl rfl | exact Yield.pick rfl (fun _ => rfl) (fun _ => rfl)) rfl ?_
          refine OG.nil ?_
          refine QG.then ?_
          refine CG.cond_t rfl ?_
          refine CG.seq ?_
          refine CG.region ?_
          refine OG.yield (Yield.assign rfl) rfl ?_
          refine OG.yield (Yield.assign rfl) rfl ?_
          refine OG.nil ?_
          refine QG.then ?_
          refine CG.ret ?_
          refine QG.pass_ret ?_
          have e : placeR A k ad sz how = (0, 90) := by unfold placeR; rw [if_neg (fun q => q (by omega)), if_neg (fun q => q hal), if_neg (by omega), hx]; simp only; rw [if_neg hm]
          rw [e]
          exact QG.rets [.int .u32 0, .int .i64 90] rfl ⟨rfl, rfl, trivial⟩ σ' hF rfl (by repeat (first | exact Imp.refl _ | exact Imp.none _ | apply Imp.pull (by repeat (first | exact Ext.here | apply Ext.there)) | apply Imp.trans Imp.drop))
    · skip
      refine CG.region ?_
      refine OG.yield (Yield.move rfl) rfl ?_
      refine OG.yield (Yield.move rfl) rfl ?_
      refine OG.yield (Yield.conv (c := sz) Try.underlying32 rfl rfl (wu32 (by omega) (by omega))) rfl ?_
      refine OG.yield (Yield.rem (c := (ad : Int) % sz) rfl rfl (by omega) (tmod_pos (by omega) (by omega))) rfl ?_
      refine OG.yield (Yield.as (Yield.neq rfl rfl) (v' := .bool true) (by simp [hal])) rfl ?_
      refine OG.yield (Yield.assign rfl) rfl ?_
      refine OG.nil ?_
      refine QG.then ?_
      refine CG.cond_t rfl ?_
      refine CG.seq ?_
      refine CG.region ?_
      refine OG.yield (Yield.assign rfl) rfl ?_
      refine OG.yield (Yield.assign rfl) rfl ?_
      refine OG.nil ?_
      refine QG.then ?_
      refine CG.ret ?_
      refine QG.block_ret ?_
      refine QG.pass_ret ?_
      have e : placeR A k ad sz how = (0, 30) := by unfold placeR; rw [if_neg (fun q => q (by omega)), if_pos hal]
      rw [e]
      exact QG.rets [.int .u32 0, .int .i64 30] rfl ⟨rfl, rfl, trivial⟩ σ F0 rfl (by repeat (first | exact Imp.refl _ | exact Imp.none _ | apply Imp.pull (by repeat (first | exact Ext.here | apply Ext.there)) | apply Imp.trans Imp.drop))
  · skip
    refine CG.region ?_
    refine OG.yield (Yield.move rfl) rfl ?_
    refine OG.yield (by first | exact Yield.as (Yield.neq rfl rfl) (bT (by omega)) | exact Yield.as (Yield.neq rfl rfl) (bF (by omega)) | exact Yield.neq rfl rfl) rfl ?_
    refine OG.yield (Yield.move rfl) rfl ?_
    refine OG.guard_yes rfl rfl rfl (by decide) ?_
    refine OG.yield (Yield.move rfl) rfl ?_
    refine OG.guard_yes rfl rfl rfl (by decide) ?_
    refine OG.yield (by first | exact Yield.as (Yield.neq rfl rfl) (bT (by omega)) | exact Yield.as (Yield.neq rfl rfl) (bF (by omega)) | exact Yield.neq rfl rfl) rfl ?_
    refine OG.yield (by first | exact Yield.pick_t rfl rfl | exact Yield.pick_f rfl rfl | exact Yield.pick rfl (fun _ => rfl) (fun _ => rfl)) rfl ?_
    refine OG.yield (Yield.move rfl) rfl ?_
    refine OG.guard_yes rfl rfl rfl (by decide) ?_
    refine OG.yield (Yield.move rfl) rfl ?_
    refine OG.guard_yes rfl rfl rfl (by decide) ?_
    refine OG.yield (by first | exact Yield.as (Yield.neq rfl rfl) (bT (by omega)) | exact Yield.as (Yield.neq rfl rfl) (bF (by omega)) | exact Yield.neq rfl rfl) rfl ?_
    refine OG.yield (by first | exact Yield.pick_t rfl rfl | exact Yield.pick_f rfl rfl | exact Yield.pick rfl (fun _ => rfl) (fun _ => rfl)) rfl ?_
    refine OG.yield (Yield.move rfl) rfl ?_
    refine OG.guard_no rfl rfl rfl rfl rfl (by decide) (by decide) ?_
    refine OG.guard_no rfl rfl rfl rfl rfl (by decide) (by decide) ?_
    refine OG.yield (by first | exact Yield.pick_t rfl rfl | exact Yield.pick_f rfl rfl | exact Yield.pick rfl (fun _ => rfl) (fun _ => rfl)) rfl ?_
    refine OG.yield (Yield.assign rfl) rfl ?_
    refine OG.nil ?_
    refine QG.then ?_
    refine CG.cond_f rfl ?_
    refine CG.seq ?_
    by_cases hal : (ad : Int) % sz = 0
    · skip
      refine CG.region ?_
      refine OG.yield (Yield.move rfl) rfl ?_
      refine OG.yield (Yield.move rfl) rfl ?_
      refine OG.yield (Yield.conv (c := sz) Try.underlying32 rfl rfl (wu32 (by omega) (by omega))) rfl ?_
      refine OG.yield (Yield.rem (c := (ad : Int) % sz) rfl rfl (by omega) (tmod_pos (by omega) (by omega))) rfl ?_
      refine OG.yield (Yield.as (Yield.neq rfl rfl) (v' := .bool false) (by rw [hal]; rfl)) rfl ?_
      refine OG.yield (Yield.assign rfl) rfl ?_
      refine OG.nil ?_
      refine QG.then ?_
      refine CG.cond_f rfl ?_
      refine CG.seq ?_
      rcases (show 1048576 ≤ ad ∨ (ad < 1048576 ∧ how = 0) ∨ (ad < 1048576 ∧ how ≠ 0) by omega) with hr | hr | hr
      · skip
        refine CG.region ?_
        refine OG.yield (Yield.move rfl) rfl ?_
        refine OG.yield (by first | exact Yield.as (Yield.geq rfl rfl) (bT (by omega)) | exact Yield.as (Yield.geq rfl rfl) (bF (by omega)) | exact Yield.geq rfl rfl) rfl ?_
        refine OG.yield (Yield.move rfl) rfl ?_
        refine OG.guard_no rfl rfl rfl rfl rfl (by decide) (by decide) ?_
        refine OG.guard_no rfl rfl rfl rfl rfl (by decide) (by decide) ?_
        refine OG.yield (by first | exact Yield.pick_t rfl rfl | exact Yield.pick_f rfl rfl | exact Yield.pick rfl (fun _ => rfl) (fun _ => rfl)) rfl ?_
        refine OG.yield (Yield.assign rfl) rfl ?_
        refine OG.nil ?_
        refine QG.then ?_
        refine CG.cond_t rfl ?_
        refine CG.seq ?_
        refine CG.region ?_
        refine OG.yield (Yield.assign rfl) rfl ?_
        refine OG.yield (Yield.assign rfl) rfl ?_
        refine OG.nil ?_
        refine QG.then ?_
        refine CG.ret ?_
        refine QG.block_ret ?_
        refine QG.pass_ret ?_
        have e : placeR A k ad sz how = (0, 90) := by unfold placeR; rw [if_neg (fun q => q (by omega)), if_neg (fun q => q hal), if_pos (by omega)]
        rw [e]
        exact QG.rets [.int .u32 0, .int .i64 90] rfl ⟨rfl, rfl, trivial⟩ σ F0 rfl (by repeat (first | exact Imp.refl _ | exact Imp.none _ | apply Imp.pull (by repeat (first | exact Ext.here | apply Ext.there)) | apply Imp.trans Imp.drop))
      · skip
        refine CG.region ?_
        refine OG.yield (Yield.move rfl) rfl ?_
        refine OG.yield (by first | exact Yield.as (Yield.geq rfl rfl) (bT (by omega)) | exact Yield.as (Yield.geq rfl rfl) (bF (by omega)) | exact Yield.geq rfl rfl) rfl ?_
        refine OG.yield (Yield.move rfl) rfl ?_
        refine OG.guard_yes rfl rfl rfl (by decide) ?_
        refine OG.yield (Yield.move rfl) rfl ?_
        refine OG.guard_yes rfl rfl rfl (by decide) ?_
        refine OG.yield (by first | exact Yield.as (Yield.eql rfl rfl) (bT (by omega)) | exact Yield.as (Yield.eql rfl rfl) (bF (by omega)) | exact Yield.eql rfl rfl) rfl ?_
        refine OG.yield (by first | exact Yield.pick_t rfl rfl | exact Yield.pick_f rfl rfl | exact Yield.pick rfl (fun _ => rfl) (fun _ => rfl)) rfl ?_
        refine OG.yield (Yield.assign rfl) rfl ?_
        refine OG.nil ?_
        refine QG.then ?_
        refine CG.cond_t rfl ?_
        refine CG.seq ?_
        refine CG.region ?_
        refine OG.yield (Yield.assign rfl) rfl ?_
        refine OG.yield (Yield.assign rfl) rfl ?_
        refine OG.nil ?_
        refine QG.then ?_
        refine CG.ret ?_
        refine QG.block_ret ?_
        refine QG.pass_ret ?_
        have e : placeR A k ad sz how = (0, 90) := by unfold placeR; rw [if_neg (fun q => q (by omega)), if_neg (fun q => q hal), if_pos (by omega)]
        rw [e]
        exact QG.rets [.int .u32 0, .int .i64 90] rfl ⟨rfl, rfl, trivial⟩ σ F0 rfl (by repeat (first | exact Imp.refl _ | exact Imp.none _ | apply Imp.pull (by repeat (first | exact Ext.here | apply Ext.there)) | apply Imp.trans Imp.drop))
      · skip
        refine CG.region ?_
        refine OG.yield (Yield.move rfl) rfl ?_
        refine OG.yield (by first | exact Yield.as (Yield.geq rfl rfl) (bT (by omega)) | exact Yield.as (Yield.geq rfl rfl) (bF (by omega)) | exact Yield.geq rfl rfl) rfl ?_
        refine OG.yield (Yield.move rfl) rfl ?_
        refine OG.guard_yes rfl rfl rfl (by decide) ?_
        refine OG.yield (Yield.move rfl) rfl ?_
        refine OG.guard_yes rfl rfl rfl (by decide) ?_
        refine OG.yield (by first | exact Yield.as (Yield.eql rfl rfl) (bT (by omega)) | exact Yield.as (Yield.eql rfl rfl) (bF (by omega)) | exact Yield.eql rfl rfl) rfl ?_
        refine OG.yield (by first | exact Yield.pick_t rfl rfl | exact Yield.pick_f rfl rfl | exact Yield.pick rfl (fun _ => rfl) (fun _ => rfl)) rfl ?_
        refine OG.yield (Yield.assign rfl) rfl ?_
        refine OG.nil ?_
        refine QG.then ?_
        refine CG.cond_f rfl ?_
        refine CG.skip ?_
        refine QG.block_normal ?_
        refine QG.then ?_
        refine CG.seq ?_
        refine CG.region ?_
        refine OG.yield (Yield.move rfl) rfl ?_
        refine OG.yield (Yield.move rfl) rfl ?_
        refine OG.yield (Yield.quo (c := ((ad / 256 : Nat) : Int)) rfl rfl (by decide) (quo_nat32 (b := 256) (by decide) (by omega))) rfl ?_
        refine OG.yield (by first | exact Yield.conv Try.underlying3 rfl rfl (w64 (by omega) (by omega)) | exact Yield.conv Try.underlying3 rfl rfl rfl) rfl ?_
        refine OG.callo call84 rfl ((by repeat (first | exact Imp.refl _ | exact Imp.none _ | apply Imp.pull (by repeat (first | exact Ext.here | apply Ext.there)) | apply Imp.trans Imp.drop))) (find_spec W0 _ (s := s) (m := m) (f := f) (t := t) G hk hb ((ad / 256 : Nat) : Int)) rfl ?_
        rintro σ' hF
        rw [vp_in (show ad / 256 < 4096 by omega)]
        refine OG.yield (Yield.move rfl) rfl ?_
        refine OG.yield (Yield.extract rfl rfl) rfl ?_
        refine OG.yield (Yield.extract rfl rfl) rfl ?_
        refine OG.yield (Yield.extract rfl rfl) rfl ?_
        refine OG.yield (Yield.assign rfl) rfl ?_
        refine OG.yield (Yield.assign rfl) rfl ?_
        refine OG.yield (Yield.assign rfl) rfl ?_
        refine OG.nil ?_
        refine QG.then ?_
        refine CG.seq ?_
        refine CG.seq ?_
        rcases (show (A.pg k (ad / 256) = none) ∨ (∃ x, A.pg k (ad / 256) = some x ∧ may x.2 how) ∨ (∃ x, A.pg k (ad / 256) = some x ∧ ¬ may x.2 how) by cases A.pg k (ad / 256) with | none => exact .inl rfl | some x => exact .inr ((Decidable.em (may x.2 how)).elim (fun h => .inl ⟨x, rfl, h⟩) (fun h => .inr ⟨x, rfl, h⟩))) with hx | ⟨x, hx, hm⟩ | ⟨x, hx, hm⟩
        · skip
          rw [wV_none (by omega) hx, hx]
          refine CG.region ?_
          refine OG.yield (Yield.move rfl) rfl ?_
          refine OG.yield (Yield.not rfl) rfl ?_
          refine OG.yield (Yield.move rfl) rfl ?_
          refine OG.guard_no rfl rfl rfl rfl rfl (by decide) (by decide) ?_
          refine OG.guard_no rfl rfl rfl rfl rfl (by decide) (by decide) ?_
          refine OG.guard_no rfl rfl rfl rfl rfl (by decide) (by decide) ?_
          refine OG.guard_no rfl rfl rfl rfl rfl (by decide) (by decide) ?_
          refine OG.guard_no rfl rfl rfl rfl rfl (by decide) (by decide) ?_
          refine OG.yield (by first | exact Yield.pick_t rfl rfl | exact Yield.pick_f rfl rfl | exact Yield.pick rfl (fun _ => rfl) (fun _ => rfl)) rfl ?_
          refine OG.nil ?_
          refine QG.then ?_
          refine CG.cond_t rfl ?_
          refine CG.seq ?_
          refine CG.region ?_
          refine OG.yield (Yield.assign rfl) rfl ?_
          refine OG.yield (Yield.assign rfl) rfl ?_
          refine OG.nil ?_
          refine QG.then ?_
          refine CG.ret ?_
          refine QG.pass_ret ?_
          have e : placeR A k ad sz how = (0, 90) := by unfold placeR; rw [if_neg (fun q => q (by omega)), if_neg (fun q => q hal), if_neg (by omega), hx]
          rw [e]
          exact QG.rets [.int .u32 0, .int .i64 90] rfl ⟨rfl, rfl, trivial⟩ σ' hF rfl (by repeat (first | exact Imp.refl _ | exact Imp.none _ | apply Imp.pull (by repeat (first | exact Ext.here | apply Ext.there)) | apply Imp.trans Imp.drop))
        · skip
          rw [wV_some (by omega) hx, hx]
          refine CG.region ?_
          refine OG.yield (Yield.move rfl) rfl ?_
          refine OG.yield (Yield.not rfl) rfl ?_
          refine OG.yield (Yield.move rfl) rfl ?_
          refine OG.guard_yes rfl rfl rfl (by decide) ?_
          refine OG.yield (Yield.move rfl) rfl ?_
          refine OG.guard_yes rfl rfl rfl (by decide) ?_
          refine OG.yield (Yield.move rfl) rfl ?_
          refine OG.guard_yes rfl rfl rfl (by decide) ?_
          refine OG.yield (Yield.bitop rfl rfl rfl rfl) rfl ?_
          refine OG.guard_yes rfl rfl rfl (by decide) ?_
          refine OG.yield (Yield.move rfl) rfl ?_
          refine OG.guard_yes rfl rfl rfl (by decide) ?_
          refine OG.yield (Yield.as (Yield.neq rfl rfl) (v' := .bool false) (by simp [hm])) rfl ?_
          refine OG.yield (by first | exact Yield.pick_t rfl rfl | exact Yield.pick_f rfl rfl | exact Yield.pick rfl (fun _ => rfl) (fun _ => rfl)) rfl ?_
          refine OG.nil ?_
          refine QG.then ?_
          refine CG.cond_f rfl ?_
          refine CG.skip ?_
          refine QG.then ?_
          refine CG.seq ?_
          have hxn := G.plt hx
          refine CG.region ?_
          refine OG.yield (Yield.move rfl) rfl ?_
          refine OG.yield (Yield.conv (c := (x.1 : Int)) Try.underlying32 rfl rfl (wu32 (by omega) (by omega))) rfl ?_
          refine OG.yield (Yield.mul (c := ((x.1 * 256 : Nat) : Int)) rfl rfl (by rw [wu32 (by omega) (by omega)]; omega)) rfl ?_
          refine OG.yield (Yield.move rfl) rfl ?_
          refine OG.yield (Yield.rem (c := ((ad % 256 : Nat) : Int)) rfl rfl (by decide) (tmod_nat ad 256 (by decide))) rfl ?_
          refine OG.yield (Yield.add (c := ((x.1 * 256 + ad % 256 : Nat) : Int)) rfl rfl (by rw [wu32 (by omega) (by omega)]; omega)) rfl ?_
          refine OG.yield (Yield.assign rfl) rfl ?_
          refine OG.yield (Yield.assign rfl) rfl ?_
          refine OG.nil ?_
          refine QG.then ?_
          refine CG.ret ?_
          have e : placeR A k ad sz how = (x.1 * 256 + ad % 256, 0) := by unfold placeR; rw [if_neg (fun q => q (by omega)), if_neg (fun q => q hal), if_neg (by omega), hx]; simp only; rw [if_pos hm]
          rw [e]
          exact QG.rets [.int .u32 ((x.1 * 256 + ad % 256 : Nat) : Int), .int .i64 0] rfl ⟨rfl, rfl, trivial⟩ σ' hF rfl (by repeat (first | exact Imp.refl _ | exact Imp.none _ | apply Imp.pull (by repeat (first | exact Ext.here | apply Ext.there)) | apply Imp.trans Imp.drop))
        · skip
          rw [wV_some (by omega) hx, hx]
          refine CG.region ?_
          refine OG.yield (Yield.move rfl) rfl ?_
          refine OG.yield (Yield.not rfl) rfl ?_
          refine OG.yield (Yield.move rfl) rfl ?_
          refine OG.guard_yes rfl rfl rfl (by decide) ?_
          refine OG.yield (Yield.move rfl) rfl ?_
          refine OG.guard_yes rfl rfl rfl (by decide) ?_
          refine OG.yield (Yield.move rfl) rfl ?_
          refine OG.guard_yes rfl rfl rfl (by decide) ?_
          refine OG.yield (Yield.bitop rfl rfl rfl rfl) rfl ?_
          refine OG.guard_yes rfl rfl rfl (by decide) ?_
          refine OG.yield (Yield.move rfl) rfl ?_
          refine OG.guard_yes rfl rfl rfl (by decide) ?_
          refine OG.yield (Yield.as (Yield.neq rfl rfl) (v' := .bool true) (by simp [hm])) rfl ?_
          refine OG.yield (by first | exact Yield.pick_t rfl rfl | exact Yield.pick_f rfl rfl | exact Yield.pick rfl (fun _ => rfl) (fun _ => rfl)) rfl ?_
          refine OG.nil ?_
          refine QG.then ?_
          refine CG.cond_t rfl ?_
          refine CG.seq ?_
          refine CG.region ?_
          refine OG.yield (Yield.assign rfl) rfl ?_
          refine OG.yield (Yield.assign rfl) rfl ?_
          refine OG.nil ?_
          refine QG.then ?_
          refine CG.ret ?_
          refine QG.pass_ret ?_
          have e : placeR A k ad sz how = (0, 90) := by unfold placeR; rw [if_neg (fun q => q (by omega)), if_neg (fun q => q hal), if_neg (by omega), hx]; simp only; rw [if_neg hm]
          rw [e]
          exact QG.rets [.int .u32 0, .int .i64 90] rfl ⟨rfl, rfl, trivial⟩ σ' hF rfl (by repeat (first | exact Imp.refl _ | exact Imp.none _ | apply Imp.pull (by repeat (first | exact Ext.here | apply Ext.there)) | apply Imp.trans Imp.drop))
    · skip
      refine CG.region ?_
      refine OG.yield (Yield.move rfl) rfl ?_
      refine OG.yield (Yield.move rfl) rfl ?_
      refine OG.yield (Yield.conv (c := sz) Try.underlying32 rfl rfl (wu32 (by omega) (by omega))) rfl ?_
      refine OG.yield (Yield.rem (c := (ad : Int) % sz) rfl rfl (by omega) (tmod_pos (by omega) (by omega))) rfl ?_
      refine OG.yield (Yield.as (Yield.neq rfl rfl) (v' := .bool true) (by simp [hal])) rfl ?_
      refine OG.yield (Yield.assign rfl) rfl ?_
      refine OG.nil ?_
      refine QG.then ?_
      refine CG.cond_t rfl ?_
      refine CG.seq ?_
      refine CG.region ?_
      refine OG.yield (Yield.assign rfl) rfl ?_
      refine OG.yield (Yield.assign rfl) rfl ?_
      refine OG.nil ?_
      refine QG.then ?_
      refine CG.ret ?_
      refine QG.block_ret ?_
      refine QG.pass_ret ?_
      have e : placeR A k ad sz how = (0, 30) := by unfold placeR; rw [if_neg (fun q => q (by omega)), if_pos hal]
      rw [e]
      exact QG.rets [.int .u32 0, .int .i64 30] rfl ⟨rfl, rfl, trivial⟩ σ F0 rfl (by repeat (first | exact Imp.refl _ | exact Imp.none _ | apply Imp.pull (by repeat (first | exact Ext.here | apply Ext.there)) | apply Imp.trans Imp.drop))
  · skip
    refine CG.region ?_
    refine OG.yield (Yield.move rfl) rfl ?_
    refine OG.yield (by first | exact Yield.as (Yield.neq rfl rfl) (bT (by omega)) | exact Yield.as (Yield.neq rfl rfl) (bF (by omega)) | exact Yield.neq rfl rfl) rfl ?_
    refine OG.yield (Yield.move rfl) rfl ?_
    refine OG.guard_yes rfl rfl rfl (by decide) ?_
    refine OG.yield (Yield.move rfl) rfl ?_
    refine OG.guard_yes rfl rfl rfl (by decide) ?_
    refine OG.yield (by first | exact Yield.as (Yield.neq rfl rfl) (bT (by omega)) | exact Yield.as (Yield.neq rfl rfl) (bF (by omega)) | exact Yield.neq rfl rfl) rfl ?_
    refine OG.yield (by first | exact Yield.pick_t rfl rfl | exact Yield.pick_f rfl rfl | exact Yield.pick rfl (fun _ => rfl) (fun _ => rfl)) rfl ?_
    refine OG.yield (Yield.move rfl) rfl ?_
    refine OG.guard_yes rfl rfl rfl (by decide) ?_
    refine OG.yield (Yield.move rfl) rfl ?_
    refine OG.guard_yes rfl rfl rfl (by decide) ?_
    refine OG.yield (by first | exact Yield.as (Yield.neq rfl rfl) (bT (by omega)) | exact Yield.as (Yield.neq rfl rfl) (bF (by omega)) | exact Yield.neq rfl rfl) rfl ?_
    refine OG.yield (by first | exact Yield.pick_t rfl rfl | exact Yield.pick_f rfl rfl | exact Yield.pick rfl (fun _ => rfl) (fun _ => rfl)) rfl ?_
    refine OG.yield (Yield.move rfl) rfl ?_
    refine OG.guard_yes rfl rfl rfl (by decide) ?_
    refine OG.yield (Yield.move rfl) rfl ?_
    refine OG.guard_yes rfl rfl rfl (by decide) ?_
    refine OG.yield (by first | exact Yield.as (Yield.neq rfl rfl) (bT (by omega)) | exact Yield.as (Yield.neq rfl rfl) (bF (by omega)) | exact Yield.neq rfl rfl) rfl ?_
    refine OG.yield (by first | exact Yield.pick_t rfl rfl | exact Yield.pick_f rfl rfl | exact Yield.pick rfl (fun _ => rfl) (fun _ => rfl)) rfl ?_
    refine OG.yield (Yield.assign rfl) rfl ?_
    refine OG.nil ?_
    refine QG.then ?_
    refine CG.cond_f rfl ?_
    refine CG.seq ?_
    by_cases hal : (ad : Int) % sz = 0
    · skip
      refine CG.region ?_
      refine OG.yield (Yield.move rfl) rfl ?_
      refine OG.yield (Yield.move rfl) rfl ?_
      refine OG.yield (Yield.conv (c := sz) Try.underlying32 rfl rfl (wu32 (by omega) (by omega))) rfl ?_
      refine OG.yield (Yield.rem (c := (ad : Int) % sz) rfl rfl (by omega) (tmod_pos (by omega) (by omega))) rfl ?_
      refine OG.yield (Yield.as (Yield.neq rfl rfl) (v' := .bool false) (by rw [hal]; rfl)) rfl ?_
      refine OG.yield (Yield.assign rfl) rfl ?_
      refine OG.nil ?_
      refine QG.then ?_
      refine CG.cond_f rfl ?_
      refine CG.seq ?_
      rcases (show 1048576 ≤ ad ∨ (ad < 1048576 ∧ how = 0) ∨ (ad < 1048576 ∧ how ≠ 0) by omega) with hr | hr | hr
      · skip
        refine CG.region ?_
        refine OG.yield (Yield.move rfl) rfl ?_
        refine OG.yield (by first | exact Yield.as (Yield.geq rfl rfl) (bT (by omega)) | exact Yield.as (Yield.geq rfl rfl) (bF (by omega)) | exact Yield.geq rfl rfl) rfl ?_
        refine OG.yield (Yield.move rfl) rfl ?_
        refine OG.guard_no rfl rfl rfl rfl rfl (by decide) (by decide) ?_
        refine OG.guard_no rfl rfl rfl rfl rfl (by decide) (by decide) ?_
        refine OG.yield (by first | exact Yield.pick_t rfl rfl | exact Yield.pick_f rfl rfl | exact Yield.pick rfl (fun _ => rfl) (fun _ => rfl)) rfl ?_
        refine OG.yield (Yield.assign rfl) rfl ?_
        refine OG.nil ?_
        refine QG.then ?_
        refine CG.cond_t rfl ?_
        refine CG.seq ?_
        refine CG.region ?_
        refine OG.yield (Yield.assign rfl) rfl ?_
        refine OG.yield (Yield.assign rfl) rfl ?_
        refine OG.nil ?_
        refine QG.then ?_
        refine CG.ret ?_
        refine QG.block_ret ?_
        refine QG.pass_ret ?_
        have e : placeR A k ad sz how = (0, 90) := by unfold placeR; rw [if_neg (fun q => q (by omega)), if_neg (fun q => q hal), if_pos (by omega)]
        rw [e]
        exact QG.rets [.int .u32 0, .int .i64 90] rfl ⟨rfl, rfl, trivial⟩ σ F0 rfl (by repeat (first | exact Imp.refl _ | exact Imp.none _ | apply Imp.pull (by repeat (first | exact Ext.here | apply Ext.there)) | apply Imp.trans Imp.drop))
      · skip
        refine CG.region ?_
        refine OG.yield (Yield.move rfl) rfl ?_
        refine OG.yield (by first | exact Yield.as (Yield.geq rfl rfl) (bT (by omega)) | exact Yield.as (Yield.geq rfl rfl) (bF (by omega)) | exact Yield.geq rfl rfl) rfl ?_
        refine OG.yield (Yield.move rfl) rfl ?_
        refine OG.guard_yes rfl rfl rfl (by decide) ?_
        refine OG.yield (Yield.move rfl) rfl ?_
        refine OG.guard_yes rfl rfl rfl (by decide) ?_
        refine OG.yield (by first | exact Yield.as (Yield.eql rfl rfl) (bT (by omega)) | exact Yield.as (Yield.eql rfl rfl) (bF (by omega)) | exact Yield.eql rfl rfl) rfl ?_
        refine OG.yield (by first | exact Yield.pick_t rfl rfl | exact Yield.pick_f rfl rfl | exact Yield.pick rfl (fun _ => rfl) (fun _ => rfl)) rfl ?_
        refine OG.yield (Yield.assign rfl) rfl ?_
        refine OG.nil ?_
        refine QG.then ?_
        refine CG.cond_t rfl ?_
        refine CG.seq ?_
        refine CG.region ?_
        refine OG.yield (Yield.assign rfl) rfl ?_
        refine OG.yield (Yield.assign rfl) rfl ?_
        refine OG.nil ?_
        refine QG.then ?_
        refine CG.ret ?_
        refine QG.block_ret ?_
        refine QG.pass_ret ?_
        have e : placeR A k ad sz how = (0, 90) := by unfold placeR; rw [if_neg (fun q => q (by omega)), if_neg (fun q => q hal), if_pos (by omega)]
        rw [e]
        exact QG.rets [.int .u32 0, .int .i64 90] rfl ⟨rfl, rfl, trivial⟩ σ F0 rfl (by repeat (first | exact Imp.refl _ | exact Imp.none _ | apply Imp.pull (by repeat (first | exact Ext.here | apply Ext.there)) | apply Imp.trans Imp.drop))
      · skip
        refine CG.region ?_
        refine OG.yield (Yield.move rfl) rfl ?_
        refine OG.yield (by first | exact Yield.as (Yield.geq rfl rfl) (bT (by omega)) | exact Yield.as (Yield.geq rfl rfl) (bF (by omega)) | exact Yield.geq rfl rfl) rfl ?_
        refine OG.yield (Yield.move rfl) rfl ?_
        refine OG.guard_yes rfl rfl rfl (by decide) ?_
        refine OG.yield (Yield.move rfl) rfl ?_
        refine OG.guard_yes rfl rfl rfl (by decide) ?_
        refine OG.yield (by first | exact Yield.as (Yield.eql rfl rfl) (bT (by omega)) | exact Yield.as (Yield.eql rfl rfl) (bF (by omega)) | exact Yield.eql rfl rfl) rfl ?_
        refine OG.yield (by first | exact Yield.pick_t rfl rfl | exact Yield.pick_f rfl rfl | exact Yield.pick rfl (fun _ => rfl) (fun _ => rfl)) rfl ?_
        refine OG.yield (Yield.assign rfl) rfl ?_
        refine OG.nil ?_
        refine QG.then ?_
        refine CG.cond_f rfl ?_
        refine CG.skip ?_
        refine QG.block_normal ?_
        refine QG.then ?_
        refine CG.seq ?_
        refine CG.region ?_
        refine OG.yield (Yield.move rfl) rfl ?_
        refine OG.yield (Yield.move rfl) rfl ?_
        refine OG.yield (Yield.quo (c := ((ad / 256 : Nat) : Int)) rfl rfl (by decide) (quo_nat32 (b := 256) (by decide) (by omega))) rfl ?_
        refine OG.yield (by first | exact Yield.conv Try.underlying3 rfl rfl (w64 (by omega) (by omega)) | exact Yield.conv Try.underlying3 rfl rfl rfl) rfl ?_
        refine OG.callo call84 rfl ((by repeat (first | exact Imp.refl _ | exact Imp.none _ | apply Imp.pull (by repeat (first | exact Ext.here | apply Ext.there)) | apply Imp.trans Imp.drop))) (find_spec W0 _ (s := s) (m := m) (f := f) (t := t) G hk hb ((ad / 256 : Nat) : Int)) rfl ?_
        rintro σ' hF
        rw [vp_in (show ad / 256 < 4096 by omega)]
        refine OG.yield (Yield.move rfl) rfl ?_
        refine OG.yield (Yield.extract rfl rfl) rfl ?_
        refine OG.yield (Yield.extract rfl rfl) rfl ?_
        refine OG.yield (Yield.extract rfl rfl) rfl ?_
        refine OG.yield (Yield.assign rfl) rfl ?_
        refine OG.yield (Yield.assign rfl) rfl ?_
        refine OG.yield (Yield.assign rfl) rfl ?_
        refine OG.nil ?_
        refine QG.then ?_
        refine CG.seq ?_
        refine CG.seq ?_
        rcases (show (A.pg k (ad / 256) = none) ∨ (∃ x, A.pg k (ad / 256) = some x ∧ may x.2 how) ∨ (∃ x, A.pg k (ad / 256) = some x ∧ ¬ may x.2 how) by cases A.pg k (ad / 256) with | none => exact .inl rfl | some x => exact .inr ((Decidable.em (may x.2 how)).elim (fun h => .inl ⟨x, rfl, h⟩) (fun h => .inr ⟨x, rfl, h⟩))) with hx | ⟨x, hx, hm⟩ | ⟨x, hx, hm⟩
        · skip
          rw [wV_none (by omega) hx, hx]
          refine CG.region ?_
          refine OG.yield (Yield.move rfl) rfl ?_
          refine OG.yield (Yield.not rfl) rfl ?_
          refine OG.yield (Yield.move rfl) rfl ?_
          refine OG.guard_no rfl rfl rfl rfl rfl (by decide) (by decide) ?_
          refine OG.guard_no rfl rfl rfl rfl rfl (by decide) (by decide) ?_
          refine OG.guard_no rfl rfl rfl rfl rfl (by decide) (by decide) ?_
          refine OG.guard_no rfl rfl rfl rfl rfl (by decide) (by decide) ?_
          refine OG.guard_no rfl rfl rfl rfl rfl (by decide) (by decide) ?_
          refine OG.yield (by first | exact Yield.pick_t rfl rfl | exact Yield.pick_f rfl rfl | exact Yield.pick rfl (fun _ => rfl) (fun _ => rfl)) rfl ?_
          refine OG.nil ?_
          refine QG.then ?_
          refine CG.cond_t rfl ?_
          refine CG.seq ?_
          refine CG.region ?_
          refine OG.yield (Yield.assign rfl) rfl ?_
          refine OG.yield (Yield.assign rfl) rfl ?_
          refine OG.nil ?_
          refine QG.then ?_
          refine CG.ret ?_
          refine QG.pass_ret ?_
          have e : placeR A k ad sz how = (0, 90) := by unfold placeR; rw [if_neg (fun q => q (by omega)), if_neg (fun q => q hal), if_neg (by omega), hx]
          rw [e]
          exact QG.rets [.int .u32 0, .int .i64 90] rfl ⟨rfl, rfl, trivial⟩ σ' hF rfl (by repeat (first | exact Imp.refl _ | exact Imp.none _ | apply Imp.pull (by repeat (first | exact Ext.here | apply Ext.there)) | apply Imp.trans Imp.drop))
        · skip
          rw [wV_some (by omega) hx, hx]
          refine CG.region ?_
          refine OG.yield (Yield.move rfl) rfl ?_
          refine OG.yield (Yield.not rfl) rfl ?_
          refine OG.yield (Yield.move rfl) rfl ?_
          refine OG.guard_yes rfl rfl rfl (by decide) ?_
          refine OG.yield (Yield.move rfl) rfl ?_
          refine OG.guard_yes rfl rfl rfl (by decide) ?_
          refine OG.yield (Yield.move rfl) rfl ?_
          refine OG.guard_yes rfl rfl rfl (by decide) ?_
          refine OG.yield (Yield.bitop rfl rfl rfl rfl) rfl ?_
          refine OG.guard_yes rfl rfl rfl (by decide) ?_
          refine OG.yield (Yield.move rfl) rfl ?_
          refine OG.guard_yes rfl rfl rfl (by decide) ?_
          refine OG.yield (Yield.as (Yield.neq rfl rfl) (v' := .bool false) (by simp [hm])) rfl ?_
          refine OG.yield (by first | exact Yield.pick_t rfl rfl | exact Yield.pick_f rfl rfl | exact Yield.pick rfl (fun _ => rfl) (fun _ => rfl)) rfl ?_
          refine OG.nil ?_
          refine QG.then ?_
          refine CG.cond_f rfl ?_
          refine CG.skip ?_
          refine QG.then ?_
          refine CG.seq ?_
          have hxn := G.plt hx
          refine CG.region ?_
          refine OG.yield (Yield.move rfl) rfl ?_
          refine OG.yield (Yield.conv (c := (x.1 : Int)) Try.underlying32 rfl rfl (wu32 (by omega) (by omega))) rfl ?_
          refine OG.yield (Yield.mul (c := ((x.1 * 256 : Nat) : Int)) rfl rfl (by rw [wu32 (by omega) (by omega)]; omega)) rfl ?_
          refine OG.yield (Yield.move rfl) rfl ?_
          refine OG.yield (Yield.rem (c := ((ad % 256 : Nat) : Int)) rfl rfl (by decide) (tmod_nat ad 256 (by decide))) rfl ?_
          refine OG.yield (Yield.add (c := ((x.1 * 256 + ad % 256 : Nat) : Int)) rfl rfl (by rw [wu32 (by omega) (by omega)]; omega)) rfl ?_
          refine OG.yield (Yield.assign rfl) rfl ?_
          refine OG.yield (Yield.assign rfl) rfl ?_
          refine OG.nil ?_
          refine QG.then ?_
          refine CG.ret ?_
          have e : placeR A k ad sz how = (x.1 * 256 + ad % 256, 0) := by unfold placeR; rw [if_neg (fun q => q (by omega)), if_neg (fun q => q hal), if_neg (by omega), hx]; simp only; rw [if_pos hm]
          rw [e]
          exact QG.rets [.int .u32 ((x.1 * 256 + ad % 256 : Nat) : Int), .int .i64 0] rfl ⟨rfl, rfl, trivial⟩ σ' hF rfl (by repeat (first | exact Imp.refl _ | exact Imp.none _ | apply Imp.pull (by repeat (first | exact Ext.here | apply Ext.there)) | apply Imp.trans Imp.drop))
        · skip
          rw [wV_some (by omega) hx, hx]
          refine CG.region ?_
          refine OG.yield (Yield.move rfl) rfl ?_
          refine OG.yield (Yield.not rfl) rfl ?_
          refine OG.yield (Yield.move rfl) rfl ?_
          refine OG.guard_yes rfl rfl rfl (by decide) ?_
          refine OG.yield (Yield.move rfl) rfl ?_
          refine OG.guard_yes rfl rfl rfl (by decide) ?_
          refine OG.yield (Yield.move rfl) rfl ?_
          refine OG.guard_yes rfl rfl rfl (by decide) ?_
          refine OG.yield (Yield.bitop rfl rfl rfl rfl) rfl ?_
          refine OG.guard_yes rfl rfl rfl (by decide) ?_
          refine OG.yield (Yield.move rfl) rfl ?_
          refine OG.guard_yes rfl rfl rfl (by decide) ?_
          refine OG.yield (Yield.as (Yield.neq rfl rfl) (v' := .bool true) (by simp [hm])) rfl ?_
          refine OG.yield (by first | exact Yield.pick_t rfl rfl | exact Yield.pick_f rfl rfl | exact Yield.pick rfl (fun _ => rfl) (fun _ => rfl)) rfl ?_
          refine OG.nil ?_
          refine QG.then ?_
          refine CG.cond_t rfl ?_
          refine CG.seq ?_
          refine CG.region ?_
          refine OG.yield (Yield.assign rfl) rfl ?_
          refine OG.yield (Yield.assign rfl) rfl ?_
          refine OG.nil ?_
          refine QG.then ?_
          refine CG.ret ?_
          refine QG.pass_ret ?_
          have e : placeR A k ad sz how = (0, 90) := by unfold placeR; rw [if_neg (fun q => q (by omega)), if_neg (fun q => q hal), if_neg (by omega), hx]; simp only; rw [if_neg hm]
          rw [e]
          exact QG.rets [.int .u32 0, .int .i64 90] rfl ⟨rfl, rfl, trivial⟩ σ' hF rfl (by repeat (first | exact Imp.refl _ | exact Imp.none _ | apply Imp.pull (by repeat (first | exact Ext.here | apply Ext.there)) | apply Imp.trans Imp.drop))
    · skip
      refine CG.region ?_
      refine OG.yield (Yield.move rfl) rfl ?_
      refine OG.yield (Yield.move rfl) rfl ?_
      refine OG.yield (Yield.conv (c := sz) Try.underlying32 rfl rfl (wu32 (by omega) (by omega))) rfl ?_
      refine OG.yield (Yield.rem (c := (ad : Int) % sz) rfl rfl (by omega) (tmod_pos (by omega) (by omega))) rfl ?_
      refine OG.yield (Yield.as (Yield.neq rfl rfl) (v' := .bool true) (by simp [hal])) rfl ?_
      refine OG.yield (Yield.assign rfl) rfl ?_
      refine OG.nil ?_
      refine QG.then ?_
      refine CG.cond_t rfl ?_
      refine CG.seq ?_
      refine CG.region ?_
      refine OG.yield (Yield.assign rfl) rfl ?_
      refine OG.yield (Yield.assign rfl) rfl ?_
      refine OG.nil ?_
      refine QG.then ?_
      refine CG.ret ?_
      refine QG.block_ret ?_
      refine QG.pass_ret ?_
      have e : placeR A k ad sz how = (0, 30) := by unfold placeR; rw [if_neg (fun q => q (by omega)), if_pos hal]
      rw [e]
      exact QG.rets [.int .u32 0, .int .i64 30] rfl ⟨rfl, rfl, trivial⟩ σ F0 rfl (by repeat (first | exact Imp.refl _ | exact Imp.none _ | apply Imp.pull (by repeat (first | exact Ext.here | apply Ext.there)) | apply Imp.trans Imp.drop))
theorem read_place {A : Ab} {ad : Nat} {sz how : Int} : (placeR A k ad sz how).2 ≠ 0 → readO (obs A σ) k ad sz how = (0, (placeR A k ad sz how).2) := by
  intro h
  by_cases h1 : sz = 1 ∨ sz = 2 ∨ sz = 4 ∨ sz = 8
  · by_cases h2 : (ad : Int) % sz = 0
    · by_cases h3 : 1048576 ≤ ad ∨ how = 0
      · simp [placeR, readO, h1, h2, h3]
      · cases hx : A.pg k (ad / 256) with
        | none => simp [placeR, readO, h1, h2, h3, vw_obs, hx]
        | some x =>
          by_cases h4 : may x.2 how
          · refine absurd ?_ h; unfold placeR; rw [if_neg (fun q => q h1), if_neg (fun q => q h2), if_neg h3, hx]; simp only; rw [if_pos h4]
          · simp [placeR, readO, h1, h2, h3, vw_obs, hx, h4]
    · simp [placeR, readO, h1, h2]
  · simp [placeR, readO, h1]
theorem read_spec (L : Lk n qs rt o c σ) (hk : rt k = some r) (hb : c < 1000000000000000000) {ad : Nat} (had : ad < 4294967296) (sz how : Int) : Ctr Try.prog W0 28 [.pointer (some ⟨s, 0, none⟩), .int .u32 ad, .int .i64 sz, .int .i64 how] (WG m f t n qs σ (sb s k r m f t :: Fr)) (fun σ' : St => Lk n qs rt o (c + 1) σ') (fun _ => .tuple #[.int .u64 (readO o k ad sz (Go.bits .and .i64 how 7)).1, .int .i64 (readO o k ad sz (Go.bits .and .i64 how 7)).2]) (fun σ' => WG m f t n qs σ' (sb s k r m f t :: Fr)) := by
  obtain ⟨A, rfl, h0, G, rfl, hcc⟩ := L
  generalize hh : Go.bits .and .i64 how 7 = hw
  have fin : ∀ σ', Fnd n qs A σ σ' → Lk n qs A.rt (obs A σ) (c + 1) σ' := fun σ' F => Lk.intro F.good rfl h0 (by unfold obs; rw [F.bs, F.own]) (by have := F.cnt; omega)
  refine Ctr.of_body Try.func28 rfl Try.ntmps28 rfl ?_
  refine CG.seq ?_
  refine CG.region ?_
  refine OG.yield (Yield.assign rfl) rfl ?_
  refine OG.yield (Yield.assign rfl) rfl ?_
  refine OG.nil ?_
  refine QG.then ?_
  refine CG.seq ?_
  refine CG.region ?_
  refine OG.yield (Yield.move rfl) rfl ?_
  refine OG.yield (Yield.move rfl) rfl ?_
  refine OG.yield (Yield.move rfl) rfl ?_
  refine OG.yield (Yield.move rfl) rfl ?_
  refine OG.yield (Yield.bitop (c := hw) rfl rfl rfl hh) rfl ?_
  refine OG.callo call68 rfl ((by repeat (first | exact Imp.refl _ | exact Imp.none _ | apply Imp.pull (by repeat (first | exact Ext.here | apply Ext.there)) | apply Imp.trans Imp.drop))) (place_spec W0 _ (s := s) (m := m) (f := f) (t := t) G hk (by omega) had sz hw) rfl ?_
  rintro σ' hF
  refine OG.yield (Yield.move rfl) rfl ?_
  refine OG.yield (Yield.extract rfl rfl) rfl ?_
  refine OG.yield (Yield.extract rfl rfl) rfl ?_
  refine OG.yield (Yield.assign rfl) rfl ?_
  refine OG.yield (Yield.assign rfl) rfl ?_
  refine OG.nil ?_
  refine QG.then ?_
  refine CG.seq ?_
  refine CG.seq ?_
  rcases place_cases A k ad sz hw with ⟨s', x, rfl, hs, hal, had2, hne, hx, hm, e⟩ | he
  · skip
    rw [e]
    have hl2 := (G.rep.len)
    have hxn := G.plt hx
    have hr : readO (obs A σ) k ad (s' : Int) hw = (leN ((σ.bs.drop (x.1 * 256 + ad % 256)).take s'), 0) := by
      unfold readO
      rw [if_neg (fun q => q (by omega)), if_neg (fun q => q (by rw [← Int.natCast_emod, hal]; rfl)), if_neg (by omega), vw_obs, hx]
      simp only [Option.map_some, Int.toNat_natCast]
      rw [if_pos hm, fr_part (by rcases hs with rfl | rfl | rfl | rfl <;> omega)]
    have hpl := F0len (x := x.1) hs hal
    refine CG.region ?_
    refine OG.yield (Yield.move rfl) rfl ?_
    refine OG.yield (by first | exact Yield.as (Yield.neq rfl rfl) (bT (by omega)) | exact Yield.as (Yield.neq rfl rfl) (bF (by omega)) | exact Yield.neq rfl rfl) rfl ?_
    refine OG.nil ?_
    refine QG.then ?_
    refine CG.cond_f rfl ?_
    refine CG.skip ?_
    refine QG.then ?_
    refine CG.seq ?_
    refine CG.region ?_
    refine OG.yield (Yield.move rfl) rfl ?_
    refine OG.yield (Yield.nilCheck rfl) rfl ?_
    refine OG.yield (Yield.fieldAddr fa137_2 rfl) rfl ?_
    refine OG.yield (Yield.load ti24 rfl (by first | exact Cel.of_blk (by repeat (first | exact Ext.here | apply Ext.there)) rfl | exact (hrow (by repeat (first | exact Ext.here | apply Ext.there))) _ _ rfl)) rfl ?_
    refine OG.yield (Yield.move rfl) rfl ?_
    refine OG.yield (Yield.move rfl) rfl ?_
    refine OG.callo call69 rfl ((by repeat (first | exact Imp.refl _ | exact Imp.none _ | apply Imp.pull (by repeat (first | exact Ext.here | apply Ext.there)) | apply Imp.trans Imp.drop))) (load_ok W0 _ (m := m) (n := n) (a := x.1 * 256 + ad % 256) (s := s') (bs := σ'.bs) hs hpl.1 (by have := hpl.2; omega)) rfl ?_
    rintro ⟨⟩ -
    refine OG.yield (Yield.extract rfl rfl) rfl ?_
    refine OG.yield (Yield.extract rfl rfl) rfl ?_
    refine OG.yield (Yield.assign rfl) rfl ?_
    refine OG.yield (Yield.assign rfl) rfl ?_
    refine OG.nil ?_
    refine QG.then ?_
    refine CG.ret ?_
    rw [hr, ← hF.bs]
    exact QG.rets [.int .u64 (leN ((σ'.bs.drop (x.1 * 256 + ad % 256)).take s')), .int .i64 0] rfl ⟨rfl, rfl, trivial⟩ σ' (fin σ' hF) rfl (by repeat (first | exact Imp.refl _ | exact Imp.none _ | apply Imp.pull (by repeat (first | exact Ext.here | apply Ext.there)) | apply Imp.trans Imp.drop))
  · skip
    refine CG.region ?_
    refine OG.yield (Yield.move rfl) rfl ?_
    refine OG.yield (by first | exact Yield.as (Yield.neq rfl rfl) (bT (by omega)) | exact Yield.as (Yield.neq rfl rfl) (bF (by omega)) | exact Yield.neq rfl rfl) rfl ?_
    refine OG.nil ?_
    refine QG.then ?_
    refine CG.cond_t rfl ?_
    refine CG.seq ?_
    refine CG.region ?_
    refine OG.yield (Yield.move rfl) rfl ?_
    refine OG.yield (Yield.assign rfl) rfl ?_
    refine OG.yield (Yield.assign rfl) rfl ?_
    refine OG.nil ?_
    refine QG.then ?_
    refine CG.ret ?_
    refine QG.pass_ret ?_
    have hr := read_place (σ := σ) he
    rw [hr]
    exact QG.rets [.int .u64 ((0 : Nat) : Int), .int .i64 (placeR A k ad sz hw).2] rfl ⟨rfl, rfl, trivial⟩ σ' (fin σ' hF) rfl (by repeat (first | exact Imp.refl _ | exact Imp.none _ | apply Imp.pull (by repeat (first | exact Ext.here | apply Ext.there)) | apply Imp.trans Imp.drop))
theorem write_place {A : Ab} {ad v : Nat} {sz : Int} : (placeR A k ad sz 2).2 ≠ 0 → writeO (obs A σ) k ad sz v = ((placeR A k ad sz 2).2, obs A σ) := by
  intro h
  by_cases h1 : sz = 1 ∨ sz = 2 ∨ sz = 4 ∨ sz = 8
  · by_cases h2 : (ad : Int) % sz = 0
    · by_cases h3 : 1048576 ≤ ad
      · simp [placeR, writeO, h1, h2, h3]
      · cases hx : A.pg k (ad / 256) with
        | none => simp [placeR, writeO, h1, h2, h3, vw_obs, hx]
        | some x =>
          by_cases h4 : may x.2 2
          · refine absurd ?_ h; unfold placeR; rw [if_neg (fun q => q h1), if_neg (fun q => q h2), if_neg (by omega), hx]; simp only; rw [if_pos h4]
          · simp [placeR, writeO, h1, h2, h3, vw_obs, hx, h4]
    · simp [placeR, writeO, h1, h2]
  · simp [placeR, writeO, h1]
theorem write_spec (L : Lk n qs rt o c σ) (hk : rt k = some r) (hb : c < 1000000000000000000) {ad v : Nat} (had : ad < 4294967296) (hv : v < 18446744073709551616) (sz : Int) : Ctr Try.prog W0 27 [.pointer (some ⟨s, 0, none⟩), .int .u32 ad, .int .i64 sz, .int .u64 v] (WG m f t n qs σ (sb s k r m f t :: Fr)) (fun σ' : St => Lk n qs rt (writeO o k ad sz v).2 (c + 1) σ') (fun _ => .int .i64 (writeO o k ad sz v).1) (fun σ' => WG m f t n qs σ' (sb s k r m f t :: Fr)) := by
  obtain ⟨A, rfl, h0, G, rfl, hcc⟩ := L
  have fin : ∀ σ', Fnd n qs A σ σ' → Lk n qs A.rt (obs A σ) (c + 1) σ' := fun σ' F => Lk.intro F.good rfl h0 (by unfold obs; rw [F.bs, F.own]) (by have := F.cnt; omega)
  refine Ctr.of_body Try.func27 rfl Try.ntmps27 rfl ?_
  refine CG.seq ?_
  refine CG.region ?_
  refine OG.yield (Yield.assign rfl) rfl ?_
  refine OG.nil ?_
  refine QG.then ?_
  refine CG.seq ?_
  refine CG.region ?_
  refine OG.yield (Yield.move rfl) rfl ?_
  refine OG.yield (Yield.move rfl) rfl ?_
  refine OG.yield (Yield.move rfl) rfl ?_
  refine OG.callo call68 rfl ((by repeat (first | exact Imp.refl _ | exact Imp.none _ | apply Imp.pull (by repeat (first | exact Ext.here | apply Ext.there)) | apply Imp.trans Imp.drop))) (place_spec W0 _ (s := s) (m := m) (f := f) (t := t) G hk (by omega) had sz 2) rfl ?_
  rintro σ' hF
  refine OG.yield (Yield.move rfl) rfl ?_
  refine OG.yield (Yield.extract rfl rfl) rfl ?_
  refine OG.yield (Yield.extract rfl rfl) rfl ?_
  refine OG.yield (Yield.assign rfl) rfl ?_
  refine OG.yield (Yield.assign rfl) rfl ?_
  refine OG.nil ?_
  refine QG.then ?_
  refine CG.seq ?_
  refine CG.seq ?_
  rcases place_cases A k ad sz 2 with ⟨s', x, rfl, hs, hal, had2, hne, hx, hm, e⟩ | he
  · skip
    rw [e]
    have hpl := F0len (x := x.1) hs hal
    have hxn := G.plt hx
    have hlen := putB_len v s'
    obtain ⟨G2, e2⟩ := hF.good.write (o := ad % 256) (ys := putB v s') hx (by rw [hlen]; exact F0sum hs hal)
    have hw : writeO (obs A σ) k ad (s' : Int) v = (0, ⟨up2 (obs A σ).vw k (ad / 256) (some (x.2, overB (frB σ.bs x.1) (ad % 256) (putB v s'))), (obs A σ).ts, (obs A σ).fr⟩) := by
      unfold writeO
      rw [if_neg (fun q => q (by omega)), if_neg (fun q => q (by rw [← Int.natCast_emod, hal]; rfl)), if_neg (by omega), vw_obs, hx]
      simp only [Option.map_some, Int.toNat_natCast]
      rw [if_pos hm]
    have eo : obs A σ' = obs A σ := by unfold obs; rw [hF.bs, hF.own]
    rw [eo] at e2
    have hcn := hF.cnt
    have L' := Lk.intro (c := c + 1) G2 rfl h0 e2 (by simp only; omega)
    refine CG.region ?_
    refine OG.yield (Yield.move rfl) rfl ?_
    refine OG.yield (by first | exact Yield.as (Yield.neq rfl rfl) (bT (by omega)) | exact Yield.as (Yield.neq rfl rfl) (bF (by omega)) | exact Yield.neq rfl rfl) rfl ?_
    refine OG.nil ?_
    refine QG.then ?_
    refine CG.cond_f rfl ?_
    refine CG.skip ?_
    refine QG.then ?_
    refine CG.seq ?_
    refine CG.region ?_
    refine OG.yield (Yield.move rfl) rfl ?_
    refine OG.yield (Yield.nilCheck rfl) rfl ?_
    refine OG.yield (Yield.fieldAddr fa137_2 rfl) rfl ?_
    refine OG.yield (Yield.load ti24 rfl (by first | exact Cel.of_blk (by repeat (first | exact Ext.here | apply Ext.there)) rfl | exact (hrow (by repeat (first | exact Ext.here | apply Ext.there))) _ _ rfl)) rfl ?_
    refine OG.yield (Yield.move rfl) rfl ?_
    refine OG.yield (Yield.move rfl) rfl ?_
    refine OG.yield (Yield.move rfl) rfl ?_
    refine OG.callo call19 rfl ((by repeat (first | exact Imp.refl _ | exact Imp.none _ | apply Imp.pull (by repeat (first | exact Ext.here | apply Ext.there)) | apply Imp.trans Imp.drop))) (store_ok W0 _ (m := m) (n := n) (a := x.1 * 256 + ad % 256) (s := s') (v := v) (bs := σ'.bs) hs hpl.1 (by have := hpl.2; omega) hv) rfl ?_
    rintro ⟨⟩ -
    refine OG.yield (Yield.assign rfl) rfl ?_
    refine OG.nil ?_
    refine QG.then ?_
    refine CG.ret ?_
    rw [hw, ← hF.bs]
    exact QG.ret1 rfl rfl _ L' rfl (by repeat (first | exact Imp.refl _ | exact Imp.none _ | apply Imp.pull (by repeat (first | exact Ext.here | apply Ext.there)) | apply Imp.trans Imp.drop))
  · skip
    refine CG.region ?_
    refine OG.yield (Yield.move rfl) rfl ?_
    refine OG.yield (by first | exact Yield.as (Yield.neq rfl rfl) (bT (by omega)) | exact Yield.as (Yield.neq rfl rfl) (bF (by omega)) | exact Yield.neq rfl rfl) rfl ?_
    refine OG.nil ?_
    refine QG.then ?_
    refine CG.cond_t rfl ?_
    refine CG.seq ?_
    refine CG.region ?_
    refine OG.yield (Yield.move rfl) rfl ?_
    refine OG.yield (Yield.assign rfl) rfl ?_
    refine OG.nil ?_
    refine QG.then ?_
    refine CG.ret ?_
    refine QG.pass_ret ?_
    have hr := write_place (σ := σ) (v := v) he
    rw [hr]
    exact QG.ret1 rfl rfl σ' (fin σ' hF) rfl (by repeat (first | exact Imp.refl _ | exact Imp.none _ | apply Imp.pull (by repeat (first | exact Ext.here | apply Ext.there)) | apply Imp.trans Imp.drop))
end
end Go.Proofs.Ytmlfcfbblfcpdaa.Sp
