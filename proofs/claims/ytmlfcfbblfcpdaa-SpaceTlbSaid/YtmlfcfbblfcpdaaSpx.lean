/- space.Space: what can be seen behind Map, Unmap, Protect, and a lookup. -/
import Derived.Test.YtmlfcfbblfcpdaaSpw
namespace Go.Proofs.Ytmlfcfbblfcpdaa.Sp
open Go Go.Sl Go.RowKit Go.Proofs Go.Proofs.Ytmlfcfbblfcpdaa.T Go.Proofs.Ytmlfcfbblfcpdaa.Me Go.Proofs.Ytmlfcfbblfcpdaa.Pe Go.Proofs.Ytmlfcfbblfcpdaa.Pg
open Go.Proofs.Ytmlfcfbblfcpdaa.Fz (cnt cnt_set inv_take inv_give free_frame isP left left_in)
open Go.Proofs.Ytmlfcfbblfcpdaa.Tl (Slot hitB putL flushPL put_cases)
set_option linter.unusedVariables false
set_option linter.unusedSimpArgs false
set_option maxRecDepth 100000
/-- The state looks like o, with the spaces' roots rt; c bounds the questions that the table was asked. -/
def Lk (n : Nat) (qs : List Int) (rt : Nat → Option Nat) (o : Ob) (c : Nat) (σ : St) : Prop := ∃ A, A.rt = rt ∧ A.hs = [] ∧ Good n qs A σ ∧ obs A σ = o ∧ σ.hits + σ.miss ≤ c
theorem Lk.intro {n : Nat} {qs : List Int} {A : Ab} {σ : St} {rt : Nat → Option Nat} {o : Ob} {c : Nat} (G : Good n qs A σ) (h1 : A.rt = rt) (h0 : A.hs = []) (e : obs A σ = o) (hc : σ.hits + σ.miss ≤ c) : Lk n qs rt o c σ := ⟨A, h1, h0, G, e, hc⟩
/-- How many frames a partition has: its root, its tables, its pages. -/
def used (o : Ob) (k : Nat) : Nat := 1 + cN (o.ts k) 64 + cN (fun p => (o.vw k p).isSome) 4096
theorem used_cnt {n : Nat} {qs : List Int} {A : Ab} {σ : St} {k r : Nat} (G : Good n qs A σ) (h0 : A.hs = []) (hk : A.rt k = some r) : cnt σ.own k = used (obs A σ) k := by
  rw [G.own.cnt k, h0, hk]
  unfold used obs
  simp only [Option.isSome_some, if_true, List.filter_nil, List.length_nil, Nat.add_zero]
  congr 1
  exact cN_congr _ fun q _ => by cases A.pg k q <;> rfl
/-- A page of whatever number, as it can be seen. -/
def vI (o : Ob) (k : Nat) (p : Int) : Option (Nat × List UInt8) := if 0 ≤ p ∧ p < 4096 then o.vw k p.toNat else none
theorem vI_obs {A : Ab} {σ : St} {k : Nat} {p : Int} : vI (obs A σ) k p = (vp A k p).map fun x => (x.2, frB σ.bs x.1) := by
  unfold vI vp; split <;> rfl
theorem vI_nat {o : Ob} {k q : Nat} (h : q < 4096) : vI o k q = o.vw k q := by unfold vI; rw [if_pos (by omega), Int.toNat_natCast]
/-- What Map does. -/
def mapO (qk : Int) (o : Ob) (k : Nat) (p pm : Int) : Int × Ob :=
  if ¬((0 ≤ p ∧ p < 4096) ∧ 1 ≤ pm ∧ pm ≤ 7) then (2, o)
  else if (o.vw k p.toNat).isSome then (91, o)
  else if qk - used o k < (if o.ts k (p.toNat / 64) then 1 else 2 : Nat) then (141, o)
  else (0, ⟨up2 o.vw k p.toNat (some (pm.toNat, zs)), up2 o.ts k (p.toNat / 64) true, o.fr - (if o.ts k (p.toNat / 64) then 1 else 2)⟩)
/-- What Unmap does. -/
def unmapO (o : Ob) (k : Nat) (p : Int) : Int × Ob :=
  if ¬(0 ≤ p ∧ p < 4096) then (2, o) else if (o.vw k p.toNat).isSome then (0, ⟨up2 o.vw k p.toNat none, o.ts, o.fr + 1⟩) else (90, o)
/-- What Protect does. -/
def protO (o : Ob) (k : Nat) (p pm : Int) : Int × Ob :=
  if ¬((0 ≤ p ∧ p < 4096) ∧ 1 ≤ pm ∧ pm ≤ 7) then (2, o) else match o.vw k p.toNat with
    | some x => (0, ⟨up2 o.vw k p.toNat (some (pm.toNat, x.2)), o.ts, o.fr⟩)
    | none => (90, o)
theorem up2_same {α : Type} {h : Nat → Nat → α} {k p : Nat} : up2 h k p (h k p) = h := by
  funext k' p'; unfold up2; split
  · rename_i e; rw [e.1, e.2]
  · rfl
section
variable (W0 : World) (Fr : List HProp)
variable {n : Nat} {qs : List Int} {rt : Nat → Option Nat} {o : Ob} {c : Nat} {σ : St} {k r s m f t : Nat}
theorem vw_obs {A : Ab} {k p : Nat} : (obs A σ).vw k p = (A.pg k p).map fun x => (x.2, frB σ.bs x.1) := rfl
theorem tab_of {A : Ab} (G : Good n qs A σ) (hk : A.rt k = some r) {p : Nat} {x : Nat × Nat} (hp : p < 4096) (hx : A.pg k p = some x) : ∃ q, A.tb k (p / 64) = some q ∧ wk n σ.bs r p = some x ∧ tab n σ.bs r (p / 64) = some q := by
  obtain ⟨t1, t2, t3⟩ := G.rep.tree k r hk
  have hw : wk n σ.bs r p = some x := by rw [t3 p hp, hx]
  obtain ⟨q, hq⟩ := wk_tab hw
  exact ⟨q, by rw [← t2 _ (by omega), hq], hw, hq⟩
theorem map_spec (L : Lk n qs rt o c σ) (hq : ∀ q ∈ qs, 0 ≤ q ∧ q ≤ 1024) {qk : Int} (hqk : qs[k]? = some qk) (hk : rt k = some r) (p pm : Int) : Ctr Try.prog W0 25 [.pointer (some ⟨s, 0, none⟩), .int .i64 p, .int .i64 pm] (WG m f t n qs σ (sb s k r m f t :: Fr)) (fun σ' : St => Lk n qs rt (mapO qk o k p pm).2 c σ') (fun _ => .int .i64 (mapO qk o k p pm).1) (fun σ' => WG m f t n qs σ' (sb s k r m f t :: Fr)) := by
  have L0 := L
  obtain ⟨A, rfl, h0, G, rfl, hcc⟩ := L
  by_cases hg : (0 ≤ p ∧ p < 4096) ∧ 1 ≤ pm ∧ pm ≤ 7
  · obtain ⟨q, rfl⟩ := Int.eq_ofNat_of_zero_le hg.1.1
    obtain ⟨mm, rfl⟩ := Int.eq_ofNat_of_zero_le (show 0 ≤ pm by omega)
    have hq4 : q < 4096 := by omega
    have hvp : vp A k q = A.pg k q := vp_in hq4
    have huc := used_cnt G h0 hk
    obtain ⟨t1, t2, t3⟩ := G.rep.tree k r hk
    have hn2 := G.n2
    cases hx : A.pg k q with
    | some x =>
      have e : mapO qk (obs A σ) k (q : Int) (mm : Int) = (91, obs A σ) := by
        unfold mapO; rw [if_neg (by omega), Int.toNat_natCast, if_pos (by rw [vw_obs, hx]; rfl)]
      rw [e]
      refine Ctr.of_body Try.func25 rfl Try.ntmps25 rfl ?_
      refine CG.seq ?_
      refine CG.region ?_
      refine OG.yield (Yield.assign rfl) rfl ?_
      refine OG.nil ?_
      refine QG.then ?_
      refine CG.seq ?_
      refine CG.block ?_
      refine CG.seq ?_
      refine CG.region ?_
      refine OG.yield (Yield.move rfl) rfl ?_
      refine OG.yield (Yield.move rfl) rfl ?_
      refine OG.callo call61 rfl ((by repeat (first | exact Imp.refl _ | exact Imp.none _ | apply Imp.pull (by repeat (first | exact Ext.here | apply Ext.there)) | apply Imp.trans Imp.drop))) (good_spec W0 _ (q : Int) (mm : Int)) rfl ?_
      rintro ⟨⟩ -
      rw [decide_eq_true hg]
      refine OG.yield (Yield.not rfl) rfl ?_
      refine OG.yield (Yield.assign rfl) rfl ?_
      refine OG.nil ?_
      refine QG.then ?_
      refine CG.cond_f rfl ?_
      refine CG.seq ?_
      refine CG.region ?_
      refine OG.yield (Yield.move rfl) rfl ?_
      refine OG.yield (Yield.move rfl) rfl ?_
      refine OG.callo call62 rfl ((by repeat (first | exact Imp.refl _ | exact Imp.none _ | apply Imp.pull (by repeat (first | exact Ext.here | apply Ext.there)) | apply Imp.trans Imp.drop))) (there_spec W0 _ (A := A) (σ := σ) (r := r) (k := k) (m := m) (f := f) (t := t) (qs := qs) (s := s) G.rep hk (q : Int)) rfl ?_
      rintro ⟨⟩ -
      rw [hvp, hx]
      refine OG.yield (Yield.assign rfl) rfl ?_
      refine OG.nil ?_
      refine QG.then ?_
      refine CG.cond_t rfl ?_
      refine CG.seq ?_
      refine CG.region ?_
      refine OG.yield (Yield.assign rfl) rfl ?_
      refine OG.nil ?_
      refine QG.then ?_
      refine CG.ret ?_
      refine QG.block_ret ?_
      refine QG.pass_ret ?_
      exact QG.ret1 rfl rfl σ L0 rfl (by repeat (first | exact Imp.refl _ | exact Imp.none _ | apply Imp.pull (by repeat (first | exact Ext.here | apply Ext.there)) | apply Imp.trans Imp.drop))
    | none =>
      have hvw : (obs A σ).vw k q = none := by rw [vw_obs, hx]; rfl
      by_cases hts : (A.tb k (q / 64)).isSome = true
      · have hte : (obs A σ).ts k (q / 64) = true := hts
        by_cases hroom : qk - used (obs A σ) k < (1 : Nat)
        · have e : mapO qk (obs A σ) k (q : Int) (mm : Int) = (141, obs A σ) := by
            unfold mapO; rw [if_neg (by omega), Int.toNat_natCast, if_neg (by rw [hvw]; simp), hte, if_pos rfl, if_pos hroom]
          rw [e]
          refine Ctr.of_body Try.func25 rfl Try.ntmps25 rfl ?_
          refine CG.seq ?_
          refine CG.region ?_
          refine OG.yield (Yield.assign rfl) rfl ?_
          refine OG.nil ?_
          refine QG.then ?_
          refine CG.seq ?_
          refine CG.block ?_
          refine CG.seq ?_
          refine CG.region ?_
          refine OG.yield (Yield.move rfl) rfl ?_
          refine OG.yield (Yield.move rfl) rfl ?_
          refine OG.callo call61 rfl ((by repeat (first | exact Imp.refl _ | exact Imp.none _ | apply Imp.pull (by repeat (first | exact Ext.here | apply Ext.there)) | apply Imp.trans Imp.drop))) (good_spec W0 _ (q : Int) (mm : Int)) rfl ?_
          rintro ⟨⟩ -
          rw [decide_eq_true hg]
          refine OG.yield (Yield.not rfl) rfl ?_
          refine OG.yield (Yield.assign rfl) rfl ?_
          refine OG.nil ?_
          refine QG.then ?_
          refine CG.cond_f rfl ?_
          refine CG.seq ?_
          refine CG.region ?_
          refine OG.yield (Yield.move rfl) rfl ?_
          refine OG.yield (Yield.move rfl) rfl ?_
          refine OG.callo call62 rfl ((by repeat (first | exact Imp.refl _ | exact Imp.none _ | apply Imp.pull (by repeat (first | exact Ext.here | apply Ext.there)) | apply Imp.trans Imp.drop))) (there_spec W0 _ (A := A) (σ := σ) (r := r) (k := k) (m := m) (f := f) (t := t) (qs := qs) (s := s) G.rep hk (q : Int)) rfl ?_
          rintro ⟨⟩ -
          rw [hvp, hx]
          refine OG.yield (Yield.assign rfl) rfl ?_
          refine OG.nil ?_
          refine QG.then ?_
          refine CG.cond_f rfl ?_
          refine CG.skip ?_
          refine QG.block_normal ?_
          refine QG.then ?_
          refine CG.seq ?_
          refine CG.region ?_
          refine OG.yield (Yield.assign rfl) rfl ?_
          refine OG.nil ?_
          refine QG.then ?_
          refine CG.seq ?_
          refine CG.seq ?_
          refine CG.region ?_
          refine OG.yield (Yield.move rfl) rfl ?_
          refine OG.yield (Yield.move rfl) rfl ?_
          refine OG.callo call63 rfl ((by repeat (first | exact Imp.refl _ | exact Imp.none _ | apply Imp.pull (by repeat (first | exact Ext.here | apply Ext.there)) | apply Imp.trans Imp.drop))) (table_spec W0 _ (A := A) (σ := σ) (r := r) (k := k) (m := m) (f := f) (t := t) (qs := qs) (s := s) G.rep hn2.2 hk hq4) rfl ?_
          rintro ⟨⟩ -
          rw [hts]
          refine OG.yield (Yield.not rfl) rfl ?_
          refine OG.nil ?_
          refine QG.then ?_
          refine CG.cond_f rfl ?_
          refine CG.skip ?_
          refine QG.then ?_
          refine CG.seq ?_
          refine CG.seq ?_
          refine CG.region ?_
          refine OG.yield (Yield.move rfl) rfl ?_
          refine OG.yield (Yield.move rfl) rfl ?_
          refine OG.callo call64 rfl ((by repeat (first | exact Imp.refl _ | exact Imp.none _ | apply Imp.pull (by repeat (first | exact Ext.here | apply Ext.there)) | apply Imp.trans Imp.drop))) (room_spec W0 _ (σ := σ) (r := r) (k := k) (m := m) (f := f) (t := t) (n := n) (s := s) (d := 1) G.inv hq hqk (.inl rfl)) rfl ?_
          rintro ⟨⟩ -
          rw [huc, if_pos hroom]
          refine OG.yield (Yield.assign rfl) rfl ?_
          refine OG.nil ?_
          refine QG.then ?_
          refine CG.seq ?_
          refine CG.region ?_
          refine OG.yield (Yield.move rfl) rfl ?_
          refine OG.yield (by first | exact Yield.as (Yield.neq rfl rfl) (bT (by omega)) | exact Yield.as (Yield.neq rfl rfl) (bF (by omega)) | exact Yield.neq rfl rfl) rfl ?_
          refine OG.nil ?_
          refine QG.then ?_
          refine CG.cond_t rfl ?_
          refine CG.seq ?_
          refine CG.region ?_
          refine OG.yield (Yield.move rfl) rfl ?_
          refine OG.yield (Yield.assign rfl) rfl ?_
          refine OG.nil ?_
          refine QG.then ?_
          refine CG.ret ?_
          refine QG.pass_ret ?_
          exact QG.ret1 rfl rfl σ L0 rfl (by repeat (first | exact Imp.refl _ | exact Imp.none _ | apply Imp.pull (by repeat (first | exact Ext.here | apply Ext.there)) | apply Imp.trans Imp.drop))
        · have e : mapO qk (obs A σ) k (q : Int) (mm : Int) = (0, ⟨up2 (obs A σ).vw k q (some (mm, zs)), (obs A σ).ts, (obs A σ).fr - 1⟩) := by
            unfold mapO; rw [if_neg (by omega), Int.toNat_natCast, if_neg (by rw [hvw]; simp), hte, if_pos rfl, if_neg hroom, Int.toNat_natCast]
            congr 2
            rw [← hte, up2_same]
          rw [e]
          obtain ⟨tq, htq⟩ := Option.isSome_iff_exists.1 hts
          have hcq : (cnt σ.own k : Int) < qk := by omega
          refine Ctr.of_body Try.func25 rfl Try.ntmps25 rfl ?_
          refine CG.seq ?_
          refine CG.region ?_
          refine OG.yield (Yield.assign rfl) rfl ?_
          refine OG.nil ?_
          refine QG.then ?_
          refine CG.seq ?_
          refine CG.block ?_
          refine CG.seq ?_
          refine CG.region ?_
          refine OG.yield (Yield.move rfl) rfl ?_
          refine OG.yield (Yield.move rfl) rfl ?_
          refine OG.callo call61 rfl ((by repeat (first | exact Imp.refl _ | exact Imp.none _ | apply Imp.pull (by repeat (first | exact Ext.here | apply Ext.there)) | apply Imp.trans Imp.drop))) (good_spec W0 _ (q : Int) (mm : Int)) rfl ?_
          rintro ⟨⟩ -
          rw [decide_eq_true hg]
          refine OG.yield (Yield.not rfl) rfl ?_
          refine OG.yield (Yield.assign rfl) rfl ?_
          refine OG.nil ?_
          refine QG.then ?_
          refine CG.cond_f rfl ?_
          refine CG.seq ?_
          refine CG.region ?_
          refine OG.yield (Yield.move rfl) rfl ?_
          refine OG.yield (Yield.move rfl) rfl ?_
          refine OG.callo call62 rfl ((by repeat (first | exact Imp.refl _ | exact Imp.none _ | apply Imp.pull (by repeat (first | exact Ext.here | apply Ext.there)) | apply Imp.trans Imp.drop))) (there_spec W0 _ (A := A) (σ := σ) (r := r) (k := k) (m := m) (f := f) (t := t) (qs := qs) (s := s) G.rep hk (q : Int)) rfl ?_
          rintro ⟨⟩ -
          rw [hvp, hx]
          refine OG.yield (Yield.assign rfl) rfl ?_
          refine OG.nil ?_
          refine QG.then ?_
          refine CG.cond_f rfl ?_
          refine CG.skip ?_
          refine QG.block_normal ?_
          refine QG.then ?_
          refine CG.seq ?_
          refine CG.region ?_
          refine OG.yield (Yield.assign rfl) rfl ?_
          refine OG.nil ?_
          refine QG.then ?_
          refine CG.seq ?_
          refine CG.seq ?_
          refine CG.region ?_
          refine OG.yield (Yield.move rfl) rfl ?_
          refine OG.yield (Yield.move rfl) rfl ?_
          refine OG.callo call63 rfl ((by repeat (first | exact Imp.refl _ | exact Imp.none _ | apply Imp.pull (by repeat (first | exact Ext.here | apply Ext.there)) | apply Imp.trans Imp.drop))) (table_spec W0 _ (A := A) (σ := σ) (r := r) (k := k) (m := m) (f := f) (t := t) (qs := qs) (s := s) G.rep hn2.2 hk hq4) rfl ?_
          rintro ⟨⟩ -
          rw [hts]
          refine OG.yield (Yield.not rfl) rfl ?_
          refine OG.nil ?_
          refine QG.then ?_
          refine CG.cond_f rfl ?_
          refine CG.skip ?_
          refine QG.then ?_
          refine CG.seq ?_
          refine CG.seq ?_
          refine CG.region ?_
          refine OG.yield (Yield.move rfl) rfl ?_
          refine OG.yield (Yield.move rfl) rfl ?_
          refine OG.callo call64 rfl ((by repeat (first | exact Imp.refl _ | exact Imp.none _ | apply Imp.pull (by repeat (first | exact Ext.here | apply Ext.there)) | apply Imp.trans Imp.drop))) (room_spec W0 _ (σ := σ) (r := r) (k := k) (m := m) (f := f) (t := t) (n := n) (s := s) (d := 1) G.inv hq hqk (.inl rfl)) rfl ?_
          rintro ⟨⟩ -
          rw [huc, if_neg hroom]
          refine OG.yield (Yield.assign rfl) rfl ?_
          refine OG.nil ?_
          refine QG.then ?_
          refine CG.seq ?_
          refine CG.region ?_
          refine OG.yield (Yield.move rfl) rfl ?_
          refine OG.yield (by first | exact Yield.as (Yield.neq rfl rfl) (bT (by omega)) | exact Yield.as (Yield.neq rfl rfl) (bF (by omega)) | exact Yield.neq rfl rfl) rfl ?_
          refine OG.nil ?_
          refine QG.then ?_
          refine CG.cond_f rfl ?_
          refine CG.skip ?_
          refine QG.then ?_
          refine CG.seq ?_
          refine CG.region ?_
          refine OG.yield (Yield.assign rfl) rfl ?_
          refine OG.nil ?_
          refine QG.then ?_
          refine CG.seq ?_
          refine CG.seq ?_
          refine CG.region ?_
          refine OG.yield (Yield.move rfl) rfl ?_
          refine OG.yield (by first | exact Yield.as (Yield.eql rfl rfl) (bT (by omega)) | exact Yield.as (Yield.eql rfl rfl) (bF (by omega)) | exact Yield.eql rfl rfl) rfl ?_
          refine OG.nil ?_
          refine QG.then ?_
          refine CG.cond_f rfl ?_
          refine CG.skip ?_
          refine QG.then ?_
          refine CG.seq ?_
          refine CG.draw (.look 0 0 (.look 1 0 (.look 2 0 (.look 3 0 (.look 4 0 (.look 5 0 (.look 6 0 (.look 7 0 (.look 8 0 (.look 9 1 (.look 11 0 (.look 12 0 (.eff1 10 false (.eff1 13 false (.look 14 1 (.look 15 1 (.look 16 1 (.look 17 1 (.look 18 1 (.done)))))))))))))))))))) [10, 13] [] ([sb s k r m f t]) ([]) mixed (by kernel_rfl) (by repeat (first | exact Imp.refl _ | exact Imp.none _ | apply Imp.pull (by repeat (first | exact Ext.here | apply Ext.there)) | apply Imp.trans Imp.drop)) (Imp.none _) ?_
          refine DG.look rfl rfl (Yield.move rfl) rfl ?_
          refine DG.look rfl rfl (Yield.nilCheck rfl) rfl ?_
          refine DG.look rfl rfl (Yield.fieldAddr fa137_2 rfl) rfl ?_
          refine DG.look rfl rfl (Yield.load ti24 rfl (by first | exact Cel.of_blk (by repeat (first | exact Ext.here | apply Ext.there)) rfl | exact (hrow (by repeat (first | exact Ext.here | apply Ext.there))) _ _ rfl)) rfl ?_
          refine DG.look rfl rfl (Yield.move rfl) rfl ?_
          refine DG.look rfl rfl (Yield.nilCheck rfl) rfl ?_
          refine DG.look rfl rfl (Yield.fieldAddr fa137_1 rfl) rfl ?_
          refine DG.look rfl rfl (Yield.load ti3 rfl (by first | exact Cel.of_blk (by repeat (first | exact Ext.here | apply Ext.there)) rfl | exact (hrow (by repeat (first | exact Ext.here | apply Ext.there))) _ _ rfl)) rfl ?_
          refine DG.look rfl rfl (Yield.move rfl) rfl ?_
          refine DG.look rfl rfl (Yield.move rfl) rfl ?_
          refine DG.look rfl rfl (Yield.move rfl) rfl ?_
          refine DG.look rfl rfl (Yield.move rfl) rfl ?_
          refine DG.eff1 ?_
          refine Chg.callo rfl rfl call65 rfl ((by repeat (first | exact Imp.refl _ | exact Imp.none _ | apply Imp.pull (by repeat (first | exact Ext.here | apply Ext.there)) | apply Imp.trans Imp.drop))) (take_spec W0 _ (σ := σ) (r := r) (k := k) (m := m) (f := f) (t := t) (n := n) (s := s) G.inv G.ol hq hqk hcq) rfl (fun _ => (by repeat (first | exact Imp.refl _ | exact Imp.none _ | apply Imp.pull (by repeat (first | exact Ext.here | apply Ext.there)) | apply Imp.trans Imp.drop))) (fun _ => Imp.refl _) (fun _ => (by repeat (first | exact Imp.refl _ | exact Imp.none _ | apply Imp.pull (by repeat (first | exact Ext.here | apply Ext.there)) | apply Imp.trans Imp.drop))) ?_
          rintro fr hfr
          obtain ⟨G2, e2⟩ := G.map1 h0 (m := mm) hk hq4 htq hx hfr (by omega) hqk hcq
          have hfn : fr < n := by rw [← G.ol]; exact (List.getElem?_eq_some_iff.1 hfr).1
          have hent := (sp_entry (f := fr) (p := mm) (by omega) (by omega)).1
          have R1 := G.rep.only (only_fill (bs := σ.bs) (ws := []) G.rep.len hfn (by decide)) (fun k' e => G.own.free hfr (.root k') e) (fun k' g e => G.own.free hfr (.tab k' g) e)
          have hset := setR_tab (n := n) (bs := overB σ.bs (fr * 256) (fillB [])) (root := r) (p := q) (e := (entryOf (fr : Int) mm).toNat) (q := tq) (spare := -1) (by rw [(R1.tree k r hk).2.1 _ (by omega), htq])
          refine DG.eff1 ?_
          refine Chg.callo rfl rfl call12 rfl ((by repeat (first | exact Imp.refl _ | exact Imp.none _ | apply Imp.pull (by repeat (first | exact Ext.here | apply Ext.there)) | apply Imp.trans Imp.drop))) (Pg.set_spec W0 _ (m := m) (n := n) (root := r) (p := q) (e := (entryOf (fr : Int) mm).toNat) (f := (fr : Int)) (pm := (mm : Int)) (spare := -1) (bs := overB σ.bs (fr * 256) (fillB [])) t1.rt hq4 (by rw [hent]; rfl) (by rw [hent]; omega) (by omega)) rfl (fun _ => (by repeat (first | exact Imp.refl _ | exact Imp.none _ | apply Imp.pull (by repeat (first | exact Ext.here | apply Ext.there)) | apply Imp.trans Imp.drop))) (fun _ => Imp.refl _) (fun _ => (by repeat (first | exact Imp.refl _ | exact Imp.none _ | apply Imp.pull (by repeat (first | exact Ext.here | apply Ext.there)) | apply Imp.trans Imp.drop))) ?_
          rintro ⟨⟩ -
          rw [hset]
          refine DG.look rfl rfl (Yield.move rfl) rfl ?_
          refine DG.look rfl rfl (Yield.extract rfl rfl) rfl ?_
          refine DG.look rfl rfl (Yield.extract rfl rfl) rfl ?_
          refine DG.look rfl rfl (Yield.assign rfl) rfl ?_
          refine DG.look rfl rfl (Yield.assign rfl) rfl ?_
          refine DG.done ?_
          refine QG.then ?_
          refine CG.seq ?_
          refine CG.region ?_
          refine OG.yield (Yield.move rfl) rfl ?_
          refine OG.yield (Yield.assign rfl) rfl ?_
          refine OG.nil ?_
          refine QG.then ?_
          refine CG.ret ?_
          have L' := Lk.intro G2 rfl h0 e2 hcc
          exact QG.ret1 rfl rfl _ L' rfl (by repeat (first | exact Imp.refl _ | exact Imp.none _ | apply Imp.pull (by repeat (first | exact Ext.here | apply Ext.there)) | apply Imp.trans Imp.drop))
      · have htn : A.tb k (q / 64) = none := by cases h : A.tb k (q / 64) with | none => rfl | some _ => rw [h] at hts; exact absurd rfl hts
        have hte : (obs A σ).ts k (q / 64) = false := by show (A.tb k (q / 64)).isSome = false; rw [htn]; rfl
        by_cases hroom : qk - used (obs A σ) k < (2 : Nat)
        · have e : mapO qk (obs A σ) k (q : Int) (mm : Int) = (141, obs A σ) := by
            unfold mapO; rw [if_neg (by omega), Int.toNat_natCast, if_neg (by rw [hvw]; simp), hte, if_neg (show ¬ (false = true) by decide), if_pos hroom]
          rw [e]
          refine Ctr.of_body Try.func25 rfl Try.ntmps25 rfl ?_
          refine CG.seq ?_
          refine CG.region ?_
          refine OG.yield (Yield.assign rfl) rfl ?_
          refine OG.nil ?_
          refine QG.then ?_
          refine CG.seq ?_
          refine CG.block ?_
          refine CG.seq ?_
          refine CG.region ?_
          refine OG.yield (Yield.move rfl) rfl ?_
          refine OG.yield (Yield.move rfl) rfl ?_
          refine OG.callo call61 rfl ((by repeat (first | exact Imp.refl _ | exact Imp.none _ | apply Imp.pull (by repeat (first | exact Ext.here | apply Ext.there)) | apply Imp.trans Imp.drop))) (good_spec W0 _ (q : Int) (mm : Int)) rfl ?_
          rintro ⟨⟩ -
          rw [decide_eq_true hg]
          refine OG.yield (Yield.not rfl) rfl ?_
          refine OG.yield (Yield.assign rfl) rfl ?_
          refine OG.nil ?_
          refine QG.then ?_
          refine CG.cond_f rfl ?_
          refine CG.seq ?_
          refine CG.region ?_
          refine OG.yield (Yield.move rfl) rfl ?_
          refine OG.yield (Yield.move rfl) rfl ?_
          refine OG.callo call62 rfl ((by repeat (first | exact Imp.refl _ | exact Imp.none _ | apply Imp.pull (by repeat (first | exact Ext.here | apply Ext.there)) | apply Imp.trans Imp.drop))) (there_spec W0 _ (A := A) (σ := σ) (r := r) (k := k) (m := m) (f := f) (t := t) (qs := qs) (s := s) G.rep hk (q : Int)) rfl ?_
          rintro ⟨⟩ -
          rw [hvp, hx]
          refine OG.yield (Yield.assign rfl) rfl ?_
          refine OG.nil ?_
          refine QG.then ?_
          refine CG.cond_f rfl ?_
          refine CG.skip ?_
          refine QG.block_normal ?_
          refine QG.then ?_
          refine CG.seq ?_
          refine CG.region ?_
          refine OG.yield (Yield.assign rfl) rfl ?_
          refine OG.nil ?_
          refine QG.then ?_
          refine CG.seq ?_
          refine CG.seq ?_
          refine CG.region ?_
          refine OG.yield (Yield.move rfl) rfl ?_
          refine OG.yield (Yield.move rfl) rfl ?_
          refine OG.callo call63 rfl ((by repeat (first | exact Imp.refl _ | exact Imp.none _ | apply Imp.pull (by repeat (first | exact Ext.here | apply Ext.there)) | apply Imp.trans Imp.drop))) (table_spec W0 _ (A := A) (σ := σ) (r := r) (k := k) (m := m) (f := f) (t := t) (qs := qs) (s := s) G.rep hn2.2 hk hq4) rfl ?_
          rintro ⟨⟩ -
          rw [htn]
          refine OG.yield (Yield.not rfl) rfl ?_
          refine OG.nil ?_
          refine QG.then ?_
          refine CG.cond_t rfl ?_
          refine CG.region ?_
          refine OG.yield (Yield.assign rfl) rfl ?_
          refine OG.nil ?_
          refine QG.then ?_
          refine CG.seq ?_
          refine CG.seq ?_
          refine CG.region ?_
          refine OG.yield (Yield.move rfl) rfl ?_
          refine OG.yield (Yield.move rfl) rfl ?_
          refine OG.callo call64 rfl ((by repeat (first | exact Imp.refl _ | exact Imp.none _ | apply Imp.pull (by repeat (first | exact Ext.here | apply Ext.there)) | apply Imp.trans Imp.drop))) (room_spec W0 _ (σ := σ) (r := r) (k := k) (m := m) (f := f) (t := t) (n := n) (s := s) (d := 2) G.inv hq hqk (.inr rfl)) rfl ?_
          rintro ⟨⟩ -
          rw [huc, if_pos hroom]
          refine OG.yield (Yield.assign rfl) rfl ?_
          refine OG.nil ?_
          refine QG.then ?_
          refine CG.seq ?_
          refine CG.region ?_
          refine OG.yield (Yield.move rfl) rfl ?_
          refine OG.yield (by first | exact Yield.as (Yield.neq rfl rfl) (bT (by omega)) | exact Yield.as (Yield.neq rfl rfl) (bF (by omega)) | exact Yield.neq rfl rfl) rfl ?_
          refine OG.nil ?_
          refine QG.then ?_
          refine CG.cond_t rfl ?_
          refine CG.seq ?_
          refine CG.region ?_
          refine OG.yield (Yield.move rfl) rfl ?_
          refine OG.yield (Yield.assign rfl) rfl ?_
          refine OG.nil ?_
          refine QG.then ?_
          refine CG.ret ?_
          refine QG.pass_ret ?_
          exact QG.ret1 rfl rfl σ L0 rfl (by repeat (first | exact Imp.refl _ | exact Imp.none _ | apply Imp.pull (by repeat (first | exact Ext.here | apply Ext.there)) | apply Imp.trans Imp.drop))
        · have e : mapO qk (obs A σ) k (q : Int) (mm : Int) = (0, ⟨up2 (obs A σ).vw k q (some (mm, zs)), up2 (obs A σ).ts k (q / 64) true, (obs A σ).fr - 2⟩) := by
            unfold mapO; rw [if_neg (by omega), Int.toNat_natCast, if_neg (by rw [hvw]; simp), hte, if_neg (show ¬ (false = true) by decide), if_neg hroom, Int.toNat_natCast]
          rw [e]
          have hcq : (cnt σ.own k : Int) + 1 < qk := by omega
          refine Ctr.of_body Try.func25 rfl Try.ntmps25 rfl ?_
          refine CG.seq ?_
          refine CG.region ?_
          refine OG.yield (Yield.assign rfl) rfl ?_
          refine OG.nil ?_
          refine QG.then ?_
          refine CG.seq ?_
          refine CG.block ?_
          refine CG.seq ?_
          refine CG.region ?_
          refine OG.yield (Yield.move rfl) rfl ?_
          refine OG.yield (Yield.move rfl) rfl ?_
          refine OG.callo call61 rfl ((by repeat (first | exact Imp.refl _ | exact Imp.none _ | apply Imp.pull (by repeat (first | exact Ext.here | apply Ext.there)) | apply Imp.trans Imp.drop))) (good_spec W0 _ (q : Int) (mm : Int)) rfl ?_
          rintro ⟨⟩ -
          rw [decide_eq_true hg]
          refine OG.yield (Yield.not rfl) rfl ?_
          refine OG.yield (Yield.assign rfl) rfl ?_
          refine OG.nil ?_
          refine QG.then ?_
          refine CG.cond_f rfl ?_
          refine CG.seq ?_
          refine CG.region ?_
          refine OG.yield (Yield.move rfl) rfl ?_
          refine OG.yield (Yield.move rfl) rfl ?_
          refine OG.callo call62 rfl ((by repeat (first | exact Imp.refl _ | exact Imp.none _ | apply Imp.pull (by repeat (first | exact Ext.here | apply Ext.there)) | apply Imp.trans Imp.drop))) (there_spec W0 _ (A := A) (σ := σ) (r := r) (k := k) (m := m) (f := f) (t := t) (qs := qs) (s := s) G.rep hk (q : Int)) rfl ?_
          rintro ⟨⟩ -
          rw [hvp, hx]
          refine OG.yield (Yield.assign rfl) rfl ?_
          refine OG.nil ?_
          refine QG.then ?_
          refine CG.cond_f rfl ?_
          refine CG.skip ?_
          refine QG.block_normal ?_
          refine QG.then ?_
          refine CG.seq ?_
          refine CG.region ?_
          refine OG.yield (Yield.assign rfl) rfl ?_
          refine OG.nil ?_
          refine QG.then ?_
          refine CG.seq ?_
          refine CG.seq ?_
          refine CG.region ?_
          refine OG.yield (Yield.move rfl) rfl ?_
          refine OG.yield (Yield.move rfl) rfl ?_
          refine OG.callo call63 rfl ((by repeat (first | exact Imp.refl _ | exact Imp.none _ | apply Imp.pull (by repeat (first | exact Ext.here | apply Ext.there)) | apply Imp.trans Imp.drop))) (table_spec W0 _ (A := A) (σ := σ) (r := r) (k := k) (m := m) (f := f) (t := t) (qs := qs) (s := s) G.rep hn2.2 hk hq4) rfl ?_
          rintro ⟨⟩ -
          rw [htn]
          refine OG.yield (Yield.not rfl) rfl ?_
          refine OG.nil ?_
          refine QG.then ?_
          refine CG.cond_t rfl ?_
          refine CG.region ?_
          refine OG.yield (Yield.assign rfl) rfl ?_
          refine OG.nil ?_
          refine QG.then ?_
          refine CG.seq ?_
          refine CG.seq ?_
          refine CG.region ?_
          refine OG.yield (Yield.move rfl) rfl ?_
          refine OG.yield (Yield.move rfl) rfl ?_
          refine OG.callo call64 rfl ((by repeat (first | exact Imp.refl _ | exact Imp.none _ | apply Imp.pull (by repeat (first | exact Ext.here | apply Ext.there)) | apply Imp.trans Imp.drop))) (room_spec W0 _ (σ := σ) (r := r) (k := k) (m := m) (f := f) (t := t) (n := n) (s := s) (d := 2) G.inv hq hqk (.inr rfl)) rfl ?_
          rintro ⟨⟩ -
          rw [huc, if_neg hroom]
          refine OG.yield (Yield.assign rfl) rfl ?_
          refine OG.nil ?_
          refine QG.then ?_
          refine CG.seq ?_
          refine CG.region ?_
          refine OG.yield (Yield.move rfl) rfl ?_
          refine OG.yield (by first | exact Yield.as (Yield.neq rfl rfl) (bT (by omega)) | exact Yield.as (Yield.neq rfl rfl) (bF (by omega)) | exact Yield.neq rfl rfl) rfl ?_
          refine OG.nil ?_
          refine QG.then ?_
          refine CG.cond_f rfl ?_
          refine CG.skip ?_
          refine QG.then ?_
          refine CG.seq ?_
          refine CG.region ?_
          refine OG.yield (Yield.assign rfl) rfl ?_
          refine OG.nil ?_
          refine QG.then ?_
          refine CG.seq ?_
          refine CG.seq ?_
          refine CG.region ?_
          refine OG.yield (Yield.move rfl) rfl ?_
          refine OG.yield (by first | exact Yield.as (Yield.eql rfl rfl) (bT (by omega)) | exact Yield.as (Yield.eql rfl rfl) (bF (by omega)) | exact Yield.eql rfl rfl) rfl ?_
          refine OG.nil ?_
          refine QG.then ?_
          refine CG.cond_t rfl ?_
          refine CG.region ?_
          refine OG.yield (Yield.move rfl) rfl ?_
          refine OG.callo call65 rfl ((by repeat (first | exact Imp.refl _ | exact Imp.none _ | apply Imp.pull (by repeat (first | exact Ext.here | apply Ext.there)) | apply Imp.trans Imp.drop))) (take_spec W0 _ (σ := σ) (r := r) (k := k) (m := m) (f := f) (t := t) (n := n) (s := s) G.inv G.ol hq hqk (by omega)) rfl ?_
          rintro tq htq
          have hqn : tq < n := by rw [← G.ol]; exact (List.getElem?_eq_some_iff.1 htq).1
          have I1 := inv_take G.inv hqk (by omega) htq
          have hc1 : (cnt (σ.own.set tq k) k : Int) < qk := by rw [cnt_set htq, if_neg (show ¬ ((-1 : Int) = k) by omega), if_pos rfl]; omega
          refine OG.yield (Yield.assign rfl) rfl ?_
          refine OG.nil ?_
          refine QG.then ?_
          refine CG.seq ?_
          refine CG.draw (.look 0 0 (.look 1 0 (.look 2 0 (.look 3 0 (.look 4 0 (.look 5 0 (.look 6 0 (.look 7 0 (.look 8 0 (.look 9 1 (.look 11 0 (.look 12 0 (.eff1 10 false (.eff1 13 false (.look 14 1 (.look 15 1 (.look 16 1 (.look 17 1 (.look 18 1 (.done)))))))))))))))))))) [10, 13] [] ([sb s k r m f t]) ([]) mixed (by kernel_rfl) (by repeat (first | exact Imp.refl _ | exact Imp.none _ | apply Imp.pull (by repeat (first | exact Ext.here | apply Ext.there)) | apply Imp.trans Imp.drop)) (Imp.none _) ?_
          refine DG.look rfl rfl (Yield.move rfl) rfl ?_
          refine DG.look rfl rfl (Yield.nilCheck rfl) rfl ?_
          refine DG.look rfl rfl (Yield.fieldAddr fa137_2 rfl) rfl ?_
          refine DG.look rfl rfl (Yield.load ti24 rfl (by first | exact Cel.of_blk (by repeat (first | exact Ext.here | apply Ext.there)) rfl | exact (hrow (by repeat (first | exact Ext.here | apply Ext.there))) _ _ rfl)) rfl ?_
          refine DG.look rfl rfl (Yield.move rfl) rfl ?_
          refine DG.look rfl rfl (Yield.nilCheck rfl) rfl ?_
          refine DG.look rfl rfl (Yield.fieldAddr fa137_1 rfl) rfl ?_
          refine DG.look rfl rfl (Yield.load ti3 rfl (by first | exact Cel.of_blk (by repeat (first | exact Ext.here | apply Ext.there)) rfl | exact (hrow (by repeat (first | exact Ext.here | apply Ext.there))) _ _ rfl)) rfl ?_
          refine DG.look rfl rfl (Yield.move rfl) rfl ?_
          refine DG.look rfl rfl (Yield.move rfl) rfl ?_
          refine DG.look rfl rfl (Yield.move rfl) rfl ?_
          refine DG.look rfl rfl (Yield.move rfl) rfl ?_
          refine DG.eff1 ?_
          refine Chg.callo rfl rfl call65 rfl ((by repeat (first | exact Imp.refl _ | exact Imp.none _ | apply Imp.pull (by repeat (first | exact Ext.here | apply Ext.there)) | apply Imp.trans Imp.drop))) (take_spec W0 _ (σ := { σ with bs := overB σ.bs (tq * 256) (fillB []), own := σ.own.set tq k }) (r := r) (k := k) (m := m) (f := f) (t := t) (n := n) (s := s) I1 (by show (σ.own.set tq k).length = n; rw [List.length_set]; exact G.ol) hq hqk hc1) rfl (fun _ => (by repeat (first | exact Imp.refl _ | exact Imp.none _ | apply Imp.pull (by repeat (first | exact Ext.here | apply Ext.there)) | apply Imp.trans Imp.drop))) (fun _ => Imp.refl _) (fun _ => (by repeat (first | exact Imp.refl _ | exact Imp.none _ | apply Imp.pull (by repeat (first | exact Ext.here | apply Ext.there)) | apply Imp.trans Imp.drop))) ?_
          rintro fr hfr
          dsimp only at hfr ⊢
          have hfn : fr < n := by have := (List.getElem?_eq_some_iff.1 hfr).1; rw [List.length_set, G.ol] at this; exact this
          have hne : fr ≠ tq := fun e => by subst e; rw [List.getElem?_set_self (by rw [G.ol]; exact hfn)] at hfr; have := Option.some.inj hfr; omega
          have hf0 : σ.own[fr]? = some (-1) := by rw [List.getElem?_set_ne (fun e => hne e.symm)] at hfr; exact hfr
          obtain ⟨G2, e2⟩ := G.map2 h0 (m := mm) hk hq4 htn hx htq hfr (by omega) hqk hcq
          have hent := (sp_entry (f := fr) (p := mm) (by omega) (by omega)).1
          have R1 := G.rep.only (only_fill (bs := σ.bs) (ws := []) G.rep.len hqn (by decide)) (fun k' e => G.own.free htq (.root k') e) (fun k' g e => G.own.free htq (.tab k' g) e)
          have R2 := R1.only (only_fill (bs := overB σ.bs (tq * 256) (fillB [])) (ws := []) R1.len hfn (by decide)) (fun k' e => G.own.free hf0 (.root k') e) (fun k' g e => G.own.free hf0 (.tab k' g) e)
          have hset := setR_new (n := n) (bs := overB (overB σ.bs (tq * 256) (fillB [])) (fr * 256) (fillB [])) (root := r) (p := q) (e := (entryOf (fr : Int) mm).toNat) (q := tq) (by rw [(R2.tree k r hk).2.1 _ (by omega), htn]) hqn
          refine DG.eff1 ?_
          refine Chg.callo rfl rfl call12 rfl ((by repeat (first | exact Imp.refl _ | exact Imp.none _ | apply Imp.pull (by repeat (first | exact Ext.here | apply Ext.there)) | apply Imp.trans Imp.drop))) (Pg.set_spec W0 _ (m := m) (n := n) (root := r) (p := q) (e := (entryOf (fr : Int) mm).toNat) (f := (fr : Int)) (pm := (mm : Int)) (spare := (tq : Int)) (bs := overB (overB σ.bs (tq * 256) (fillB [])) (fr * 256) (fillB [])) t1.rt hq4 (by rw [hent]; rfl) (by rw [hent]; omega) (by omega)) rfl (fun _ => (by repeat (first | exact Imp.refl _ | exact Imp.none _ | apply Imp.pull (by repeat (first | exact Ext.here | apply Ext.there)) | apply Imp.trans Imp.drop))) (fun _ => Imp.refl _) (fun _ => (by repeat (first | exact Imp.refl _ | exact Imp.none _ | apply Imp.pull (by repeat (first | exact Ext.here | apply Ext.there)) | apply Imp.trans Imp.drop))) ?_
          rintro ⟨⟩ -
          rw [hset]
          refine DG.look rfl rfl (Yield.move rfl) rfl ?_
          refine DG.look rfl rfl (Yield.extract rfl rfl) rfl ?_
          refine DG.look rfl rfl (Yield.extract rfl rfl) rfl ?_
          refine DG.look rfl rfl (Yield.assign rfl) rfl ?_
          refine DG.look rfl rfl (Yield.assign rfl) rfl ?_
          refine DG.done ?_
          refine QG.then ?_
          refine CG.seq ?_
          refine CG.region ?_
          refine OG.yield (Yield.move rfl) rfl ?_
          refine OG.yield (Yield.assign rfl) rfl ?_
          refine OG.nil ?_
          refine QG.then ?_
          refine CG.ret ?_
          have L' := Lk.intro G2 rfl h0 e2 hcc
          exact QG.ret1 rfl rfl _ L' rfl (by repeat (first | exact Imp.refl _ | exact Imp.none _ | apply Imp.pull (by repeat (first | exact Ext.here | apply Ext.there)) | apply Imp.trans Imp.drop))
  · have e : mapO qk (obs A σ) k p pm = (2, obs A σ) := by unfold mapO; rw [if_pos hg]
    rw [e]
    refine Ctr.of_body Try.func25 rfl Try.ntmps25 rfl ?_
    refine CG.seq ?_
    refine CG.region ?_
    refine OG.yield (Yield.assign rfl) rfl ?_
    refine OG.nil ?_
    refine QG.then ?_
    refine CG.seq ?_
    refine CG.block ?_
    refine CG.seq ?_
    refine CG.region ?_
    refine OG.yield (Yield.move rfl) rfl ?_
    refine OG.yield (Yield.move rfl) rfl ?_
    refine OG.callo call61 rfl ((by repeat (first | exact Imp.refl _ | exact Imp.none _ | apply Imp.pull (by repeat (first | exact Ext.here | apply Ext.there)) | apply Imp.trans Imp.drop))) (good_spec W0 _ p pm) rfl ?_
    rintro ⟨⟩ -
    rw [decide_eq_false hg]
    refine OG.yield (Yield.not rfl) rfl ?_
    refine OG.yield (Yield.assign rfl) rfl ?_
    refine OG.nil ?_
    refine QG.then ?_
    refine CG.cond_t rfl ?_
    refine CG.seq ?_
    refine CG.region ?_
    refine OG.yield (Yield.assign rfl) rfl ?_
    refine OG.nil ?_
    refine QG.then ?_
    refine CG.ret ?_
    refine QG.block_ret ?_
    refine QG.pass_ret ?_
    exact QG.ret1 rfl rfl σ L0 rfl (by repeat (first | exact Imp.refl _ | exact Imp.none _ | apply Imp.pull (by repeat (first | exact Ext.here | apply Ext.there)) | apply Imp.trans Imp.drop))
end
end Go.Proofs.Ytmlfcfbblfcpdaa.Sp
