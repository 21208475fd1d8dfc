/- space.Space: New and Pages. -/
import Derived.Test.YtmlfcfbblfcpdaaSpa
import Derived.Test.YtmlfcfbblfcpdaaMsg
namespace Go.Proofs.Ytmlfcfbblfcpdaa.Sp
open Go Go.Sl Go.RowKit Go.Proofs Go.Proofs.Ytmlfcfbblfcpdaa.T Go.Proofs.Ytmlfcfbblfcpdaa.Me Go.Proofs.Ytmlfcfbblfcpdaa.Pe Go.Proofs.Ytmlfcfbblfcpdaa.Pg
open Go.Proofs.Ytmlfcfbblfcpdaa.Fz (cnt cnt_set inv_take inv_give free_frame isP isF left left_in)
open Go.Proofs.Ytmlfcfbblfcpdaa.Tl (Slot hitB putL flushPL put_cases)
set_option linter.unusedVariables false
set_option linter.unusedSimpArgs false
set_option maxRecDepth 100000
/-- A space's pages, rising. -/
def pvTo (o : Ob) (k : Nat) : Nat → List (Nat × Nat × List UInt8)
  | 0 => []
  | p + 1 => pvTo o k p ++ match o.vw k p with | some x => [(p, x.1, x.2)] | none => []
abbrev pvs (o : Ob) (k : Nat) : List (Nat × Nat × List UInt8) := pvTo o k 4096
/-- A page's view, where it lies. -/
structure PV where
  p : Nat
  pm : Nat
  a : Option Addr
  c : Nat
  b : List UInt8
def PV.v (x : PV) : Nat × Nat × List UInt8 := (x.p, x.pm, x.b)
def PV.cells (x : PV) : List Value := [.int .i64 x.p, .int .i64 x.pm, .slice x.a x.b.length x.c]
theorem PV.len (x : PV) : x.cells.length = 3 := rfl
theorem PV.ones (x : PV) : ∀ v ∈ x.cells, one v = true := by simp [PV.cells, one]
/-- A list of views of one's own. -/
abbrev PVL (a : Option Addr) (c : Nat) (l : List PV) : List HProp := [osl 89 3 a c l.length ((l.map PV.cells).flatten), Star (l.map fun x => oby 152 x.a x.c x.b)]
abbrev PLO (b : Nat) (z : Option Addr × Nat × List PV) : List HProp := [blk b [.slice z.1 z.2.2.length z.2.1] 86, osl 89 3 z.1 z.2.1 z.2.2.length ((z.2.2.map PV.cells).flatten), Star (z.2.2.map fun x => oby 152 x.a x.c x.b)]
def PL (b : Nat) (l : List (Nat × Nat × List UInt8)) : HProp := fun h => ∃ z : Option Addr × Nat × List PV, z.2.2.map PV.v = l ∧ Star (PLO b z) h
theorem pl_open {b : Nat} {l : List (Nat × Nat × List UInt8)} (y : Heaplet) (h : PL b l y) : ∃ z, z.2.2.map PV.v = l ∧ Star (PLO b z) y := h
theorem pl_close {b : Nat} {l : List (Nat × Nat × List UInt8)} {G : List HProp} (z : Option Addr × Nat × List PV) (hl : z.2.2.map PV.v = l) : Imp (PLO b z ++ G) (PL b l :: G) :=
  Imp.trans star_close (Imp.head fun y hy => ⟨z, hl, hy⟩)
theorem pvTo_len (o : Ob) (k : Nat) : ∀ p, (pvTo o k p).length = cN (fun q => (o.vw k q).isSome) p
  | 0 => rfl
  | p + 1 => by unfold pvTo cN; rw [List.length_append, pvTo_len o k p]; cases o.vw k p <;> rfl
theorem pages_pv {n : Nat} {qs : List Int} {A : Ab} {σ : St} {k r : Nat} (G : Good n qs A σ) (hk : A.rt k = some r) : ∀ p, p ≤ 4096 → (pagesTo n σ.bs r p).map (·.1) = (pvTo (obs A σ) k p).map (·.1) ∧ (pagesTo n σ.bs r p).length = (pvTo (obs A σ) k p).length ∧ ∀ (j q : Nat) (f : Int), (pagesTo n σ.bs r p)[j]? = some (q, f) → ∃ x, A.pg k q = some x ∧ f = (x.1 : Int) ∧ q < 4096 ∧ (pvTo (obs A σ) k p)[j]? = some (q, x.2, frB σ.bs x.1)
  | 0, _ => ⟨rfl, rfl, fun j q f h => by cases h⟩
  | p + 1, hp => by
    obtain ⟨h1, h2, h3⟩ := pages_pv G hk p (by omega)
    have e := (G.rep.tree k r hk).2.2 p (by omega)
    rw [pagesTo, pl_wk, e]
    unfold pvTo
    rw [vw_obs]
    cases hx : A.pg k p with
    | none => simp only [Option.map_none, List.append_nil]; exact ⟨h1, h2, h3⟩
    | some x =>
      simp only [Option.map_some]
      refine ⟨by simp [h1], by simp [h2], fun j q f hj => ?_⟩
      rcases Nat.lt_or_ge j (pagesTo n σ.bs r p).length with hlt | hge
      · rw [List.getElem?_append_left hlt] at hj
        obtain ⟨y, y1, y2, y3, y4⟩ := h3 j q f hj
        exact ⟨y, y1, y2, y3, by rw [List.getElem?_append_left (by omega)]; exact y4⟩
      · rw [List.getElem?_append_right hge] at hj
        have hj0 : j - (pagesTo n σ.bs r p).length = 0 := by
          cases hd : j - (pagesTo n σ.bs r p).length with
          | zero => rfl
          | succ i => rw [hd] at hj; cases hj
        rw [hj0] at hj
        simp only [List.getElem?_cons_zero, Option.some.injEq, Prod.mk.injEq] at hj
        obtain ⟨rfl, rfl⟩ := hj
        exact ⟨x, hx, rfl, by omega, by rw [List.getElem?_append_right (by omega), show j - (pvTo (obs A σ) k p).length = 0 by omega]; rfl⟩
section
variable (W0 : World) (Fr : List HProp)
variable {n : Nat} {qs : List Int} {rt : Nat → Option Nat} {o : Ob} {c : Nat} {σ : St} {k r s m f t : Nat}
theorem new_bad (L : Lk n qs rt o c σ) (hq : ∀ q ∈ qs, 0 ≤ q ∧ q ≤ 1024) {qk : Int} (hqk : qs[k]? = some qk) (hk : rt k = none) (h0 : qk ≤ 0) : Ctr Try.prog W0 33 [.int .i64 k, .pointer (some ⟨m, 0, none⟩), .pointer (some ⟨f, 0, none⟩), .pointer (some ⟨t, 0, none⟩)] (WG m f t n qs σ Fr) (fun _ : Unit => True) (fun _ => .tuple #[.pointer none, .int .i64 141]) (fun _ => WG m f t n qs σ Fr) := by
  have hl := left_in (own := σ.own) hqk
  have hkl := (List.getElem?_eq_some_iff.1 hqk).1
  refine Ctr.of_body Try.func33 rfl Try.ntmps33 rfl ?_
  refine CG.seq ?_
  refine CG.region ?_
  refine OG.yield (Yield.assign rfl) rfl ?_
  refine OG.yield (Yield.assign rfl) rfl ?_
  refine OG.nil ?_
  refine QG.then ?_
  refine CG.seq ?_
  refine CG.region ?_
  refine OG.yield (Yield.move rfl) rfl ?_
  refine OG.yield (Yield.move rfl) rfl ?_
  refine OG.callo call73 rfl ((by repeat (first | exact Imp.refl _ | exact Imp.none _ | apply Imp.pull (by repeat (first | exact Ext.here | apply Ext.there)) | apply Imp.trans Imp.drop))) (Fz.take_quota W0 _ (f := f) (own := σ.own) (qs := qs) (k : Int) hq ⟨by omega, by omega⟩ (by rw [hl]; omega)) rfl ?_
  rintro ⟨⟩ -
  refine OG.yield (Yield.move rfl) rfl ?_
  refine OG.yield (Yield.extract rfl rfl) rfl ?_
  refine OG.yield (Yield.extract rfl rfl) rfl ?_
  refine OG.yield (Yield.assign rfl) rfl ?_
  refine OG.yield (Yield.assign rfl) rfl ?_
  refine OG.nil ?_
  refine QG.then ?_
  refine CG.seq ?_
  refine CG.seq ?_
  refine CG.region ?_
  refine OG.yield (Yield.move rfl) rfl ?_
  refine OG.yield (by first | exact Yield.as (Yield.neq rfl rfl) (bT (by omega)) | exact Yield.as (Yield.neq rfl rfl) (bF (by omega)) | exact Yield.neq rfl rfl) rfl ?_
  refine OG.nil ?_
  refine QG.then ?_
  refine CG.cond_t rfl ?_
  refine CG.seq ?_
  refine CG.region ?_
  refine OG.yield (Yield.move rfl) rfl ?_
  refine OG.yield (Yield.assign rfl) rfl ?_
  refine OG.yield (Yield.assign rfl) rfl ?_
  refine OG.nil ?_
  refine QG.then ?_
  refine CG.ret ?_
  refine QG.pass_ret ?_
  exact QG.ret2 rfl rfl rfl () trivial rfl (by repeat (first | exact Imp.refl _ | exact Imp.none _ | apply Imp.pull (by repeat (first | exact Ext.here | apply Ext.there)) | apply Imp.trans Imp.drop))
theorem cnt_new {A : Ab} (G : Good n qs A σ) (h0 : A.hs = []) (hk : A.rt k = none) : cnt σ.own k = 0 := by
  have hz : ∀ (g : Nat → Bool) m, (∀ q, g q = false) → cN g m = 0 := fun g m hg => by
    induction m with
    | zero => rfl
    | succ m ih => simp [cN, ih, hg]
  have ht : ∀ q, (A.tb k q).isSome = false := fun q => by
    cases h : A.tb k q with
    | none => rfl
    | some y => obtain ⟨_, r, hr⟩ := G.rep.tb0 k q y h; rw [hk] at hr; cases hr
  have hp : ∀ q, (A.pg k q).isSome = false := fun q => by
    cases h : A.pg k q with
    | none => rfl
    | some y => obtain ⟨_, r, hr⟩ := G.rep.pg0 k q y h; rw [hk] at hr; cases hr
  rw [G.own.cnt k, hk, h0, hz _ 64 ht, hz _ 4096 hp]
  rfl
theorem new_ok (L : Lk n qs rt o c σ) (hq : ∀ q ∈ qs, 0 ≤ q ∧ q ≤ 1024) {qk : Int} (hqk : qs[k]? = some qk) (hk : rt k = none) (h0 : 0 < qk) : Ctr Try.prog W0 33 [.int .i64 k, .pointer (some ⟨m, 0, none⟩), .pointer (some ⟨f, 0, none⟩), .pointer (some ⟨t, 0, none⟩)] (WG m f t n qs σ Fr) (fun x : Nat × Nat × St => Lk n qs (fun k' => if k' = k then some x.2.1 else rt k') ⟨o.vw, o.ts, o.fr - 1⟩ c x.2.2) (fun x => .tuple #[.pointer (some ⟨x.1, 0, none⟩), .int .i64 0]) (fun x => WG m f t n qs x.2.2 (sb x.1 k x.2.1 m f t :: Fr)) := by
  obtain ⟨A, rfl, hh, G, rfl, hcc⟩ := L
  have hl := left_in (own := σ.own) hqk
  have hkl := (List.getElem?_eq_some_iff.1 hqk).1
  have hc0 := cnt_new G hh hk
  obtain ⟨q, h1, h2⟩ := free_frame G.inv hqk (by omega)
  have hqn : q < n := by rw [← G.ol]; exact (List.getElem?_eq_some_iff.1 h2).1
  obtain ⟨G2, e2⟩ := G.new hh hk h2 hqk (by omega)
  have L' := Lk.intro (c := c) G2 rfl hh e2 hcc
  refine Ctr.of_body Try.func33 rfl Try.ntmps33 rfl ?_
  refine CG.seq ?_
  refine CG.region ?_
  refine OG.yield (Yield.assign rfl) rfl ?_
  refine OG.yield (Yield.assign rfl) rfl ?_
  refine OG.nil ?_
  refine QG.then ?_
  refine CG.seq ?_
  refine CG.region ?_
  refine OG.yield (Yield.move rfl) rfl ?_
  refine OG.yield (Yield.move rfl) rfl ?_
  refine OG.callo call73 rfl ((by repeat (first | exact Imp.refl _ | exact Imp.none _ | apply Imp.pull (by repeat (first | exact Ext.here | apply Ext.there)) | apply Imp.trans Imp.drop))) (Fz.take_ok W0 _ (f := f) (own := σ.own) (qs := qs) (n := q) (k : Int) hq ⟨by omega, by omega⟩ (by rw [hl]; omega) h1) rfl ?_
  rintro ⟨⟩ -
  refine OG.yield (Yield.move rfl) rfl ?_
  refine OG.yield (Yield.extract rfl rfl) rfl ?_
  refine OG.yield (Yield.extract rfl rfl) rfl ?_
  refine OG.yield (Yield.assign rfl) rfl ?_
  refine OG.yield (Yield.assign rfl) rfl ?_
  refine OG.nil ?_
  refine QG.then ?_
  refine CG.seq ?_
  refine CG.seq ?_
  refine CG.region ?_
  refine OG.yield (Yield.move rfl) rfl ?_
  refine OG.yield (by first | exact Yield.as (Yield.neq rfl rfl) (bT (by omega)) | exact Yield.as (Yield.neq rfl rfl) (bF (by omega)) | exact Yield.neq rfl rfl) rfl ?_
  refine OG.nil ?_
  refine QG.then ?_
  refine CG.cond_f rfl ?_
  refine CG.skip ?_
  refine QG.then ?_
  refine CG.seq ?_
  refine CG.region ?_
  refine OG.yield (Yield.move rfl) rfl ?_
  refine OG.yield (Yield.move rfl) rfl ?_
  refine OG.callo call42 rfl ((by repeat (first | exact Imp.refl _ | exact Imp.none _ | apply Imp.pull (by repeat (first | exact Ext.here | apply Ext.there)) | apply Imp.trans Imp.drop))) (fill_ok W0 _ (m := m) (n := n) (k := q) (bs := σ.bs) (ws := []) (a := none) (c2 := 0) (RdB.of_slR SlR.nil (Nat.le_refl _)) hqn (by decide)) rfl ?_
  rintro ⟨⟩ -
  refine OG.nil ?_
  refine QG.then ?_
  refine CG.seq ?_
  refine CG.region ?_
  refine OG.yield (Yield.move rfl) rfl ?_
  refine OG.yield (Yield.move rfl) rfl ?_
  refine OG.yield (Yield.move rfl) rfl ?_
  refine OG.yield (Yield.move rfl) rfl ?_
  refine OG.yield (Yield.move rfl) rfl ?_
  refine OG.yield (Yield.build bu137 ti137 rfl (cells := [.int .i64 k, .int .i64 q, .pointer (some ⟨m, 0, none⟩), .pointer (some ⟨f, 0, none⟩), .pointer (some ⟨t, 0, none⟩)]) rfl) rfl ?_
  refine OG.effd (Eff.box rfl) rfl ?_
  rintro b30 -
  refine OG.yield (Yield.assign rfl) rfl ?_
  refine OG.yield (Yield.assign rfl) rfl ?_
  refine OG.nil ?_
  refine QG.then ?_
  refine CG.ret ?_
  exact QG.ret2 rfl rfl rfl (b30, q, _) L' rfl (by repeat (first | exact Imp.refl _ | exact Imp.none _ | apply Imp.pull (by repeat (first | exact Ext.here | apply Ext.there)) | apply Imp.trans Imp.drop))
set_option maxHeartbeats 4000000 in
theorem pages_of (L : Lk n qs rt o c σ) (hk : rt k = some r) : Ctr Try.prog W0 29 [.pointer (some ⟨s, 0, none⟩)] (WG m f t n qs σ (sb s k r m f t :: Fr)) (fun z : Option Addr × Nat × List PV => z.2.2.map PV.v = pvs o k) (fun z => .slice z.1 z.2.2.length z.2.1) (fun z => PVL z.1 z.2.1 z.2.2 ++ WG m f t n qs σ (sb s k r m f t :: Fr)) := by
  obtain ⟨A, rfl, hh, G, rfl, hcc⟩ := L
  obtain ⟨q1, q2, q3⟩ := pages_pv G hk 4096 (Nat.le_refl _)
  have hrn := G.rep.rlt hk
  have hle : (pages n σ.bs r).length ≤ 4096 := by
    have : (pagesTo n σ.bs r 4096).length ≤ 4096 := by rw [q2, pvTo_len]; exact cN_le _ _
    exact this
  refine Ctr.of_bodyM Try.func29 rfl Try.ntmps29 rfl ?_
  refine CG.seq ?_
  refine CG.region ?_
  refine OG.effd (Eff.box rfl) rfl ?_
  rintro b1 -
  refine OG.yield (Yield.assign rfl) rfl ?_
  refine OG.nil ?_
  refine QG.then ?_
  refine CG.seq ?_
  refine CG.region ?_
  refine OG.effd (Eff.alloc ti86) rfl ?_
  rintro b3 -
  refine OG.nil ?_
  refine QG.then ?_
  refine CG.seq ?_
  refine CG.seq ?_
  refine CG.draw (.look 0 1 (.look 1 1 (.look 2 1 (.look 3 1 (.look 4 1 (.look 5 1 (.look 6 1 (.look 7 1 (.eff1 8 false (.done)))))))))) [8] [] ([]) ([]) mixed (by kernel_rfl) (Imp.none _) (Imp.none _) ?_
  refine DG.look rfl rfl (Yield.load ti81 rfl (by first | exact Cel.of_blk (by repeat (first | exact Ext.here | apply Ext.there)) rfl | exact (hrow (by repeat (first | exact Ext.here | apply Ext.there))) _ _ rfl)) rfl ?_
  refine DG.look rfl rfl (Yield.nilCheck rfl) rfl ?_
  refine DG.look rfl rfl (Yield.fieldAddr fa137_2 rfl) rfl ?_
  refine DG.look rfl rfl (Yield.load ti24 rfl (by first | exact Cel.of_blk (by repeat (first | exact Ext.here | apply Ext.there)) rfl | exact (hrow (by repeat (first | exact Ext.here | apply Ext.there))) _ _ rfl)) rfl ?_
  refine DG.look rfl rfl (Yield.load ti81 rfl (by first | exact Cel.of_blk (by repeat (first | exact Ext.here | apply Ext.there)) rfl | exact (hrow (by repeat (first | exact Ext.here | apply Ext.there))) _ _ rfl)) rfl ?_
  refine DG.look rfl rfl (Yield.nilCheck rfl) rfl ?_
  refine DG.look rfl rfl (Yield.fieldAddr fa137_1 rfl) rfl ?_
  refine DG.look rfl rfl (Yield.load ti3 rfl (by first | exact Cel.of_blk (by repeat (first | exact Ext.here | apply Ext.there)) rfl | exact (hrow (by repeat (first | exact Ext.here | apply Ext.there))) _ _ rfl)) rfl ?_
  refine DG.eff1 ?_
  refine Chg.callo rfl rfl call14 rfl ((by repeat (first | exact Imp.refl _ | exact Imp.none _ | apply Imp.pull (by repeat (first | exact Ext.here | apply Ext.there)) | apply Imp.trans Imp.drop))) (Pg.pages_spec W0 _ (m := m) (root := (r : Int))) rfl (fun _ => (by repeat (first | exact Imp.refl _ | exact Imp.none _ | apply Imp.pull (by repeat (first | exact Ext.here | apply Ext.there)) | apply Imp.trans Imp.drop))) (fun _ => Imp.refl _) (fun _ => (by repeat (first | exact Imp.refl _ | exact Imp.none _ | apply Imp.pull (by repeat (first | exact Ext.here | apply Ext.there)) | apply Imp.trans Imp.drop))) ?_
  rintro ⟨bm, br⟩ -
  dsimp only
  refine DG.done ?_
  refine QG.then ?_
  refine CG.block ?_
  refine CG.range (ι := Empty) (pages n σ.bs r).length (pgEnc (pages n σ.bs r)) (fun _ => True) (fun i => i.elim) (fun j => PL b3 ((pvs (obs A σ) k).take j) :: blk br [.int .i64 r] 3 :: blk bm [.pointer (some ⟨m, 0, none⟩)] 24 :: blk b1 [.pointer (some ⟨s, 0, none⟩)] 81 :: WG m f t n qs σ (sb s k r m f t :: Fr)) (fun i => i.elim) rfl call44 rfl (fun _ => rfl) ?_ ?_ ?_ ?_ ?_
  · exact Imp.trans (B := PLO b3 (none, 0, []) ++ (blk br [.int .i64 r] 3 :: blk bm [.pointer (some ⟨m, 0, none⟩)] 24 :: blk b1 [.pointer (some ⟨s, 0, none⟩)] 81 :: WG m f t n qs σ (sb s k r m f t :: Fr))) (Imp.trans (B := blk b3 [.slice none 0 0] 86 :: blk br [.int .i64 r] 3 :: blk bm [.pointer (some ⟨m, 0, none⟩)] 24 :: blk b1 [.pointer (some ⟨s, 0, none⟩)] 81 :: WG m f t n qs σ (sb s k r m f t :: Fr)) (by repeat (first | exact Imp.refl _ | exact Imp.none _ | apply Imp.pull (by repeat (first | exact Ext.here | apply Ext.there)) | apply Imp.trans Imp.drop)) (Imp.cons (Imp.trans star_nil osl_nil))) (pl_close (none, 0, []) rfl)
  · intro D l q
    exact (pages_hit0 W0 (root := r) (m := m) (bm := bm) (br := br) hrn (Y := fun j => lrec l q .ready none :: dblk D :: PL b3 ((pvs (obs A σ) k).take j) :: blk b1 [.pointer (some ⟨s, 0, none⟩)] 81 :: Fz.F f σ.own qs :: Tl.T t σ.l σ.hand σ.hits σ.miss :: sb s k r m f t :: Fr) (Z := fun i : Empty => i.elim)).conv (fun _ => (by repeat (first | exact Imp.refl _ | exact Imp.none _ | apply Imp.pull (by repeat (first | exact Ext.here | apply Ext.there)) | apply Imp.trans Imp.drop))) (fun _ => (by repeat (first | exact Imp.refl _ | exact Imp.none _ | apply Imp.pull (by repeat (first | exact Ext.here | apply Ext.there)) | apply Imp.trans Imp.drop))) (fun i => i.elim) (fun i => i.elim)
  · intro D l q j hk'
    obtain ⟨⟨p, fr⟩, hpk⟩ : ∃ y, (pages n σ.bs r)[j]? = some y := ⟨_, List.getElem?_eq_getElem hk'⟩
    obtain ⟨x, hx, rfl, hp4, hpv⟩ := q3 j p fr hpk
    rw [pgEnc_at hpk]
    have hxn := G.plt hx
    have htk : (pvs (obs A σ) k).take (j + 1) = (pvs (obs A σ) k).take j ++ [(p, x.2, frB σ.bs x.1)] := by
      obtain ⟨hjl, hje⟩ := List.getElem?_eq_some_iff.1 hpv
      rw [List.take_succ_eq_append_getElem hjl, hje]
    refine CG.ex (A := PL b3 ((pvs (obs A σ) k).take j)) (by repeat (first | exact Ext.here | apply Ext.there)) pl_open ?_
    rintro ⟨pa, pc, pl⟩ hpl
    refine CG.imp star_open ?_
    dsimp only [PLO, List.cons_append, List.nil_append] at hpl ⊢
    have hll : pl.length ≤ 4096 := by have := congrArg List.length hpl; rw [List.length_map, List.length_take] at this; omega
    refine CG.seq ?_
    refine CG.region ?_
    refine OG.yield (Yield.assign rfl) rfl ?_
    refine OG.nil ?_
    refine QG.then ?_
    refine CG.region ?_
    refine OG.yield (Yield.assign rfl) rfl ?_
    refine OG.nil ?_
    refine QG.begin (by repeat (first | exact Ext.here | apply Ext.there)) ?_
    refine CG.block ?_
    refine CG.seq ?_
    refine CG.region ?_
    refine OG.yield (Yield.load ti81 rfl (by first | exact Cel.of_blk (by repeat (first | exact Ext.here | apply Ext.there)) rfl | exact (hrow (by repeat (first | exact Ext.here | apply Ext.there))) _ _ rfl)) rfl ?_
    refine OG.yield (Yield.nilCheck rfl) rfl ?_
    refine OG.yield (Yield.fieldAddr fa137_2 rfl) rfl ?_
    refine OG.yield (Yield.load ti24 rfl (by first | exact Cel.of_blk (by repeat (first | exact Ext.here | apply Ext.there)) rfl | exact (hrow (by repeat (first | exact Ext.here | apply Ext.there))) _ _ rfl)) rfl ?_
    refine OG.yield (Yield.move rfl) rfl ?_
    refine OG.callo call59 rfl ((by repeat (first | exact Imp.refl _ | exact Imp.none _ | apply Imp.pull (by repeat (first | exact Ext.here | apply Ext.there)) | apply Imp.trans Imp.drop))) (frame_ok W0 _ (m := m) (n := n) (k := x.1) (bs := σ.bs) hxn) rfl ?_
    rintro bf -
    refine OG.yield (Yield.move rfl) rfl ?_
    refine OG.yield (Yield.extract rfl rfl) rfl ?_
    refine OG.yield (Yield.extract rfl rfl) rfl ?_
    refine OG.yield (Yield.assign rfl) rfl ?_
    refine OG.yield (Yield.assign rfl) rfl ?_
    refine OG.nil ?_
    refine QG.then ?_
    refine CG.draw (.look 0 2 (.look 1 0 (.look 2 1 (.look 3 1 (.look 5 0 (.eff1 4 false (.look 6 1 (.eff1 7 false (.eff1 8 true (.eff1 9 false (.done))))))))))) [4, 7, 8, 9] [0] ([]) ([blk b3 [.slice pa pl.length pc] 86]) mixed (by kernel_rfl) (Imp.none _) (by repeat (first | exact Imp.refl _ | exact Imp.none _ | apply Imp.pull (by repeat (first | exact Ext.here | apply Ext.there)) | apply Imp.trans Imp.drop)) ?_
    refine DG.look rfl rfl (Yield.load ti86 rfl (by first | exact Cel.of_blk (by repeat (first | exact Ext.here | apply Ext.there)) rfl | exact (hrow (by repeat (first | exact Ext.here | apply Ext.there))) _ _ rfl)) rfl ?_
    refine DG.look rfl rfl (Yield.move rfl) rfl ?_
    refine DG.look rfl rfl (Yield.load ti81 rfl (by first | exact Cel.of_blk (by repeat (first | exact Ext.here | apply Ext.there)) rfl | exact (hrow (by repeat (first | exact Ext.here | apply Ext.there))) _ _ rfl)) rfl ?_
    refine DG.look rfl rfl (Yield.move rfl) rfl ?_
    refine DG.look rfl rfl (Yield.move rfl) rfl ?_
    refine DG.eff1 ?_
    refine Chg.callo rfl rfl call70 rfl ((by repeat (first | exact Imp.refl _ | exact Imp.none _ | apply Imp.pull (by repeat (first | exact Ext.here | apply Ext.there)) | apply Imp.trans Imp.drop))) (perm_spec W0 _ (s := s) (m := m) (f := f) (t := t) (qs := qs) (σ := σ) G.rep hk (p : Int)) rfl (fun _ => (by repeat (first | exact Imp.refl _ | exact Imp.none _ | apply Imp.pull (by repeat (first | exact Ext.here | apply Ext.there)) | apply Imp.trans Imp.drop))) (fun _ => Imp.refl _) (fun _ => (by repeat (first | exact Imp.refl _ | exact Imp.none _ | apply Imp.pull (by repeat (first | exact Ext.here | apply Ext.there)) | apply Imp.trans Imp.drop))) ?_
    rintro ⟨⟩ -
    rw [vp_in hp4, hx]
    dsimp only
    refine DG.look rfl rfl (Yield.build (pvs := [(0, .int .i64 p), (1, .int .i64 x.2), (2, .slice (some ⟨bf, 0, none⟩) (frB σ.bs x.1).length 256)]) bu89 ti89 rfl (cells := PV.cells ⟨p, x.2, some ⟨bf, 0, none⟩, 256, frB σ.bs x.1⟩) rfl) rfl ?_
    refine DG.eff1 ?_
    refine Chg.eff rfl rfl (Eff.lit [.tmp 34] (vs := [.agg (PV.cells ⟨p, x.2, some ⟨bf, 0, none⟩, 256, frB σ.bs x.1⟩).toArray]) (cells := PV.cells ⟨p, x.2, some ⟨bf, 0, none⟩, 256, frB σ.bs x.1⟩) Try.underlying86 ti89 rfl rfl rfl rfl (by decide) (by simp [Value.cells, PV.cells]) (by simp [Value.cells])) rfl (fun _ => (by repeat (first | exact Imp.refl _ | exact Imp.none _ | apply Imp.pull (by repeat (first | exact Ext.here | apply Ext.there)) | apply Imp.trans Imp.drop))) (fun _ => Imp.refl _) (fun _ => (by repeat (first | exact Imp.refl _ | exact Imp.none _ | apply Imp.pull (by repeat (first | exact Ext.here | apply Ext.there)) | apply Imp.trans Imp.drop))) ?_
    rintro b35 -
    refine DG.eff1 ?_
    refine Chg.eff rfl rfl (Eff.append (a := pa) (c := pc) (m := pl.length) (xs := (pl.map PV.cells).flatten) (k := 1) (ys := PV.cells ⟨p, x.2, some ⟨bf, 0, none⟩, 256, frB σ.bs x.1⟩) rfl rfl rfl Try.underlying86 Try.underlying86 ti89 rfl (by decide) (by repeat (first | exact Foc.here | apply Foc.there)) (SlR.of_osl (a := some ⟨b35, 0, none⟩) (by repeat (first | exact Ext.here | apply Ext.there))) (PV.ones _) (by omega)) rfl (fun _ => (by repeat (first | exact Imp.refl _ | exact Imp.none _ | apply Imp.pull (by repeat (first | exact Ext.here | apply Ext.there)) | apply Imp.trans Imp.drop))) (fun _ => Imp.refl _) (fun _ => (by repeat (first | exact Imp.refl _ | exact Imp.none _ | apply Imp.pull (by repeat (first | exact Ext.here | apply Ext.there)) | apply Imp.trans Imp.drop))) ?_
    rintro ⟨pa2, pc2⟩ -
    refine DG.eff1 ?_
    refine Chg.eff rfl rfl (Eff.store1 ti86 rfl rfl (by repeat (first | exact Foc.here | apply Foc.there)) rfl (by first | (simp; done) | decide)) rfl (fun _ => (by repeat (first | exact Imp.refl _ | exact Imp.none _ | apply Imp.pull (by repeat (first | exact Ext.here | apply Ext.there)) | apply Imp.trans Imp.drop))) (fun _ => Imp.refl _) (fun _ => (by repeat (first | exact Imp.refl _ | exact Imp.none _ | apply Imp.pull (by repeat (first | exact Ext.here | apply Ext.there)) | apply Imp.trans Imp.drop))) ?_
    rintro ⟨⟩ -
    refine DG.done ?_
    refine QG.block_normal ?_
    refine QG.round_next (by repeat (first | exact Ext.here | apply Ext.there)) ?_
    refine Imp.trans (B := PLO b3 (pa2, pc2, pl ++ [⟨p, x.2, some ⟨bf, 0, none⟩, 256, frB σ.bs x.1⟩]) ++ (lrec l q .ready none :: dblk D :: blk br [.int .i64 r] 3 :: blk bm [.pointer (some ⟨m, 0, none⟩)] 24 :: blk b1 [.pointer (some ⟨s, 0, none⟩)] 81 :: WG m f t n qs σ (sb s k r m f t :: Fr))) ?_ (Imp.trans (pl_close (l := (pvs (obs A σ) k).take (j + 1)) _ (by rw [htk, ← hpl]; simp [PV.v])) (by repeat (first | exact Imp.refl _ | exact Imp.none _ | apply Imp.pull (by repeat (first | exact Ext.here | apply Ext.there)) | apply Imp.trans Imp.drop)))
    rw [show PLO b3 (pa2, pc2, pl ++ [⟨p, x.2, some ⟨bf, 0, none⟩, 256, frB σ.bs x.1⟩]) = [blk b3 [.slice pa2 (pl.length + 1) pc2] 86, osl 89 3 pa2 pc2 (pl.length + 1) ((pl.map PV.cells).flatten ++ PV.cells ⟨p, x.2, some ⟨bf, 0, none⟩, 256, frB σ.bs x.1⟩), Star ((pl.map fun x => oby 152 x.a x.c x.b) ++ [oby 152 (some ⟨bf, 0, none⟩) 256 (frB σ.bs x.1)])] by simp [PLO]]
    refine Imp.trans (B := oby 152 (some ⟨bf, 0, none⟩) 256 (frB σ.bs x.1) :: Star (pl.map fun x => oby 152 x.a x.c x.b) :: blk b3 [.slice pa2 (pl.length + 1) pc2] 86 :: osl 89 3 pa2 pc2 (pl.length + 1) ((pl.map PV.cells).flatten ++ PV.cells ⟨p, x.2, some ⟨bf, 0, none⟩, 256, frB σ.bs x.1⟩) :: lrec l q .ready none :: dblk D :: blk br [.int .i64 r] 3 :: blk bm [.pointer (some ⟨m, 0, none⟩)] 24 :: blk b1 [.pointer (some ⟨s, 0, none⟩)] 81 :: WG m f t n qs σ (sb s k r m f t :: Fr)) (by repeat (first | exact Imp.refl _ | exact Imp.none _ | apply Imp.pull (by repeat (first | exact Ext.here | apply Ext.there)) | apply Imp.trans Imp.drop)) (Imp.trans star_add (by repeat (first | exact Imp.refl _ | exact Imp.none _ | apply Imp.pull (by repeat (first | exact Ext.here | apply Ext.there)) | apply Imp.trans Imp.drop)))
  · intro D
    rw [show (pvs (obs A σ) k).take (pages n σ.bs r).length = pvs (obs A σ) k from List.take_of_length_le (by show (pvTo (obs A σ) k 4096).length ≤ (pagesTo n σ.bs r 4096).length; omega)]
    refine QG.block_normal ?_
    refine QG.then ?_
    refine CG.seq ?_
    refine CG.ex (A := PL b3 (pvs (obs A σ) k)) (by repeat (first | exact Ext.here | apply Ext.there)) pl_open ?_
    rintro ⟨pa, pc, pl⟩ hpl
    refine CG.imp star_open ?_
    dsimp only [PLO, List.cons_append, List.nil_append] at hpl ⊢
    refine CG.region ?_
    refine OG.yield (Yield.load ti86 rfl (by first | exact Cel.of_blk (by repeat (first | exact Ext.here | apply Ext.there)) rfl | exact (hrow (by repeat (first | exact Ext.here | apply Ext.there))) _ _ rfl)) rfl ?_
    refine OG.yield (Yield.assign rfl) rfl ?_
    refine OG.nil ?_
    refine QG.then ?_
    refine CG.ret ?_
    refine QG.mark1 (.inl rfl) (by repeat (first | exact Ext.here | apply Ext.there)) ?_
    exact QG.ret1 rfl rfl (pa, pc, pl) hpl rfl (by repeat (first | exact Imp.refl _ | exact Imp.none _ | apply Imp.pull (by repeat (first | exact Ext.here | apply Ext.there)) | apply Imp.trans Imp.drop))
  · intro D i
    exact i.elim
end
end Go.Proofs.Ytmlfcfbblfcpdaa.Sp
