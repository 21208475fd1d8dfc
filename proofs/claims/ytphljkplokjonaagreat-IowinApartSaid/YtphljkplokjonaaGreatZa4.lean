/- Rules for steps of the model, and what functions of the program do. -/
import Derived.Test.YtphljkplokjonaaGreatZa3
import Derived.Test.YtphljkplokjonaaGreatRows
set_option linter.unusedVariables false
set_option linter.unusedSimpArgs false
set_option linter.unusedSectionVars false
set_option maxRecDepth 100000
namespace Go.Proofs.YtphljkplokjonaaGreat.Sp
open Go Go.Sl Go.RowKit Go.Proofs Go.Proofs.YtphljkplokjonaaGreat.T Go.Proofs.YtphljkplokjonaaGreat.Me Go.Proofs.YtphljkplokjonaaGreat.Pe Go.Proofs.YtphljkplokjonaaGreat.Pg Tryz
open Go.Proofs.YtphljkplokjonaaGreat.Fz (cnt cnt_set inv_take free_frame isP left left_in)
open Go.Proofs.YtphljkplokjonaaGreat.Tl (Slot hitB putL put_cases)
def pvTo (o : Ob) (k : Nat) : Nat → List (Nat × Nat × List UInt8)
 | 0 => []
 | p + 1 => pvTo o k p ++ match o.vw k p with | some x => [(p, x.1, x.2)] | none => []
abbrev pvs (o : Ob) (k : Nat) : List (Nat × Nat × List UInt8) := pvTo o k 4096
structure PV where
 p : Nat
 pm : Nat
 a : Option Addr
 c : Nat
 b : List UInt8
def PV.v (x : PV) : Nat × Nat × List UInt8 := (x.p, x.pm, x.b)
def PV.cells (x : PV) : List Value := [.int .i64 x.p, .int .i64 x.pm, .slice x.a x.b.length x.c]
theorem PV.len (x : PV) : x.cells.length = 3 := rfl
theorem PV.ones (x : PV) : ∀ v ∈ x.cells, one v = true := by simp [PV.cells, one]
abbrev PVL (a : Option Addr) (c : Nat) (l : List PV) : List HProp := [osl 180 3 a c l.length ((l.map PV.cells).flatten), Star (l.map fun x => oby 261 x.a x.c x.b)]
abbrev PLO (b : Nat) (z : Option Addr × Nat × List PV) : List HProp := [blk b [.slice z.1 z.2.2.length z.2.1] 36, osl 180 3 z.1 z.2.1 z.2.2.length ((z.2.2.map PV.cells).flatten), Star (z.2.2.map fun x => oby 261 x.a x.c x.b)]
def PL (b : Nat) (l : List (Nat × Nat × List UInt8)) : HProp := fun h => ∃ z : Option Addr × Nat × List PV, z.2.2.map PV.v = l ∧ Star (PLO b z) h
theorem pl_open {b : Nat} {l : List (Nat × Nat × List UInt8)} (y : Heaplet) (h : PL b l y) : ∃ z, z.2.2.map PV.v = l ∧ Star (PLO b z) y := h
theorem pl_close {b : Nat} {l : List (Nat × Nat × List UInt8)} {G : List HProp} (z : Option Addr × Nat × List PV) (hl : z.2.2.map PV.v = l) : Imp (PLO b z ++ G) (PL b l :: G) :=
 Imp.trans star_close (Imp.head fun y hy => ⟨z, hl, hy⟩)
theorem pvTo_len (o : Ob) (k : Nat) : ∀ p, (pvTo o k p).length = cN (fun q => (o.vw k q).isSome) p
 | 0 => rfl
 | p + 1 => by unfold pvTo cN; rw [List.length_append, pvTo_len o k p]; cases o.vw k p <;> rfl
theorem pages_pv {n : Nat} {qs : List Int} {A : Ab} {σ : St} {k r : Nat} (G : Good n qs A σ) (hk : A.rt k = some r) : ∀ p, p ≤ 4096 → (pagesTo n σ.bs r p).map (·.1) = (pvTo (obs A σ) k p).map (·.1) ∧ (pagesTo n σ.bs r p).length = (pvTo (obs A σ) k p).length ∧ ∀ (j q : Nat) (f : Int), (pagesTo n σ.bs r p)[j]? = some (q, f) → ∃ x, A.pg k q = some x ∧ f = (x.1 : Int) ∧ q < 4096 ∧ (pvTo (obs A σ) k p)[j]? = some (q, x.2, frB σ.bs x.1)
 | 0, _ => ⟨rfl, rfl, fun j q f h => by cases h⟩
 | p + 1, hp => by
  obtain ⟨h1, h2, h3⟩ := pages_pv G hk p (by omega)
  have e := (G.rep.tree k r hk).2.2 p (by omega)
  rw [pagesTo, pl_wk, e]
  unfold pvTo
  rw [vw_obs]
  cases hx : A.pg k p with
  | none => simp only [Option.map_none, List.append_nil]; exact ⟨h1, h2, h3⟩
  | some x =>
   simp only [Option.map_some]
   refine ⟨by simp [h1], by simp [h2], fun j q f hj => ?_⟩
   rcases Nat.lt_or_ge j (pagesTo n σ.bs r p).length with hlt | hge
   ·rw [List.getElem?_append_left hlt] at hj
    obtain ⟨y, y1, y2, y3, y4⟩ := h3 j q f hj
    exact ⟨y, y1, y2, y3, by rw [List.getElem?_append_left (by omega)]; exact y4⟩
   ·rw [List.getElem?_append_right hge] at hj
    have hj0 : j - (pagesTo n σ.bs r p).length = 0 := by
     cases hd : j - (pagesTo n σ.bs r p).length with
     | zero => rfl
     | succ i => rw [hd] at hj; cases hj
    rw [hj0] at hj
    simp only [List.getElem?_cons_zero, Option.some.injEq, Prod.mk.injEq] at hj
    obtain ⟨rfl, rfl⟩ := hj
    exact ⟨x, hx, rfl, by omega, by rw [List.getElem?_append_right (by omega), show j - (pvTo (obs A σ) k p).length = 0 by omega]; rfl⟩
section
variable (W0 : World) (Fr : List HProp)
variable {n : Nat} {qs : List Int} {rt : Nat → Option Nat} {o : Ob} {c : Nat} {σ : St} {k r s m f t : Nat}
theorem cnt_new {A : Ab} (G : Good n qs A σ) (h0 : A.hs = []) (hk : A.rt k = none) : cnt σ.own k = 0 := by
 have hz : ∀ (g : Nat → Bool) m, (∀ q, g q = false) → cN g m = 0 := fun g m hg => by
  induction m with
  | zero => rfl
  | succ m ih => simp [cN, ih, hg]
 have ht : ∀ q, (A.tb k q).isSome = false := fun q => by
  cases h : A.tb k q with
  | none => rfl
  | some y => obtain ⟨_, r, hr⟩ := G.rep.tb0 k q y h; rw [hk] at hr; cases hr
 have hp : ∀ q, (A.pg k q).isSome = false := fun q => by
  cases h : A.pg k q with
  | none => rfl
  | some y => obtain ⟨_, r, hr⟩ := G.rep.pg0 k q y h; rw [hk] at hr; cases hr
 rw [G.own.cnt k, hk, h0, hz _ 64 ht, hz _ 4096 hp]
 rfl
theorem new_ok (L : Lk n qs rt o c σ) (hq : ∀ q ∈ qs, 0 ≤ q ∧ q ≤ 1024) {qk : Int} (hqk : qs[k]? = some qk) (hk : rt k = none) (h0 : 0 < qk) : Ctr prog W0 53 [.int .i64 k, .pointer (some ⟨m, 0, none⟩), .pointer (some ⟨f, 0, none⟩), .pointer (some ⟨t, 0, none⟩)] (WG m f t n qs σ Fr) (fun x : Nat × Nat × St => Lk n qs (fun k' => if k' = k then some x.2.1 else rt k') ⟨o.vw, o.ts, o.fr - 1⟩ c x.2.2) (fun x => .tuple #[.pointer (some ⟨x.1, 0, none⟩), .int .i64 0]) (fun x => WG m f t n qs x.2.2 (sb x.1 k x.2.1 m f t :: Fr)) := by
 obtain ⟨A, rfl, hh, G, rfl, hcc⟩ := L
 have hl := left_in (own := σ.own) hqk
 have hkl := (List.getElem?_eq_some_iff.1 hqk).1
 have hc0 := cnt_new G hh hk
 obtain ⟨q, h1, h2⟩ := free_frame G.inv hqk (by omega)
 have hqn : q < n := by rw [← G.ol]; exact (List.getElem?_eq_some_iff.1 h2).1
 obtain ⟨G2, e2⟩ := G.new hh hk h2 hqk (by omega)
 have L' := Lk.intro (c := c) G2 J hh e2 hcc
 refine Ctr.of_body func53 J ntmps53 J (eZ (aZ (gZ J (gZ J (fZ (bZ (eZ (aZ (dZ J (dZ J (oZ call122 J (iM) (Fz.take_ok W0 _ (f := f) (own := σ.own) (qs := qs) (n := q) (k : Int) hq ⟨by omega, by omega⟩ (by rw [hl]; omega) h1) J ?_)))))))))))
 rintro ⟨⟩ -
 refine dZ J (cZ (uZ J J) (cZ (uZ J J) (gZ J (gZ J (fZ (bZ (eZ (eZ (aZ (dZ J (cZ nQ ?_)))))))))))
 refine fZ (bZ (qZ J (wZ (bZ (eZ (aZ (dZ J (dZ J (oZ call90 J (iM) (fill_ok W0 _ (m := m) (n := n) (k := q) (bs := σ.bs) (ws := []) (a := none) (c2 := 0) (RdB.of_slR SlR.nil (Nat.le_refl _)) hqn (by decide)) J ?_)))))))))
 rintro ⟨⟩ -
 refine fZ (bZ (eZ (aZ (dZ J (dZ J (dZ J (dZ J (dZ J (cZ (xQ bu166 ti166 J (cells := [.int .i64 k, .int .i64 q, .pointer (some ⟨m, 0, none⟩), .pointer (some ⟨f, 0, none⟩), .pointer (some ⟨t, 0, none⟩)]) J) (jQ (sX J) J ?_))))))))))
 rintro b30 -
 exact gZ J (gZ J (fZ (bZ (tZ (pX J J J (b30, q, _) L' J iM)))))
set_option maxHeartbeats 4000000 in
theorem pages_of (L : Lk n qs rt o c σ) (hk : rt k = some r) : Ctr prog W0 41 [.pointer (some ⟨s, 0, none⟩)] (WG m f t n qs σ (sb s k r m f t :: Fr)) (fun z : Option Addr × Nat × List PV => z.2.2.map PV.v = pvs o k) (fun z => .slice z.1 z.2.2.length z.2.1) (fun z => PVL z.1 z.2.1 z.2.2 ++ WG m f t n qs σ (sb s k r m f t :: Fr)) := by
 obtain ⟨A, rfl, hh, G, rfl, hcc⟩ := L
 obtain ⟨q1, q2, q3⟩ := pages_pv G hk 4096 (Nat.le_refl _)
 have hrn := G.rep.rlt hk
 have hle : (pages n σ.bs r).length ≤ 4096 := by
  have : (pagesTo n σ.bs r 4096).length ≤ 4096 := by rw [q2, pvTo_len]; exact cN_le _ _
  exact this
 refine Ctr.of_bodyM func41 J ntmps41 J (eZ (aZ (jQ (sX J) J ?_)))
 rintro b1 -
 refine gZ J (fZ (bZ (eZ (aZ (jQ (lX ti36) J ?_)))))
 rintro b3 -
 refine fZ (bZ (eZ (eZ (sQ (.lo 0 1 (.lo 1 1 (.lo 2 1 (.lo 3 1 (.lo 4 1 (.lo 5 1 (.lo 6 1 (.lo 7 1 (.eff1 8 false (.done)))))))))) [8] [] ([]) ([]) mixed (by kernel_rfl) (Imp.none _) (Imp.none _) (kZ J (rZ ti53 J) ?_)))))
 refine rQ J J (aQ J fa166_2 J (kZ J (rZ ti111 J) ?_))
 refine kZ J (rZ ti53 J) ?_
 refine rQ J J (aQ J fa166_1 J (kZ J (rZ ti3 J) ?_))
 refine zZ (kQ J J call93 J (iM) (Pg.pages_spec W0 _ (m := m) (root := (r : Int))) J (fun _ => iM) (fun _ => Imp.refl _) (fun _ => iM) ?_)
 rintro ⟨bm, br⟩ -
 dsimp only
 refine qQ (bZ (fQ (CG.range (ι := Empty) (pages n σ.bs r).length (pgEnc (pages n σ.bs r)) (fun _ => True) (fun i => i.elim) (fun j => PL b3 ((pvs (obs A σ) k).take j) :: blk br [.int .i64 r] 3 :: blk bm [.pointer (some ⟨m, 0, none⟩)] 111 :: blk b1 [.pointer (some ⟨s, 0, none⟩)] 53 :: WG m f t n qs σ (sb s k r m f t :: Fr)) (fun i => i.elim) J call148 J (fun _ => rfl) ?_ ?_ ?_ ?_ ?_)))
 ·exact Imp.trans (B := PLO b3 (none, 0, []) ++ (blk br [.int .i64 r] 3 :: blk bm [.pointer (some ⟨m, 0, none⟩)] 111 :: blk b1 [.pointer (some ⟨s, 0, none⟩)] 53 :: WG m f t n qs σ (sb s k r m f t :: Fr))) (Imp.trans (B := blk b3 [.slice none 0 0] 36 :: blk br [.int .i64 r] 3 :: blk bm [.pointer (some ⟨m, 0, none⟩)] 111 :: blk b1 [.pointer (some ⟨s, 0, none⟩)] 53 :: WG m f t n qs σ (sb s k r m f t :: Fr)) iM (Imp.cons (Imp.trans star_nil osl_nil))) (pl_close (none, 0, []) J)
 ·intro D l q
  exact (pages_hit0 W0 (root := r) (m := m) (bm := bm) (br := br) hrn (Y := fun j => lrec l q .ready none :: dblk D :: PL b3 ((pvs (obs A σ) k).take j) :: blk b1 [.pointer (some ⟨s, 0, none⟩)] 53 :: Fz.F f σ.own qs :: Tl.T t σ.l σ.hand σ.hits σ.miss :: sb s k r m f t :: Fr) (Z := fun i : Empty => i.elim)).conv (fun _ => iM) (fun _ => iM) (fun i => i.elim) (fun i => i.elim)
 ·intro D l q j hk'
  obtain ⟨⟨p, fr⟩, hpk⟩ : ∃ y, (pages n σ.bs r)[j]? = some y := ⟨_, List.getElem?_eq_getElem hk'⟩
  obtain ⟨x, hx, rfl, hp4, hpv⟩ := q3 j p fr hpk
  rw [pgEnc_at hpk]
  have hxn := G.plt hx
  have htk : (pvs (obs A σ) k).take (j + 1) = (pvs (obs A σ) k).take j ++ [(p, x.2, frB σ.bs x.1)] := by
   obtain ⟨hjl, hje⟩ := List.getElem?_eq_some_iff.1 hpv
   rw [List.take_succ_eq_append_getElem hjl, hje]
  refine CG.ex (A := PL b3 ((pvs (obs A σ) k).take j)) eX pl_open ?_
  rintro ⟨pa, pc, pl⟩ hpl
  refine mX star_open ?_
  dsimp only [PLO, List.cons_append, List.nil_append] at hpl ⊢
  have hll : pl.length ≤ 4096 := by have := congrArg List.length hpl; rw [List.length_map, List.length_take] at this; omega
  refine eZ (aZ (gZ J (fZ (bZ (aZ (gZ J (fZ (QG.begin eX ?_))))))))
  refine fQ (eZ (aZ (cZ (rZ ti53 J) ?_)))
  refine cQ J (pZ fa166_2 J (cZ (rZ ti111 J) ?_))
  refine dZ J (oZ call87 J (iM) (frame_ok W0 _ (m := m) (n := n) (k := x.1) (bs := σ.bs) hxn) J ?_)
  rintro bf -
  refine dZ J (cZ (uZ J J) (cZ (uZ J J) (gZ J (gZ J (fZ (bZ (sQ (.lo 0 2 (.lo 1 0 (.lo 2 1 (.lo 3 1 (.lo 5 0 (.eff1 4 false (.lo 6 1 (.eff1 7 false (.eff1 8 true (.eff1 9 false (.done))))))))))) [4, 7, 8, 9] [0] ([]) ([blk b3 [.slice pa pl.length pc] 36]) mixed (by kernel_rfl) (Imp.none _) iM ?_)))))))
  refine kZ J (rZ ti36 J) ?_
  refine mZ J J (kZ J (rZ ti53 J) ?_)
  refine mZ J J (mZ J J (zZ (kQ J J call29 J (iM) (perm_spec W0 _ (s := s) (m := m) (f := f) (t := t) (qs := qs) (σ := σ) G.rep hk (p : Int)) J (fun _ => iM) (fun _ => Imp.refl _) (fun _ => iM) ?_)))
  rintro ⟨⟩ -
  rw [vp_in hp4, hx]
  dsimp only
  refine kZ J (xQ (pvs := [(0, .int .i64 p), (1, .int .i64 x.2), (2, .slice (some ⟨bf, 0, none⟩) (frB σ.bs x.1).length 256)]) bu180 ti180 J (cells := PV.cells ⟨p, x.2, some ⟨bf, 0, none⟩, 256, frB σ.bs x.1⟩) J) (zZ (vQ J J (wX [.tmp 34] (vs := [.agg (PV.cells ⟨p, x.2, some ⟨bf, 0, none⟩, 256, frB σ.bs x.1⟩).toArray]) (cells := PV.cells ⟨p, x.2, some ⟨bf, 0, none⟩, 256, frB σ.bs x.1⟩) underlying36 ti180 J J J J (by decide) (by simp [Value.cells, PV.cells]) (by simp [Value.cells])) J (fun _ => iM) (fun _ => Imp.refl _) (fun _ => iM) ?_))
  rintro b35 -
  refine zZ (vQ J J (nX (a := pa) (c := pc) (m := pl.length) (xs := (pl.map PV.cells).flatten) (k := 1) (ys := PV.cells ⟨p, x.2, some ⟨bf, 0, none⟩, 256, frB σ.bs x.1⟩) J J J underlying36 underlying36 ti180 J (by decide) fC (SlR.of_osl (a := some ⟨b35, 0, none⟩) eX) (PV.ones _) (by omega)) J (fun _ => iM) (fun _ => Imp.refl _) (fun _ => iM) ?_)
  rintro ⟨pa2, pc2⟩ -
  refine zZ (vQ J J (aX ti36 J J fC J (by first | (simp; done) | decide)) J (fun _ => iM) (fun _ => Imp.refl _) (fun _ => iM) ?_)
  rintro ⟨⟩ -
  refine qQ (sZ (QG.round_next eX ?_))
  refine Imp.trans (B := PLO b3 (pa2, pc2, pl ++ [⟨p, x.2, some ⟨bf, 0, none⟩, 256, frB σ.bs x.1⟩]) ++ (lrec l q .ready none :: dblk D :: blk br [.int .i64 r] 3 :: blk bm [.pointer (some ⟨m, 0, none⟩)] 111 :: blk b1 [.pointer (some ⟨s, 0, none⟩)] 53 :: WG m f t n qs σ (sb s k r m f t :: Fr))) ?_ (Imp.trans (pl_close (l := (pvs (obs A σ) k).take (j + 1)) _ (by rw [htk, ← hpl]; simp [PV.v])) iM)
  rw [show PLO b3 (pa2, pc2, pl ++ [⟨p, x.2, some ⟨bf, 0, none⟩, 256, frB σ.bs x.1⟩]) = [blk b3 [.slice pa2 (pl.length + 1) pc2] 36, osl 180 3 pa2 pc2 (pl.length + 1) ((pl.map PV.cells).flatten ++ PV.cells ⟨p, x.2, some ⟨bf, 0, none⟩, 256, frB σ.bs x.1⟩), Star ((pl.map fun x => oby 261 x.a x.c x.b) ++ [oby 261 (some ⟨bf, 0, none⟩) 256 (frB σ.bs x.1)])] by simp [PLO]]
  refine Imp.trans (B := oby 261 (some ⟨bf, 0, none⟩) 256 (frB σ.bs x.1) :: Star (pl.map fun x => oby 261 x.a x.c x.b) :: blk b3 [.slice pa2 (pl.length + 1) pc2] 36 :: osl 180 3 pa2 pc2 (pl.length + 1) ((pl.map PV.cells).flatten ++ PV.cells ⟨p, x.2, some ⟨bf, 0, none⟩, 256, frB σ.bs x.1⟩) :: lrec l q .ready none :: dblk D :: blk br [.int .i64 r] 3 :: blk bm [.pointer (some ⟨m, 0, none⟩)] 111 :: blk b1 [.pointer (some ⟨s, 0, none⟩)] 53 :: WG m f t n qs σ (sb s k r m f t :: Fr)) iM (Imp.trans star_add iM)
 ·intro D
  rw [show (pvs (obs A σ) k).take (pages n σ.bs r).length = pvs (obs A σ) k from List.take_of_length_le (by show (pvTo (obs A σ) k 4096).length ≤ (pagesTo n σ.bs r 4096).length; omega)]
  refine sZ (bZ (eZ (CG.ex (A := PL b3 (pvs (obs A σ) k)) eX pl_open ?_)))
  rintro ⟨pa, pc, pl⟩ hpl
  refine mX star_open ?_
  dsimp only [PLO, List.cons_append, List.nil_append] at hpl ⊢
  refine aZ (cZ (rZ ti36 J) ?_)
  refine gZ J (fZ (bZ (tZ (QG.mark1 (.inl J) eX ?_))))
  exact xZ J J (pa, pc, pl) hpl J iM
 ·intro D i
  exact i.elim
end
end Go.Proofs.YtphljkplokjonaaGreat.Sp
namespace Go.Proofs.YtphljkplokjonaaGreat.Sp
open Go Go.Sl Go.RowKit Go.Proofs Go.Proofs.YtphljkplokjonaaGreat.T Go.Proofs.YtphljkplokjonaaGreat.Me Go.Proofs.YtphljkplokjonaaGreat.Pe Go.Proofs.YtphljkplokjonaaGreat.Pg
open Go.Proofs.YtphljkplokjonaaGreat.Fz (cnt cnt_set inv_take free_frame isP left left_in iv iv_len iv_get iv_set iv_ones oiv nerr nerr_ok inv_new)
open Go.Proofs.YtphljkplokjonaaGreat.Tl (Slot hitB putL put_cases)
theorem Lk.mono {n : Nat} {qs : List Int} {rt : Nat → Option Nat} {o : Ob} {c d : Nat} {σ : St} (L : Lk n qs rt o c σ) (h : c ≤ d) : Lk n qs rt o d σ := by
 obtain ⟨A, h1, h2, h3, h4, h5⟩ := L; exact ⟨A, h1, h2, h3, h4, Nat.le_trans h5 h⟩
theorem cN_zero (m : Nat) : cN (fun _ => false) m = 0 := by
 induction m with
 | zero => rfl
 | succ m ih => simp [cN, ih]
section
variable (W0 : World) (Fr : List HProp)
variable {n : Nat} {qs : List Int} {rt : Nat → Option Nat} {o : Ob} {c : Nat} {σ : St} {k r s m f t : Nat}
end
end Go.Proofs.YtphljkplokjonaaGreat.Sp
namespace Go.Proofs.YtphljkplokjonaaGreat.Sp
open Go Go.Sl Go.RowKit Go.Proofs Go.Proofs.YtphljkplokjonaaGreat.T Go.Proofs.YtphljkplokjonaaGreat.Me Go.Proofs.YtphljkplokjonaaGreat.Pe Go.Proofs.YtphljkplokjonaaGreat.Pg
end Go.Proofs.YtphljkplokjonaaGreat.Sp
namespace Go.Proofs.YtphljkplokjonaaGreat.Sp
open Go Go.Sl Go.RowKit Go.Proofs Go.Proofs.YtphljkplokjonaaGreat.T
end Go.Proofs.YtphljkplokjonaaGreat.Sp
namespace Go.Proofs.YtphljkplokjonaaGreat.Sp
open Go Go.Sl Go.RowKit Go.Proofs Go.Proofs.YtphljkplokjonaaGreat.T Go.Proofs.YtphljkplokjonaaGreat.Me Go.Proofs.YtphljkplokjonaaGreat.Pe Go.Proofs.YtphljkplokjonaaGreat.Pg Tryz
def pmO (o : Ob) (k q : Nat) : Option Nat := (o.vw k q).map (·.1)
def mayP (pm : Nat → Option Nat) (right : Int) (a : Nat) : Bool := decide (a < 1048576) && match pm (a / 256) with | some p => decide (Go.bits .and .i64 (p : Int) right ≠ 0) | none => false
theorem mayP_far {pm : Nat → Option Nat} {right : Int} {a : Nat} (h : 1048576 ≤ a) : mayP pm right a = false := by unfold mayP; rw [decide_eq_false (by omega)]; rfl
theorem mayP_none {pm : Nat → Option Nat} {right : Int} {a : Nat} (h : pm (a / 256) = none) : mayP pm right a = false := by unfold mayP; rw [h]; simp
theorem mayP_some {pm : Nat → Option Nat} {right : Int} {a p : Nat} (ha : a < 1048576) (h : pm (a / 256) = some p) : mayP pm right a = decide (Go.bits .and .i64 (p : Int) right ≠ 0) := by unfold mayP; rw [h, decide_eq_true ha]; rfl
def ends (ad nn j : Nat) : Nat := min nn (j + 256 - (ad + j) % 256)
theorem ends_gt {ad nn j : Nat} (h : j < nn) : j < ends ad nn j := by unfold ends; have := Nat.mod_lt (ad + j) (show 0 < 256 by decide); omega
theorem ends_le {ad nn j : Nat} : ends ad nn j ≤ nn := Nat.min_le_left _ _
theorem ends_page {ad nn j i : Nat} (h1 : j ≤ i) (h2 : i < ends ad nn j) : (ad + i) / 256 = (ad + j) / 256 := by unfold ends at h2; omega
theorem Ctr.re {P : Program} {W0 : World} {f : FuncId} {vs : List Value} {G : List HProp} {α β : Type} {φ : α → Prop} {v : α → Value} {G' : α → List HProp} {ψ : β → Prop} {u : β → Value} {H : β → List HProp} (h : Ctr P W0 f vs G φ v G') (g : α → β) (hφ : ∀ x, φ x → ψ (g x)) (hv : ∀ x, φ x → v x = u (g x)) (hG : ∀ x, φ x → Imp (G' x) (H (g x))) : Ctr P W0 f vs G ψ u H := fun w hw => (h w hw).mono (by
 rintro r w' ⟨x, hx, rfl, hs⟩
 exact ⟨g x, hφ x hx, by rw [hv x hx], hs.imp (hG x hx)⟩)
theorem overB_get {bs ys : List UInt8} {a i : Nat} (ha : a + ys.length ≤ bs.length) : (overB bs a ys)[i]? = if a ≤ i ∧ i < a + ys.length then ys[i - a]? else bs[i]? := by
 by_cases h1 : i < a
 ·rw [overB_lo h1 ha, if_neg (by omega)]
 ·by_cases h2 : a + ys.length ≤ i
  ·rw [overB_hi h2 ha, if_neg (by omega)]
  ·rw [if_pos (by omega)]
   have e : (bs.take a).length = a := by rw [List.length_take]; omega
   unfold overB
   rw [List.append_assoc, List.getElem?_append_right (by omega), e, List.getElem?_append_left (by omega)]
def mayA (o : Ob) (k : Nat) (right : Int) (ad nn : Nat) : Bool := (List.range nn).all fun i => mayP (pmO o k) right (ad + i)
theorem mayA_t {o : Ob} {k ad nn : Nat} {right : Int} (h : ∀ i, i < nn → mayP (pmO o k) right (ad + i) = true) : mayA o k right ad nn = true := by
 unfold mayA; rw [List.all_eq_true]; intro i hi; exact h i (List.mem_range.1 hi)
theorem mayA_f {o : Ob} {k ad nn j : Nat} {right : Int} (hj : j < nn) (h : mayP (pmO o k) right (ad + j) = false) : mayA o k right ad nn = false := by
 rw [Bool.eq_false_iff]; intro q; unfold mayA at q
 have := List.all_eq_true.1 q j (List.mem_range.2 hj)
 rw [h] at this; cases this
theorem overB_frame {bs ys : List UInt8} {n q o : Nat} (hl : bs.length = n * 256) (hq : q < n) (ho : o + ys.length ≤ 256) : overB bs (q * 256) (fillB (overB (frB bs q) o ys)) = overB bs (q * 256 + o) ys := by
 have hf := frB_len hl hq
 have ho2 : (overB (frB bs q) o ys).length = 256 := by rw [overB_len (by omega), hf]
 have e : fillB (overB (frB bs q) o ys) = overB (frB bs q) o ys := by unfold fillB; rw [ho2]; simp
 rw [e]
 have hqn : q * 256 + 256 ≤ n * 256 := by omega
 apply List.ext_getElem?; intro i
 rw [overB_get (by rw [ho2]; omega), overB_get (bs := bs) (a := q * 256 + o) (ys := ys) (by omega), ho2]
 by_cases h : q * 256 ≤ i ∧ i < q * 256 + 256
 ·rw [if_pos h, overB_get (by omega)]
  by_cases h2 : o ≤ i - q * 256 ∧ i - q * 256 < o + ys.length
  ·rw [if_pos h2, if_pos (by omega)]; congr 1; omega
  ·rw [if_neg h2, if_neg (by omega), frB_get (by omega)]; congr 1; omega
 ·rw [if_neg h, if_neg (by omega)]
def putP (ad : Nat) (b : List UInt8) (j q : Nat) (pg : List UInt8) : List UInt8 := (List.range pg.length).map fun i => if i < 256 ∧ ad ≤ q * 256 + i ∧ q * 256 + i < ad + j then (b[q * 256 + i - ad]?).getD 0 else (pg[i]?).getD 0
def outO (o : Ob) (k ad : Nat) (b : List UInt8) (j : Nat) : Ob := ⟨fun k' q => (o.vw k' q).map fun x => (x.1, if k' = k then putP ad b j q x.2 else x.2), o.ts, o.fr⟩
theorem putP_len {ad j q : Nat} {b pg : List UInt8} : (putP ad b j q pg).length = pg.length := by simp [putP]
theorem putP_get {ad j q i : Nat} {b pg : List UInt8} (h : i < pg.length) : (putP ad b j q pg)[i]? = some (if i < 256 ∧ ad ≤ q * 256 + i ∧ q * 256 + i < ad + j then (b[q * 256 + i - ad]?).getD 0 else (pg[i]?).getD 0) := by unfold putP; rw [List.getElem?_map, List.getElem?_range h]; rfl
theorem putP_out {ad j q i : Nat} {b pg : List UInt8} (h : pg.length ≤ i) : (putP ad b j q pg)[i]? = none := List.getElem?_eq_none (by rw [putP_len]; exact h)
theorem outO_zero {o : Ob} {k ad : Nat} {b : List UInt8} : outO o k ad b 0 = o := by
 have e : ∀ (q : Nat) (pg : List UInt8), putP ad b 0 q pg = pg := by
  intro q pg; apply List.ext_getElem?; intro i
  by_cases h : i < pg.length
  ·rw [putP_get h, if_neg (by omega)]; simp [h]
  ·rw [putP_out (by omega), List.getElem?_eq_none (by omega)]
 unfold outO
 obtain ⟨vw, ts, fr⟩ := o
 congr 1
 funext k' q
 simp only [e, ite_self]
 cases vw k' q <;> rfl
theorem outO_pm {o : Ob} {k ad : Nat} {b : List UInt8} (j k' q : Nat) : pmO (outO o k ad b j) k' q = pmO o k' q := by
 unfold pmO outO; simp only [Option.map_map]; rfl
theorem out_step {o : Ob} {k ad j p : Nat} {b pg : List UInt8} (hx : (outO o k ad b j).vw k ((ad + j) / 256) = some (p, pg)) (hp : pg.length = 256) (hj : j < b.length) :
 (⟨up2 (outO o k ad b j).vw k ((ad + j) / 256) (some (p, overB pg ((ad + j) % 256) ((b.drop j).take (ends ad b.length j - j)))), o.ts, o.fr⟩ : Ob) = outO o k ad b (ends ad b.length j) := by
 have h1 := ends_gt (ad := ad) hj
 have h2 := ends_le (ad := ad) (nn := b.length) (j := j)
 have hl : ((b.drop j).take (ends ad b.length j - j)).length = ends ad b.length j - j := by rw [List.length_take, List.length_drop]; omega
 have h3 : (ad + j) % 256 + (ends ad b.length j - j) ≤ 256 := by unfold ends; omega
 have hdm := Nat.div_add_mod (ad + j) 256
 unfold outO
 congr 1
 funext k' q
 by_cases h : k' = k ∧ q = (ad + j) / 256
 ·obtain ⟨rfl, rfl⟩ := h
  rw [up2_at]
  unfold outO at hx
  dsimp only at hx
  cases hv : o.vw k' ((ad + j) / 256) with
  | none => rw [hv] at hx; cases hx
  | some y =>
   rw [hv] at hx
   simp only [Option.map_some, if_true, Option.some.injEq, Prod.mk.injEq] at hx
   obtain ⟨rfl, rfl⟩ := hx
   rw [putP_len] at hp
   simp only [Option.map_some, if_true, Option.some.injEq, Prod.mk.injEq, true_and]
   apply List.ext_getElem?; intro i
   rw [overB_get (by rw [hl, putP_len]; omega), hl]
   by_cases hi : i < y.2.length
   ·rw [putP_get hi, putP_get hi]
    by_cases hc : (ad + j) % 256 ≤ i ∧ i < (ad + j) % 256 + (ends ad b.length j - j)
    ·rw [if_pos hc, if_pos (by omega), List.getElem?_take, if_pos (by omega), List.getElem?_drop]
     have hb : j + (i - (ad + j) % 256) = (ad + j) / 256 * 256 + i - ad := by omega
     rw [hb]
     have : (ad + j) / 256 * 256 + i - ad < b.length := by omega
     simp [this]
    ·rw [if_neg hc]
     by_cases hq : i < 256 ∧ ad ≤ (ad + j) / 256 * 256 + i ∧ (ad + j) / 256 * 256 + i < ad + j
     ·rw [if_pos hq, if_pos (by omega)]
     ·rw [if_neg hq, if_neg (by omega)]
   ·rw [if_neg (by omega), putP_out (by omega), putP_out (by omega)]
 ·rw [up2_ne (by omega)]
  show (o.vw k' q).map _ = _
  cases hv : o.vw k' q with
  | none => rfl
  | some y =>
   simp only [Option.map_some, Option.some.injEq, Prod.mk.injEq, true_and]
   by_cases hk : k' = k
   ·rw [if_pos hk, if_pos hk]
    apply List.ext_getElem?; intro i
    by_cases hi : i < y.2.length
    ·rw [putP_get hi, putP_get hi]
     by_cases hq : i < 256 ∧ ad ≤ q * 256 + i ∧ q * 256 + i < ad + j
     ·rw [if_pos hq, if_pos (by omega)]
     ·rw [if_neg hq]
      by_cases hq2 : i < 256 ∧ ad ≤ q * 256 + i ∧ q * 256 + i < ad + ends ad b.length j
      ·exfalso
       have := ends_page (ad := ad) (nn := b.length) (j := j) (i := q * 256 + i - ad) (by omega) (by omega)
       rw [show ad + (q * 256 + i - ad) = q * 256 + i by omega] at this
       exact h ⟨hk, by omega⟩
      ·rw [if_neg hq2]
    ·rw [putP_out (by omega), putP_out (by omega)]
   ·rw [if_neg hk, if_neg hk]
def outR (o : Ob) (k ad : Nat) (b : List UInt8) : Int × Ob := if 4096 < b.length then (2, o) else if mayA o k 2 ad b.length then (0, outO o k ad b b.length) else (90, o)
section
variable (W0 : World) (Fr : List HProp)
variable {n : Nat} {qs : List Int} {rt : Nat → Option Nat} {c : Nat} {σ : St} {k r s m f t : Nat}
set_option maxHeartbeats 2000000 in
theorem pieces_spec {F : FuncId} {ca : List Value} (hF : CallOK prog F) {ob : Nat → Ob} {X : Nat → HProp} {pm : Nat → Option Nat} {right : Int} {nn ad : Nat} (hnn : nn ≤ 4096) (had : ad < 4294967296) (hpm : ∀ j q, pmO (ob j) k q = pm q) (L : Lk n qs rt (ob 0) c σ) (hk : rt k = some r) (hb : c < 1000000000000000000 - 4096)
 (hdo : ∀ (j : Nat) (A : Ab) (σ' : St) (c' : Nat) (x : Nat × Nat), j < nn → ad + j < 1048576 → A.rt = rt → A.hs = [] → Good n qs A σ' → obs A σ' = ob j → σ'.hits + σ'.miss ≤ c' → A.pg k ((ad + j) / 256) = some x →
  Ctr prog W0 F ([.int .i64 x.1, .int .i64 ((ad + j) % 256 : Nat), .int .i64 j, .int .i64 (ends ad nn j : Nat)] ++ ca) (WG m f t n qs σ' (sb s k r m f t :: X j :: Fr)) (fun σ2 : St => Lk n qs rt (ob (ends ad nn j)) c' σ2) (fun _ => .tuple #[]) (fun σ2 => WG m f t n qs σ2 (sb s k r m f t :: X (ends ad nn j) :: Fr))) :
 Ctr prog W0 85 [.pointer (some ⟨s, 0, none⟩), .int .u32 ad, .int .i64 nn, .int .i64 right, .func (.func F) #[] ca.toArray] (WG m f t n qs σ (sb s k r m f t :: X 0 :: Fr))
  (fun z : Nat × St => z.1 ≤ nn ∧ (∀ i, i < z.1 → mayP pm right (ad + i) = true) ∧ (z.1 < nn → mayP pm right (ad + z.1) = false) ∧ Lk n qs rt (ob z.1) (c + 4096) z.2) (fun z => .int .i64 (if z.1 < nn then 90 else 0)) (fun z => WG m f t n qs z.2 (sb s k r m f t :: X z.1 :: Fr)) := by
 refine Ctr.of_body func85 J ntmps85 J (eZ (aZ (gZ J (fZ (bZ (eZ (eZ (aZ (gZ J (fZ (bZ (fQ (iX (fun z : Nat × St => z.1 ≤ nn ∧ (∀ i, i < z.1 → mayP pm right (ad + i) = true) ∧ Lk n qs rt (ob z.1) (c + z.1) z.2) (fun z => [(0, .pointer (some ⟨s, 0, none⟩)), (1, .int .u32 ad), (2, .int .i64 nn), (3, .int .i64 right), (4, .func (.func F) #[] ca.toArray), (11, .int .i64 z.1)]) (fun z => WG m f t n qs z.2 (sb s k r m f t :: X z.1 :: Fr)) (fun z => nn - z.1) (0, σ) ⟨Nat.zero_le _, fun i h => absurd h (Nat.not_lt_zero _), L⟩ eS iM ?_)))))))))))))
 rintro ⟨j, σj⟩ ⟨hj, hal, Lj⟩
 dsimp only at hj hal Lj ⊢
 refine eZ (eZ (aZ (dZ J (dZ J (cZ bQ ?_)))))
 refine fZ (bZ (wQ J (fun hc => ?_) (fun hc => ?_)))
 ·try replace hc := odT hc
  have hjn : j < nn := by omega
  obtain ⟨A, hrt, h0, G, ho, hcc⟩ := Lj
  have hkA : A.rt k = some r := by rw [hrt]; exact hk
  have hpA : ∀ q, pm q = (A.pg k q).map (·.2) := fun q => by rw [← hpm j q, ← ho]; unfold pmO; rw [vw_obs]; cases A.pg k q <;> rfl
  refine wZ (bZ (fQ (eZ (aZ (dZ J (cZ (uQ (c := ((ad : Nat) : Int)) underlying3 J J wO) (dZ J (cZ (eQ (c := ((ad + j : Nat) : Int)) J J (by rw [w64 (by omega) (by omega)]; omega)) ?_))))))))
  refine gZ J (fZ (bZ (eZ (eZ (aZ (dZ J (cZ zQ ?_)))))))
  refine fZ (bZ (wQ J (fun hc => ?_) (fun hc => ?_)))
  ·try replace hc := odT hc
   exact eZ (aZ (gZ J (fZ (bZ (tZ (vZ (mQ (vZ (mQ (vZ (xZ J J (j, σj) ⟨hj, hal, fun _ => mayP_far (by omega), Lk.intro G hrt h0 ho (by simp only; omega)⟩ (by simp [hjn]) iM)))))))))))
  ·try replace hc := odF hc
   refine wZ (bZ (eZ (aZ (dZ J (dZ J (cZ (dQ (kV J J (by omega) (tdiv_pos (by omega) (by omega) (by omega))) (v' := .int .i64 (((ad + j) / 256 : Nat) : Int)) (by congr 1)) ?_))))))
   refine oZ call147 J (iM) (find_spec W0 _ (s := s) (m := m) (f := f) (t := t) G hkA (by omega) (((ad + j) / 256 : Nat) : Int)) J ?_
   rintro σ' hF'
   rw [vp_in (show (ad + j) / 256 < 4096 by omega)]
   refine dZ J (cZ (uZ J J) (cZ (uZ J J) (cZ (uZ J J) (gZ J (gZ J (gZ J (fZ (bZ (eZ (eZ ?_))))))))))
   rcases (show (A.pg k ((ad + j) / 256) = none) ∨ (∃ x, A.pg k ((ad + j) / 256) = some x ∧ Go.bits .and .i64 (x.2 : Int) right ≠ 0) ∨ (∃ x, A.pg k ((ad + j) / 256) = some x ∧ Go.bits .and .i64 (x.2 : Int) right = 0) by cases A.pg k ((ad + j) / 256) with | none => exact .inl rfl | some x => exact .inr ((Decidable.em (Go.bits .and .i64 (x.2 : Int) right = 0)).elim (fun h => .inr ⟨x, rfl, h⟩) (fun h => .inl ⟨x, rfl, h⟩))) with hx | ⟨x, hx, hm⟩ | ⟨x, hx, hm⟩
   ·rw [wV_none (by omega) hx, hx]
    refine aZ (dZ J (cZ (pQ J) (dZ J (iQ J J J J J (iQ J J J J J (iQ J J J J J (iQ J J J J J (cZ jZ ?_))))))))
    exact fZ (bZ (gQ J (eZ (aZ (gZ J (fZ (bZ (tZ (vZ (mQ (vZ (mQ (vZ (xZ J J (j, σ') ⟨hj, hal, fun _ => mayP_none (by rw [hpA, hx]; rfl), Lk.intro hF'.good hrt h0 (by rw [← ho]; unfold obs; rw [hF'.bs, hF'.own]) (by have := hF'.cnt; simp only; omega)⟩ (by simp [hjn]) iM))))))))))))))
   ·rw [wV_some (by omega) hx, hx]
    refine aZ (dZ J (cZ (pQ J) (dZ J (iZ J J (dZ J (iZ J J (dZ J (iZ J J (cZ (mV J J J J) (iZ J J (cZ (dQ (bX J J) (v' := .bool false) (bF hm)) (cZ jZ ?_))))))))))))
    refine fZ (bZ (qZ J (wZ (bZ (eZ (aZ (dZ J (cZ (dQ (tX J J (by omega) (tmod_pos (by omega) (by omega))) (v' := .int .i64 (((ad + j) % 256 : Nat) : Int)) (by congr 1)) ?_))))))))
    refine gZ J (fZ (bZ (eZ (aZ (dZ J (dZ J (cZ (eQ J J wO) (dZ J (cZ (aV J J wO) (cZ (dQ (dV J J) (v' := .int .i64 (ends ad nn j : Nat)) (by congr 1; unfold ends; omega)) ?_))))))))))
    refine gZ J (fZ (bZ (eZ (aZ (dZ J (dZ J (dZ J (dZ J (dZ J (OG.callv hF J J iM (hdo j A σ' (c + j + 1) x hjn (by omega) hrt h0 hF'.good (by rw [← ho]; unfold obs; rw [hF'.bs, hF'.own]) (by have := hF'.cnt; omega) hx) J ?_))))))))))
    rintro σ2 L2
    refine fZ (bZ (aZ (dZ J (gZ J (fZ (sZ ?_))))))
    have hgt := ends_gt (ad := ad) hjn
    refine yQ (ends ad nn j, σ2) ⟨ends_le, fun i hi => ?_, Lk.mono L2 (by simp only; omega)⟩ (by simp only; omega) eS iM
    by_cases hij : i < j
    ·exact hal i hij
    ·have hpg := ends_page (ad := ad) (show j ≤ i by omega) hi
     rw [mayP_some (p := x.2) (by omega) (by rw [hpg, hpA, hx]; rfl)]
     exact decide_eq_true hm
   ·rw [wV_some (by omega) hx, hx]
    refine aZ (dZ J (cZ (pQ J) (dZ J (iZ J J (dZ J (iZ J J (dZ J (iZ J J (cZ (mV J J J J) (iZ J J (cZ (dQ (bX J J) (v' := .bool true) (bT hm)) (cZ jZ ?_))))))))))))
    exact fZ (bZ (gQ J (eZ (aZ (gZ J (fZ (bZ (tZ (vZ (mQ (vZ (mQ (vZ (xZ J J (j, σ') ⟨hj, hal, fun _ => by rw [mayP_some (p := x.2) (by omega) (by rw [hpA, hx]; rfl)]; exact decide_eq_false (fun q => q hm), Lk.intro hF'.good hrt h0 (by rw [← ho]; unfold obs; rw [hF'.bs, hF'.own]) (by have := hF'.cnt; simp only; omega)⟩ (by simp [hjn]) iM))))))))))))))
 ·try replace hc := odF hc
  exact dX (yZ (yZ (oQ (bZ (eZ (aZ (gZ J (fZ (bZ (tZ (xZ J J (j, σj) ⟨hj, hal, fun h => absurd h (by simp only; omega), Lk.mono Lj (by omega)⟩ (by rw [if_neg (by simp only; omega)]) iM)))))))))))
theorem out1_spec {a b c d : Int} {G : List HProp} : Ctr prog W0 88 [.int .i64 a, .int .i64 b, .int .i64 c, .int .i64 d] G (fun _ : Unit => True) (fun _ => .tuple #[]) (fun _ => G) := by
 exact Ctr.of_body func88 J ntmps88 J (wZ (jV J () trivial J (Imp.refl _)))
theorem fill_256 {fx : Nat} {bs ws : List UInt8} {a : Option Addr} {c2 : Nat} (hr : RdB W0 Fr a c2 ws) (hk : fx < n) (hw : ws.length = 256) : Ctr prog W0 90 [.pointer (some ⟨m, 0, none⟩), .int .i64 fx, .slice a 256 c2] (M m n bs :: Fr) (fun _ : Unit => True)
 (fun _ => .int .i64 0) (fun _ => M m n (overB bs (fx * 256) (fillB ws)) :: Fr) := by
 have := fill_ok W0 Fr (m := m) (n := n) (k := fx) (bs := bs) hr hk (Nat.le_of_eq hw)
 rw [hw] at this; exact this
abbrev XO (b3 b5 s : Nat) (ba : Option Addr) (bc nn : Nat) : List HProp := [blk b3 [.pointer (some ⟨s, 0, none⟩)] 53, blk b5 [.slice ba nn bc] 32]
theorem out2_spec {b3 b5 j to fx bc : Nat} {at' : Nat} {ba : Option Addr} {b : List UInt8} (hr : RdB W0 Fr ba bc b) (hcap : b.length ≤ bc) (hnn : b.length ≤ 4096) (hfx : fx < n) (ha : at' < 256) (hj : j < to) (hto : to ≤ b.length) (h256 : to - j ≤ 256 - at') (hbs : σ.bs.length = n * 256) :
 Ctr prog W0 89 [.int .i64 fx, .int .i64 at', .int .i64 j, .int .i64 to, .pointer (some ⟨b3, 0, none⟩), .pointer (some ⟨b5, 0, none⟩)] (WG m f t n qs σ (sb s k r m f t :: Star (XO b3 b5 s ba bc b.length) :: Fr)) (fun _ : Unit => True) (fun _ => .tuple #[])
  (fun _ => WG m f t n qs { σ with bs := overB σ.bs (fx * 256 + at') ((b.drop j).take (to - j)) } (sb s k r m f t :: Star (XO b3 b5 s ba bc b.length) :: Fr)) := by
 have hfl := frB_len hbs hfx
 have hyl : ((b.drop j).take (to - j)).length = to - j := by rw [List.length_take, List.length_drop]; omega
 have hwl : (overB (frB σ.bs fx) at' ((b.drop j).take (to - j))).length = 256 := by rw [overB_len (by omega), hfl]
 refine Ctr.imp (Imp.trans (B := Star (XO b3 b5 s ba bc b.length) :: WG m f t n qs σ (sb s k r m f t :: Fr)) iM star_open) ?_
 dsimp only [XO, List.cons_append, List.nil_append]
 refine Ctr.of_body func89 J ntmps89 J (eZ (aZ (cZ (rZ ti53 J) ?_)))
 refine cQ J (pZ fa166_2 J (cZ (rZ ti111 J) ?_))
 refine dZ J (oZ call87 J (iM) (frame_ok W0 _ (m := m) (n := n) (k := fx) (bs := σ.bs) hfx) J ?_)
 rintro bf -
 rw [hfl]
 refine dZ J (cZ (uZ J J) (cZ (uZ J J) (gZ J (gZ J (fZ (bZ (eZ (sQ (.lo 0 1 (.lo 1 1 (.lo 2 1 (.lo 3 1 (.lo 4 1 (.lo 5 1 (.lo 6 1 (.eff1 7 false (.done))))))))) [7] [] ([]) ([]) mixed (by kernel_rfl) (Imp.none _) (Imp.none _) (mZ J J (mZ J J (kZ J (dQ (Yield.slice_in underlying32 ti5 J (Bound.some J) Bound.none (by omega) (by omega) (by omega) (by omega)) (v' := .slice (some ⟨bf, 0 + at', none⟩) (256 - at' : Nat) (256 - at')) (by simp)) ?_)))))))))))
 refine kZ J (rZ ti32 J) ?_
 refine mZ J J (mZ J J (kZ J (dQ (sV underlying32 ti5 J (Bound.some J) (Bound.some J) (by omega) (by omega) (by omega)) (v' := .slice (ba.map fun a => cutAt a j bc 1) (to - j : Nat) (bc - j)) (by simp)) ?_))
 refine zZ (vQ J J (Eff.copyIn (b := bf) (o := 0) (j := at') (n := 256 - at') (cn := 256 - at') (k := to - j) (ys := bytesV ((b.drop j).take (to - j))) J J J underlying32 ti5 fC (by omega) (by have := SlR.midB (hr.imp (G := XO b3 b5 s ba bc b.length ++ WG m f t n qs σ (sb s k r m f t :: Fr)) iM).slR (l := j) (k := to - j) hcap (by omega); rw [hyl] at this; exact this.imp iM) bytesV_one) J (fun _ => iM) (fun _ => Imp.refl _) (fun _ => iM) ?_)
 rintro ⟨⟩ -
 rw [show min (to - j) (256 - at') = to - j by omega, bytesV_take, List.take_of_length_le (Nat.le_of_eq hyl), over_bytes]
 refine qQ (bZ (aZ (cZ (rZ ti53 J) ?_)))
 refine cQ J (pZ fa166_2 J (cZ (rZ ti111 J) ?_))
 refine dZ J (dZ J (oZ call90 J (iM) (fill_256 W0 _ (m := m) (n := n) (fx := fx) (bs := σ.bs) (ws := overB (frB σ.bs fx) at' ((b.drop j).take (to - j))) (a := some ⟨bf, 0, none⟩) (c2 := 256) (by exact RdB.of_osl (E := 261) eX (by rw [hwl]; first | exact hfl | rfl) J) hfx hwl) J ?_))
 rintro ⟨⟩ -
 rw [overB_frame hbs hfx (by omega)]
 exact fZ (jV J () trivial J (Imp.trans (B := XO b3 b5 s ba bc b.length ++ WG m f t n qs { σ with bs := overB σ.bs (fx * 256 + at') ((b.drop j).take (to - j)) } (sb s k r m f t :: Fr)) iM (Imp.trans star_close iM)))
set_option maxHeartbeats 2000000 in
theorem out_spec {o : Ob} {ba : Option Addr} {bc : Nat} {b : List UInt8} (hr : RdB W0 Fr ba bc b) (hcap : b.length ≤ bc) (L : Lk n qs rt o c σ) (hk : rt k = some r) (hb : c < 1000000000000000000 - 8192) {ad : Nat} (had : ad < 4294967296) : Ctr prog W0 32 [.pointer (some ⟨s, 0, none⟩), .int .u32 ad, .slice ba b.length bc] (WG m f t n qs σ (sb s k r m f t :: Fr))
 (fun σ' : St => Lk n qs rt (outR o k ad b).2 (c + 8192) σ') (fun _ => .int .i64 (outR o k ad b).1) (fun σ' => WG m f t n qs σ' (sb s k r m f t :: Fr)) := by
 have hdo1 : ∀ (Fr' : List HProp) (j : Nat) (A : Ab) (σ' : St) (c' : Nat) (x : Nat × Nat), j < b.length → ad + j < 1048576 → A.rt = rt → A.hs = [] → Good n qs A σ' → obs A σ' = o → σ'.hits + σ'.miss ≤ c' → A.pg k ((ad + j) / 256) = some x →
  Ctr prog W0 88 ([.int .i64 x.1, .int .i64 ((ad + j) % 256 : Nat), .int .i64 j, .int .i64 (ends ad b.length j : Nat)] ++ []) (WG m f t n qs σ' (sb s k r m f t :: Star [] :: Fr')) (fun σ2 : St => Lk n qs rt o c' σ2) (fun _ => .tuple #[]) (fun σ2 => WG m f t n qs σ2 (sb s k r m f t :: Star [] :: Fr')) :=
  fun Fr' j A σ' c' x hjn hlt hrt h0 G ho hcc hx => Ctr.re (out1_spec W0) (fun _ => σ') (fun _ _ => Lk.intro G hrt h0 ho hcc) (fun _ _ => rfl) (fun _ _ => Imp.refl _)
 by_cases hg : 4096 < b.length
 ·have e : outR o k ad b = (2, o) := by unfold outR; rw [if_pos hg]
  rw [e]
  refine Ctr.of_body func32 J ntmps32 J (eZ (aZ (jQ (sX J) J ?_)))
  rintro b3 -
  refine jQ (sX J) J ?_
  rintro b5 -
  refine gZ J (fZ (bZ (eZ (eZ (aZ (cZ (rZ ti32 J) ?_))))))
  refine cZ (lZ underlying32 J J) (cZ fX ?_)
  exact fZ (bZ (gQ J (eZ (aZ (gZ J (fZ (bZ (tZ (vZ (xZ J J σ (Lk.mono L (by omega)) J iM))))))))))
 ·have hnn : b.length ≤ 4096 := by omega
  have hdo2 : ∀ (b3 b5 : Nat) (j : Nat) (A : Ab) (σ' : St) (c' : Nat) (x : Nat × Nat), j < b.length → ad + j < 1048576 → A.rt = rt → A.hs = [] → Good n qs A σ' → obs A σ' = outO o k ad b j → σ'.hits + σ'.miss ≤ c' → A.pg k ((ad + j) / 256) = some x →
   Ctr prog W0 89 ([.int .i64 x.1, .int .i64 ((ad + j) % 256 : Nat), .int .i64 j, .int .i64 (ends ad b.length j : Nat)] ++ [.pointer (some ⟨b3, 0, none⟩), .pointer (some ⟨b5, 0, none⟩)]) (WG m f t n qs σ' (sb s k r m f t :: Star (XO b3 b5 s ba bc b.length) :: Fr)) (fun σ2 : St => Lk n qs rt (outO o k ad b (ends ad b.length j)) c' σ2) (fun _ => .tuple #[]) (fun σ2 => WG m f t n qs σ2 (sb s k r m f t :: Star (XO b3 b5 s ba bc b.length) :: Fr)) := by
   intro b3 b5 j A σ' c' x hjn hlt hrt h0 G ho hcc hx
   have hv : (outO o k ad b j).vw k ((ad + j) / 256) = some (x.2, frB σ'.bs x.1) := by rw [← ho, vw_obs, hx]; rfl
   have hpl := frB_len G.rep.len (G.plt hx)
   have hyl : ((b.drop j).take (ends ad b.length j - j)).length = ends ad b.length j - j := by have := ends_le (ad := ad) (nn := b.length) (j := j); rw [List.length_take, List.length_drop]; omega
   obtain ⟨G2, e2⟩ := G.write (o := (ad + j) % 256) (ys := (b.drop j).take (ends ad b.length j - j)) hx (by rw [hyl]; unfold ends; omega)
   have hst := out_step hv hpl hjn
   have h := out2_spec W0 Fr (n := n) (qs := qs) (k := k) (s := s) (m := m) (f := f) (t := t) (r := r) (σ := σ') (b3 := b3) (b5 := b5) hr hcap hnn (G.plt hx) (Nat.mod_lt (ad + j) (show 0 < 256 by decide)) (ends_gt (ad := ad) hjn) ends_le (by unfold ends; omega) G.rep.len
   refine Ctr.re h (fun _ => { σ' with bs := overB σ'.bs (x.1 * 256 + (ad + j) % 256) ((b.drop j).take (ends ad b.length j - j)) }) (fun _ _ => Lk.intro G2 hrt h0 ?_ hcc) (fun _ _ => rfl) (fun _ _ => Imp.refl _)
   rw [e2, ho, ← hst]; rfl
  refine Ctr.of_body func32 J ntmps32 J (eZ (aZ (jQ (sX J) J ?_)))
  rintro b3 -
  refine jQ (sX J) J ?_
  rintro b5 -
  refine gZ J (fZ (bZ (eZ (eZ (aZ (cZ (rZ ti32 J) ?_))))))
  refine cZ (lZ underlying32 J J) (cZ fX ?_)
  refine fZ (bZ (qZ J (wZ (bZ (eZ (eZ (aZ (cZ (rZ ti53 J) ?_))))))))
  refine dZ J (cZ (rZ ti32 J) ?_)
  refine cZ (lZ underlying32 J J) (oZ call85 J (Imp.trans star_nil iM) (pieces_spec W0 _ (n := n) (qs := qs) (k := k) (s := s) (m := m) (f := f) (t := t) (r := r) (F := 88) (ca := []) call88 (ob := fun _ => o) (X := fun _ => Star []) (pm := pmO o k) (right := 2) (nn := b.length) (ad := ad) hnn had (fun _ _ => rfl) L hk (by omega) (hdo1 (blk b5 [.slice ba b.length bc] 32 :: blk b3 [.pointer (some ⟨s, 0, none⟩)] 53 :: Fr))) J ?_)
  rintro ⟨jz, σ2⟩ ⟨h1, h2, h3, L2⟩
  dsimp only at h1 h2 h3 L2 ⊢
  refine gZ J (fZ (bZ (eZ ?_)))
  rcases Nat.lt_or_ge jz b.length with hz | hz
  ·rw [if_pos hz]
   refine aZ (dZ J (cZ (dQ (xX J J) (v' := .bool true) J) (fZ (bZ (gQ J (eZ (aZ (dZ J (gZ J (fZ (bZ (tZ (vZ ?_)))))))))))))
   rw [show outR o k ad b = (90, o) by unfold outR; rw [if_neg hg, if_neg (by rw [mayA_f hz (h3 hz)]; decide)]]
   exact xZ J J σ2 (Lk.mono L2 (by omega)) J iM
  ·rw [if_neg (by omega)]
   refine aZ (dZ J (cZ (dQ (xX J J) (v' := .bool false) J) (fZ (bZ (qZ J (wZ (bZ (eZ ?_))))))))
   obtain rfl : jz = b.length := by omega
   refine aZ (cZ (rZ ti53 J) ?_)
   refine dZ J (cZ (rZ ti32 J) ?_)
   refine cZ (lZ underlying32 J J) (cZ (nV (first := []) (cap := [.tmp 3, .tmp 5]) J J) (oZ call85 J (Imp.trans (B := XO b3 b5 s ba bc b.length ++ WG m f t n qs σ2 (sb s k r m f t :: Fr)) iM (Imp.trans star_close iM)) (pieces_spec W0 Fr (n := n) (qs := qs) (k := k) (s := s) (m := m) (f := f) (t := t) (r := r) (F := 89) (ca := [.pointer (some ⟨b3, 0, none⟩), .pointer (some ⟨b5, 0, none⟩)]) call89 (ob := outO o k ad b) (X := fun _ => Star (XO b3 b5 s ba bc b.length)) (pm := pmO o k) (right := 2) (nn := b.length) (ad := ad) hnn had (fun j q => outO_pm j k q) (by rw [outO_zero]; exact L2) hk (by omega) (hdo2 b3 b5)) J ?_))
   rintro ⟨jy, σ3⟩ ⟨h4, h5, h6, L3⟩
   dsimp only at h4 h5 h6 L3 ⊢
   have hjy : jy = b.length := by
    rcases Nat.lt_or_ge jy b.length with hy | hy
    ·have q1 := h6 hy
     rw [h2 jy hy] at q1; cases q1
    ·omega
   subst hjy
   rw [if_neg (by omega)]
   refine gZ J (fZ (bZ (tZ ?_)))
   rw [show outR o k ad b = (0, outO o k ad b b.length) by unfold outR; rw [if_neg hg, if_pos (mayA_t h2)]]
   exact xZ J J σ3 (Lk.mono L3 (by omega)) J iM
theorem out_of {o : Ob} {ba : Option Addr} {bc : Nat} {b : List UInt8} (hr : RdB W0 Fr ba bc b) (L : Lk n qs rt o c σ) (hk : rt k = some r) (hb : c < 1000000000000000000 - 8192) {ad : Nat} (had : ad < 4294967296) : Ctr prog W0 32 [.pointer (some ⟨s, 0, none⟩), .int .u32 ad, .slice ba b.length bc] (WG m f t n qs σ (sb s k r m f t :: Fr))
 (fun σ' : St => Lk n qs rt (outR o k ad b).2 (c + 8192) σ') (fun _ => .int .i64 (outR o k ad b).1) (fun σ' => WG m f t n qs σ' (sb s k r m f t :: Fr)) := fun w hw =>
 out_spec W0 Fr hr ((hr w (hw.imp (Imp.trans Imp.drop (Imp.trans Imp.drop (Imp.trans Imp.drop Imp.drop))))).2) L hk hb had w hw
end
end Go.Proofs.YtphljkplokjonaaGreat.Sp
namespace Go.Proofs.YtphljkplokjonaaGreat.Sp
open Go Go.Sl Go.RowKit Go.Proofs Go.Proofs.YtphljkplokjonaaGreat.T Go.Proofs.YtphljkplokjonaaGreat.Me Go.Proofs.YtphljkplokjonaaGreat.Pe Go.Proofs.YtphljkplokjonaaGreat.Pg
structure PVr (W0 : World) (G : List HProp) (a : Option Addr) (l : List PV) : Prop where
 cells : SlR W0 G 3 a l.length ((l.map PV.cells).flatten)
 bytes : ∀ x ∈ l, SlR W0 G 1 x.a x.b.length (bytesV x.b)
theorem PVr.imp {W0 : World} {G G' : List HProp} {a : Option Addr} {l : List PV} (h : PVr W0 G' a l) (i : Imp G G') : PVr W0 G a l := ⟨h.cells.imp i, fun x hx => (h.bytes x hx).imp i⟩
theorem PVr.of {W0 : World} {G : List HProp} {a : Option Addr} {c : Nat} {l : List PV} : PVr W0 (PVL a c l ++ G) a l := by
 refine ⟨SlR.of_osl (E := 180) (c := c) Ext.here, fun x hx => ?_⟩
 obtain ⟨j, hj⟩ := List.mem_iff_getElem?.1 hx
 have hy : (l.map fun x => oby 261 x.a x.c x.b)[j]? = some (oby 261 x.a x.c x.b) := by rw [List.getElem?_map, hj]; rfl
 refine SlR.imp (G' := [oby 261 x.a x.c x.b, Star ((l.map fun x => oby 261 x.a x.c x.b).eraseIdx j)]) (SlR.of_osl (E := 261) (c := x.c) Ext.here) (Imp.trans (B := [Star (l.map fun x => oby 261 x.a x.c x.b)]) ?_ (star_take hy))
 dsimp only [PVL, List.cons_append, List.nil_append]
 exact iM
theorem PVr.at {W0 : World} {G : List HProp} {a : Option Addr} {c : Nat} {l : List PV} (h : Imp G [osl 180 3 a c l.length ((l.map PV.cells).flatten), Star (l.map fun x => oby 261 x.a x.c x.b)]) : PVr W0 G a l := PVr.imp (PVr.of (c := c) (G := [])) h
section
variable (W0 : World) (Fr : List HProp)
theorem take_eq {α : Type} {l m : List α} {i : Nat} {x y : α} (h : l.take i = m.take i) (hx : l[i]? = some x) (hy : m[i]? = some y) (e : x = y) : l.take (i + 1) = m.take (i + 1) := by
 rw [List.take_add_one, List.take_add_one, h, hx, hy, e]
end
end Go.Proofs.YtphljkplokjonaaGreat.Sp
namespace Go.Proofs.YtphljkplokjonaaGreat.Sp
open Go Go.Sl Go.RowKit Go.Proofs Go.Proofs.YtphljkplokjonaaGreat.T Go.Proofs.YtphljkplokjonaaGreat.Me Go.Proofs.YtphljkplokjonaaGreat.Pe Go.Proofs.YtphljkplokjonaaGreat.Pg
open Go.Proofs.YtphljkplokjonaaGreat.Fz (cnt cnt_set inv_take free_frame isP left left_in)
abbrev PGv := Nat × Nat × List UInt8
end Go.Proofs.YtphljkplokjonaaGreat.Sp
namespace Go.Proofs.YtphljkplokjonaaGreat.Sp
open Go Go.Sl Go.RowKit Go.Proofs Go.Proofs.YtphljkplokjonaaGreat.T Go.Proofs.YtphljkplokjonaaGreat.Me Go.Proofs.YtphljkplokjonaaGreat.Pe Go.Proofs.YtphljkplokjonaaGreat.Pg
open Go.Proofs.YtphljkplokjonaaGreat.Fz (iv oiv)
theorem pvs_len (o : Ob) (k : Nat) : (pvs o k).length ≤ 4096 := by rw [pvTo_len]; exact cN_le _ _
section
variable (W0 : World) (Fr : List HProp)
variable {o : Ob} {b w k : Nat} {ts : List Int}
end
end Go.Proofs.YtphljkplokjonaaGreat.Sp
namespace Go.Proofs.YtphljkplokjonaaGreat.Me
open Go Go.Sl Go.RowKit Go.Proofs Go.Proofs.YtphljkplokjonaaGreat.T
end Go.Proofs.YtphljkplokjonaaGreat.Me
namespace Go.Proofs.YtphljkplokjonaaGreat.Sp
open Go Go.Sl Go.RowKit Go.Proofs Go.Proofs.YtphljkplokjonaaGreat.T Go.Proofs.YtphljkplokjonaaGreat.Me Go.Proofs.YtphljkplokjonaaGreat.Pe Go.Proofs.YtphljkplokjonaaGreat.Pg
open Go.Proofs.YtphljkplokjonaaGreat.Fz (iv oiv)
section
variable (W0 : World) (Fr : List HProp)
variable {o : Ob} {b w k : Nat} {ts : List Int}
end
structure BZ where
 a : Option Addr
 c : Nat
 b : List UInt8
section
variable (W0 : World) (Fr : List HProp)
variable {o : Ob} {b w k : Nat} {ts : List Int}
end
section
variable (W0 : World) (Fr : List HProp)
variable {o : Ob} {b w k : Nat} {ts : List Int}
end
section
variable (W0 : World) (Fr : List HProp)
variable {o : Ob} {b w k : Nat} {ts : List Int}
end
section
variable (W0 : World) (Fr : List HProp)
variable {o : Ob} {b w k : Nat} {ts : List Int}
end
section
variable (W0 : World) (Fr : List HProp)
variable {b w k : Nat} {ts : List Int} {L : List PGv}
end
end Go.Proofs.YtphljkplokjonaaGreat.Sp
namespace Go.Proofs.YtphljkplokjonaaGreat.Sp
open Go Go.Sl Go.RowKit Go.Proofs Go.Proofs.YtphljkplokjonaaGreat.T Go.Proofs.YtphljkplokjonaaGreat.Me Go.Proofs.YtphljkplokjonaaGreat.Pe Go.Proofs.YtphljkplokjonaaGreat.Pg
open Go.Proofs.YtphljkplokjonaaGreat.Fz (iv oiv iv_ones)
section
variable (W0 : World) (Fr : List HProp)
variable {o : Ob} {b w k : Nat} {ts : List Int}
end
end Go.Proofs.YtphljkplokjonaaGreat.Sp
namespace Go.Proofs.YtphljkplokjonaaGreat.Sp
open Go Go.Sl Go.RowKit Go.Proofs Go.Proofs.YtphljkplokjonaaGreat.T Go.Proofs.YtphljkplokjonaaGreat.Me Go.Proofs.YtphljkplokjonaaGreat.Pe Go.Proofs.YtphljkplokjonaaGreat.Pg
open Go.Proofs.YtphljkplokjonaaGreat.Fz (iv oiv iv_ones iv_get)
section
variable (W0 : World) (Fr : List HProp)
variable {o : Ob} {b w k : Nat} {ts : List Int}
end
end Go.Proofs.YtphljkplokjonaaGreat.Sp
namespace Go.Proofs.YtphljkplokjonaaGreat.Sp
open Go Go.Sl Go.RowKit Go.Proofs Go.Proofs.YtphljkplokjonaaGreat.T Go.Proofs.YtphljkplokjonaaGreat.Me Go.Proofs.YtphljkplokjonaaGreat.Pe Go.Proofs.YtphljkplokjonaaGreat.Pg
open Go.Proofs.YtphljkplokjonaaGreat.Fz (iv oiv iv_ones iv_get iv_len)
section
variable (W0 : World) (Fr : List HProp)
variable {o : Ob} {b w k : Nat} {ts : List Int} {fr qk : Int} {ls : List Int}
end
end Go.Proofs.YtphljkplokjonaaGreat.Sp
namespace Go.Proofs.YtphljkplokjonaaGreat.Vi
open Go Go.Sl Go.RowKit Go.Proofs Go.Proofs.YtphljkplokjonaaGreat.T Tryz
def lineC (q : Nat) : List Value := (List.range 8).map fun i => .bool (q.testBit i)
theorem lineC_len (q : Nat) : (lineC q).length = 8 := by simp [lineC]
theorem lineC_get (q : Nat) {i : Nat} (h : i < 8) : (lineC q)[i]? = some (.bool (q.testBit i)) := by simp [lineC, h]
def setBit (q i : Nat) (b : Bool) : Nat := if b then q ||| 2 ^ i else q ^^^ (q &&& 2 ^ i)
theorem setBit_test (q i j : Nat) (b : Bool) : (setBit q i b).testBit j = if i = j then b else q.testBit j := by
 unfold setBit
 cases b with
 | true => simp only [if_true, Nat.testBit_or, Nat.testBit_two_pow]; by_cases h : i = j <;> simp [h]
 | false => simp only [Bool.false_eq_true, if_false, Nat.testBit_xor, Nat.testBit_and, Nat.testBit_two_pow]; by_cases h : i = j <;> simp [h]
theorem lt_of_bits {q : Nat} (h : ∀ j, 8 ≤ j → q.testBit j = false) : q < 256 := by
 rw [show (256 : Nat) = 2 ^ 8 by rfl]
 exact Nat.lt_pow_two_of_testBit q h
theorem bits_of_lt {q : Nat} (h : q < 256) {j : Nat} (hj : 8 ≤ j) : q.testBit j = false :=
 Nat.testBit_lt_two_pow (Nat.lt_of_lt_of_le h (by rw [show (256 : Nat) = 2 ^ 8 by rfl]; exact Nat.pow_le_pow_right (by decide) hj))
theorem setBit_lt {q i : Nat} (h : q < 256) (hi : i < 8) (b : Bool) : setBit q i b < 256 := lt_of_bits fun j hj => by
 rw [setBit_test, if_neg (by omega)]; exact bits_of_lt h hj
theorem lineC_set (q i : Nat) (b : Bool) : (lineC q).set i (.bool b) = lineC (setBit q i b) := by
 apply List.ext_getElem?
 intro j
 rw [List.getElem?_set]
 by_cases h : j < 8
 ·rw [lineC_get q h, lineC_get (setBit q i b) h, setBit_test, lineC_len]
  by_cases hij : i = j
  ·subst hij; simp [h]
  ·simp [hij]
 ·have e1 : ∀ q, (lineC q)[j]? = none := fun q => List.getElem?_eq_none (by rw [lineC_len]; omega)
  rw [e1, e1, lineC_len]
  by_cases hij : i = j
  ·subst hij; simp [h]
  ·rw [if_neg hij]
def VC (q p : Nat) (at' : Int) (set : Bool) : List Value := lineC q ++ lineC p ++ [.int .i64 at', .bool set]
theorem VC_len (q p : Nat) (a : Int) (s : Bool) : (VC q p a s).length = 18 := by simp [VC, lineC_len]
theorem VC_p (q p : Nat) (a : Int) (s : Bool) {i : Nat} (h : i < 8) : (VC q p a s)[8 + i]? = some (.bool (p.testBit i)) := by
 unfold VC; rw [List.append_assoc, List.getElem?_append_right (by rw [lineC_len]; omega), lineC_len, Nat.add_sub_cancel_left, List.getElem?_append_left (by rw [lineC_len]; exact h), lineC_get p h]
theorem VC_at (q p : Nat) (a : Int) (s : Bool) : (VC q p a s)[16]? = some (.int .i64 a) := by
 unfold VC; rw [List.getElem?_append_right (by simp [lineC_len])]; simp [lineC_len]
theorem VC_set (q p : Nat) (a : Int) (s : Bool) : (VC q p a s)[17]? = some (.bool s) := by
 unfold VC; rw [List.getElem?_append_right (by simp [lineC_len])]; simp [lineC_len]
theorem VC_setq (q p : Nat) (a : Int) (s b : Bool) {i : Nat} (h : i < 8) : (VC q p a s).set i (.bool b) = VC (setBit q i b) p a s := by
 unfold VC; rw [List.append_assoc, List.set_append_left _ _ (by rw [lineC_len]; exact h), lineC_set, ← List.append_assoc]
theorem VC_setp (q p : Nat) (a : Int) (s b : Bool) {i : Nat} (h : i < 8) : (VC q p a s).set (8 + i) (.bool b) = VC q (setBit p i b) a s := by
 unfold VC; rw [List.append_assoc, List.set_append_right _ _ (by rw [lineC_len]; omega), lineC_len, Nat.add_sub_cancel_left, List.set_append_left _ _ (by rw [lineC_len]; exact h), lineC_set, ← List.append_assoc]
theorem VC_setat (q p : Nat) (a a' : Int) (s : Bool) : (VC q p a s).set 16 (.int .i64 a') = VC q p a' s := by
 unfold VC; rw [List.set_append_right _ _ (by simp [lineC_len])]; simp [lineC_len]
theorem VC_setset (q p : Nat) (a : Int) (s s' : Bool) : (VC q p a s).set 17 (.bool s') = VC q p a s' := by
 unfold VC; rw [List.set_append_right _ _ (by simp [lineC_len])]; simp [lineC_len]
theorem VC_rowq (q p : Nat) (a : Int) (s : Bool) : ((VC q p a s).drop 0).take 8 = lineC q := by
 unfold VC; rw [List.drop_zero, List.append_assoc, List.take_append_of_le_length (by rw [lineC_len]; omega), List.take_of_length_le (by rw [lineC_len]; omega)]
theorem VC_rowp (q p : Nat) (a : Int) (s : Bool) : ((VC q p a s).drop 8).take 8 = lineC p := by
 unfold VC; rw [List.append_assoc, List.drop_append, List.drop_eq_nil_of_le (by rw [lineC_len]; omega), lineC_len, Nat.sub_self, List.drop_zero, List.nil_append, List.take_append_of_le_length (by rw [lineC_len]; omega), List.take_of_length_le (by rw [lineC_len]; omega)]
theorem lineC_ones (q : Nat) : ∀ v ∈ lineC q, one v = true := by
 intro v hv; simp only [lineC, List.mem_map] at hv; obtain ⟨i, _, rfl⟩ := hv; rfl
theorem lineC_fit (q : Nat) : fitK [none, none, none, none, none, none, none, none] (lineC q) = true := by rfl
theorem lineC_zero {q : Nat} (h : q < 256) : eqCells (lineC q) (lineC 0) = decide (q = 0) := by
 by_cases hq : q = 0
 ·subst hq; decide
 ·rw [decide_eq_false hq]
  obtain ⟨j, hj⟩ := Nat.exists_testBit_of_ne_zero hq
  have hj8 : j < 8 := by
   rcases Nat.lt_or_ge j 8 with h1 | h1
   ·exact h1
   ·rw [bits_of_lt h h1] at hj; cases hj
  have e : eqCells (lineC q) (lineC 0) = ((List.range 8).all fun j => !q.testBit j) := by
   simp only [lineC, List.range, List.range.loop, List.map_cons, List.map_nil, eqCells, cellEq, List.all_cons, List.all_nil, Nat.zero_testBit]
   cases q.testBit 0 <;> cases q.testBit 1 <;> cases q.testBit 2 <;> cases q.testBit 3 <;> cases q.testBit 4 <;> cases q.testBit 5 <;> cases q.testBit 6 <;> cases q.testBit 7 <;> rfl
  rw [e]
  rw [List.all_eq_false]
  exact ⟨j, by simpa using hj8, by simp [hj]⟩
theorem wraps_word (n : Int) (h₀ : 0 ≤ n) (h₁ : n < 2 ^ 32) : IntKind.u32.wrap n = n := by rw [IntKind.wrap_u32]; omega
theorem or_nat {a b : Nat} (ha : a < 2 ^ 32) (hb : b < 2 ^ 32) : Go.bits .or .u32 (a : Int) (b : Int) = ((a ||| b : Nat) : Int) := (bits_nat .u32 32 (by decide) wraps_word a b ha hb).2
theorem mod_step (q i : Nat) : q % 2 ^ (i + 1) = if q.testBit i then (q % 2 ^ i) ||| 2 ^ i else q % 2 ^ i := by
 apply Nat.eq_of_testBit_eq
 intro j
 by_cases h : q.testBit i = true
 ·rw [if_pos h]
  simp only [Nat.testBit_or, Nat.testBit_mod_two_pow, Nat.testBit_two_pow]
  by_cases hj : i = j
  ·subst hj; simp [h]
  ·have : (j < i + 1) = (j < i) := by apply propext; omega
   simp [hj, this]
 ·rw [if_neg h]
  simp only [Nat.testBit_mod_two_pow]
  by_cases hj : i = j
  ·subst hj; simp [h]
  ·have : (j < i + 1) = (j < i) := by apply propext; omega
   simp [this]
abbrev V (v q p : Nat) (at' : Int) (set : Bool) : HProp := blk v (VC q p at' set) 162
section
variable (W0 : World) (Fr : List HProp)
theorem bits_spec {q : Nat} (hq : q < 256) : Ctr prog W0 83 [.agg (lineC q).toArray] Fr (fun _ : Unit => True) (fun _ => .int .u32 q) (fun _ => Fr) := by
 refine Ctr.of_body func83 J ntmps83 J (eZ (aZ (jQ (sX J) J ?_)))
 rintro b1 -
 show OG prog W0 _ _ _ _ _ _ (blk b1 (lineC q) 160 :: Fr)
 refine gZ J (fZ (bZ (eZ (aZ (gZ J (fZ (bZ (eZ (eZ (aZ (cZ (tQ ti160 J (lineC_len q) (Row.of_blk eX (by rw [lineC_len, List.drop_zero, List.take_of_length_le (by rw [lineC_len]; omega)]))) ?_)))))))))))
 refine cZ (Yield.buildArr0 underlying160 ti160 ti4) (cZ (Yield.agg_eql 6 J (ys := lineC 0) J (by decide) flat160 guard160 (lineC_fit q) (lineC_fit 0) (lineC_zero hq)) (fZ (bZ (wQ J (fun hc => ?_) (fun hc => ?_)))))
 ·try replace hc := odT hc
  subst hc
  exact eZ (aZ (dZ J (gZ J (fZ (bZ (tZ (vZ (xZ J J () trivial J iM))))))))
 ·try replace hc := odF hc
  refine wZ (bZ (eZ (eZ (aZ (cZ (tQ ti160 J (lineC_len q) (Row.of_blk eX (by rw [lineC_len, List.drop_zero, List.take_of_length_le (by rw [lineC_len]; omega)]))) ?_)))))
  refine dZ J (fZ (bZ (fQ (iX (fun i : Nat => i ≤ 8) (fun i => [(1, .pointer (some ⟨b1, 0, none⟩)), (3, .int .u32 (q % 2 ^ i : Nat)), (10, .agg (lineC q).toArray), (11, .int .i64 i)]) (fun _ => [blk b1 (lineC q) 160] ++ Fr) (fun i => 8 - i) 0 (by decide) (by rw [Nat.pow_zero, Nat.mod_one]; exact eS) (Imp.refl _) ?_))))
  intro i hi
  refine eZ (aZ (cZ bQ ?_))
  refine fZ (bZ (eZ (wQ J (fun hc => ?_) (fun hc => ?_))))
  ·try replace hc := odT hc
   have hi' : i < 8 := by omega
   have hp : 2 ^ i < 2 ^ 32 := Nat.pow_lt_pow_right (by decide) (by omega)
   have hm : q % 2 ^ i < 2 ^ 32 := Nat.lt_of_le_of_lt (Nat.mod_le _ _) (by omega)
   refine wZ (bZ (eZ (fQ (eZ (aZ (dZ J (cZ (Yield.index_agg (v := .bool (q.testBit i)) underlying160 ti4 J J (by omega) (by omega) (by rw [Nat.mul_one]; exact lineC_get q hi')) ?_)))))))
   refine gZ J (gZ J (fZ (bZ (eZ (aZ (dZ J (fZ (bZ (wQ J (fun hc => ?_) (fun hc => ?_))))))))))
   ·try replace hc := odT hc
    refine aZ (dZ J (dZ J (cZ (Yield.shl (m := i) (c := ((2 ^ i : Nat) : Int)) J J J (by simp [IntKind.bits]; omega) (by rw [Int.one_mul, show ((2 : Int) ^ i) = ((2 ^ i : Nat) : Int) by simp]; exact wu32 (by omega) (by omega))) ?_)))
    refine cZ (mV J J J (or_nat hm hp)) (gZ J (fZ (sZ (bZ (aZ (cZ (eQ J J wO) (dZ J (fZ (yQ (i + 1) (show i + 1 ≤ 8 by omega) (show 8 - (i + 1) < 8 - i by omega) ?_ iM)))))))))
    rw [mod_step, if_pos hc]; exact eS
   ·try replace hc := odF hc
    refine wZ (sZ (bZ (aZ (cZ (eQ J J wO) (dZ J (fZ (yQ (i + 1) (show i + 1 ≤ 8 by omega) (show 8 - (i + 1) < 8 - i by omega) ?_ iM)))))))
    rw [mod_step, if_neg (by rw [hc]; decide)]; exact eS
  ·try replace hc := odF hc
   refine dX (yZ (yZ (oQ (bZ (eZ (aZ (dZ J (gZ J (fZ (bZ (tZ ?_)))))))))))
   have : i = 8 := by omega
   subst this
   exact xZ J J () trivial (by rw [Nat.mod_eq_of_lt (by omega)]) iM
theorem new_spec : Ctr prog W0 54 [] Fr (fun _ : Nat => True) (fun v => .pointer (some ⟨v, 0, none⟩)) (fun v => V v 0 0 0 false :: Fr) := by
 refine Ctr.of_body func54 J ntmps54 J (eZ (aZ (gZ J (fZ (bZ (eZ (aZ (cZ (Yield.build0 bu162 ti162) (jQ (sX J) J ?_)))))))))
 rintro b2 -
 exact gZ J (fZ (bZ (tZ (xZ J J b2 trivial J (Imp.refl _)))))
theorem stop_spec {v q p : Nat} {a : Int} {s : Bool} : Ctr prog W0 82 [.pointer (some ⟨v, 0, none⟩)] (V v q p a s :: Fr) (fun _ : Unit => True) (fun _ => .tuple #[]) (fun _ => V v q p 0 false :: Fr) := by
 refine Ctr.of_body func82 J ntmps82 J (aZ (dZ J (dZ J (cQ J (pZ fa162_2 J (cX (aX ti3 J J fC J (by rw [VC_len]; decide)) J ?_))))))
 rintro ⟨⟩ -
 rw [show 0 + 16 = 16 from J, VC_setat]
 refine cQ J (pZ fa162_3 J (cX (aX ti4 J J fC J (by rw [VC_len]; decide)) J ?_))
 rintro ⟨⟩ -
 rw [show 0 + 17 = 17 from J, VC_setset]
 exact fZ (jV J () trivial J (Imp.refl _))
theorem queue_spec {v q p : Nat} {a : Int} {s : Bool} (n : Int) : Ctr prog W0 62 [.pointer (some ⟨v, 0, none⟩), .int .i64 n] (V v q p a s :: Fr) (fun _ : Unit => True)
 (fun _ => .int .i64 (if 0 ≤ n ∧ n < 8 then 0 else 2)) (fun _ => V v (if 0 ≤ n ∧ n < 8 then setBit q n.toNat true else q) p a s :: Fr) := by
 refine Ctr.of_body func62 J ntmps62 J (eZ (aZ (gZ J (fZ (bZ (eZ (eZ ?_)))))))
 rcases (show n < 0 ∨ (0 ≤ n ∧ n ≥ 8) ∨ (0 ≤ n ∧ n < 8) by omega) with hh | hh | hh
 ·refine aZ (dZ J (cZ bQ ?_))
  refine dZ J (iQ J J J J J (iQ J J J J J (cZ jZ ?_)))
  refine fZ (bZ (gQ J (eZ (aZ (gZ J (fZ (bZ (tZ (vZ ?_)))))))))
  rw [if_neg (by omega), if_neg (by omega)]
  exact xZ J J () trivial J (Imp.refl _)
 ·refine aZ (dZ J (cZ bQ ?_))
  refine dZ J (iZ J J (dZ J (iZ J J (cZ zQ ?_))))
  refine cZ jZ ?_
  refine fZ (bZ (gQ J (eZ (aZ (gZ J (fZ (bZ (tZ (vZ ?_)))))))))
  rw [if_neg (by omega), if_neg (by omega)]
  exact xZ J J () trivial J (Imp.refl _)
 ·refine aZ (dZ J (cZ bQ ?_))
  refine dZ J (iZ J J (dZ J (iZ J J (cZ zQ ?_))))
  refine cZ jZ ?_
  refine fZ (bZ (qZ J (wZ (bZ (eZ (aZ (dZ J (dZ J (cQ J (pZ fa162_0 J (cZ (rX underlying160 ti4 J J (by omega) (by omega)) ?_)))))))))))
  refine cX (aX ti4 J J fC J (by rw [VC_len]; omega)) J ?_
  rintro ⟨⟩ -
  rw [show 0 + 0 + n.toNat * 1 = n.toNat by omega, VC_setq _ _ _ _ _ (by omega)]
  refine fZ (bZ (eZ (aZ (gZ J (fZ (bZ (tZ ?_)))))))
  rw [if_pos hh, if_pos hh]
  exact xZ J J () trivial J (Imp.refl _)
theorem queued_spec {v q p : Nat} {a : Int} {s : Bool} (hq : q < 256) : Ctr prog W0 35 [.pointer (some ⟨v, 0, none⟩)] (V v q p a s :: Fr) (fun _ : Unit => True) (fun _ => .int .u32 q) (fun _ => V v q p a s :: Fr) := by
 refine Ctr.of_body func35 J ntmps35 J (eZ (aZ (gZ J (fZ (bZ (eZ (aZ (dZ J (cQ J (pZ fa162_0 J (cZ (tQ ti160 J (lineC_len q) (Row.of_blk eX (VC_rowq q p a s))) ?_)))))))))))
 refine oZ call83 J (Imp.refl _) (bits_spec W0 _ hq) J ?_
 rintro ⟨⟩ -
 exact gZ J (fZ (bZ (tZ (xZ J J () trivial J (Imp.refl _)))))
theorem pending_spec {v q p : Nat} {a : Int} {s : Bool} (hp : p < 256) : Ctr prog W0 34 [.pointer (some ⟨v, 0, none⟩)] (V v q p a s :: Fr) (fun _ : Unit => True) (fun _ => .int .u32 p) (fun _ => V v q p a s :: Fr) := by
 refine Ctr.of_body func34 J ntmps34 J (eZ (aZ (gZ J (fZ (bZ (eZ (aZ (dZ J (cQ J (pZ fa162_1 J (cZ (tQ ti160 J (lineC_len p) (Row.of_blk eX (VC_rowp q p a s))) ?_)))))))))))
 refine oZ call83 J (Imp.refl _) (bits_spec W0 _ hp) J ?_
 rintro ⟨⟩ -
 exact gZ J (fZ (bZ (tZ (xZ J J () trivial J (Imp.refl _)))))
def due (a : Int) (s : Bool) (now : Int) : Bool := s && decide (a ≤ now)
theorem or_lt {p q : Nat} (hp : p < 256) (hq : q < 256) : p ||| q < 256 := Nat.or_lt_two_pow (n := 8) hp hq
theorem rel_step (p t i : Nat) : setBit (p ||| (t % 2 ^ i)) i ((p ||| (t % 2 ^ i)).testBit i || t.testBit i) = p ||| (t % 2 ^ (i + 1)) := by
 apply Nat.eq_of_testBit_eq
 intro j
 rw [setBit_test]
 simp only [Nat.testBit_or, Nat.testBit_mod_two_pow]
 by_cases hj : i = j
 ·subst hj; simp
 ·have : (j < i + 1) = (j < i) := by apply propext; omega
  simp [hj, this]
theorem release_spec {v q p : Nat} {a : Int} {s : Bool} (now : Int) (hq : q < 256) (hp : p < 256) : Ctr prog W0 27 [.pointer (some ⟨v, 0, none⟩), .int .i64 now] (V v q p a s :: Fr) (fun _ : Unit => True)
 (fun _ => .int .u32 (if due a s now then setBit q 0 true else q : Nat)) (fun _ => V v 0 (p ||| (if due a s now then setBit q 0 true else q)) (if due a s now then 0 else a) (s && !due a s now) :: Fr) := by
 have h1 : due a s now = true → setBit q 0 true < 256 := fun _ => setBit_lt hq (by decide) true
 refine Ctr.of_body func27 J ntmps27 J (eZ (aZ (gZ J (fZ (bZ (CG.cut (fun _ : Unit => True) (fun _ => [(0, .pointer (some ⟨v, 0, none⟩)), (1, .int .i64 now)]) (fun _ => V v (if due a s now then setBit q 0 true else q) p (if due a s now then 0 else a) (s && !due a s now) :: Fr) ?_ ?_))))))
 ·refine eZ ?_
  rcases (show (s = true ∧ a ≤ now) ∨ (s = true ∧ ¬ a ≤ now) ∨ s = false by cases s <;> simp; omega) with hh | hh | hh
  ·refine aZ (dZ J (cQ J (pZ fa162_3 J (cZ (dQ (hZ ti4 J (Cel.of_blk eX (VC_set q p a s))) (v' := .bool true) (by rw [hh.1])) ?_))))
   refine dZ J (iZ J J (dZ J (iZ J J (cQ J (iZ J J (pZ fa162_2 J (iZ J J (cZ (hZ ti3 J (Cel.of_blk eX (VC_at q p a s))) ?_))))))))
   refine iZ J J (dZ J (iZ J J (cZ Yield.leqA ?_)))
   refine cZ jZ ?_
   refine fZ (bZ (gQ J (eZ (aZ (dZ J (oZ call82 J (iM) (stop_spec W0 Fr) J ?_))))))
   rintro ⟨⟩ -
   refine fZ (bZ (aZ (dZ J (cQ J (pZ fa162_0 J (cZ (rX underlying160 ti4 J J (by omega) (by omega)) ?_))))))
   refine cX (aX ti4 J J fC J (by rw [VC_len]; decide)) J ?_
   rintro ⟨⟩ -
   rw [show 0 + 0 + (0 : Int).toNat * 1 = 0 from J, VC_setq _ _ _ _ _ (by decide)]
   refine fZ ?_
   have hd : due a s now = true := by simp [due, hh.1, hh.2]
   rw [hd]
   refine cV () trivial eS ?_
   rw [hh.1]
   exact Imp.refl _
  ·refine aZ (dZ J (cQ J (pZ fa162_3 J (cZ (dQ (hZ ti4 J (Cel.of_blk eX (VC_set q p a s))) (v' := .bool true) (by rw [hh.1])) ?_))))
   refine dZ J (iZ J J (dZ J (iZ J J (cQ J (iZ J J (pZ fa162_2 J (iZ J J (cZ (hZ ti3 J (Cel.of_blk eX (VC_at q p a s))) ?_))))))))
   refine iZ J J (dZ J (iZ J J (cZ Yield.leqA ?_)))
   refine cZ jZ ?_
   refine fZ (bZ (qZ J (wZ ?_)))
   have hd : due a s now = false := by simp [due, hh.1, hh.2]
   rw [hd]
   refine cV () trivial eS ?_
   rw [hh.1]
   exact Imp.refl _
  ·refine aZ (dZ J (cQ J (pZ fa162_3 J (cZ (dQ (hZ ti4 J (Cel.of_blk eX (VC_set q p a s))) (v' := .bool false) (by rw [hh])) ?_))))
   refine dZ J (iQ J J J J J (iQ J J J J J (iQ J J J J J (iQ J J J J J (iQ J J J J J (iQ J J J J J (cZ jZ ?_)))))))
   refine fZ (bZ (qZ J (wZ ?_)))
   have hd : due a s now = false := by simp [due, hh]
   rw [hd]
   refine cV () trivial eS ?_
   rw [hh]
   exact Imp.refl _
 rintro ⟨⟩ -
 have ht : (if due a s now then setBit q 0 true else q) < 256 := by split; exact setBit_lt hq (by decide) true; exact hq
 generalize (if due a s now then setBit q 0 true else q) = t at ht ⊢
 generalize (if due a s now then 0 else a) = a'
 generalize (s && !due a s now) = s'
 refine eZ (aZ (dZ J (cQ J (pZ fa162_0 J (cZ (tQ ti160 J (lineC_len t) (Row.of_blk eX (VC_rowq t p a' s'))) ?_)))))
 refine jQ (lX ti160) J ?_
 rintro b5 -
 refine cX (gX ti160 J J fC (lineC_len t) (lineC_ones t) J) J ?_
 rintro ⟨⟩ -
 refine fZ (bZ (eZ (eZ (aZ (cZ (tQ ti160 J (lineC_len t) (Row.of_blk eX (by rw [lineC_len, List.drop_zero, List.take_of_length_le (by rw [lineC_len]; omega)]))) ?_)))))
 refine dZ J (fZ (bZ (fQ (iX (fun i : Nat => i ≤ 8) (fun i => [(0, .pointer (some ⟨v, 0, none⟩)), (5, .pointer (some ⟨b5, 0, none⟩)), (30, .agg (lineC t).toArray), (31, .int .i64 i)]) (fun i => blk b5 (lineC t) 160 :: V v t (p ||| (t % 2 ^ i)) a' s' :: Fr) (fun i => 8 - i) 0 (by decide) eS (by rw [Nat.pow_zero, Nat.mod_one, Nat.or_zero]; exact Imp.refl _) ?_))))
 intro i hi
 refine eZ (aZ (cZ bQ ?_))
 refine fZ (bZ (eZ (wQ J (fun hc => ?_) (fun hc => ?_))))
 ·try replace hc := odT hc
  have hi' : i < 8 := by omega
  refine wZ (bZ (eZ (fQ (eZ (aZ (dZ J (cZ (Yield.index_agg (v := .bool (t.testBit i)) underlying160 ti4 J J (by omega) (by omega) (by rw [Nat.mul_one]; exact lineC_get t hi')) ?_)))))))
  refine gZ J (gZ J (fZ (bZ ?_)))
  rcases Bool.eq_false_or_eq_true ((p ||| (t % 2 ^ i)).testBit i) with hb | hb
  ·refine sQ (.lo 0 1 (.lo 1 1 (.lo 2 1 (.lo 3 1 (.lo 4 1 (.lo 5 1 (.lo 6 1 (.lo 7 1 (.lo 8 1 (.lo 9 1 (.lo 10 1 (.lo 11 1 (.lo 12 1 (.lo 13 1 (.eff1 14 false (.done)))))))))))))))) [14] [] ([]) ([]) mixed (by kernel_rfl) (Imp.none _) (Imp.none _) (mZ J J (mZ J J (mZ J J (mZ J J (rQ J J (aQ J fa162_1 J (kZ J (rX underlying160 ti4 J J (by omega) (by omega)) ?_)))))))
   refine kZ J (dQ (hZ (v := .bool ((p ||| (t % 2 ^ i)).testBit i)) ti4 J (Cel.of_blk eX (by rw [show 0 + 8 + (i : Int).toNat * 1 = 8 + i by omega]; exact VC_p _ _ _ _ hi'))) (v' := .bool true) (by rw [hb])) ?_
   refine mZ J J (lQ J J J (kZ J jZ ?_))
   refine rQ J J (aQ J fa162_1 J (kZ J (rX underlying160 ti4 J J (by omega) (by omega)) ?_))
   refine zZ (vQ J J (aX ti4 J J fC J (by rw [VC_len]; omega)) J (fun _ => iM) (fun _ => Imp.refl _) (fun _ => iM) ?_)
   rintro ⟨⟩ -
   rw [show 0 + 8 + (i : Int).toNat * 1 = 8 + i by omega, VC_setp _ _ _ _ _ hi']
   refine qQ (sZ (bZ (aZ (cZ (eQ J J wO) (dZ J (fZ (yQ (i + 1) (show i + 1 ≤ 8 by omega) (show 8 - (i + 1) < 8 - i by omega) eS ?_)))))))
   have e := rel_step p t i
   rw [hb, Bool.true_or] at e
   rw [e]
   exact iM
  ·refine sQ (.lo 0 1 (.lo 1 1 (.lo 2 1 (.lo 3 1 (.lo 4 1 (.lo 5 1 (.lo 6 1 (.lo 7 1 (.lo 8 1 (.lo 9 1 (.lo 10 1 (.lo 11 1 (.lo 12 1 (.lo 13 1 (.eff1 14 false (.done)))))))))))))))) [14] [] ([]) ([]) mixed (by kernel_rfl) (Imp.none _) (Imp.none _) (mZ J J (mZ J J (mZ J J (mZ J J (rQ J J (aQ J fa162_1 J (kZ J (rX underlying160 ti4 J J (by omega) (by omega)) ?_)))))))
   refine kZ J (dQ (hZ (v := .bool ((p ||| (t % 2 ^ i)).testBit i)) ti4 J (Cel.of_blk eX (by rw [show 0 + 8 + (i : Int).toNat * 1 = 8 + i by omega]; exact VC_p _ _ _ _ hi'))) (v' := .bool false) (by rw [hb])) ?_
   refine mZ J J (mZ J J (kZ J jZ ?_))
   refine rQ J J (aQ J fa162_1 J (kZ J (rX underlying160 ti4 J J (by omega) (by omega)) ?_))
   refine zZ (vQ J J (aX ti4 J J fC J (by rw [VC_len]; omega)) J (fun _ => iM) (fun _ => Imp.refl _) (fun _ => iM) ?_)
   rintro ⟨⟩ -
   rw [show 0 + 8 + (i : Int).toNat * 1 = 8 + i by omega, VC_setp _ _ _ _ _ hi']
   refine qQ (sZ (bZ (aZ (cZ (eQ J J wO) (dZ J (fZ (yQ (i + 1) (show i + 1 ≤ 8 by omega) (show 8 - (i + 1) < 8 - i by omega) eS ?_)))))))
   have e := rel_step p t i
   rw [hb, Bool.false_or] at e
   rw [e]
   exact iM
 ·try replace hc := odF hc
  refine dX (yZ (yZ (oQ (bZ (eZ ?_)))))
  have h8 : i = 8 := by omega
  subst h8
  rw [Nat.mod_eq_of_lt (show t < 2 ^ 8 by omega)]
  refine aZ (dZ J (cZ (Yield.buildArr0 underlying160 ti160 ti4) (cQ J (pZ fa162_0 J (cX (Eff.store (cs' := VC 0 (p ||| t) a' s') ti160 J J fC J ?_ (by rw [VC_len]; decide) ?_) J ?_)))))
  ·intro c hc; exact lineC_ones 0 c hc
  ·unfold over VC
   rw [show 0 + 0 = 0 from J, List.take_zero, List.nil_append]
   show lineC 0 ++ List.drop 8 (lineC t ++ lineC (p ||| t) ++ [Value.int IntKind.i64 a', Value.bool s']) = _
   rw [List.append_assoc, List.drop_append, List.drop_eq_nil_of_le (by rw [lineC_len]; omega), lineC_len, List.nil_append, Nat.sub_self, List.drop_zero, List.append_assoc]
  rintro ⟨⟩ -
  refine fZ (bZ (eZ (aZ (cZ (tQ ti160 J (lineC_len t) (Row.of_blk eX (by rw [lineC_len, List.drop_zero, List.take_of_length_le (by rw [lineC_len]; omega)]))) ?_))))
  refine oZ call83 J (Imp.refl _) (bits_spec W0 _ ht) J ?_
  rintro ⟨⟩ -
  exact gZ J (fZ (bZ (tZ (xZ J J () trivial J iM))))
end
end Go.Proofs.YtphljkplokjonaaGreat.Vi
namespace Go.Proofs.YtphljkplokjonaaGreat.Vc
open Go Go.Sl Go.RowKit Go.Proofs Go.Proofs.YtphljkplokjonaaGreat.T Tryz
structure RingAt (cs : List Value) (o : Nat) (arr : List UInt8) (first : Nat) (bs : List UInt8) : Prop where
 room : o + 66 ≤ cs.length
 len : arr.length = 64
 lt : first < 64
 few : bs.length ≤ 64
 carr : ∀ (i : Nat) (b : UInt8), arr[i]? = some b → cs[o + i]? = some (byteV b)
 cfirst : cs[o + 64]? = some (.int .i64 first)
 cn : cs[o + 65]? = some (.int .i64 bs.length)
 get : ∀ (i : Nat) (b : UInt8), bs[i]? = some b → arr[(first + i) % 64]? = some b
def Ring (cs : List Value) (o : Nat) (bs : List UInt8) : Prop := ∃ arr first, RingAt cs o arr first bs
def But (cs cs' : List Value) (o m : Nat) : Prop := cs'.length = cs.length ∧ ∀ k, (k < o ∨ o + m ≤ k) → cs'[k]? = cs[k]?
theorem But.refl (cs : List Value) (o m : Nat) : But cs cs o m := ⟨rfl, fun _ _ => rfl⟩
theorem But.trans {a b c : List Value} {o m : Nat} (h : But a b o m) (k : But b c o m) : But a c o m := ⟨k.1.trans h.1, fun i hi => (k.2 i hi).trans (h.2 i hi)⟩
theorem But.set {cs : List Value} {o m i : Nat} (v : Value) (h1 : o ≤ i) (h2 : i < o + m) : But cs (cs.set i v) o m := ⟨by simp, fun k hk => by rw [List.getElem?_set_ne (by omega)]⟩
theorem Ring.but {cs cs' : List Value} {o o' : Nat} {bs : List UInt8} (h : Ring cs o bs) (b : But cs cs' o' 66) (hd : o + 66 ≤ o' ∨ o' + 66 ≤ o) : Ring cs' o bs := by
 obtain ⟨arr, first, h⟩ := h
 refine ⟨arr, first, by rw [b.1]; exact h.room, h.len, h.lt, h.few, fun i x hi => ?_, ?_, ?_, h.get⟩
 ·have := h.carr i x hi
  have hlt : i < 64 := by
   rw [← h.len]
   rcases Nat.lt_or_ge i arr.length with q | q
   ·exact q
   ·rw [List.getElem?_eq_none q] at hi; cases hi
  rw [b.2 _ (by omega)]; exact this
 ·rw [b.2 _ (by omega)]; exact h.cfirst
 ·rw [b.2 _ (by omega)]; exact h.cn
section
variable (W0 : World) (Fr : List HProp)
set_option maxHeartbeats 1000000 in
theorem all_spec {g o : Nat} {cs : List Value} {t : TypeId} {bs : List UInt8} (h : Ring cs o bs) :
 Ctr prog W0 74 [.pointer (some ⟨g, o, none⟩)] (blk g cs t :: Fr) (fun _ : Option Addr × Nat => True) (fun p => .slice p.1 bs.length p.2) (fun p => osl 5 1 p.1 p.2 bs.length (bytesV bs) :: blk g cs t :: Fr) := by
 obtain ⟨arr, first, h⟩ := h
 have hfew := h.few
 have hlt := h.lt
 have hlen := h.len
 refine Ctr.of_body func74 J ntmps74 J (eZ (aZ (gZ J (fZ (bZ (eZ (aZ (jQ (lV underlying32 ti5 J) J ?_))))))))
 rintro b5 -
 refine gZ J (fZ (bZ (eZ (eZ (aZ (dZ J (cQ J (pZ fa146_2 J (cZ (hZ ti3 J (Cel.of_blk eX h.cn)) ?_)))))))))
 refine dZ J (fZ (bZ (fQ ?_)))
 refine iX (fun i : Nat × Option Addr × Nat => i.1 ≤ bs.length) (fun i => [(0, .pointer (some ⟨g, o, none⟩)), (3, .slice i.2.1 i.1 i.2.2), (9, .int .i64 bs.length), (10, .int .i64 i.1)])
  (fun i => osl 5 1 i.2.1 i.2.2 i.1 (bytesV (bs.take i.1)) :: blk g cs t :: Fr) (fun i => bs.length - i.1) (0, some ⟨b5, 0, none⟩, 0) (Nat.zero_le _) ?_ (Imp.refl _) ?_
 ·exact Env.sub_cons J (Env.sub_cons J (Env.sub_cons J (Env.sub_cons J (Env.sub_nil _))))
 rintro ⟨i, a, c⟩ (hi : i ≤ bs.length)
 refine eZ (aZ (cZ bQ ?_))
 refine fZ (bZ (eZ (wQ J (fun hc => ?_) (fun hc => ?_))))
 ·try replace hc := odT hc
  have hi' : i < bs.length := by omega
  have hget : bs[i]? = some bs[i] := by simp [hi']
  refine wZ (bZ (eZ (fQ (eZ (aZ (dZ J (gZ J (fZ (bZ (sQ (.lo 0 0 (.lo 1 1 (.lo 2 1 (.lo 3 1 (.lo 4 1 (.lo 5 1 (.lo 6 1 (.lo 7 1 (.lo 8 1 (.lo 9 1 (.lo 10 1 (.lo 11 1 (.lo 12 1 (.eff1 13 false (.eff1 14 false (.lo 15 1 (.done))))))))))))))))) [13, 14] [] ([]) ([]) mixed (by kernel_rfl) (Imp.none _) (Imp.none _) (mZ J J (mZ J J (mZ J J (rQ J J (aQ J fa146_1 J (kZ J (hZ ti3 J (Cel.of_blk eX h.cfirst)) ?_))))))))))))))))
  refine mZ J J (kZ J (eQ J J wO) (kZ J (tX J J (by omega) (tmod_pos (by omega) (by omega))) ?_))
  refine rQ J J (aQ J fa146_0 J (kZ J (rX underlying144 ti5 J J (by omega) (by omega)) ?_))
  refine DG.look J J (hZ ti5 J (Cel.of_blk eX (v := byteV bs[i]) (by
   rw [show o + 0 + (((first : Int) + (i : Int)) % 64).toNat * 1 = o + (first + i) % 64 by omega]; exact h.carr _ _ (h.get i _ hget)))) J ?_
  refine zZ (vQ J J (gV underlying32 ti5 J J J) J (fun _ => iM) (fun _ => Imp.refl _) (fun _ => iM) ?_)
  rintro b26 -
  refine zZ (vQ J J (nX J J J underlying32 underlying32 ti5 J (by decide) fC (SlR.of_osl eX) (bytesV_one (bs := [bs[i]])) (by omega)) J (fun _ => iM) (fun _ => Imp.refl _) (fun _ => iM) ?_)
  rintro ⟨a', c'⟩ -
  refine kZ J (hQ J) (qQ (sZ (bZ (aZ (cZ (eQ J J wO) (dZ J (fZ (yQ (i + 1, a', c') (show i + 1 ≤ bs.length by omega) (show bs.length - (i + 1) < bs.length - i by omega) ?_ ?_))))))))
  ·exact Env.sub_cons J (Env.sub_cons J (Env.sub_cons J (Env.sub_cons J (Env.sub_nil _))))
  ·dsimp only
   rw [List.take_succ_eq_append_getElem hi', bytesV_append]
   exact iM
 ·try replace hc := odF hc
  refine dX (yZ (yZ (oQ (bZ (eZ (aZ (dZ J (gZ J (fZ (bZ (tZ (xZ J J (a, c) trivial ?_ ?_))))))))))))
  ·have : i = bs.length := by omega
   subst this; rfl
  ·have : i = bs.length := by omega
   subst this
   rw [List.take_length]
   exact Imp.refl _
end
theorem lt_of_get {α : Type} {l : List α} {i : Nat} {v : α} (h : l[i]? = some v) : i < l.length := by
 rcases Nat.lt_or_ge i l.length with q | q
 ·exact q
 ·rw [List.getElem?_eq_none q] at h; cases h
theorem RingAt.take {cs : List Value} {o : Nat} {arr : List UInt8} {first : Nat} {bs : List UInt8} (h : RingAt cs o arr first bs) {k : Nat} (hk : k ≤ bs.length) :
 RingAt ((cs.set (o + 64) (.int .i64 ((first + k) % 64 : Nat))).set (o + 65) (.int .i64 (bs.length - k : Nat))) o arr ((first + k) % 64) (bs.drop k) := by
 have hroom := h.room
 have hlen := h.len
 have hfew := h.few
 refine ⟨by simp; exact hroom, h.len, by omega, by simp; omega, fun i b hi => ?_, ?_, ?_, fun i b hi => ?_⟩
 ·have := lt_of_get hi
  rw [List.getElem?_set_ne (by omega), List.getElem?_set_ne (by omega)]; exact h.carr i b hi
 ·rw [List.getElem?_set_ne (by omega), List.getElem?_set_self (by omega)]
 ·rw [List.getElem?_set_self (by simp; omega)]; simp
 ·rw [List.getElem?_drop] at hi
  have := h.get (k + i) b hi
  rw [show (first + (k + i)) % 64 = ((first + k) % 64 + i) % 64 by omega] at this
  exact this
theorem RingAt.put {cs : List Value} {o : Nat} {arr : List UInt8} {first : Nat} {bs : List UInt8} (h : RingAt cs o arr first bs) (b : UInt8) (hk : bs.length < 64) :
 RingAt ((cs.set (o + (first + bs.length) % 64) (byteV b)).set (o + 65) (.int .i64 (bs.length + 1 : Nat))) o (arr.set ((first + bs.length) % 64) b) first (bs ++ [b]) := by
 have hroom := h.room
 have hlen := h.len
 have hlt := h.lt
 refine ⟨by simp; exact hroom, by simp [hlen], h.lt, by simp; omega, fun i x hi => ?_, ?_, ?_, fun i x hi => ?_⟩
 ·have := lt_of_get hi
  simp only [List.length_set] at this
  rw [List.getElem?_set_ne (by omega)]
  by_cases hq : (first + bs.length) % 64 = i
  ·subst hq
   rw [List.getElem?_set_self (by omega)] at hi
   cases hi
   rw [List.getElem?_set_self (by omega)]
  ·rw [List.getElem?_set_ne hq] at hi
   rw [List.getElem?_set_ne (by omega)]; exact h.carr i x hi
 ·rw [List.getElem?_set_ne (by omega), List.getElem?_set_ne (by omega)]; exact h.cfirst
 ·rw [List.getElem?_set_self (by simp; omega)]; simp
 ·have hi2 := lt_of_get hi
  simp only [List.length_append, List.length_singleton] at hi2
  by_cases hq : i = bs.length
  ·subst hq
   rw [List.getElem?_append_right (Nat.le_refl _)] at hi
   simp at hi
   subst hi
   rw [List.getElem?_set_self (by omega)]
  ·rw [List.getElem?_append_left (by omega)] at hi
   rw [List.getElem?_set_ne (by omega)]; exact h.get i x hi
section
variable (W0 : World) (Fr : List HProp)
def kOf (n : Int) (m : Nat) : Nat := (max 0 (min n (m : Int))).toNat
theorem kOf_le (n : Int) (m : Nat) : kOf n m ≤ m := by unfold kOf; omega
set_option maxHeartbeats 1000000 in
theorem take_spec {g o : Nat} {cs : List Value} {t : TypeId} {bs : List UInt8} (n : Int) (h : Ring cs o bs) :
 Ctr prog W0 81 [.pointer (some ⟨g, o, none⟩), .int .i64 n] (blk g cs t :: Fr) (fun p : (Option Addr × Nat) × List Value => But cs p.2 o 66 ∧ Ring p.2 o (bs.drop (kOf n bs.length)))
  (fun p => .slice p.1.1 (kOf n bs.length) p.1.2) (fun p => osl 5 1 p.1.1 p.1.2 (kOf n bs.length) (bytesV (bs.take (kOf n bs.length))) :: blk g p.2 t :: Fr) := by
 obtain ⟨arr, first, h⟩ := h
 have hfew := h.few
 have hlt := h.lt
 have hlen := h.len
 have hroom := h.room
 have hk := kOf_le n bs.length
 have hkk : max 0 (min n (bs.length : Int)) = ((kOf n bs.length : Nat) : Int) := by unfold kOf; omega
 generalize kOf n bs.length = k at *
 refine Ctr.of_body func81 J ntmps81 J (eZ (aZ (gZ J (fZ (bZ (eZ (aZ (dZ J (dZ J (cQ J (pZ fa146_2 J (cZ (hZ ti3 J (Cel.of_blk eX h.cn)) ?_))))))))))))
 refine cZ (dV J J) (cZ (rV J J) (gZ J (fZ ?_)))
 rw [hkk]
 refine bZ (eZ (aZ (dZ J (oZ call74 J (iM) (all_spec W0 Fr ⟨arr, first, h⟩) J ?_))))
 rintro ⟨a, c⟩ -
 refine OG.pure (fun w hw => osl_facts Ext.here w hw) ?_
 rintro ⟨_, hcap⟩
 refine dZ J (cZ (pV underlying32 ti5 J (Bound.some J) (by omega) (by omega)) ?_)
 refine gZ J (fZ (bZ (eZ (aZ (dZ J (dZ J (cQ J (pZ fa146_1 J (cZ (hZ ti3 J (Cel.of_blk eX h.cfirst)) ?_)))))))))
 refine dZ J (cZ (eQ J J wO) (cZ (tX J J (by omega) (tmod_pos (by omega) (by omega))) ?_))
 refine cQ J (pZ fa146_1 J (cX (aX ti3 J J fC J (show o + 64 < cs.length by omega)) J ?_))
 rintro ⟨⟩ -
 refine fZ (bZ (eZ (aZ (dZ J (cQ J (pZ fa146_2 J (cZ (hZ ti3 J (Cel.of_blk eX (by rw [List.getElem?_set_ne (by omega)]; exact h.cn))) ?_)))))))
 refine dZ J (cZ (aV J J wO) (cQ J (pZ fa146_2 J (cX (aX ti3 J J fC J (show o + 65 < (cs.set (o + 64) _).length by simp; omega)) J ?_))))
 rintro ⟨⟩ -
 refine fZ (bZ (eZ (aZ (dZ J (gZ J (fZ (bZ (tZ ?_))))))))
 have e1 : ((first : Int) + (k : Int)) % 64 = (((first + k) % 64 : Nat) : Int) := by omega
 have e2 : ((bs.length : Int) - (k : Int)) = ((bs.length - k : Nat) : Int) := by omega
 rw [e1, e2]
 refine xZ J J ((a, c), (cs.set (o + 64) _).set (o + 65) _) ⟨?_, arr, (first + k) % 64, h.take hk⟩ J ?_
 ·exact (But.set _ (by omega) (by omega)).trans (But.set _ (by omega) (by omega))
 ·refine Imp.head (fun x hx => ?_)
  have := osl_take hk x hx
  rw [Nat.mul_one, bytesV_take] at this
  exact this
set_option maxHeartbeats 1000000 in
theorem lay_spec {g o : Nat} {cs : List Value} {t : TypeId} {bs ds : List UInt8} {a2 : Option Addr} {c2 : Nat} (h : Ring cs o bs) (hd : SlR W0 Fr 1 a2 ds.length (bytesV ds)) (hc2 : ds.length ≤ c2) (hsz : ds.length ≤ 2 ^ 48) :
 Ctr prog W0 73 [.pointer (some ⟨g, o, none⟩), .slice a2 ds.length c2] (blk g cs t :: Fr) (fun p : List Value => But cs p o 66 ∧ Ring p o (bs ++ ds.take (64 - bs.length)))
  (fun _ => .int .i64 (min ds.length (64 - bs.length) : Nat)) (fun p => blk g p t :: Fr) := by
 obtain ⟨arr, first, h⟩ := h
 have hfew := h.few
 have hlt := h.lt
 have hlen := h.len
 have hroom := h.room
 have hj : min (ds.length : Int) (64 - (bs.length : Int)) = ((min ds.length (64 - bs.length) : Nat) : Int) := by omega
 have htk : ds.take (min ds.length (64 - bs.length)) = ds.take (64 - bs.length) := by
  rw [Nat.min_def]; split
  ·rw [List.take_of_length_le (Nat.le_refl _), List.take_of_length_le (by omega)]
  ·rfl
 generalize hjj : min ds.length (64 - bs.length) = j at *
 have hj1 : j ≤ ds.length := by omega
 have hj2 : bs.length + j ≤ 64 := by omega
 refine Ctr.of_body func73 J ntmps73 J (eZ (aZ (gZ J (fZ (bZ (eZ (aZ (dZ J (cZ (lZ underlying32 J J) (dZ J (cQ J (pZ fa146_2 J (cZ (hZ ti3 J (Cel.of_blk eX h.cn)) ?_)))))))))))))
 refine cZ (aV J J wO) (cZ (dV J J) (gZ J (fZ ?_)))
 rw [hj]
 refine bZ (eZ (eZ (aZ (dZ J (dZ J (cZ (pV underlying32 ti5 J (Bound.some J) (by omega) (by omega)) ?_))))))
 refine cZ (lZ underlying32 J J) (dZ J (fZ (bZ (fQ ?_))))
 refine iX (fun i : Nat × List Value => i.1 ≤ j ∧ But cs i.2 o 66 ∧ ∃ arr first, RingAt i.2 o arr first (bs ++ ds.take i.1)) (fun i => [(0, .pointer (some ⟨g, o, none⟩)), (5, .int .i64 j), (18, .slice a2 j c2), (19, .int .i64 j), (20, .int .i64 i.1)])
  (fun i => blk g i.2 t :: Fr) (fun i => j - i.1) (0, cs) ⟨Nat.zero_le _, But.refl _ _ _, arr, first, by simpa using h⟩ ?_ (Imp.refl _) ?_
 ·exact Env.sub_cons J (Env.sub_cons J (Env.sub_cons J (Env.sub_cons J (Env.sub_cons J (Env.sub_nil _)))))
 clear h hlt hlen
 clear arr first
 rintro ⟨i, cs1⟩ ⟨hi, hbut, arr, first, h⟩
 dsimp only at hi hbut h
 have hlt := h.lt
 have hlen := h.len
 have hroom1 := h.room
 have hll : (bs ++ ds.take i).length = bs.length + i := by simp; omega
 have hcn : cs1[o + 65]? = some (.int .i64 ((bs.length + i : Nat) : Int)) := by rw [← hll]; exact h.cn
 refine eZ (aZ (cZ bQ ?_))
 refine fZ (bZ (eZ (wQ J (fun hc => ?_) (fun hc => ?_))))
 ·try replace hc := odT hc
  have hi' : i < j := by omega
  have hget : ds[i]? = some ds[i] := by simp
  refine kX (fun w hw => SlR.shape (hd.imp Imp.drop) (by intro q; have := congrArg List.length q; simp [bytesV] at this; subst this; simp at hj1; omega) w hw) ?_
  rintro ⟨b, o2, rfl⟩
  refine wZ (bZ (eZ (fQ (eZ (aZ (cZ (nZ underlying32 ti5 J J (by omega) (by omega)) ?_))))))
  refine cZ (hZ ti5 J (v := byteV ds[i]) (by simpa using (SlR.imp hd Imp.drop).cel (bytesV_get hget))) ?_
  refine gZ J (fZ (bZ (eZ (sQ (.lo 0 1 (.lo 1 1 (.lo 2 1 (.lo 3 1 (.lo 4 1 (.lo 5 1 (.lo 6 1 (.lo 7 1 (.lo 8 1 (.lo 9 1 (.lo 10 1 (.lo 11 1 (.lo 12 1 (.lo 13 1 (.lo 14 1 (.eff1 15 false (.done))))))))))))))))) [15] [] ([]) ([]) mixed (by kernel_rfl) (Imp.none _) (Imp.none _) (mZ J J (mZ J J (rQ J J (aQ J fa146_1 J (kZ J (hZ ti3 J (Cel.of_blk eX h.cfirst)) ?_)))))))))
  refine mZ J J (rQ J J (aQ J fa146_2 J (kZ J (hZ ti3 J (Cel.of_blk eX hcn)) ?_)))
  refine kZ J (eQ J J wO) (kZ J (tX J J (by omega) (tmod_pos (by omega) (by omega))) ?_)
  refine mZ J J (rQ J J (aQ J fa146_0 J (kZ J (rX underlying144 ti5 J J (by omega) (by omega)) ?_)))
  refine zZ (vQ J J (aX ti5 J J fC J (show o + 0 + (((first : Int) + ((bs.length + i : Nat) : Int)) % 64).toNat * 1 < cs1.length by omega)) J (fun _ => iM) (fun _ => Imp.refl _) (fun _ => iM) ?_)
  rintro ⟨⟩ -
  refine qQ ?_
  have e0 : o + 0 + (((first : Int) + ((bs.length + i : Nat) : Int)) % 64).toNat * 1 = o + (first + (bs ++ ds.take i).length) % 64 := by rw [hll]; omega
  rw [e0]
  refine bZ (aZ (dZ J (cQ J (pZ fa146_2 J (cZ (hZ ti3 J (Cel.of_blk eX (by rw [List.getElem?_set_ne (by omega)]; exact hcn))) ?_)))))
  refine cZ (eQ J J wO) (cQ J (pZ fa146_2 J (cX (aX ti3 J J fC J (show o + 65 < (cs1.set _ _).length by simp; omega)) J ?_)))
  rintro ⟨⟩ -
  refine fZ (sZ (bZ (aZ (cZ (eQ J J wO) (dZ J (fZ ?_))))))
  have e1 : (((bs.length + i : Nat) : Int) + 1) = (((bs ++ ds.take i).length + 1 : Nat) : Int) := by rw [hll]; omega
  rw [e1]
  have hput := h.put ds[i] (by omega)
  rw [List.append_assoc, ← List.take_succ_eq_append_getElem (by omega)] at hput
  refine yQ (i + 1, (cs1.set _ _).set _ _) ⟨show i + 1 ≤ j by omega, hbut.trans ((But.set _ (by omega) (by omega)).trans (But.set _ (by omega) (by omega))), _, _, hput⟩ (show j - (i + 1) < j - i by omega) ?_ (Imp.refl _)
  ·exact Env.sub_cons J (Env.sub_cons J (Env.sub_cons J (Env.sub_cons J (Env.sub_cons J (Env.sub_nil _)))))
 ·try replace hc := odF hc
  refine dX (yZ (yZ (oQ (bZ (eZ (aZ (dZ J (gZ J (fZ (bZ (tZ ?_)))))))))))
  have hij : i = j := by omega
  subst hij
  refine xZ J J cs1 ⟨hbut, arr, first, ?_⟩ J (Imp.refl _)
  rw [← htk]; exact h
end
def Con (g : Nat) (out inn : List UInt8) : HProp := fun h => ∃ cs, (cs.length = 132 ∧ Ring cs 0 out ∧ Ring cs 66 inn) ∧ blk g cs 148 h
theorem con_open {g : Nat} {out inn : List UInt8} (y : Heaplet) (h : Con g out inn y) : ∃ cs, (cs.length = 132 ∧ Ring cs 0 out ∧ Ring cs 66 inn) ∧ blk g cs 148 y := h
theorem con_len {g : Nat} {out inn : List UInt8} {y : Heaplet} (h : Con g out inn y) : out.length ≤ 64 ∧ inn.length ≤ 64 := by
 obtain ⟨cs, ⟨_, ⟨_, _, h1⟩, ⟨_, _, h2⟩⟩, _⟩ := h
 exact ⟨h1.few, h2.few⟩
theorem ring_zero {cs : List Value} {o : Nat} (h : o + 66 ≤ cs.length) (hz : ∀ i, i < 64 → cs[o + i]? = some (byteV 0)) (h1 : cs[o + 64]? = some (.int .i64 0)) (h2 : cs[o + 65]? = some (.int .i64 0)) : Ring cs o [] :=
 ⟨List.replicate 64 0, 0, h, by simp, by omega, by simp, fun i b hi => by
  have hlt := lt_of_get hi
  simp only [List.length_replicate] at hlt
  rw [List.getElem?_replicate, if_pos hlt] at hi
  cases hi
  exact hz i hlt, h1, h2, fun i b hi => by simp at hi⟩
def zeroCells : List Value := List.replicate 64 (.int .u8 0) ++ List.replicate 2 (.int .i64 0) ++ List.replicate 64 (.int .u8 0) ++ List.replicate 2 (.int .i64 0)
theorem con_zero {g : Nat} {y : Heaplet} (h : blk g zeroCells 148 y) : Con g [] [] y := by
 refine ⟨zeroCells, ⟨rfl, ring_zero (by decide) ?_ J J, ring_zero (by decide) ?_ J J⟩, h⟩
 all_goals
  intro i hi
  have : ∀ j : Fin 64, zeroCells[0 + j.val]? = some (byteV 0) ∧ zeroCells[66 + j.val]? = some (byteV 0) := by
   intro j
   refine ⟨?_, ?_⟩
   ·have hj := j.isLt
    unfold zeroCells
    rw [List.getElem?_append_left (by simp; omega), List.getElem?_append_left (by simp; omega), List.getElem?_append_left (by simp only [List.length_replicate]; omega), List.getElem?_replicate]
    simp [byteV]
   ·have hj := j.isLt
    unfold zeroCells
    rw [List.getElem?_append_left (by simp; omega), List.getElem?_append_right (by simp), List.getElem?_replicate]
    simp [byteV]
  first | exact (this ⟨i, hi⟩).1 | exact (this ⟨i, hi⟩).2
section
variable (W0 : World) (Fr : List HProp)
theorem new_spec : Ctr prog W0 55 [] Fr (fun _ : Nat => True) (fun g => .pointer (some ⟨g, 0, none⟩)) (fun g => Con g [] [] :: Fr) := by
 refine Ctr.of_body func55 J ntmps55 J (eZ (aZ (gZ J (fZ (bZ (eZ (aZ (cZ (Yield.build0 bu148 ti148) (jQ (sX J) J ?_)))))))))
 rintro b2 -
 refine gZ J (fZ (bZ (tZ (xZ J J b2 trivial J (Imp.head fun y hy => con_zero ?_)))))
 have e : zeroCells = (Value.agg ((List.replicate 64 (Value.int .u8 0) ++ List.replicate 2 (Value.int .i64 0) ++ List.replicate 64 (Value.int .u8 0) ++ List.replicate 2 (Value.int .i64 0)).toArray)).cells.toList := by simp [zeroCells, Value.cells]
 rw [e]; exact hy
theorem out_spec {g : Nat} {out inn : List UInt8} :
 Ctr prog W0 21 [.pointer (some ⟨g, 0, none⟩)] (Con g out inn :: Fr) (fun _ : Option Addr × Nat => True) (fun p => .slice p.1 out.length p.2) (fun p => osl 5 1 p.1 p.2 out.length (bytesV out) :: Con g out inn :: Fr) := by
 refine Ctr.ex Ext.here con_open ?_
 rintro cs ⟨hl, h1, h2⟩
 refine Ctr.of_body func21 J ntmps21 J (eZ (aZ (gZ J (fZ (bZ (eZ (aZ (dZ J (cQ J (pZ fa148_0 J (oZ call74 J (iM) (all_spec W0 Fr h1) J ?_)))))))))))
 rintro p -
 exact gZ J (fZ (bZ (tZ (xZ J J p trivial J (Imp.cons (Imp.head fun y hy => ⟨cs, ⟨hl, h1, h2⟩, hy⟩))))))
theorem in_spec {g : Nat} {out inn : List UInt8} :
 Ctr prog W0 36 [.pointer (some ⟨g, 0, none⟩)] (Con g out inn :: Fr) (fun _ : Option Addr × Nat => True) (fun p => .slice p.1 inn.length p.2) (fun p => osl 5 1 p.1 p.2 inn.length (bytesV inn) :: Con g out inn :: Fr) := by
 refine Ctr.ex Ext.here con_open ?_
 rintro cs ⟨hl, h1, h2⟩
 refine Ctr.of_body func36 J ntmps36 J (eZ (aZ (gZ J (fZ (bZ (eZ (aZ (dZ J (cQ J (pZ fa148_1 J (oZ call74 J (iM) (all_spec W0 Fr h2) J ?_)))))))))))
 rintro p -
 exact gZ J (fZ (bZ (tZ (xZ J J p trivial J (Imp.cons (Imp.head fun y hy => ⟨cs, ⟨hl, h1, h2⟩, hy⟩))))))
theorem write_spec {g : Nat} {out inn ds : List UInt8} {a2 : Option Addr} {c2 : Nat} (hd : SlR W0 Fr 1 a2 ds.length (bytesV ds)) (hc2 : ds.length ≤ c2) (hsz : ds.length ≤ 2 ^ 48) :
 Ctr prog W0 20 [.pointer (some ⟨g, 0, none⟩), .slice a2 ds.length c2] (Con g out inn :: Fr) (fun _ : Unit => True) (fun _ => .int .i64 (min ds.length (64 - out.length) : Nat)) (fun _ => Con g (out ++ ds.take (64 - out.length)) inn :: Fr) := by
 refine Ctr.ex Ext.here con_open ?_
 rintro cs ⟨hl, h1, h2⟩
 refine Ctr.of_body func20 J ntmps20 J (eZ (aZ (gZ J (fZ (bZ (eZ (aZ (dZ J (cQ J (pZ fa148_0 J (dZ J (oZ call73 J (iM) (lay_spec W0 Fr h1 hd hc2 hsz) J ?_))))))))))))
 rintro cs' ⟨hb, hr⟩
 exact gZ J (fZ (bZ (tZ (xZ J J () trivial J (Imp.head fun y hy => ⟨cs', ⟨by rw [hb.1, hl], hr, h2.but hb (by omega)⟩, hy⟩)))))
theorem feed_spec {g : Nat} {out inn ds : List UInt8} {a2 : Option Addr} {c2 : Nat} (hd : SlR W0 Fr 1 a2 ds.length (bytesV ds)) (hc2 : ds.length ≤ c2) (hsz : ds.length ≤ 2 ^ 48) :
 Ctr prog W0 60 [.pointer (some ⟨g, 0, none⟩), .slice a2 ds.length c2] (Con g out inn :: Fr) (fun _ : Unit => True) (fun _ => .int .i64 (min ds.length (64 - inn.length) : Nat)) (fun _ => Con g out (inn ++ ds.take (64 - inn.length)) :: Fr) := by
 refine Ctr.ex Ext.here con_open ?_
 rintro cs ⟨hl, h1, h2⟩
 refine Ctr.of_body func60 J ntmps60 J (eZ (aZ (gZ J (fZ (bZ (eZ (aZ (dZ J (cQ J (pZ fa148_1 J (dZ J (oZ call73 J (iM) (lay_spec W0 Fr h2 hd hc2 hsz) J ?_))))))))))))
 rintro cs' ⟨hb, hr⟩
 exact gZ J (fZ (bZ (tZ (xZ J J () trivial J (Imp.head fun y hy => ⟨cs', ⟨by rw [hb.1, hl], h1.but hb (by omega), hr⟩, hy⟩)))))
theorem read_spec {g : Nat} {out inn : List UInt8} (n : Int) :
 Ctr prog W0 26 [.pointer (some ⟨g, 0, none⟩), .int .i64 n] (Con g out inn :: Fr) (fun _ : Option Addr × Nat => True) (fun p => .slice p.1 (kOf n inn.length) p.2)
  (fun p => osl 5 1 p.1 p.2 (kOf n inn.length) (bytesV (inn.take (kOf n inn.length))) :: Con g out (inn.drop (kOf n inn.length)) :: Fr) := by
 refine Ctr.ex Ext.here con_open ?_
 rintro cs ⟨hl, h1, h2⟩
 refine Ctr.of_body func26 J ntmps26 J (eZ (aZ (gZ J (fZ (bZ (eZ (aZ (dZ J (cQ J (pZ fa148_1 J (dZ J (oZ call81 J (iM) (take_spec W0 Fr n h2) J ?_))))))))))))
 rintro ⟨p, cs'⟩ ⟨hb, hr⟩
 exact gZ J (fZ (bZ (tZ (xZ J J p trivial J (Imp.cons (Imp.head fun y hy => ⟨cs', ⟨by rw [hb.1, hl], h1.but hb (by omega), hr⟩, hy⟩))))))
theorem kOf_all {n : Int} {m : Nat} (h : (m : Int) ≤ n) : kOf n m = m := by unfold kOf; omega
theorem drain_spec {g : Nat} {out inn : List UInt8} :
 Ctr prog W0 61 [.pointer (some ⟨g, 0, none⟩)] (Con g out inn :: Fr) (fun _ : Option Addr × Nat => True) (fun p => .slice p.1 out.length p.2)
  (fun p => osl 5 1 p.1 p.2 out.length (bytesV out) :: Con g [] inn :: Fr) := by
 refine Ctr.ex Ext.here con_open ?_
 rintro cs ⟨hl, h1, h2⟩
 have hk : kOf 64 out.length = out.length := kOf_all (by obtain ⟨_, _, h⟩ := h1; have := h.few; omega)
 have hts := take_spec W0 Fr (g := g) (t := 148) 64 h1
 rw [hk, List.take_length, List.drop_length] at hts
 refine Ctr.of_body func61 J ntmps61 J (eZ (aZ (gZ J (fZ (bZ (eZ (aZ (dZ J (cQ J (pZ fa148_0 J (oZ call81 J (iM) (hts) J ?_)))))))))))
 rintro ⟨p, cs'⟩ ⟨hb, hr⟩
 exact gZ J (fZ (bZ (tZ (xZ J J p trivial J (Imp.cons (Imp.head fun y hy => ⟨cs', ⟨by rw [hb.1, hl], hr, h2.but hb (by omega)⟩, hy⟩))))))
theorem writeB {g : Nat} {out inn ds : List UInt8} {a2 : Option Addr} {c2 : Nat} (hd : RdB W0 Fr a2 c2 ds) (hsz : ds.length ≤ 2 ^ 48) :
 Ctr prog W0 20 [.pointer (some ⟨g, 0, none⟩), .slice a2 ds.length c2] (Con g out inn :: Fr) (fun _ : Unit => True) (fun _ => .int .i64 (min ds.length (64 - out.length) : Nat)) (fun _ => Con g (out ++ ds.take (64 - out.length)) inn :: Fr) :=
 Ctr.pure (fun w hw => hd.cap w (hw.imp Imp.drop)) fun hc => write_spec W0 Fr hd.slR hc hsz
theorem feedB {g : Nat} {out inn ds : List UInt8} {a2 : Option Addr} {c2 : Nat} (hd : RdB W0 Fr a2 c2 ds) (hsz : ds.length ≤ 2 ^ 48) :
 Ctr prog W0 60 [.pointer (some ⟨g, 0, none⟩), .slice a2 ds.length c2] (Con g out inn :: Fr) (fun _ : Unit => True) (fun _ => .int .i64 (min ds.length (64 - inn.length) : Nat)) (fun _ => Con g out (inn ++ ds.take (64 - inn.length)) :: Fr) :=
 Ctr.pure (fun w hw => hd.cap w (hw.imp Imp.drop)) fun hc => feed_spec W0 Fr hd.slR hc hsz
theorem readB {g : Nat} {out inn : List UInt8} (n : Int) :
 Ctr prog W0 26 [.pointer (some ⟨g, 0, none⟩), .int .i64 n] (Con g out inn :: Fr) (fun _ : Option Addr × Nat => True) (fun p => .slice p.1 (inn.take (kOf n inn.length)).length p.2)
  (fun p => oby 5 p.1 p.2 (inn.take (kOf n inn.length)) :: Con g out (inn.drop (kOf n inn.length)) :: Fr) := by
 have h := read_spec W0 Fr (g := g) (out := out) (inn := inn) n
 have e : (inn.take (kOf n inn.length)).length = kOf n inn.length := by rw [List.length_take]; have := kOf_le n inn.length; omega
 unfold oby; rw [e]; exact h
end
end Go.Proofs.YtphljkplokjonaaGreat.Vc
namespace Go.Proofs.YtphljkplokjonaaGreat.Vd
open Go Go.Sl Go.RowKit Go.Proofs Go.Proofs.YtphljkplokjonaaGreat.T Go.Proofs.YtphljkplokjonaaGreat.Ms Tryz
structure Ak where
 tag : Int
 write : Bool
 sector : Int
 addr : Int
 data : B
 due : Int
 st : Int
structure CA where
 tag : Int
 write : Bool
 sector : Int
 addr : Int
 m : Msg
 due : Int
 st : Int
def CA.cells (x : CA) : List Value := [.int .u32 x.tag, .bool x.write, .int .i64 x.sector, .int .u32 x.addr, x.m.cell, .int .i64 x.due, .int .i64 x.st]
def CA.abs (x : CA) : Ak := ⟨x.tag, x.write, x.sector, x.addr, x.m.b, x.due, x.st⟩
theorem CA.len (x : CA) : x.cells.length = 7 := rfl
theorem CA.ones (x : CA) : ∀ v ∈ x.cells, one v = true := by simp [CA.cells, one, Msg.cell]
structure Ds where
 part : Int
 first : Int
 count : Int
 latency : Int
 last : Int
 asks : List Ak
 told : List Int
structure Ds.OK (s : Ds) : Prop where
 part : 0 ≤ s.part ∧ s.part ≤ 7
 first : 0 ≤ s.first ∧ s.first ≤ 1024
 count : 0 ≤ s.count ∧ s.count ≤ 1024
 lat : 1 ≤ s.latency ∧ s.latency ≤ 8
 asks : s.asks.length ≤ 4
 told : s.told.length ≤ 4
 data : ∀ a ∈ s.asks, a.data.length ≤ 64
 sec : ∀ a ∈ s.asks, 0 ≤ a.sector ∧ a.sector < s.count
structure DC where
 cas : List CA
 pl : List Msg
 a : Option Addr
 c : Nat
 ta : Option Addr
 tc : Nat
abbrev DH (d : Nat) (s : Ds) (last : Int) (a : Option Addr) (m c : Nat) (ta : Option Addr) (tm tc : Nat) : HProp :=
 blk d [.int .i64 s.part, .int .i64 s.first, .int .i64 s.count, .int .i64 s.latency, .int .u32 last, .slice a m c, .slice ta tm tc] 175
abbrev oasks (a : Option Addr) (c : Nat) (l : List CA) : HProp := osl 177 7 a c l.length ((l.map CA.cells).flatten)
abbrev DO (d : Nat) (s : Ds) (x : DC) : List HProp :=
 [DH d s s.last x.a x.cas.length x.c x.ta s.told.length x.tc, oasks x.a x.c x.cas, onum 27 .u32 x.ta x.tc s.told, pool x.pl]
structure DC.OK (x : DC) (s : Ds) : Prop where
 abs : x.cas.map CA.abs = s.asks
 mem : ∀ a ∈ x.cas, a.m ∈ x.pl
 ok : s.OK
def D (d : Nat) (s : Ds) : HProp := fun h => ∃ x : DC, x.OK s ∧ Star (DO d s x) h
theorem d_open {d : Nat} {s : Ds} (y : Heaplet) (h : D d s y) : ∃ x : DC, x.OK s ∧ Star (DO d s x) y := h
theorem d_close {d : Nat} {s : Ds} {G : List HProp} (x : DC) (hx : x.OK s) : Imp (DO d s x ++ G) (D d s :: G) := Imp.trans star_close (Imp.head fun y hy => ⟨x, hx, hy⟩)
theorem d_facts {W0 : World} {G R : List HProp} {d : Nat} {s : Ds} (x : Ext G (D d s) R) (w : World) (hw : Sat W0 G w) : s.OK := by
 obtain ⟨_, _, y, hy, _⟩ := Sat.ext x hw
 exact hy.ok
theorem DC.OK.len {x : DC} {s : Ds} (h : x.OK s) : x.cas.length = s.asks.length := by rw [← h.abs]; simp
theorem DC.OK.get {x : DC} {s : Ds} (h : x.OK s) {n : Nat} {a : Ak} (ha : s.asks[n]? = some a) : ∃ c, x.cas[n]? = some c ∧ c.abs = a := by
 rw [← h.abs, List.getElem?_map] at ha
 cases hc : x.cas[n]? with
 | none => rw [hc] at ha; cases ha
 | some c => rw [hc] at ha; exact ⟨c, rfl, by simpa using ha⟩
theorem shape_as {W0 : World} {G R : List HProp} {a : Option Addr} {c n : Nat} {l : List CA} (h : n < l.length) (e : Ext G (oasks a c l) R) (w : World) (hw : Sat W0 G w) : ∃ b o, a = some ⟨b, o, none⟩ :=
 (SlR.of_osl e).elem_shape (i := n) CA.len (by decide) h w hw
section
variable (W0 : World) (Fr : List HProp)
theorem within_spec (n lo hi : Int) : Ctr prog W0 123 [.int .i64 n, .int .i64 lo, .int .i64 hi] Fr (fun _ : Unit => True) (fun _ => .bool (decide (lo ≤ n ∧ n ≤ hi))) (fun _ => Fr) := by
 refine Ctr.of_body func123 J ntmps123 J (eZ (aZ (gZ J (fZ (bZ (eZ ?_))))))
 rcases (show n < lo ∨ lo ≤ n by omega) with hh | hh
 ·refine aZ (dZ J (dZ J (cZ zQ ?_)))
  refine dZ J (iQ J J J J J (iQ J J J J J (iQ J J J J J (cZ jZ ?_))))
  exact gZ J (fZ (bZ (tZ (xZ J J () trivial (by rw [decide_eq_false (by omega)]) (Imp.refl _)))))
 ·refine aZ (dZ J (dZ J (cZ zQ ?_)))
  refine dZ J (iZ J J (dZ J (iZ J J (dZ J (iZ J J (cZ (Yield.leq J J) (cZ jZ ?_)))))))
  exact gZ J (fZ (bZ (tZ (xZ J J () trivial (by rw [show decide (lo ≤ n ∧ n ≤ hi) = decide (n ≤ hi) by simp [hh]]) (Imp.refl _)))))
def newBad (part first count latency : Int) : Bool := !(decide (0 ≤ part ∧ part ≤ 7)) || !(decide (0 ≤ first ∧ first ≤ 1024)) || !(decide (0 ≤ count ∧ count ≤ 1024)) || decide (1024 < first + count) || !(decide (1 ≤ latency ∧ latency ≤ 8))
theorem cloneB_spec {a : Option Addr} {c : Nat} {bs : B} (hr : RdB W0 Fr a c bs) (hb : bs.length ≤ 140737488351232) : Ctr prog W0 94 [.slice a bs.length c] Fr (fun m : Msg => m.b = bs) (fun m => m.cell) (fun m => m.own :: Fr) := by
 refine Ctr.pure (ψ := a = none → bs = []) (fun w hw h => by
  subst h
  obtain ⟨_, h2 | ⟨_, _, h2, _⟩⟩ := (hr w hw).1
  ·have := congrArg List.length h2; rw [bytesV_length] at this; exact List.length_eq_zero_iff.1 this
  ·cases h2) fun hn => ?_
 refine Ctr.of_body func94 J ntmps94 J (eZ (aZ (gZ J (fZ (bZ (eZ (eZ ?_)))))))
 rcases a with _ | ad
 ·refine aZ (dZ J (cZ (oV underlying32 J J) (fZ (bZ (gQ J (eZ (aZ (gZ J (fZ (bZ (tZ (vZ ?_))))))))))))
  have hb0 := hn J
  subst hb0
  exact xZ J J Msg.nil J J own_nil
 ·refine aZ (dZ J (cZ (oV underlying32 J J) (fZ (bZ (qZ J (wZ (bZ (eZ (aZ (jQ (lV underlying32 ti5 J) J ?_))))))))))
  rintro b5 -
  refine dZ J (jQ (Eff.appendB (bs := []) (ys := bs) J J J underlying32 underlying32 ti5 (by decide) fC (hr.imp iM).slR (by simp only [List.length_nil]; omega)) J ?_)
  rintro ⟨am, cm⟩ -
  rw [List.nil_append]
  exact gZ J (fZ (bZ (tZ (xZ J J ⟨am, cm, bs⟩ J J iM))))
theorem cloneU_spec {a : Option Addr} {c : Nat} {l : List Int} (hr : SlR W0 Fr 1 a l.length (intsV .u32 l)) (hb : l.length ≤ 2 ^ 20) : Ctr prog W0 92 [.slice a l.length c] Fr (fun _ : Option Addr × Nat => True) (fun q => .slice q.1 l.length q.2) (fun q => onum 27 .u32 q.1 q.2 l :: Fr) := by
 refine Ctr.pure (ψ := a = none → l = []) (fun w hw h => by
  subst h
  obtain ⟨_, h2 | ⟨_, _, h2, _⟩⟩ := hr w hw
  ·have := congrArg List.length h2; rw [intsV_len] at this; exact List.length_eq_zero_iff.1 this
  ·cases h2) fun hn => ?_
 refine Ctr.of_body func92 J ntmps92 J (eZ (aZ (gZ J (fZ (bZ (eZ (eZ ?_)))))))
 rcases a with _ | ad
 ·refine aZ (dZ J (cZ (oV underlying37 J J) (fZ (bZ (gQ J (eZ (aZ (gZ J (fZ (bZ (tZ (vZ ?_))))))))))))
  have hb0 := hn J
  subst hb0
  exact xZ J J (none, 0) trivial J osl_nil
 ·refine aZ (dZ J (cZ (oV underlying37 J J) (fZ (bZ (qZ J (wZ (bZ (eZ (aZ (jQ (lV underlying37 ti27 J) J ?_))))))))))
  rintro b5 -
  refine dZ J (jQ (nX (a := some ⟨b5, 0, none⟩) (c := 0) (m := 0) (xs := []) (k := l.length) (ys := intsV .u32 l) J J J underlying37 underlying37 ti27 J (by decide) fC (hr.imp iM) (intsV_ones _ _) (by omega)) J ?_)
  rintro ⟨am, cm⟩ -
  rw [Nat.zero_add, List.nil_append]
  exact gZ J (fZ (bZ (tZ (xZ J J (am, cm) trivial J iM))))
theorem new_ok {part first count latency : Int} (h : newBad part first count latency = false) : Ctr prog W0 58 [.int .i64 part, .int .i64 first, .int .i64 count, .int .i64 latency] Fr (fun _ : Nat => True) (fun d => .tuple #[.pointer (some ⟨d, 0, none⟩), .int .i64 0]) (fun d => D d ⟨part, first, count, latency, 0, [], []⟩ :: Fr) := by
 unfold newBad at h
 simp only [Bool.or_eq_false_iff, Bool.not_eq_false', decide_eq_false_iff_not, decide_eq_true_eq] at h
 obtain ⟨⟨⟨⟨h1, h2⟩, h3⟩, h4⟩, h5⟩ := h
 refine Ctr.of_body func58 J ntmps58 J (eZ (aZ (gZ J (gZ J (fZ (bZ (eZ (eZ (aZ (dZ J (oZ call123 J (Imp.refl _) (within_spec W0 _ part 0 7) J ?_)))))))))))
 rintro ⟨⟩ -
 rw [decide_eq_true (p := 0 ≤ part ∧ part ≤ 7) (by omega)]
 refine cZ (pQ J) (dZ J (iZ J J (dZ J (iZ J J (oZ call123 J (Imp.refl _) (within_spec W0 _ first 0 1024) J ?_)))))
 rintro ⟨⟩ -
 rw [decide_eq_true (p := 0 ≤ first ∧ first ≤ 1024) (by omega)]
 refine iZ J J (cZ (pQ J) (cZ jZ ?_))
 refine dZ J (iZ J J (dZ J (iZ J J (oZ call123 J (Imp.refl _) (within_spec W0 _ count 0 1024) J ?_))))
 rintro ⟨⟩ -
 rw [decide_eq_true (p := 0 ≤ count ∧ count ≤ 1024) (by omega)]
 refine iZ J J (cZ (pQ J) (cZ jZ ?_))
 refine dZ J (iZ J J (dZ J (iZ J J (dZ J (iZ J J (cZ (eQ J J wO) (iZ J J (cZ fX ?_))))))))
 refine cZ jZ ?_
 refine dZ J (iZ J J (dZ J (iZ J J (oZ call123 J (Imp.refl _) (within_spec W0 _ latency 1 8) J ?_))))
 rintro ⟨⟩ -
 rw [decide_eq_true (p := 1 ≤ latency ∧ latency ≤ 8) (by omega)]
 refine iZ J J (cZ (pQ J) (cZ jZ ?_))
 refine fZ (bZ (qZ J (wZ (bZ (eZ (aZ (dZ J (dZ J (dZ J (dZ J (cZ (xQ (pvs := [(0, .int .i64 part), (1, .int .i64 first), (2, .int .i64 count), (3, .int .i64 latency)]) bu175 ti175 J (cells := [.int .i64 part, .int .i64 first, .int .i64 count, .int .i64 latency, .int .u32 0, .slice none 0 0, .slice none 0 0]) J) (jQ (sX J) J ?_))))))))))))
 rintro b39 -
 refine gZ J (gZ J (fZ (bZ (tZ ?_))))
 have hcl := d_close (d := b39) (G := Fr) (s := ⟨part, first, count, latency, 0, [], []⟩) ⟨[], [], none, 0, none, 0⟩ ⟨rfl, fun a h => absurd h List.not_mem_nil, ⟨h1, h2, h3, h5, Nat.zero_le _, Nat.zero_le _, fun a h => absurd h List.not_mem_nil, fun a h => absurd h List.not_mem_nil⟩⟩
 exact pX J J J b39 trivial J (Imp.trans (Imp.trans pool_nil (Imp.trans (osl_nil (E := 27) (sz := 1)) (Imp.trans (osl_nil (E := 177) (sz := 7)) iM))) hcl)
def subE (s : Ds) (write : Bool) (sector : Int) (len : Nat) (major : Int) : Int :=
 if ¬(0 ≤ sector ∧ sector ≤ s.count - 1) then 2 else if ¬(0 ≤ major ∧ major ≤ 281474976710656) then 2 else if write = true ∧ len ≠ 64 then 6 else if 4 ≤ s.asks.length then 4 else 0
theorem submit_bad {d dm dc : Nat} {s : Ds} {write : Bool} {sector addr major : Int} {da : Option Addr} (he : subE s write sector dm major ≠ 0) :
 Ctr prog W0 91 [.pointer (some ⟨d, 0, none⟩), .bool write, .int .i64 sector, .int .u32 addr, .slice da dm dc, .int .i64 major] (D d s :: Fr) (fun _ : Unit => True) (fun _ => .tuple #[.int .u32 0, .int .i64 (subE s write sector dm major)]) (fun _ => D d s :: Fr) := by
 refine Ctr.ex Ext.here d_open ?_
 intro x hx
 refine Ctr.imp star_open ?_
 have hln := hx.len
 have hcnt := hx.ok.count
 have hcl := d_close (d := d) (G := Fr) x hx
 dsimp only [DO, List.cons_append, List.nil_append] at hcl ⊢
 refine Ctr.of_body func91 J ntmps91 J (eZ (aZ (gZ J (gZ J (fZ (bZ (eZ (fQ (eZ ?_)))))))))
 rcases (show ¬(0 ≤ sector ∧ sector ≤ s.count - 1) ∨ ((0 ≤ sector ∧ sector ≤ s.count - 1) ∧ ¬(0 ≤ major ∧ major ≤ 281474976710656)) ∨ ((0 ≤ sector ∧ sector ≤ s.count - 1) ∧ (0 ≤ major ∧ major ≤ 281474976710656) ∧ write = true ∧ dm ≠ 64) ∨ ((0 ≤ sector ∧ sector ≤ s.count - 1) ∧ (0 ≤ major ∧ major ≤ 281474976710656) ∧ write = false ∧ 4 ≤ s.asks.length) ∨ ((0 ≤ sector ∧ sector ≤ s.count - 1) ∧ (0 ≤ major ∧ major ≤ 281474976710656) ∧ (write = true ∧ dm = 64) ∧ 4 ≤ s.asks.length) by unfold subE at he; cases write <;> (simp only [true_and, false_and, if_false, reduceCtorEq] at he ⊢; (repeat' split at he) <;> first | omega | exact absurd J he)) with hh | hh | ⟨hh1, hh2, rfl, hh⟩ | ⟨hh1, hh2, rfl, hh⟩ | ⟨hh1, hh2, ⟨rfl, hh3⟩, hh⟩
 ·refine aZ (dZ J (dZ J (cQ J (pZ fa175_2 J (cZ (rZ ti3 J) ?_)))))
  refine cZ (aV J J wO) (oZ call123 J (Imp.refl _) (within_spec W0 _ sector 0 (s.count - 1)) J ?_)
  rintro ⟨⟩ -
  first | rw [decide_eq_true (p := 0 ≤ sector ∧ sector ≤ s.count - 1) (by omega)] | rw [decide_eq_false (p := 0 ≤ sector ∧ sector ≤ s.count - 1) (by omega)]
  refine cZ (pQ J) (dZ J (iQ J J J J J (iQ J J J J J (iQ J J J J J (cZ jZ ?_)))))
  exact gZ J (fZ (bZ (gQ J (eZ (aZ (gZ J (gZ J (fZ (bZ (tZ (mQ (vZ (pX J J J () trivial (by unfold subE; rw [if_pos hh]) (Imp.trans iM hcl))))))))))))))
 ·refine aZ (dZ J (dZ J (cQ J (pZ fa175_2 J (cZ (rZ ti3 J) ?_)))))
  refine cZ (aV J J wO) (oZ call123 J (Imp.refl _) (within_spec W0 _ sector 0 (s.count - 1)) J ?_)
  rintro ⟨⟩ -
  first | rw [decide_eq_true (p := 0 ≤ sector ∧ sector ≤ s.count - 1) (by omega)] | rw [decide_eq_false (p := 0 ≤ sector ∧ sector ≤ s.count - 1) (by omega)]
  refine cZ (pQ J) (dZ J (iZ J J (dZ J (iZ J J (oZ call123 J (Imp.refl _) (within_spec W0 _ major 0 281474976710656) J ?_)))))
  rintro ⟨⟩ -
  first | rw [decide_eq_true (p := 0 ≤ major ∧ major ≤ 281474976710656) (by omega)] | rw [decide_eq_false (p := 0 ≤ major ∧ major ≤ 281474976710656) (by omega)]
  refine iZ J J (cZ (pQ J) (cZ jZ ?_))
  exact gZ J (fZ (bZ (gQ J (eZ (aZ (gZ J (gZ J (fZ (bZ (tZ (mQ (vZ (pX J J J () trivial (by unfold subE; rw [if_neg (not_not_intro hh.1), if_pos hh.2]) (Imp.trans iM hcl))))))))))))))
 ·refine aZ (dZ J (dZ J (cQ J (pZ fa175_2 J (cZ (rZ ti3 J) ?_)))))
  refine cZ (aV J J wO) (oZ call123 J (Imp.refl _) (within_spec W0 _ sector 0 (s.count - 1)) J ?_)
  rintro ⟨⟩ -
  first | rw [decide_eq_true (p := 0 ≤ sector ∧ sector ≤ s.count - 1) (by omega)] | rw [decide_eq_false (p := 0 ≤ sector ∧ sector ≤ s.count - 1) (by omega)]
  refine cZ (pQ J) (dZ J (iZ J J (dZ J (iZ J J (oZ call123 J (Imp.refl _) (within_spec W0 _ major 0 281474976710656) J ?_)))))
  rintro ⟨⟩ -
  first | rw [decide_eq_true (p := 0 ≤ major ∧ major ≤ 281474976710656) (by omega)] | rw [decide_eq_false (p := 0 ≤ major ∧ major ≤ 281474976710656) (by omega)]
  refine iZ J J (cZ (pQ J) (cZ jZ ?_))
  refine gZ J (fZ (bZ (qZ J (eZ (aZ (dZ J (dZ J (iZ J J (dZ J (iZ J J (cZ (lZ underlying32 J J) (iZ J J (cZ nQ ?_)))))))))))))
  refine cZ jZ ?_
  exact gZ J (fZ (bZ (gQ J (eZ (aZ (gZ J (gZ J (fZ (bZ (tZ (mQ (vZ (pX J J J () trivial (by unfold subE; rw [if_neg (not_not_intro hh1), if_neg (not_not_intro hh2), if_pos ⟨rfl, hh⟩]) (Imp.trans iM hcl))))))))))))))
 ·refine aZ (dZ J (dZ J (cQ J (pZ fa175_2 J (cZ (rZ ti3 J) ?_)))))
  refine cZ (aV J J wO) (oZ call123 J (Imp.refl _) (within_spec W0 _ sector 0 (s.count - 1)) J ?_)
  rintro ⟨⟩ -
  first | rw [decide_eq_true (p := 0 ≤ sector ∧ sector ≤ s.count - 1) (by omega)] | rw [decide_eq_false (p := 0 ≤ sector ∧ sector ≤ s.count - 1) (by omega)]
  refine cZ (pQ J) (dZ J (iZ J J (dZ J (iZ J J (oZ call123 J (Imp.refl _) (within_spec W0 _ major 0 281474976710656) J ?_)))))
  rintro ⟨⟩ -
  first | rw [decide_eq_true (p := 0 ≤ major ∧ major ≤ 281474976710656) (by omega)] | rw [decide_eq_false (p := 0 ≤ major ∧ major ≤ 281474976710656) (by omega)]
  refine iZ J J (cZ (pQ J) (cZ jZ ?_))
  refine gZ J (fZ (bZ (qZ J (eZ (aZ (dZ J (dZ J (iQ J J J J J (iQ J J J J J (iQ J J J J J (cZ jZ ?_)))))))))))
  refine gZ J (fZ (bZ (qZ J (eZ (aZ (dZ J (cQ J (pZ fa175_5 J (cZ (rZ ti173 J) ?_)))))))))
  refine cZ (lZ underlying173 J J) (cZ zQ ?_)
  exact gZ J (fZ (bZ (gQ J (eZ (aZ (gZ J (gZ J (fZ (bZ (tZ (mQ (vZ (pX J J J () trivial (by unfold subE; rw [if_neg (not_not_intro hh1), if_neg (not_not_intro hh2), if_neg (by simp), if_pos hh]) (Imp.trans iM hcl))))))))))))))
 ·refine aZ (dZ J (dZ J (cQ J (pZ fa175_2 J (cZ (rZ ti3 J) ?_)))))
  refine cZ (aV J J wO) (oZ call123 J (Imp.refl _) (within_spec W0 _ sector 0 (s.count - 1)) J ?_)
  rintro ⟨⟩ -
  first | rw [decide_eq_true (p := 0 ≤ sector ∧ sector ≤ s.count - 1) (by omega)] | rw [decide_eq_false (p := 0 ≤ sector ∧ sector ≤ s.count - 1) (by omega)]
  refine cZ (pQ J) (dZ J (iZ J J (dZ J (iZ J J (oZ call123 J (Imp.refl _) (within_spec W0 _ major 0 281474976710656) J ?_)))))
  rintro ⟨⟩ -
  first | rw [decide_eq_true (p := 0 ≤ major ∧ major ≤ 281474976710656) (by omega)] | rw [decide_eq_false (p := 0 ≤ major ∧ major ≤ 281474976710656) (by omega)]
  refine iZ J J (cZ (pQ J) (cZ jZ ?_))
  refine gZ J (fZ (bZ (qZ J (eZ (aZ (dZ J (dZ J (iZ J J (dZ J (iZ J J (cZ (lZ underlying32 J J) (iZ J J (cZ nQ ?_)))))))))))))
  refine cZ jZ ?_
  refine gZ J (fZ (bZ (qZ J (eZ (aZ (dZ J (cQ J (pZ fa175_5 J (cZ (rZ ti173 J) ?_)))))))))
  refine cZ (lZ underlying173 J J) (cZ zQ ?_)
  exact gZ J (fZ (bZ (gQ J (eZ (aZ (gZ J (gZ J (fZ (bZ (tZ (mQ (vZ (pX J J J () trivial (by unfold subE; rw [if_neg (not_not_intro hh1), if_neg (not_not_intro hh2), if_neg (by simp [hh3]), if_pos hh]) (Imp.trans iM hcl))))))))))))))
def w32 (n : Int) : Int := IntKind.u32.wrap n
def subR (s : Ds) (write : Bool) (sector addr : Int) (data : B) (major : Int) : Ds :=
 { s with last := w32 (s.last + 1), asks := s.asks ++ [⟨w32 (s.last + 1), write, sector, addr, if write then data else [], major + s.latency, 0⟩] }
set_option maxHeartbeats 1000000 in
theorem submit_ok {d dc : Nat} {s : Ds} {write : Bool} {sector addr major : Int} {da : Option Addr} {data : B} (hr : RdB W0 Fr da dc data) (hdl : data.length ≤ 2 ^ 47) (he : subE s write sector data.length major = 0) :
 Ctr prog W0 91 [.pointer (some ⟨d, 0, none⟩), .bool write, .int .i64 sector, .int .u32 addr, .slice da data.length dc, .int .i64 major] (D d s :: Fr) (fun _ : Unit => True) (fun _ => .tuple #[.int .u32 (w32 (s.last + 1)), .int .i64 0]) (fun _ => D d (subR s write sector addr data major) :: Fr) := by
 refine Ctr.ex Ext.here d_open ?_
 intro x hx
 refine Ctr.imp star_open ?_
 have hln := hx.len
 have hok := hx.ok
 have hcnt := hx.ok.count
 have hlat := hx.ok.lat
 obtain ⟨h1, h2, h3, h4⟩ : (0 ≤ sector ∧ sector ≤ s.count - 1) ∧ (0 ≤ major ∧ major ≤ 281474976710656) ∧ (write = true → data.length = 64) ∧ s.asks.length < 4 := by
  unfold subE at he
  cases write <;> (simp only [true_and, false_and, if_false, reduceCtorEq] at he; (repeat' split at he) <;> first | omega | (refine ⟨by omega, by omega, ?_, by omega⟩; intro _; first | omega | contradiction))
 have hclose : ∀ (m : Msg) (a' : Option Addr) (c' : Nat), m.b = (if write then data else []) → Imp (DO d (subR s write sector addr data major) ⟨x.cas ++ [⟨w32 (s.last + 1), write, sector, addr, m, major + s.latency, 0⟩], x.pl ++ [m], a', c', x.ta, x.tc⟩ ++ Fr) (D d (subR s write sector addr data major) :: Fr) := by
  intro m a' c' hm
  refine d_close _ ⟨?_, ?_, ⟨hok.part, hok.first, hok.count, hok.lat, ?_, hok.told, ?_, ?_⟩⟩
  ·dsimp only [subR]; rw [List.map_append, hx.abs]; simp [CA.abs, hm]
  ·intro a ha
   rcases List.mem_append.1 ha with ha | ha
   ·exact List.mem_append.2 (.inl (hx.mem a ha))
   ·simp only [List.mem_cons, List.not_mem_nil, or_false] at ha; subst ha; simp
  ·dsimp only [subR]; rw [List.length_append]; simp only [List.length_cons, List.length_nil]; omega
  ·intro a ha
   rcases List.mem_append.1 ha with ha | ha
   ·exact hok.data a ha
   ·simp only [List.mem_cons, List.not_mem_nil, or_false] at ha; subst ha
    dsimp only
    split
    ·rename_i hw; rw [h3 hw]; exact Nat.le_refl _
    ·simp
  ·intro a ha
   rcases List.mem_append.1 ha with ha | ha
   ·exact hok.sec a ha
   ·simp only [List.mem_cons, List.not_mem_nil, or_false] at ha; subst ha; dsimp only [subR]; omega
 dsimp only [DO, subR, oasks, List.cons_append, List.nil_append] at hclose ⊢
 refine Ctr.of_body func91 J ntmps91 J (eZ (aZ (gZ J (gZ J (fZ (bZ (eZ (fQ (eZ ?_)))))))))
 cases write
 ·refine aZ (dZ J (dZ J (cQ J (pZ fa175_2 J (cZ (rZ ti3 J) ?_)))))
  refine cZ (aV J J wO) (oZ call123 J (Imp.refl _) (within_spec W0 _ sector 0 (s.count - 1)) J ?_)
  rintro ⟨⟩ -
  rw [decide_eq_true (p := 0 ≤ sector ∧ sector ≤ s.count - 1) (by omega)]
  refine cZ (pQ J) (dZ J (iZ J J (dZ J (iZ J J (oZ call123 J (Imp.refl _) (within_spec W0 _ major 0 281474976710656) J ?_)))))
  rintro ⟨⟩ -
  rw [decide_eq_true (p := 0 ≤ major ∧ major ≤ 281474976710656) (by omega)]
  refine iZ J J (cZ (pQ J) (cZ jZ ?_))
  refine gZ J (fZ (bZ (qZ J (eZ (aZ (dZ J (dZ J (iQ J J J J J (iQ J J J J J (iQ J J J J J (cZ jZ ?_)))))))))))
  refine gZ J (fZ (bZ (qZ J (eZ (aZ (dZ J (cQ J (pZ fa175_5 J (cZ (rZ ti173 J) ?_)))))))))
  refine cZ (lZ underlying173 J J) (cZ zQ ?_)
  refine gZ J (fZ (bZ (qZ J (wZ (sZ (bZ (eZ (eZ (aZ (dZ J (cZ (pQ J) (fZ (bZ (gQ J (aZ (gZ J (fZ (bZ (eZ (aZ (dZ J (cQ J (pZ fa175_4 J ?_)))))))))))))))))))))))
  refine cZ (rZ ti27 J) ?_
  refine cZ (eQ J J J) (cQ J (pZ fa175_4 J (cX (aX ti27 J J fC J (by first | (simp; done) | decide)) J ?_)))
  rintro ⟨⟩ -
  refine fZ (bZ (eZ (sQ (.lo 0 0 (.lo 1 0 (.lo 2 0 (.lo 3 0 (.lo 4 2 (.lo 5 0 (.lo 6 0 (.lo 7 0 (.lo 8 2 (.lo 9 0 (.lo 10 0 (.lo 11 0 (.lo 12 1 (.lo 14 0 (.lo 15 0 (.lo 16 0 (.lo 17 0 (.lo 18 2 (.lo 19 0 (.eff1 13 false (.lo 20 1 (.eff1 21 false (.eff1 22 false (.lo 23 1 (.lo 24 1 (.eff1 25 true (.done))))))))))))))))))))))))))) [13, 21, 22, 25] [4, 8, 18] ([]) ([DH d s (w32 (s.last + 1)) x.a x.cas.length x.c x.ta s.told.length x.tc]) mixed (by kernel_rfl) (Imp.none _) (iM) ?_)))
  refine mZ J J (mZ J J (rQ J J (aQ J fa175_5 J (kZ J (hZ (v := .slice x.a x.cas.length x.c) ti173 J (Cel.of_blk (b := d) eX J)) ?_))))
  refine mZ J J (rQ J J (aQ J fa175_4 J (kZ J (hZ (v := .int .u32 (w32 (s.last + 1))) ti27 J (Cel.of_blk (b := d) eX J)) ?_)))
  refine mZ J J (mZ J J (mZ J J (mZ J J (mZ J J (mZ J J (rQ J J (aQ J fa175_3 J (kZ J (hZ (v := .int .i64 s.latency) ti3 J (Cel.of_blk (b := d) eX J)) ?_))))))))
  refine kZ J (eQ J J wO) (zZ (kQ J J call94 J (Imp.refl _) (cloneB_spec W0 _ (a := none) (c := 0) (bs := []) (RdB.of_slR SlR.nil (Nat.le_refl _)) (by simp)) J (fun _ => iM) (fun _ => Imp.refl _) (fun _ => iM) ?_))
  rintro m hm
  refine kZ J (xQ (pvs := [(0, .int .u32 (w32 (s.last + 1))), (1, .bool false), (2, .int .i64 sector), (3, .int .u32 addr), (4, m.cell), (5, .int .i64 (major + s.latency)), (6, .int .i64 0)]) bu177 ti177 J (cells := CA.cells ⟨w32 (s.last + 1), false, sector, addr, m, major + s.latency, 0⟩) J) (zZ (vQ J J (wX [.tmp 71] (vs := [.agg (CA.cells ⟨w32 (s.last + 1), false, sector, addr, m, major + s.latency, 0⟩).toArray]) (cells := CA.cells ⟨w32 (s.last + 1), false, sector, addr, m, major + s.latency, 0⟩) underlying173 ti177 J J J J (by decide) (by simp [Value.cells, CA.cells]) (by simp [Value.cells])) J (fun _ => iM) (fun _ => Imp.refl _) (fun _ => iM) ?_))
  rintro b72 -
  refine zZ (vQ J J (nX (a := x.a) (c := x.c) (k := 1) (ys := CA.cells ⟨w32 (s.last + 1), false, sector, addr, m, major + s.latency, 0⟩) J J J underlying173 underlying173 ti177 J (by decide) fC (SlR.of_osl (a := some ⟨b72, 0, none⟩) eX) (CA.ones _) (by omega)) J (fun _ => iM) (fun _ => Imp.refl _) (fun _ => iM) ?_)
  rintro ⟨a73, c73⟩ -
  refine rQ J J (aQ J fa175_5 J (zZ (vQ J J (aX ti173 J J fC J (by first | (simp; done) | decide)) J (fun _ => iM) (fun _ => Imp.refl _) (fun _ => iM) ?_)))
  rintro ⟨⟩ -
  refine qQ (bZ (eZ (aZ (dZ J (cQ J (pZ fa175_4 J (cZ (rZ ti27 J) ?_)))))))
  refine gZ J (gZ J (fZ (bZ (tZ (pX J J J () trivial J (Imp.trans ?_ (hclose m a73 c73 hm)))))))
  rw [List.length_append, flat_app]
  exact Imp.trans (Imp.trans (Imp.pull (A := m.own) eX (Imp.pull (A := pool x.pl) eX (Imp.refl _))) pool_add) iM
 ·refine aZ (dZ J (dZ J (cQ J (pZ fa175_2 J (cZ (rZ ti3 J) ?_)))))
  refine cZ (aV J J wO) (oZ call123 J (Imp.refl _) (within_spec W0 _ sector 0 (s.count - 1)) J ?_)
  rintro ⟨⟩ -
  rw [decide_eq_true (p := 0 ≤ sector ∧ sector ≤ s.count - 1) (by omega)]
  refine cZ (pQ J) (dZ J (iZ J J (dZ J (iZ J J (oZ call123 J (Imp.refl _) (within_spec W0 _ major 0 281474976710656) J ?_)))))
  rintro ⟨⟩ -
  rw [decide_eq_true (p := 0 ≤ major ∧ major ≤ 281474976710656) (by omega)]
  refine iZ J J (cZ (pQ J) (cZ jZ ?_))
  refine gZ J (fZ (bZ (qZ J (eZ (aZ (dZ J (dZ J (iZ J J (dZ J (iZ J J (cZ (lZ underlying32 J J) (iZ J J (cZ (dQ (xX J J) (bF (by have := h3 rfl; omega))) ?_)))))))))))))
  refine cZ jZ ?_
  refine gZ J (fZ (bZ (qZ J (eZ (aZ (dZ J (cQ J (pZ fa175_5 J (cZ (rZ ti173 J) ?_)))))))))
  refine cZ (lZ underlying173 J J) (cZ zQ ?_)
  refine gZ J (fZ (bZ (qZ J (wZ (sZ (bZ (eZ (eZ (aZ (dZ J (cZ (pQ J) (fZ (bZ (qZ J (wZ (bZ (eZ (aZ (dZ J (cQ J (pZ fa175_4 J (cZ (rZ ti27 J) ?_))))))))))))))))))))))
  refine cZ (eQ J J J) (cQ J (pZ fa175_4 J (cX (aX ti27 J J fC J (by first | (simp; done) | decide)) J ?_)))
  rintro ⟨⟩ -
  refine fZ (bZ (eZ (sQ (.lo 0 0 (.lo 1 0 (.lo 2 0 (.lo 3 0 (.lo 4 2 (.lo 5 0 (.lo 6 0 (.lo 7 0 (.lo 8 2 (.lo 9 0 (.lo 10 0 (.lo 11 0 (.lo 12 1 (.lo 14 0 (.lo 15 0 (.lo 16 0 (.lo 17 0 (.lo 18 2 (.lo 19 0 (.eff1 13 false (.lo 20 1 (.eff1 21 false (.eff1 22 false (.lo 23 1 (.lo 24 1 (.eff1 25 true (.done))))))))))))))))))))))))))) [13, 21, 22, 25] [4, 8, 18] ([]) ([DH d s (w32 (s.last + 1)) x.a x.cas.length x.c x.ta s.told.length x.tc]) mixed (by kernel_rfl) (Imp.none _) (iM) ?_)))
  refine mZ J J (mZ J J (rQ J J (aQ J fa175_5 J (kZ J (hZ (v := .slice x.a x.cas.length x.c) ti173 J (Cel.of_blk (b := d) eX J)) ?_))))
  refine mZ J J (rQ J J (aQ J fa175_4 J (kZ J (hZ (v := .int .u32 (w32 (s.last + 1))) ti27 J (Cel.of_blk (b := d) eX J)) ?_)))
  refine mZ J J (mZ J J (mZ J J (mZ J J (mZ J J (mZ J J (rQ J J (aQ J fa175_3 J (kZ J (hZ (v := .int .i64 s.latency) ti3 J (Cel.of_blk (b := d) eX J)) ?_))))))))
  refine kZ J (eQ J J wO) (zZ (kQ J J call94 J (Imp.refl _) (cloneB_spec W0 _ (a := da) (c := dc) (bs := data) (by exact hr.imp iM) (by have := h3 rfl; omega)) J (fun _ => iM) (fun _ => Imp.refl _) (fun _ => iM) ?_))
  rintro m hm
  refine kZ J (xQ (pvs := [(0, .int .u32 (w32 (s.last + 1))), (1, .bool true), (2, .int .i64 sector), (3, .int .u32 addr), (4, m.cell), (5, .int .i64 (major + s.latency)), (6, .int .i64 0)]) bu177 ti177 J (cells := CA.cells ⟨w32 (s.last + 1), true, sector, addr, m, major + s.latency, 0⟩) J) (zZ (vQ J J (wX [.tmp 71] (vs := [.agg (CA.cells ⟨w32 (s.last + 1), true, sector, addr, m, major + s.latency, 0⟩).toArray]) (cells := CA.cells ⟨w32 (s.last + 1), true, sector, addr, m, major + s.latency, 0⟩) underlying173 ti177 J J J J (by decide) (by simp [Value.cells, CA.cells]) (by simp [Value.cells])) J (fun _ => iM) (fun _ => Imp.refl _) (fun _ => iM) ?_))
  rintro b72 -
  refine zZ (vQ J J (nX (a := x.a) (c := x.c) (k := 1) (ys := CA.cells ⟨w32 (s.last + 1), true, sector, addr, m, major + s.latency, 0⟩) J J J underlying173 underlying173 ti177 J (by decide) fC (SlR.of_osl (a := some ⟨b72, 0, none⟩) eX) (CA.ones _) (by omega)) J (fun _ => iM) (fun _ => Imp.refl _) (fun _ => iM) ?_)
  rintro ⟨a73, c73⟩ -
  refine rQ J J (aQ J fa175_5 J (zZ (vQ J J (aX ti173 J J fC J (by first | (simp; done) | decide)) J (fun _ => iM) (fun _ => Imp.refl _) (fun _ => iM) ?_)))
  rintro ⟨⟩ -
  refine qQ (bZ (eZ (aZ (dZ J (cQ J (pZ fa175_4 J (cZ (rZ ti27 J) ?_)))))))
  refine gZ J (gZ J (fZ (bZ (tZ (pX J J J () trivial J (Imp.trans ?_ (hclose m a73 c73 hm)))))))
  rw [List.length_append, flat_app]
  exact Imp.trans (Imp.trans (Imp.pull (A := m.own) eX (Imp.pull (A := pool x.pl) eX (Imp.refl _))) pool_add) iM
end
structure Rq where
 part : Int
 tag : Int
 write : Bool
 sector : Int
 data : B
structure CR where
 part : Int
 tag : Int
 write : Bool
 sector : Int
 m : Msg
def CR.cells (r : CR) : List Value := [.int .i64 r.part, .int .u32 r.tag, .bool r.write, .int .i64 r.sector, r.m.cell]
def CR.abs (r : CR) : Rq := ⟨r.part, r.tag, r.write, r.sector, r.m.b⟩
theorem CR.len (r : CR) : r.cells.length = 5 := rfl
theorem CR.ones (r : CR) : ∀ v ∈ r.cells, one v = true := by simp [CR.cells, one, Msg.cell]
abbrev oreqs (a : Option Addr) (c : Nat) (l : List CR) : HProp := osl 101 5 a c l.length ((l.map CR.cells).flatten)
structure Rqs where
 l : List CR
 a : Option Addr
 c : Nat
def Rqs.ms (r : Rqs) : List Msg := r.l.map CR.m
abbrev Rqs.G (r : Rqs) : List HProp := [oreqs r.a r.c r.l, pool r.ms]
def Rqs.cell (r : Rqs) : Value := .slice r.a r.l.length r.c
def iss (a : Ak) : Ak := { a with st := if a.st = 0 then 1 else a.st }
theorem iss_one {a : Ak} (h : a.st = 0) : iss a = { a with st := 1 } := by unfold iss; rw [if_pos h]
theorem iss_no {a : Ak} (h : a.st ≠ 0) : iss a = a := by unfold iss; rw [if_neg h]
def req (s : Ds) (a : Ak) : Rq := ⟨s.part, a.tag, a.write, s.first + a.sector, a.data⟩
def issR (s : Ds) : List Rq := (s.asks.filter fun a => a.st == 0).map (req s)
def issS (s : Ds) : Ds := { s with asks := s.asks.map iss }
theorem mapto_step {α : Type} {f : α → α} {l : List α} {i : Nat} {x : α} (h : l[i]? = some x) : (l.take (i + 1)).map f ++ l.drop (i + 1) = ((l.take i).map f ++ l.drop i).set i (f x) := by
 obtain ⟨hi, rfl⟩ := List.getElem?_eq_some_iff.1 h
 have hl : ((l.take i).map f).length = i := by simp; omega
 rw [List.set_append_right _ _ (by omega), hl, Nat.sub_self, List.drop_eq_getElem_cons hi, List.set_cons_zero, List.take_succ_eq_append_getElem hi, List.map_append, List.append_assoc]; rfl
theorem mapto_get {α : Type} {f : α → α} {l : List α} {i : Nat} {x : α} (h : l[i]? = some x) : ((l.take i).map f ++ l.drop i)[i]? = some x := by
 obtain ⟨hi, rfl⟩ := List.getElem?_eq_some_iff.1 h
 have hl : ((l.take i).map f).length = i := by simp; omega
 rw [List.getElem?_append_right (by omega), hl, Nat.sub_self]; simp [hi]
theorem mapto_len {α : Type} {f : α → α} {l : List α} {i : Nat} (h : i ≤ l.length) : ((l.take i).map f ++ l.drop i).length = l.length := by simp; omega
structure It where
 i : Nat
 cas : List CA
 out : Rqs
structure It.OK (s : Ds) (pl : List Msg) (t : It) : Prop where
 le : t.i ≤ s.asks.length
 abs : t.cas.map CA.abs = (s.asks.take t.i).map iss ++ s.asks.drop t.i
 mem : ∀ a ∈ t.cas, a.m ∈ pl
 out : t.out.l.map CR.abs = ((s.asks.take t.i).filter fun a => a.st == 0).map (req s)
 outl : t.out.l.length ≤ t.i
section
variable (W0 : World) (Fr : List HProp)
set_option maxHeartbeats 2000000 in
theorem issue_spec {d : Nat} {s : Ds} : Ctr prog W0 42 [.pointer (some ⟨d, 0, none⟩)] (D d s :: Fr) (fun r : Rqs => r.l.map CR.abs = issR s) (fun r => r.cell) (fun r => r.G ++ (D d (issS s) :: Fr)) := by
 refine Ctr.ex Ext.here d_open ?_
 intro x hx
 refine Ctr.imp star_open ?_
 have hln := hx.len
 have hok := hx.ok
 have hal := hx.ok.asks
 have hfst := hx.ok.first
 have hcnt := hx.ok.count
 dsimp only [DO, List.cons_append, List.nil_append]
 refine Ctr.of_body func42 J ntmps42 J (eZ (aZ (gZ J (fZ (bZ (eZ (aZ (gZ J (fZ (bZ (eZ (eZ (aZ (dZ J (cQ J (pZ fa175_5 J (cZ (rZ ti173 J) ?_)))))))))))))))))
 refine cZ (lZ underlying173 J J) (dZ J (fZ (bZ (fQ (iX (fun t : It => t.OK s x.pl) (fun t => [(0, .pointer (some ⟨d, 0, none⟩)), (3, t.out.cell), (10, .int .i64 s.asks.length), (11, .int .i64 t.i)]) (fun t => DH d s s.last x.a s.asks.length x.c x.ta s.told.length x.tc :: oasks x.a x.c t.cas :: oreqs t.out.a t.out.c t.out.l :: pool t.out.ms :: onum 27 .u32 x.ta x.tc s.told :: pool x.pl :: Fr) (fun t => s.asks.length - t.i) ⟨0, x.cas, ⟨[], none, 0⟩⟩ ⟨Nat.zero_le _, by rw [List.take_zero, List.drop_zero, hx.abs]; rfl, hx.mem, rfl, Nat.le_refl _⟩ (by rw [← hln]; exact eS) (by rw [← hln]; exact Imp.trans pool_nil (Imp.trans (osl_nil (E := 101) (sz := 5)) iM)) ?_)))))
 rintro ⟨i, cas, ⟨l, la, lc⟩⟩ ⟨hi, habs, hmem, hout, hol⟩
 dsimp only at hi habs hmem hout hol ⊢
 have hcl : cas.length = s.asks.length := by have := congrArg List.length habs; rw [mapto_len hi, List.length_map] at this; exact this
 refine eZ (aZ (cZ bQ ?_))
 refine fZ (bZ (eZ (wQ J (fun hc => ?_) (fun hc => ?_))))
 ·try replace hc := odT hc
  have hi' : i < s.asks.length := by omega
  have hget : s.asks[i]? = some s.asks[i] := by simp [hi']
  generalize s.asks[i] = ak at hget
  have hgm := mapto_get (f := iss) hget
  have hst := mapto_step (f := iss) hget
  have hsec := hok.sec ak (List.mem_of_getElem? hget)
  have hdat := hok.data ak (List.mem_of_getElem? hget)
  obtain ⟨ca, hgc, hca⟩ : ∃ ca, cas[i]? = some ca ∧ ca.abs = ak := by
   rw [← habs, List.getElem?_map] at hgm
   cases hc : cas[i]? with
   | none => rw [hc] at hgm; cases hgm
   | some c => rw [hc] at hgm; exact ⟨c, rfl, by simpa using hgm⟩
  have hcm := hmem ca (List.mem_of_getElem? hgc)
  have htk : s.asks.take (i + 1) = s.asks.take i ++ [ak] := by obtain ⟨hlt, rfl⟩ := List.getElem?_eq_some_iff.1 hget; exact List.take_succ_eq_append_getElem hlt
  subst hca
  refine kX (fun w hw => shape_as (n := i) (l := cas) (by omega) eX w hw) ?_
  rintro ⟨b, o, hxa⟩
  rw [hxa]
  rw [hxa] at *
  refine wZ (bZ (eZ (fQ (eZ (aZ (dZ J (gZ J (fZ (bZ (eZ (aZ (dZ J (cQ J (pZ fa175_5 J (cZ (hZ (v := .slice (some ⟨b, o, none⟩) s.asks.length x.c) ti173 J (Cel.of_blk (b := d) eX J)) ?_)))))))))))))))
  refine dZ J (cZ (nZ underlying173 ti177 J J (by omega) (by omega)) ?_)
  refine gZ J (fZ (bZ (eZ (eZ ?_))))
  rcases (show ca.st ≠ 0 ∨ ca.st = 0 by omega) with hs | hs
  ·refine aZ (dZ J (cQ J (pZ fa177_6 J (cZ (hZ (v := .int .i64 ca.st) ti3 J (((SlR.of_osl (E := 177) (a := some ⟨b, o, none⟩) eX).elem CA.len hgc) 6 _ J)) ?_))))
   refine cZ nQ ?_
   refine fZ (bZ (gQ J (dX (yZ (oQ (bZ (aZ (cZ (eQ J J wO) (dZ J (fZ (yQ ⟨i + 1, cas, ⟨l, la, lc⟩⟩ ⟨by simp only; omega, ?_, hmem, ?_, by simp only; omega⟩ (by simp only; omega) eS (by dsimp only; rw [hxa]; exact iM))))))))))))
   ·dsimp only; rw [hst, habs]; symm; refine set_self ?_; rw [iss_no (a := ca.abs) hs]; exact hgm
   ·dsimp only; rw [htk, List.filter_append, hout]; simp [hs, CA.abs]
  ·refine aZ (dZ J (cQ J (pZ fa177_6 J (cZ (hZ (v := .int .i64 ca.st) ti3 J (((SlR.of_osl (E := 177) (a := some ⟨b, o, none⟩) eX).elem CA.len hgc) 6 _ J)) ?_))))
   refine cZ nQ ?_
   refine fZ (bZ (qZ J (wZ (bZ (eZ (aZ (dZ J (cQ J (pZ fa177_6 J (cX (bV (i := i) 6 (r := ca) (r' := { ca with st := 1 }) (rs := cas) CA.len hgc J (by decide) ti3 J J fC J (by omega)) J ?_))))))))))
   rintro ⟨⟩ -
   have hgc2 : (cas.set i { ca with st := 1 })[i]? = some { ca with st := 1 } := by rw [List.getElem?_set_self (by omega)]
   refine fZ (bZ (sQ (.lo 0 0 (.lo 1 0 (.lo 2 0 (.lo 3 0 (.lo 4 0 (.lo 5 0 (.lo 6 0 (.lo 7 0 (.lo 8 0 (.lo 9 0 (.lo 10 0 (.lo 11 0 (.lo 12 0 (.lo 13 0 (.lo 14 0 (.lo 15 0 (.lo 16 0 (.lo 17 0 (.lo 18 0 (.lo 19 0 (.lo 20 0 (.lo 21 0 (.lo 22 1 (.lo 23 1 (.lo 24 1 (.lo 25 1 (.eff1 26 false (.lo 27 1 (.eff1 28 false (.eff1 29 false (.lo 30 1 (.done)))))))))))))))))))))))))))))))) [26, 28, 29] [] ([DH d s s.last (some ⟨b, o, none⟩) s.asks.length x.c x.ta s.told.length x.tc, osl 177 7 (some ⟨b, o, none⟩) x.c cas.length (((cas.set i { ca with st := 1 }).map CA.cells).flatten)]) ([]) mixed (by kernel_rfl) (iM) (Imp.none _) ?_))
   refine mZ J J (mZ J J (rQ J J (aQ J fa175_0 J (kZ J (hZ (v := .int .i64 s.part) ti3 J (Cel.of_blk (b := d) eX J)) ?_))))
   refine mZ J J (rQ J J (aQ J fa177_0 J (kZ J (hZ (v := .int .u32 ca.tag) ti27 J (((SlR.of_osl (E := 177) (a := some ⟨b, o, none⟩) eX).elem CA.len hgc2) 0 _ J)) ?_)))
   refine mZ J J (rQ J J (aQ J fa177_1 J (kZ J (hZ (v := .bool ca.write) ti4 J (((SlR.of_osl (E := 177) (a := some ⟨b, o, none⟩) eX).elem CA.len hgc2) 1 _ J)) ?_)))
   refine mZ J J (rQ J J (aQ J fa175_1 J (kZ J (hZ (v := .int .i64 s.first) ti3 J (Cel.of_blk (b := d) eX J)) ?_)))
   refine mZ J J (rQ J J (aQ J fa177_2 J (kZ J (hZ (v := .int .i64 ca.sector) ti3 J (((SlR.of_osl (E := 177) (a := some ⟨b, o, none⟩) eX).elem CA.len hgc2) 2 _ J)) ?_)))
   refine kZ J (eQ J J (w64 (by have := hsec.1; have h9 : (CA.abs ca).sector = ca.sector := rfl; omega) (by have := hsec.2; have h9 : (CA.abs ca).sector = ca.sector := rfl; omega))) ?_
   refine mZ J J (rQ J J (aQ J fa177_4 J (kZ J (hZ (v := ca.m.cell) ti32 J (((SlR.of_osl (E := 177) (a := some ⟨b, o, none⟩) eX).elem CA.len hgc2) 4 _ J)) ?_)))
   refine zZ (kQ J J call94 J (Imp.refl _) (cloneB_spec W0 _ (a := ca.m.a) (c := ca.m.c) (bs := ca.m.b) (by exact pool_rd (ms := x.pl) eX hcm) (by have h9 : (CA.abs ca).data = ca.m.b := rfl; rw [h9] at hdat; omega)) J (fun _ => iM) (fun _ => Imp.refl _) (fun _ => iM) ?_)
   rintro m hm
   refine kZ J (xQ (pvs := [(0, .int .i64 s.part), (1, .int .u32 ca.tag), (2, .bool ca.write), (3, .int .i64 (s.first + ca.sector)), (4, m.cell)]) bu101 ti101 J (cells := CR.cells ⟨s.part, ca.tag, ca.write, s.first + ca.sector, m⟩) J) (zZ (vQ J J (wX [.tmp 55] (vs := [.agg (CR.cells ⟨s.part, ca.tag, ca.write, s.first + ca.sector, m⟩).toArray]) (cells := CR.cells ⟨s.part, ca.tag, ca.write, s.first + ca.sector, m⟩) underlying98 ti101 J J J J (by decide) (by simp [Value.cells, CR.cells]) (by simp [Value.cells])) J (fun _ => iM) (fun _ => Imp.refl _) (fun _ => iM) ?_))
   rintro b56 -
   refine zZ (vQ J J (nX (a := la) (c := lc) (k := 1) (ys := CR.cells ⟨s.part, ca.tag, ca.write, s.first + ca.sector, m⟩) J J J underlying98 underlying98 ti101 J (by decide) fC (SlR.of_osl (a := some ⟨b56, 0, none⟩) eX) (CR.ones _) (by dsimp only; omega)) J (fun _ => iM) (fun _ => Imp.refl _) (fun _ => iM) ?_)
   rintro ⟨a57, c57⟩ -
   refine kZ J (hQ J) (qQ (sZ (bZ (aZ (cZ (eQ J J wO) (dZ J (fZ (yQ ⟨i + 1, cas.set i { ca with st := 1 }, ⟨l ++ [⟨s.part, ca.tag, ca.write, s.first + ca.sector, m⟩], a57, c57⟩⟩ ⟨by simp only; omega, ?_, ?_, ?_, ?_⟩ (by simp only; omega) ?_ ?_))))))))
   ·dsimp only; rw [hst, List.map_set, habs]; rw [iss_one (a := ca.abs) hs]; rfl
   ·dsimp only; intro a ha; rcases List.mem_or_eq_of_mem_set ha with ha | rfl; exact hmem a ha; exact hcm
   ·dsimp only; rw [htk, List.filter_append, List.map_append, List.map_append, hout]; simp [hs, CA.abs, CR.abs, req, hm]
   ·simp only [List.length_append, List.length_cons, List.length_nil]; omega
   ·dsimp only [Rqs.cell]; rw [List.length_append]; exact eS
   ·dsimp only [Rqs.ms, oasks, oreqs]
    try rw [hxa]
    rw [List.length_append, flat_app, List.length_set, List.map_append]
    exact Imp.trans (Imp.trans (Imp.pull (A := m.own) eX (Imp.pull (A := pool (l.map CR.m)) eX (Imp.refl _))) pool_add) iM
 ·try replace hc := odF hc
  refine dX (yZ (yZ (oQ (bZ (eZ (aZ (dZ J (gZ J (fZ (bZ (tZ ?_)))))))))))
  have hie : i = s.asks.length := by omega
  subst hie
  rw [List.take_length, List.drop_length, List.append_nil] at habs
  rw [List.take_length] at hout
  have hcl2 := d_close (d := d) (G := Fr) (s := issS s) ⟨cas, x.pl, x.a, x.c, x.ta, x.tc⟩ ⟨habs, hmem, ⟨hok.part, hok.first, hok.count, hok.lat, by simp only [issS, List.length_map]; exact hok.asks, hok.told, fun a ha => by simp only [issS, List.mem_map] at ha; obtain ⟨q, hq, rfl⟩ := ha; exact hok.data q hq, fun a ha => by simp only [issS, List.mem_map] at ha; obtain ⟨q, hq, rfl⟩ := ha; exact hok.sec q hq⟩⟩
  dsimp only [DO, issS, List.cons_append, List.nil_append] at hcl2
  rw [hcl] at hcl2
  exact xZ J J ⟨l, la, lc⟩ hout J (Imp.pull eX (Imp.pull eX (Imp.trans iM hcl2)))
def oi : Option Nat → Int
 | some i => i
 | none => -1
def isB (tag : Int) (a : Ak) : Bool := decide (a.tag = tag) && decide (a.st = 1)
theorem pred_spec {b : Nat} {ca : CA} {tag : Int} (h : Cel W0 Fr ⟨b, 1, none⟩ (.int .u32 tag)) : Ctr prog W0 125 [.agg ca.cells.toArray, .pointer (some ⟨b, 0, none⟩)] Fr (fun _ : Unit => True) (fun _ => .bool (isB tag ca.abs)) (fun _ => Fr) := by
 refine Ctr.of_body func125 J ntmps125 J (eZ (aZ (jQ (sX J) J ?_)))
 rintro b2 -
 refine gZ J (fZ (bZ (eZ ?_)))
 rcases (show ca.tag = tag ∨ ca.tag ≠ tag by omega) with hh | hh
 ·refine aZ (pZ fa177_0 J (cZ (hZ (v := .int .u32 ca.tag) ti27 J (Cel.of_blk (b := b2) eX J)) ?_))
  refine pZ fa101_1 J (cZ (hZ (v := .int .u32 tag) ti27 J (fun w hw => h w (hw.imp iM))) ?_)
  refine cZ (dQ (bX J J) (bT hh)) (dZ J (iZ J J (pZ fa177_6 J (iZ J J (cZ (hZ (v := .int .i64 ca.st) ti3 J (Cel.of_blk (b := b2) eX J)) ?_)))))
  refine iZ J J (cZ (bX J J) (cZ jZ ?_))
  exact gZ J (fZ (bZ (tZ (xZ J J () trivial (by simp [isB, CA.abs, hh]) iM))))
 ·refine aZ (pZ fa177_0 J (cZ (hZ (v := .int .u32 ca.tag) ti27 J (Cel.of_blk (b := b2) eX J)) ?_))
  refine pZ fa101_1 J (cZ (hZ (v := .int .u32 tag) ti27 J (fun w hw => h w (hw.imp iM))) ?_)
  refine cZ (dQ (bX J J) (bF hh)) (dZ J (iQ J J J J J (iQ J J J J J (iQ J J J J J (cZ jZ ?_)))))
  exact gZ J (fZ (bZ (tZ (xZ J J () trivial (by simp [isB, CA.abs, hh]) iM))))
theorem find_take {α : Type} {p : α → Bool} {l : List α} {i : Nat} (h : ∀ x ∈ l.take i, p x = false) : ∀ {x : α}, l[i]? = some x → p x = true → l.findIdx? p = some i := by
 intro x hx hp
 rw [List.findIdx?_eq_some_iff_getElem]
 obtain ⟨hi, rfl⟩ := List.getElem?_eq_some_iff.1 hx
 exact ⟨hi, hp, fun j hj => by rw [h _ (List.mem_take_iff_getElem.2 ⟨j, by omega, rfl⟩)]; decide⟩
theorem index_spec {b c : Nat} {a : Option Addr} {cas : List CA} {tag : Int} (hs : SlR W0 Fr 7 a cas.length ((cas.map CA.cells).flatten)) (h : Cel W0 Fr ⟨b, 1, none⟩ (.int .u32 tag)) (hl : cas.length ≤ 2 ^ 20) :
 Ctr prog W0 124 [.slice a cas.length c, .func (.func 125) [].toArray [.pointer (some ⟨b, 0, none⟩)].toArray] Fr (fun _ : Unit => True) (fun _ => .int .i64 (oi ((cas.map CA.abs).findIdx? (isB tag)))) (fun _ => Fr) := by
 refine Ctr.of_body func124 J ntmps124 J (eZ (aZ (gZ J (fZ (bZ (eZ (eZ (aZ (dZ J (cZ (lZ underlying173 J J) (dZ J (fZ (bZ (fQ (iX (fun i : Nat => i ≤ cas.length ∧ ∀ y ∈ (cas.map CA.abs).take i, isB tag y = false) (fun i => [(0, .slice a cas.length c), (1, .func (.func 125) [].toArray [.pointer (some ⟨b, 0, none⟩)].toArray), (7, .int .i64 cas.length), (8, .int .i64 i)]) (fun _ => Fr) (fun i => cas.length - i) 0 ⟨Nat.zero_le _, fun y h => absurd h (by simp)⟩ eS (Imp.refl _) ?_)))))))))))))))
 rintro i ⟨hi, hno⟩
 refine eZ (aZ (cZ bQ ?_))
 refine fZ (bZ (eZ (wQ J (fun hc => ?_) (fun hc => ?_))))
 ·try replace hc := odT hc
  have hi' : i < cas.length := by omega
  have hget : cas[i]? = some cas[i] := by simp [hi']
  generalize cas[i] = ca at hget
  have hga : (cas.map CA.abs)[i]? = some ca.abs := by rw [List.getElem?_map, hget]; rfl
  refine kX (fun w hw => hs.elem_shape (i := i) CA.len (by decide) hi' w hw) ?_
  rintro ⟨ba, oa, rfl⟩
  refine wZ (bZ (eZ (fQ (eZ (aZ (dZ J (gZ J (fZ (bZ (eZ (aZ (dZ J (dZ J (dZ J (cZ (nZ underlying173 ti177 J J (by omega) (by omega)) ?_)))))))))))))))
  refine cZ (tQ (vs := ca.cells) ti177 J (CA.len ca) (by rw [show oa + (i : Int).toNat * 7 = oa + i * 7 by omega]; exact hs.elem CA.len hget)) ?_
  refine OG.callv call125 J J (Imp.refl _) (pred_spec W0 _ (b := b) (ca := ca) (tag := tag) h) J ?_
  rintro ⟨⟩ -
  refine fZ (bZ (wQ J (fun hc => ?_) (fun hc => ?_)))
  ·try replace hc := odT hc
   exact eZ (aZ (dZ J (gZ J (fZ (bZ (tZ (mQ (vZ (vZ (mQ (vZ (xZ J J () trivial (by rw [find_take hno hga hc]; rfl) iM))))))))))))
  ·try replace hc := odF hc
   refine wZ (sZ (bZ (aZ (cZ (eQ J J wO) (dZ J (fZ (yQ (i + 1) ⟨by omega, ?_⟩ (by omega) eS iM)))))))
   intro y hy
   obtain ⟨hlt, hq⟩ := List.getElem?_eq_some_iff.1 hga
   rw [List.take_succ_eq_append_getElem hlt, hq] at hy
   rcases List.mem_append.1 hy with hy | hy
   ·exact hno y hy
   ·simp only [List.mem_cons, List.not_mem_nil, or_false] at hy; subst hy; exact hc
 ·try replace hc := odF hc
  refine dX (yZ (yZ (oQ (bZ (eZ (aZ (gZ J (fZ (bZ (tZ ?_))))))))))
  have hie : i = cas.length := by omega
  subst hie
  refine xZ J J () trivial ?_ iM
  rw [show (cas.map CA.abs).findIdx? (isB tag) = none by rw [List.findIdx?_eq_none_iff]; intro y hy; exact hno y (by rw [List.take_of_length_le (by simp)]; exact hy)]
  rfl
def comR (s : Ds) (tag : Int) (data : B) : Int × Ds :=
 match s.asks.findIdx? (isB tag) with
 | none => (302, s)
 | some i => match s.asks[i]? with
  | none => (302, s)
  | some a => if a.write = false ∧ data.length ≠ 64 then (6, s) else (0, { s with asks := s.asks.set i { a with st := 2, data := if a.write then a.data else data } })
set_option maxHeartbeats 1000000 in
theorem complete_spec {d : Nat} {s : Ds} {r : CR} (hr : RdB W0 Fr r.m.a r.m.c r.m.b) (hrl : r.m.b.length ≤ 2 ^ 47) : Ctr prog W0 63 [.pointer (some ⟨d, 0, none⟩), .agg r.cells.toArray] (D d s :: Fr) (fun _ : Unit => True) (fun _ => .int .i64 (comR s r.tag r.m.b).1) (fun _ => D d (comR s r.tag r.m.b).2 :: Fr) := by
 refine Ctr.ex Ext.here d_open ?_
 intro x hx
 refine Ctr.imp star_open ?_
 have hln := hx.len
 have hok := hx.ok
 have hal := hx.ok.asks
 have hcl := d_close (d := d) (G := Fr) x hx
 dsimp only [DO, List.cons_append, List.nil_append] at hcl ⊢
 have hab := hx.abs
 refine Ctr.of_body func63 J ntmps63 J (eZ (aZ (jQ (sX J) J ?_)))
 rintro b3 -
 refine gZ J (fZ (bZ (eZ (aZ (dZ J (cQ J (pZ fa175_5 J (cZ (rZ ti173 J) ?_))))))))
 refine cZ (nV (first := []) (cap := [.tmp 3]) J J) (oZ call124 J (Imp.refl _) (index_spec W0 _ (b := b3) (a := x.a) (c := x.c) (cas := x.cas) (tag := r.tag) (by exact SlR.of_osl (E := 177) eX) (by exact Cel.of_blk (b := b3) eX J) (by omega)) J ?_)
 rintro ⟨⟩ -
 rw [hab]
 refine gZ J (fZ (bZ (eZ (eZ ?_))))
 rcases hf : s.asks.findIdx? (isB r.tag) with _ | i
 ·refine aZ (dZ J (cZ bQ ?_))
  refine fZ (bZ (gQ J (eZ (aZ (gZ J (fZ (bZ (tZ (vZ ?_)))))))))
  have hcr : comR s r.tag r.m.b = (302, s) := by unfold comR; rw [hf]
  rw [hcr]
  exact xZ J J () trivial J (Imp.trans iM hcl)
 ·obtain ⟨hi, hp, -⟩ := List.findIdx?_eq_some_iff_getElem.1 hf
  have hget : s.asks[i]? = some s.asks[i] := by simp [hi]
  generalize s.asks[i] = ak at hget hp
  obtain ⟨ca, hgc, hca⟩ := hx.get hget
  subst hca
  have hcm := hx.mem ca (List.mem_of_getElem? hgc)
  have hcr : comR s r.tag r.m.b = if ca.write = false ∧ r.m.b.length ≠ 64 then (6, s) else (0, { s with asks := s.asks.set i { ca.abs with st := 2, data := if ca.write then ca.m.b else r.m.b } }) := by unfold comR; rw [hf]; dsimp only; rw [hget]; rfl
  refine aZ (dZ J (cZ bQ ?_))
  refine fZ (bZ (qZ J (wZ (bZ (eZ (kX (fun w hw => shape_as (n := i) (l := x.cas) (by omega) eX w hw) ?_))))))
  rintro ⟨b, o, hxa⟩
  rw [hxa] at hcl ⊢
  refine aZ (dZ J (cQ J (pZ fa175_5 J (cZ (hZ (v := .slice (some ⟨b, o, none⟩) x.cas.length x.c) ti173 J (Cel.of_blk (b := d) eX J)) ?_))))
  refine dZ J (cZ (nZ (b := b) (o := o) (m := x.cas.length) (c := x.c) (j := (i : Int)) underlying173 ti177 J J (by omega) (by omega)) ?_)
  refine gZ J (fZ (bZ (eZ (eZ ?_))))
  rcases (show (ca.write = false ∧ r.m.b.length ≠ 64) ∨ (ca.write = false ∧ r.m.b.length = 64) ∨ ca.write = true by cases ca.write <;> simp <;> omega) with hh | hh | hh
  ·refine aZ (dZ J (cQ J (pZ fa177_1 J (cZ (hZ (v := .bool ca.write) ti4 J (((SlR.of_osl (E := 177) (a := some ⟨b, o, none⟩) eX).elem CA.len hgc) 1 _ J)) ?_))))
   refine cZ (dQ (pQ J) (v' := .bool true) (by rw [hh.1]; rfl)) ?_
   refine fZ (bZ (gQ J (eZ (eZ (aZ (pZ fa101_4 J (cZ (hZ (v := r.m.cell) ti32 J (Cel.of_blk (b := b3) eX J)) ?_)))))))
   refine cZ (lZ (a := r.m.a) (m := r.m.b.length) (c := r.m.c) underlying32 J J) (cZ nQ ?_)
   refine fZ (bZ (gQ J (eZ (aZ (gZ J (fZ (bZ (tZ (vZ (vZ ?_))))))))))
   rw [hcr, if_pos hh]
   exact xZ J J () trivial J (Imp.trans iM hcl)
  ·refine aZ (dZ J (cQ J (pZ fa177_1 J (cZ (hZ (v := .bool ca.write) ti4 J (((SlR.of_osl (E := 177) (a := some ⟨b, o, none⟩) eX).elem CA.len hgc) 1 _ J)) ?_))))
   refine cZ (dQ (pQ J) (v' := .bool true) (by rw [hh.1]; rfl)) ?_
   refine fZ (bZ (gQ J (eZ (eZ (aZ (pZ fa101_4 J (cZ (hZ (v := r.m.cell) ti32 J (Cel.of_blk (b := b3) eX J)) ?_)))))))
   refine cZ (lZ (a := r.m.a) (m := r.m.b.length) (c := r.m.c) underlying32 J J) (cZ nQ ?_)
   refine fZ (bZ (qZ J (wZ (bZ (aZ (dZ J (pZ fa101_4 J (cZ (hZ (v := r.m.cell) ti32 J (Cel.of_blk (b := b3) eX J)) ?_))))))))
   refine oZ call94 J (Imp.refl _) (cloneB_spec W0 _ (a := r.m.a) (c := r.m.c) (bs := r.m.b) (by exact hr.imp iM) (by omega)) J ?_
   rintro m hm
   refine cQ J (pZ fa177_4 J (cX (bV (i := i) 4 (r := ca) (r' := { ca with m := m }) (rs := x.cas) CA.len hgc J (by decide) ti32 J J fC J J) J ?_))
   rintro ⟨⟩ -
   refine fZ (bZ (eZ (aZ (dZ J (cQ J (pZ fa177_6 J (cX (bV (i := i) 6 (r := { ca with m := m }) (r' := { ca with m := m, st := 2 }) (rs := x.cas.set i { ca with m := m }) CA.len (by rw [List.getElem?_set_self (by omega)]) J (by decide) ti3 J J fC J (by rw [List.length_set])) J ?_)))))))
   rintro ⟨⟩ -
   refine fZ (bZ (eZ (aZ (gZ J (fZ (bZ (tZ ?_)))))))
   rw [hcr, if_neg (by rw [hh.2]; simp), if_neg (by rw [hh.1]; decide)]
   have hcl2 := d_close (d := d) (G := Fr) (s := { s with asks := s.asks.set i { ca.abs with st := 2, data := r.m.b } }) ⟨x.cas.set i { ca with m := m, st := 2 }, x.pl ++ [m], some ⟨b, o, none⟩, x.c, x.ta, x.tc⟩ ⟨by dsimp only; rw [List.map_set, hab]; simp [CA.abs, hm], fun a ha => by rcases List.mem_or_eq_of_mem_set ha with ha | rfl; exact List.mem_append.2 (.inl (hx.mem a ha)); simp, ⟨hok.part, hok.first, hok.count, hok.lat, by dsimp only; rw [List.length_set]; exact hok.asks, hok.told, fun a ha => by rcases List.mem_or_eq_of_mem_set ha with ha | rfl; exact hok.data a ha; dsimp only; omega, fun a ha => by rcases List.mem_or_eq_of_mem_set ha with ha | rfl; exact hok.sec a ha; exact hok.sec ca.abs (List.mem_of_getElem? hget)⟩⟩
   dsimp only [DO, oasks, List.cons_append, List.nil_append] at hcl2
   rw [List.length_set] at hcl2
   refine xZ J J () trivial J (Imp.trans ?_ hcl2)
   rw [List.set_set]
   exact Imp.trans (Imp.trans (Imp.pull (A := m.own) eX (Imp.pull (A := pool x.pl) eX (Imp.refl _))) pool_add) iM
  ·refine aZ (dZ J (cQ J (pZ fa177_1 J (cZ (hZ (v := .bool ca.write) ti4 J (((SlR.of_osl (E := 177) (a := some ⟨b, o, none⟩) eX).elem CA.len hgc) 1 _ J)) ?_))))
   refine cZ (dQ (pQ J) (v' := .bool false) (by rw [hh]; rfl)) ?_
   refine fZ (bZ (qZ J (wZ (bZ (eZ (aZ (dZ J (cQ J (pZ fa177_6 J (cX (bV (i := i) 6 (r := ca) (r' := { ca with st := 2 }) (rs := x.cas) CA.len hgc J (by decide) ti3 J J fC J J) J ?_))))))))))
   rintro ⟨⟩ -
   refine fZ (bZ (eZ (aZ (gZ J (fZ (bZ (tZ ?_)))))))
   rw [hcr, if_neg (by rw [hh]; simp), if_pos hh]
   have hcl2 := d_close (d := d) (G := Fr) (s := { s with asks := s.asks.set i { ca.abs with st := 2, data := ca.m.b } }) ⟨x.cas.set i { ca with st := 2 }, x.pl, some ⟨b, o, none⟩, x.c, x.ta, x.tc⟩ ⟨by dsimp only; rw [List.map_set, hab]; simp [CA.abs], fun a ha => by rcases List.mem_or_eq_of_mem_set ha with ha | rfl; exact hx.mem a ha; exact hcm, ⟨hok.part, hok.first, hok.count, hok.lat, by dsimp only; rw [List.length_set]; exact hok.asks, hok.told, fun a ha => by rcases List.mem_or_eq_of_mem_set ha with ha | rfl; exact hok.data a ha; exact hok.data ca.abs (List.mem_of_getElem? hget), fun a ha => by rcases List.mem_or_eq_of_mem_set ha with ha | rfl; exact hok.sec a ha; exact hok.sec ca.abs (List.mem_of_getElem? hget)⟩⟩
   dsimp only [DO, oasks, List.cons_append, List.nil_append] at hcl2
   rw [List.length_set] at hcl2
   exact xZ J J () trivial J (Imp.trans iM hcl2)
end
structure Dn where
 tag : Int
 write : Bool
 addr : Int
 data : B
structure CD where
 tag : Int
 write : Bool
 addr : Int
 m : Msg
def CD.cells (r : CD) : List Value := [.int .u32 r.tag, .bool r.write, .int .u32 r.addr, r.m.cell]
def CD.abs (r : CD) : Dn := ⟨r.tag, r.write, r.addr, r.m.b⟩
theorem CD.len (r : CD) : r.cells.length = 4 := rfl
theorem CD.ones (r : CD) : ∀ v ∈ r.cells, one v = true := by simp [CD.cells, one, Msg.cell]
abbrev odone (a : Option Addr) (c : Nat) (l : List CD) : HProp := osl 158 4 a c l.length ((l.map CD.cells).flatten)
structure Dns where
 l : List CD
 a : Option Addr
 c : Nat
def Dns.ms (r : Dns) : List Msg := r.l.map CD.m
abbrev Dns.G (r : Dns) : List HProp := [odone r.a r.c r.l, pool r.ms]
def Dns.cell (r : Dns) : Value := .slice r.a r.l.length r.c
def over (major : Int) (a : Ak) : Bool := decide (a.st = 2) && decide (a.due ≤ major)
theorem over_no1 {major : Int} {a : Ak} (h : a.st ≠ 2) : over major a = false := by unfold over; rw [decide_eq_false h, Bool.false_and]
theorem over_no2 {major : Int} {a : Ak} (h : major < a.due) : over major a = false := by unfold over; rw [decide_eq_false (p := a.due ≤ major) (by omega), Bool.and_false]
theorem over_yes {major : Int} {a : Ak} (h : a.st = 2) (h2 : a.due ≤ major) : over major a = true := by unfold over; rw [decide_eq_true h, decide_eq_true h2]; rfl
def done (a : Ak) : Dn := ⟨a.tag, a.write, a.addr, if a.write then [] else a.data⟩
def rdyL (s : Ds) (major : Int) : List Dn := (s.asks.filter (over major)).map done
def rdyS (s : Ds) (major : Int) : Ds := { s with asks := s.asks.filter (fun a => !over major a), told := (s.asks.filter (over major)).map Ak.tag }
structure Rt where
 i : Nat
 out : Dns
 rest : List CA
 ra : Option Addr
 rc : Nat
 told : List Int
 ta : Option Addr
 tc : Nat
structure Rt.OK (s : Ds) (major : Int) (pl : List Msg) (t : Rt) : Prop where
 le : t.i ≤ s.asks.length
 out : t.out.l.map CD.abs = ((s.asks.take t.i).filter (over major)).map done
 outl : t.out.l.length ≤ t.i
 rest : t.rest.map CA.abs = (s.asks.take t.i).filter (fun a => !over major a)
 restl : t.rest.length ≤ t.i
 mem : ∀ a ∈ t.rest, a.m ∈ pl
 told : t.told = ((s.asks.take t.i).filter (over major)).map Ak.tag
 toldl : t.told.length ≤ t.i
theorem DC.OK.mems {x : DC} {s : Ds} (h : x.OK s) {n : Nat} {c : CA} (hc : x.cas[n]? = some c) : c.m ∈ x.pl := h.mem c (List.mem_of_getElem? hc)
section
variable (W0 : World) (Fr : List HProp)
set_option maxHeartbeats 2000000 in
theorem ready_spec {d : Nat} {s : Ds} (major : Int) : Ctr prog W0 64 [.pointer (some ⟨d, 0, none⟩), .int .i64 major] (D d s :: Fr) (fun r : Dns => r.l.map CD.abs = rdyL s major) (fun r => r.cell) (fun r => r.G ++ (D d (rdyS s major) :: Fr)) := by
 refine Ctr.ex Ext.here d_open ?_
 intro x hx
 refine Ctr.imp star_open ?_
 have hln := hx.len
 have hok := hx.ok
 have hal := hx.ok.asks
 have hab := hx.abs
 dsimp only [DO, List.cons_append, List.nil_append]
 refine Ctr.of_body func64 J ntmps64 J (eZ (aZ (gZ J (fZ (bZ (eZ (aZ (gZ J (fZ (bZ (eZ (aZ (gZ J (fZ (bZ (eZ (aZ (dZ J (cQ J (pZ fa175_6 J (cX (aX ti37 J J fC J (by first | (simp; done) | decide)) J ?_)))))))))))))))))))))
 rintro ⟨⟩ -
 refine fZ (bZ (eZ (eZ (aZ (dZ J (cQ J (pZ fa175_5 J (cZ (rZ ti173 J) ?_))))))))
 refine cZ (lZ underlying173 J J) (dZ J (fZ (bZ (fQ (iX (fun t : Rt => t.OK s major x.pl) (fun t => [(0, .pointer (some ⟨d, 0, none⟩)), (1, .int .i64 major), (5, t.out.cell), (6, .slice t.ra t.rest.length t.rc), (16, .slice x.a x.cas.length x.c), (17, .int .i64 x.cas.length), (18, .int .i64 t.i)]) (fun t => DH d s s.last x.a x.cas.length x.c t.ta t.told.length t.tc :: oasks x.a x.c x.cas :: odone t.out.a t.out.c t.out.l :: pool t.out.ms :: oasks t.ra t.rc t.rest :: onum 27 .u32 t.ta t.tc t.told :: pool x.pl :: Fr) (fun t => x.cas.length - t.i) ⟨0, ⟨[], none, 0⟩, [], none, 0, [], none, 0⟩ ⟨Nat.zero_le _, rfl, Nat.le_refl _, rfl, Nat.le_refl _, fun a h => absurd h List.not_mem_nil, rfl, Nat.le_refl _⟩ eS (Imp.trans pool_nil (Imp.trans (osl_nil (E := 27) (sz := 1)) (Imp.trans (osl_nil (E := 177) (sz := 7)) (Imp.trans (osl_nil (E := 158) (sz := 4)) (Imp.pull eX (Imp.pull (A := oasks x.a x.c x.cas) eX (Imp.pull (A := odone none 0 []) eX (Imp.pull (A := pool []) eX (Imp.pull (A := oasks none 0 []) eX (Imp.pull (A := onum 27 .u32 none 0 []) eX (Imp.pull (A := pool x.pl) eX iM))))))))))) ?_)))))
 rintro ⟨i, ⟨l, la, lc⟩, rest, ra, rc, told, ta, tc⟩ ⟨hi, hout, hol, hrest, hrl, hmem, htold, htl⟩
 dsimp only at hi hout hol hrest hrl hmem htold htl ⊢
 refine eZ (aZ (cZ bQ ?_))
 refine fZ (bZ (eZ (wQ J (fun hc => ?_) (fun hc => ?_))))
 ·try replace hc := odT hc
  have hi' : i < x.cas.length := by omega
  have hgc : x.cas[i]? = some x.cas[i] := by simp [hi']
  generalize x.cas[i] = ca at hgc
  have hget : s.asks[i]? = some ca.abs := by rw [← hab, List.getElem?_map, hgc]; rfl
  have hdat := hok.data _ (List.mem_of_getElem? hget)
  have hcm := hx.mems hgc
  have htk : s.asks.take (i + 1) = s.asks.take i ++ [ca.abs] := by obtain ⟨hlt, hq⟩ := List.getElem?_eq_some_iff.1 hget; rw [List.take_succ_eq_append_getElem hlt, hq]
  refine kX (fun w hw => shape_as (n := i) (l := x.cas) (by omega) (Ext.there Ext.here) w hw) ?_
  rintro ⟨b, o, hxa⟩
  rw [hxa]
  refine wZ (bZ (eZ (fQ (eZ (aZ (cZ (nZ underlying173 ti177 J J (by omega) (by omega)) ?_))))))
  refine cZ (tQ (vs := ca.cells) ti177 J (CA.len ca) (by rw [show o + (i : Int).toNat * 7 = o + i * 7 by omega]; exact (SlR.of_osl (E := 177) (a := some ⟨b, o, none⟩) eX).elem CA.len hgc)) ?_
  refine jQ (lX ti177) J ?_
  rintro b8 -
  refine cX (gX ti177 J J fC (CA.len ca) (CA.ones ca) J) J ?_
  rintro ⟨⟩ -
  refine fZ (bZ (eZ (eZ ?_)))
  rcases (show ca.st ≠ 2 ∨ (ca.st = 2 ∧ major < ca.due) ∨ (ca.st = 2 ∧ ca.due ≤ major) by omega) with hh | hh | hh
  ·have hov : over major ca.abs = false := over_no1 (a := ca.abs) hh
   refine aZ (pZ fa177_6 J (cZ (hZ (v := .int .i64 ca.st) ti3 J (Cel.of_blk (b := b8) eX J)) ?_))
   refine cZ (dQ (xX J J) (bT hh)) (dZ J (iQ J J J J J (iQ J J J J J (iQ J J J J J (iQ J J J J J (cZ jZ ?_))))))
   refine fZ (bZ (gQ J (eZ (aZ (dZ J (cZ (tQ (vs := ca.cells) ti177 J (CA.len ca) (Row.of_blk (b := b8) eX J)) ?_))))))
   refine jQ (wX [.tmp 32] (vs := [.agg ca.cells.toArray]) (cells := ca.cells) underlying173 ti177 J J J J (by decide) (by simp [Value.cells, CA.cells]) (by simp [Value.cells])) J ?_
   rintro b33 -
   refine jQ (nX (a := ra) (c := rc) (m := rest.length) (xs := (rest.map CA.cells).flatten) (k := 1) (ys := ca.cells) J J J underlying173 underlying173 ti177 J (by decide) fC (SlR.of_osl (a := some ⟨b33, 0, none⟩) eX) (CA.ones _) (by omega)) J ?_
   rintro ⟨a34, c34⟩ -
   refine gZ J (fZ (bZ (dX (yZ (oQ (bZ (aZ (cZ (eQ J J wO) (dZ J (fZ (yQ ⟨i + 1, ⟨l, la, lc⟩, rest ++ [ca], a34, c34, told, ta, tc⟩ ⟨by simp only; omega, by dsimp only; rw [htk, List.filter_append, List.map_append, hout]; simp [hov], by simp only; omega, by dsimp only; rw [htk, List.filter_append, List.map_append, hrest]; simp [hov], by simp only [List.length_append, List.length_cons, List.length_nil]; omega, fun a ha => by rcases List.mem_append.1 ha with ha | ha; exact hmem a ha; (simp only [List.mem_cons, List.not_mem_nil, or_false] at ha; subst ha; exact hcm), by dsimp only; rw [htk, List.filter_append, List.map_append, htold]; simp [hov], by simp only; omega⟩ (show x.cas.length - (i + 1) < x.cas.length - i by omega) (by dsimp only; rw [List.length_append]; exact eS) (by dsimp only [oasks]; rw [List.length_append, flat_app]; exact iM))))))))))))
  ·have hov : over major ca.abs = false := over_no2 (a := ca.abs) hh.2
   refine aZ (pZ fa177_6 J (cZ (hZ (v := .int .i64 ca.st) ti3 J (Cel.of_blk (b := b8) eX J)) ?_))
   refine cZ (dQ (xX J J) (bF (not_not_intro hh.1))) (dZ J (iZ J J (dZ J (iZ J J (pZ fa177_5 J (iZ J J (cZ (hZ (v := .int .i64 ca.due) ti3 J (Cel.of_blk (b := b8) eX J)) ?_)))))))
   refine iZ J J (cZ bQ ?_)
   refine cZ jZ ?_
   refine fZ (bZ (gQ J (eZ (aZ (dZ J (cZ (tQ (vs := ca.cells) ti177 J (CA.len ca) (Row.of_blk (b := b8) eX J)) ?_))))))
   refine jQ (wX [.tmp 32] (vs := [.agg ca.cells.toArray]) (cells := ca.cells) underlying173 ti177 J J J J (by decide) (by simp [Value.cells, CA.cells]) (by simp [Value.cells])) J ?_
   rintro b33 -
   refine jQ (nX (a := ra) (c := rc) (m := rest.length) (xs := (rest.map CA.cells).flatten) (k := 1) (ys := ca.cells) J J J underlying173 underlying173 ti177 J (by decide) fC (SlR.of_osl (a := some ⟨b33, 0, none⟩) eX) (CA.ones _) (by omega)) J ?_
   rintro ⟨a34, c34⟩ -
   refine gZ J (fZ (bZ (dX (yZ (oQ (bZ (aZ (cZ (eQ J J wO) (dZ J (fZ (yQ ⟨i + 1, ⟨l, la, lc⟩, rest ++ [ca], a34, c34, told, ta, tc⟩ ⟨by simp only; omega, by dsimp only; rw [htk, List.filter_append, List.map_append, hout]; simp [hov], by simp only; omega, by dsimp only; rw [htk, List.filter_append, List.map_append, hrest]; simp [hov], by simp only [List.length_append, List.length_cons, List.length_nil]; omega, fun a ha => by rcases List.mem_append.1 ha with ha | ha; exact hmem a ha; (simp only [List.mem_cons, List.not_mem_nil, or_false] at ha; subst ha; exact hcm), by dsimp only; rw [htk, List.filter_append, List.map_append, htold]; simp [hov], by simp only; omega⟩ (show x.cas.length - (i + 1) < x.cas.length - i by omega) (by dsimp only; rw [List.length_append]; exact eS) (by dsimp only [oasks]; rw [List.length_append, flat_app]; exact iM))))))))))))
  ·have hov : over major ca.abs = true := over_yes (a := ca.abs) hh.1 hh.2
   refine aZ (pZ fa177_6 J (cZ (hZ (v := .int .i64 ca.st) ti3 J (Cel.of_blk (b := b8) eX J)) ?_))
   refine cZ (dQ (xX J J) (bF (not_not_intro hh.1))) (dZ J (iZ J J (dZ J (iZ J J (pZ fa177_5 J (iZ J J (cZ (hZ (v := .int .i64 ca.due) ti3 J (Cel.of_blk (b := b8) eX J)) ?_)))))))
   refine iZ J J (cZ bQ ?_)
   refine cZ jZ ?_
   refine fZ (bZ (qZ J (wZ (bZ (eZ (aZ (pZ fa177_0 J (cZ (hZ (v := .int .u32 ca.tag) ti27 J (Cel.of_blk (b := b8) eX J)) ?_))))))))
   refine pZ fa177_1 J (cZ (hZ (v := .bool ca.write) ti4 J (Cel.of_blk (b := b8) eX J)) ?_)
   refine pZ fa177_3 J (cZ (hZ (v := .int .u32 ca.addr) ti27 J (Cel.of_blk (b := b8) eX J)) ?_)
   refine cZ (xQ (pvs := [(0, .int .u32 ca.tag), (1, .bool ca.write), (2, .int .u32 ca.addr)]) bu158 ti158 J (cells := CD.cells ⟨ca.tag, ca.write, ca.addr, Msg.nil⟩) J) (jQ (lX ti158) J ?_)
   rintro b9 -
   refine cX (gX ti158 J J fC (CD.len ⟨ca.tag, ca.write, ca.addr, Msg.nil⟩) (CD.ones ⟨ca.tag, ca.write, ca.addr, Msg.nil⟩) J) J ?_
   rintro ⟨⟩ -
   refine fZ (bZ (CG.cut (fun m : Msg => m.b = if ca.write then [] else ca.m.b) (fun _ => [(0, .pointer (some ⟨d, 0, none⟩)), (1, .int .i64 major), (5, .slice la l.length lc), (6, .slice ra rest.length rc), (8, .pointer (some ⟨b8, 0, none⟩)), (9, .pointer (some ⟨b9, 0, none⟩)), (16, .slice (some ⟨b, o, none⟩) x.cas.length x.c), (17, .int .i64 x.cas.length), (18, .int .i64 i)]) (fun m => blk b9 (CD.cells ⟨ca.tag, ca.write, ca.addr, m⟩) 158 :: m.own :: blk b8 ca.cells 177 :: DH d s s.last (some ⟨b, o, none⟩) x.cas.length x.c ta told.length tc :: oasks (some ⟨b, o, none⟩) x.c x.cas :: odone la lc l :: pool (l.map CD.m) :: oasks ra rc rest :: onum 27 .u32 ta tc told :: pool x.pl :: Fr) ?_ ?_))
   ·refine eZ (aZ (pZ fa177_1 J (cZ (hZ (v := .bool ca.write) ti4 J (Cel.of_blk (b := b8) eX J)) ?_)))
    refine cZ (pQ J) (fZ (bZ (wQ J (fun hc => ?_) (fun hc => ?_))))
    ·try replace hc := odT hc
     have hwf : ca.write = false := by simpa using hc
     refine aZ (pZ fa177_4 J (cZ (hZ (v := ca.m.cell) ti32 J (Cel.of_blk (b := b8) eX J)) ?_))
     refine oZ call94 J (Imp.refl _) (cloneB_spec W0 _ (a := ca.m.a) (c := ca.m.c) (bs := ca.m.b) (by exact pool_rd (ms := x.pl) eX hcm) (by have h9 : (CA.abs ca).data = ca.m.b := rfl; rw [h9] at hdat; omega)) J ?_
     rintro m hm
     refine pZ fa158_3 J (cX (aX ti32 J J fC J (by rw [CD.len]; decide)) J ?_)
     rintro ⟨⟩ -
     exact fZ (cV m (by rw [hwf]; exact hm) eS iM)
    ·try replace hc := odF hc
     have hwt : ca.write = true := by simpa using hc
     exact wZ (cV Msg.nil (by rw [hwt]; rfl) eS (Imp.trans own_nil iM))
   rintro m hm
   refine eZ (aZ (dZ J (cZ (tQ (vs := CD.cells ⟨ca.tag, ca.write, ca.addr, m⟩) ti158 J (CD.len _) (Row.of_blk (b := b9) eX J)) ?_)))
   refine jQ (wX [.tmp 50] (vs := [.agg (CD.cells ⟨ca.tag, ca.write, ca.addr, m⟩).toArray]) (cells := CD.cells ⟨ca.tag, ca.write, ca.addr, m⟩) underlying130 ti158 J J J J (by decide) (by simp [Value.cells, CD.cells]) (by simp [Value.cells])) J ?_
   rintro b51 -
   refine jQ (nX (a := la) (c := lc) (m := l.length) (xs := (l.map CD.cells).flatten) (k := 1) (ys := CD.cells ⟨ca.tag, ca.write, ca.addr, m⟩) J J J underlying130 underlying130 ti158 J (by decide) fC (SlR.of_osl (a := some ⟨b51, 0, none⟩) eX) (CD.ones _) (by omega)) J ?_
   rintro ⟨a52, c52⟩ -
   refine gZ J (fZ (bZ (sQ (.lo 0 0 (.lo 1 0 (.lo 2 0 (.lo 3 0 (.lo 4 2 (.lo 5 1 (.lo 6 1 (.eff1 7 false (.eff1 8 false (.lo 9 1 (.lo 10 1 (.eff1 11 true (.done))))))))))))) [7, 8, 11] [4] ([]) ([DH d s s.last (some ⟨b, o, none⟩) x.cas.length x.c ta told.length tc]) mixed (by kernel_rfl) (Imp.none _) (iM) ?_)))
   refine mZ J J (mZ J J (rQ J J (aQ J fa175_6 J (kZ J (hZ (v := .slice ta told.length tc) ti37 J (Cel.of_blk (b := d) eX J)) ?_))))
   refine aQ J fa177_0 J (kZ J (hZ (v := .int .u32 ca.tag) ti27 J (Cel.of_blk (b := b8) eX J)) ?_)
   refine zZ (vQ J J (gV underlying37 ti27 J J J) J (fun _ => iM) (fun _ => Imp.refl _) (fun _ => iM) ?_)
   rintro b60 -
   refine zZ (vQ J J (nX (a := ta) (c := tc) (m := told.length) (xs := intsV .u32 told) (k := 1) (ys := [.int .u32 ca.tag]) J J J underlying37 underlying37 ti27 J (by decide) fC (SlR.of_osl (a := some ⟨b60, 0, none⟩) eX) (by simp [one]) (by omega)) J (fun _ => iM) (fun _ => Imp.refl _) (fun _ => iM) ?_)
   rintro ⟨a61, c61⟩ -
   refine rQ J J (aQ J fa175_6 J (zZ (vQ J J (aX ti37 J J fC J (by first | (simp; done) | decide)) J (fun _ => iM) (fun _ => Imp.refl _) (fun _ => iM) ?_)))
   rintro ⟨⟩ -
   refine qQ (sZ (bZ (aZ (cZ (eQ J J wO) (dZ J (fZ (yQ ⟨i + 1, ⟨l ++ [⟨ca.tag, ca.write, ca.addr, m⟩], a52, c52⟩, rest, ra, rc, told ++ [ca.tag], a61, c61⟩ ⟨?_, ?_, ?_, ?_, ?_, hmem, ?_, ?_⟩ (show x.cas.length - (i + 1) < x.cas.length - i by omega) (by dsimp only [Dns.cell]; rw [List.length_append]; exact eS) ?_)))))))
   ·simp only; omega
   ·dsimp only; rw [htk, List.filter_append, List.map_append, List.map_append, hout, show [ca.abs].filter (over major) = [ca.abs] by simp [hov]]; simp [CD.abs, done, CA.abs, hm]
   ·simp only [List.length_append, List.length_cons, List.length_nil]; omega
   ·dsimp only; rw [htk, List.filter_append, hrest]; simp [hov]
   ·simp only; omega
   ·dsimp only; rw [htk, List.filter_append, List.map_append, htold, show [ca.abs].filter (over major) = [ca.abs] by simp [hov]]; rfl
   ·simp only [List.length_append, List.length_cons, List.length_nil]; omega
   ·dsimp only [Dns.ms, odone]
    rw [show (l ++ [(⟨ca.tag, ca.write, ca.addr, m⟩ : CD)]).length = l.length + 1 by simp, flat_app, List.map_append, onum_app, show (told ++ [ca.tag]).length = told.length + 1 by simp]
    exact Imp.trans (Imp.trans (Imp.pull (A := m.own) eX (Imp.pull (A := pool (l.map CD.m)) eX (Imp.refl _))) pool_add) iM
 ·try replace hc := odF hc
  refine dX (yZ (yZ (oQ (bZ (eZ (aZ (dZ J (dZ J (cQ J (pZ fa175_5 J (cX (aX ti173 J J fC J (by first | (simp; done) | decide)) J ?_)))))))))))
  rintro ⟨⟩ -
  refine fZ (bZ (eZ (aZ (dZ J (gZ J (fZ (bZ (tZ ?_))))))))
  have hie : i = s.asks.length := by omega
  subst hie
  rw [List.take_length] at hout hrest htold
  subst htold
  have hcl2 := d_close (d := d) (G := Fr) (s := rdyS s major) ⟨rest, x.pl, ra, rc, ta, tc⟩ ⟨hrest, hmem, ⟨hok.part, hok.first, hok.count, hok.lat, Nat.le_trans (List.length_filter_le _ _) hok.asks, by dsimp only [rdyS]; omega, fun a ha => hok.data a (List.mem_filter.1 ha).1, fun a ha => hok.sec a (List.mem_filter.1 ha).1⟩⟩
  dsimp only [DO, List.cons_append, List.nil_append] at hcl2
  exact xZ J J ⟨l, la, lc⟩ hout J (Imp.pull eX (Imp.pull eX (Imp.trans iM hcl2)))
theorem waiting_spec {d : Nat} {s : Ds} : Ctr prog W0 38 [.pointer (some ⟨d, 0, none⟩)] (D d s :: Fr) (fun _ : Option Addr × Nat => True) (fun q => .slice q.1 (s.asks.map Ak.tag).length q.2) (fun q => onum 27 .u32 q.1 q.2 (s.asks.map Ak.tag) :: D d s :: Fr) := by
 refine Ctr.ex Ext.here d_open ?_
 intro x hx
 refine Ctr.imp star_open ?_
 have hln := hx.len
 have hok := hx.ok
 have hal := hx.ok.asks
 have hab := hx.abs
 have hcl := d_close (d := d) (G := Fr) x hx
 dsimp only [DO, List.cons_append, List.nil_append] at hcl ⊢
 refine Ctr.of_body func38 J ntmps38 J (eZ (aZ (gZ J (fZ (bZ (eZ (aZ (gZ J (fZ (bZ (eZ (eZ (aZ (dZ J (cQ J (pZ fa175_5 J (cZ (rZ ti173 J) ?_)))))))))))))))))
 refine cZ (lZ underlying173 J J) (dZ J (fZ (bZ (fQ (iX (fun t : Nat × List Int × Option Addr × Nat => t.1 ≤ s.asks.length ∧ t.2.1 = (s.asks.take t.1).map Ak.tag) (fun t => [(0, .pointer (some ⟨d, 0, none⟩)), (3, .slice t.2.2.1 t.2.1.length t.2.2.2), (9, .slice x.a x.cas.length x.c), (10, .int .i64 x.cas.length), (11, .int .i64 t.1)]) (fun t => onum 27 .u32 t.2.2.1 t.2.2.2 t.2.1 :: DH d s s.last x.a x.cas.length x.c x.ta s.told.length x.tc :: oasks x.a x.c x.cas :: onum 27 .u32 x.ta x.tc s.told :: pool x.pl :: Fr) (fun t => x.cas.length - t.1) (0, [], none, 0) ⟨Nat.zero_le _, rfl⟩ eS (osl_nil (E := 27) (sz := 1)) ?_)))))
 rintro ⟨i, l, la, lc⟩ ⟨hi, hl⟩
 dsimp only at hi hl ⊢
 have hll : l.length = i := by rw [hl, List.length_map, List.length_take]; omega
 refine eZ (aZ (cZ bQ ?_))
 refine fZ (bZ (eZ (wQ J (fun hc => ?_) (fun hc => ?_))))
 ·try replace hc := odT hc
  have hi' : i < x.cas.length := by omega
  have hgc : x.cas[i]? = some x.cas[i] := by simp [hi']
  generalize x.cas[i] = ca at hgc
  have hget : s.asks[i]? = some ca.abs := by rw [← hab, List.getElem?_map, hgc]; rfl
  have htk : s.asks.take (i + 1) = s.asks.take i ++ [ca.abs] := by obtain ⟨hlt, hq⟩ := List.getElem?_eq_some_iff.1 hget; rw [List.take_succ_eq_append_getElem hlt, hq]
  refine kX (fun w hw => shape_as (n := i) (l := x.cas) (by omega) eX w hw) ?_
  rintro ⟨b, o, hxa⟩
  rw [hxa]
  refine wZ (bZ (eZ (fQ (eZ (aZ (cZ (nZ underlying173 ti177 J J (by omega) (by omega)) ?_))))))
  refine cZ (tQ (vs := ca.cells) ti177 J (CA.len ca) (by rw [show o + (i : Int).toNat * 7 = o + i * 7 by omega]; exact (SlR.of_osl (E := 177) (a := some ⟨b, o, none⟩) eX).elem CA.len hgc)) ?_
  refine jQ (lX ti177) J ?_
  rintro b5 -
  refine cX (gX ti177 J J fC (CA.len ca) (CA.ones ca) J) J ?_
  rintro ⟨⟩ -
  refine fZ (bZ (aZ (dZ J (pZ fa177_0 J (cZ (hZ (v := .int .u32 ca.tag) ti27 J (Cel.of_blk (b := b5) eX J)) ?_)))))
  refine jQ (gV underlying37 ti27 J J J) J ?_
  rintro b18 -
  refine jQ (nX (a := la) (c := lc) (m := l.length) (xs := intsV .u32 l) (k := 1) (ys := [.int .u32 ca.tag]) J J J underlying37 underlying37 ti27 J (by decide) fC (SlR.of_osl (a := some ⟨b18, 0, none⟩) eX) (by simp [one]) (by omega)) J ?_
  rintro ⟨a19, c19⟩ -
  refine gZ J (fZ (sZ (bZ (aZ (cZ (eQ J J wO) (dZ J (fZ (yQ (i + 1, l ++ [ca.tag], a19, c19) ⟨by simp only; omega, ?_⟩ (show x.cas.length - (i + 1) < x.cas.length - i by omega) (by dsimp only; rw [List.length_append]; exact eS) (by dsimp only; rw [onum_app]; exact iM)))))))))
  dsimp only; rw [htk, List.map_append, hl]; rfl
 ·try replace hc := odF hc
  refine dX (yZ (yZ (oQ (bZ (eZ (aZ (dZ J (gZ J (fZ (bZ (tZ ?_)))))))))))
  have hie : i = s.asks.length := by omega
  subst hie
  rw [List.take_length] at hl
  subst hl
  exact xZ J J (la, lc) trivial J (Imp.pull eX (Imp.trans iM hcl))
theorem told_spec {d : Nat} {s : Ds} : Ctr prog W0 39 [.pointer (some ⟨d, 0, none⟩)] (D d s :: Fr) (fun _ : Option Addr × Nat => True) (fun q => .slice q.1 s.told.length q.2) (fun q => onum 27 .u32 q.1 q.2 s.told :: D d s :: Fr) := by
 refine Ctr.ex Ext.here d_open ?_
 intro x hx
 refine Ctr.imp star_open ?_
 have htl := hx.ok.told
 have hcl := d_close (d := d) (G := Fr) x hx
 dsimp only [DO, List.cons_append, List.nil_append] at hcl ⊢
 refine Ctr.of_body func39 J ntmps39 J (eZ (aZ (gZ J (fZ (bZ (eZ (aZ (dZ J (cQ J (pZ fa175_6 J (cZ (rZ ti37 J) ?_)))))))))))
 refine oZ call92 J (Imp.refl _) (cloneU_spec W0 _ (a := x.ta) (c := x.tc) (l := s.told) (by exact SlR.of_osl (E := 27) eX) (by omega)) J ?_
 rintro ⟨a7, c7⟩ -
 exact gZ J (fZ (bZ (tZ (xZ J J (a7, c7) trivial J (Imp.cons hcl)))))
end
end Go.Proofs.YtphljkplokjonaaGreat.Vd
