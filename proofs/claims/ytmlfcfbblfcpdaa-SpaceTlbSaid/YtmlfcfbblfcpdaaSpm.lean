/- The laws' machine: parts, spaces and the document's world. -/
import Derived.Test.YtmlfcfbblfcpdaaSpn
namespace Go.Proofs.Ytmlfcfbblfcpdaa.Sp
open Go Go.Sl Go.RowKit Go.Proofs Go.Proofs.Ytmlfcfbblfcpdaa.T Go.Proofs.Ytmlfcfbblfcpdaa.Me Go.Proofs.Ytmlfcfbblfcpdaa.Pe Go.Proofs.Ytmlfcfbblfcpdaa.Pg
open Go.Proofs.Ytmlfcfbblfcpdaa.Fz (cnt cnt_set inv_take inv_give free_frame isP isF left left_in iv iv_len iv_get iv_set iv_ones oiv nerr nerr_ok inv_new)
open Go.Proofs.Ytmlfcfbblfcpdaa.Tl (Slot hitB putL flushPL put_cases)
set_option linter.unusedVariables false
set_option linter.unusedSimpArgs false
set_option maxRecDepth 100000
/-- The document's world. -/
abbrev RWO (b : Nat) (fr : Int) (l : List Int) (z : Option Addr × Nat) : List HProp := [blk b [.int .i64 fr, .slice z.1 l.length z.2] 132, oiv z.1 z.2 l]
def RW (b : Nat) (fr : Int) (l : List Int) : HProp := fun h => ∃ z : Option Addr × Nat, True ∧ Star (RWO b fr l z) h
theorem rw_open {b : Nat} {fr : Int} {l : List Int} (y : Heaplet) (h : RW b fr l y) : ∃ z, True ∧ Star (RWO b fr l z) y := h
theorem rw_close {b : Nat} {fr : Int} {l : List Int} {G : List HProp} (z : Option Addr × Nat) : Imp (RWO b fr l z ++ G) (RW b fr l :: G) := Imp.trans star_close (Imp.head fun y hy => ⟨z, trivial, hy⟩)
theorem iv_shape {W0 : World} {G : List HProp} {a : Option Addr} {l : List Int} (h : SlR W0 G 1 a l.length (iv l)) (h0 : 0 < l.length) (w : World) (hw : Sat W0 G w) : ∃ b o, a = some ⟨b, o, none⟩ :=
  SlR.shape h (by intro q; have := iv_len l; rw [q] at this; simp only [List.length_nil] at this; omega) w hw
theorem storeInt {P : Program} {W0 : World} {e : Env} {G : List HProp} {ty E c : Nat} {t : TypeId} {x y : Operand} {b o o' i : Nat} {z : Int} {bs : List Int} {put : HProp → List HProp} {by' zv ag} (ht : TI P t 1 by' zv ag) (ho : o' = o + i) (hx : e.ev x = some (.pointer (some ⟨b, o', none⟩))) (hy : e.ev y = some (.int .i64 z))
    (fc : Foc G (osl E 1 (some ⟨b, o, none⟩) c bs.length (iv bs)) put) (hi : i < bs.length) : Eff P W0 (.store t x y) ty e G (fun _ : Unit => True) (fun _ => undef) (fun _ => put (osl E 1 (some ⟨b, o, none⟩) c bs.length (iv (bs.set i z)))) := by
  subst ho
  have := Eff.storeElem (P := P) (W0 := W0) (ty := ty) ht hx hy fc rfl (by omega)
  rw [iv_set] at this
  exact this
/-- A space of the program and its fellow of the document. -/
structure SpE where
  k : Nat
  s : Nat
  r : Nat
  b : Nat
def rtOf (sl : List SpE) (k : Nat) : Option Nat := (sl.find? fun e => decide (e.k = k)).map (·.r)
theorem rtOf_snoc {sl : List SpE} {e : SpE} (h : ∀ x ∈ sl, x.k ≠ e.k) : rtOf (sl ++ [e]) = fun k => if k = e.k then some e.r else rtOf sl k := by
  funext k
  unfold rtOf
  rw [List.find?_append]
  by_cases hk : k = e.k
  · subst hk
    have : sl.find? (fun x => decide (x.k = e.k)) = none := by rw [List.find?_eq_none]; intro x hx; simp [h x hx]
    rw [this, if_pos rfl]; simp
  · rw [if_neg hk]
    cases sl.find? (fun x => decide (x.k = k)) with
    | some y => rfl
    | none =>
      have hk2 : ¬ e.k = k := fun q => hk q.symm
      simp [hk2]
theorem rtOf_none {sl : List SpE} {k : Nat} (h : ∀ x ∈ sl, x.k ≠ k) : rtOf sl k = none := by
  unfold rtOf
  rw [List.find?_eq_none.2 (by intro x hx; simp [h x hx])]; rfl
/-- The partitions below i that get a space. -/
def posK (qs : List Int) (i : Nat) : List Nat := (List.range i).filter fun k => decide (0 < qs.getD k 0)
theorem posK_succ (qs : List Int) (i : Nat) : posK qs (i + 1) = if 0 < qs.getD i 0 then posK qs i ++ [i] else posK qs i := by
  unfold posK
  rw [List.range_succ, List.filter_append]
  by_cases h : 0 < qs.getD i 0
  · rw [if_pos h, List.filter_cons, if_pos (by simpa using h)]; rfl
  · rw [if_neg h, List.filter_cons, if_neg (by simpa using h), List.filter_nil, List.append_nil]
theorem posK_lt {qs : List Int} {i k : Nat} (h : k ∈ posK qs i) : k < i := by unfold posK at h; simp at h; exact h.1
/-- The quotas behind i partitions. -/
def lft (qs : List Int) (i : Nat) : List Int := qs.mapIdx fun k q => if k < i ∧ 0 < q then q - 1 else q
theorem lft_len (qs : List Int) (i : Nat) : (lft qs i).length = qs.length := by simp [lft]
theorem lft_get {qs : List Int} {i k : Nat} {q : Int} (h : qs[k]? = some q) : (lft qs i)[k]? = some (if k < i ∧ 0 < q then q - 1 else q) := by
  unfold lft; rw [List.getElem?_mapIdx, h]; rfl
theorem lft_zero (qs : List Int) : lft qs 0 = qs := by
  apply List.ext_getElem?
  intro k
  cases h : qs[k]? with
  | none => rw [List.getElem?_eq_none (by rw [lft_len]; exact List.getElem?_eq_none_iff.1 h)]
  | some q => rw [lft_get h]; simp
theorem lft_yes {qs : List Int} {i : Nat} {q : Int} (h : qs[i]? = some q) (hq : 0 < q) : lft qs (i + 1) = (lft qs i).set i (q - 1) := by
  have hi := (List.getElem?_eq_some_iff.1 h).1
  apply List.ext_getElem?
  intro k
  by_cases hk : i = k
  · subst hk
    rw [List.getElem?_set_self (by rw [lft_len]; exact hi), lft_get h, if_pos ⟨by omega, hq⟩]
  · rw [List.getElem?_set_ne hk]
    cases h2 : qs[k]? with
    | none => rw [List.getElem?_eq_none (by rw [lft_len]; exact List.getElem?_eq_none_iff.1 h2), List.getElem?_eq_none (by rw [lft_len]; exact List.getElem?_eq_none_iff.1 h2)]
    | some q2 =>
      rw [lft_get h2, lft_get h2]
      by_cases h3 : k < i
      · simp [h3, show k < i + 1 by omega]
      · simp [h3, show ¬ k < i + 1 by omega]
theorem lft_no {qs : List Int} {i : Nat} {q : Int} (h : qs[i]? = some q) (hq : ¬ 0 < q) : lft qs (i + 1) = lft qs i := by
  apply List.ext_getElem?
  intro k
  cases h2 : qs[k]? with
  | none => rw [List.getElem?_eq_none (by rw [lft_len]; exact List.getElem?_eq_none_iff.1 h2), List.getElem?_eq_none (by rw [lft_len]; exact List.getElem?_eq_none_iff.1 h2)]
  | some q2 =>
    rw [lft_get h2, lft_get h2]
    by_cases hk : i = k
    · subst hk; rw [h] at h2; cases h2; simp [hq]
    · by_cases h3 : k < i
      · simp [h3, show k < i + 1 by omega]
      · simp [h3, show ¬ k < i + 1 by omega]
section
variable (W0 : World) (Fr : List HProp)
theorem rtake_spec {b : Nat} {fr q : Int} {l : List Int} {k d : Nat} (hk : l[k]? = some q) (hl : l.length ≤ 1024) (hq : -1000000 ≤ q ∧ q ≤ 1000000) (hf : -1000000 ≤ fr ∧ fr ≤ 1000000) (hd : d ≤ 1000000) : Ctr Try.prog W0 80 [.pointer (some ⟨b, 0, none⟩), .int .i64 k, .int .i64 d] (RW b fr l :: Fr) (fun _ : Unit => True) (fun _ => .int .i64 (if q < d then 141 else if fr < d then 4 else 0))
    (fun _ => (if q < d ∨ fr < d then RW b fr l else RW b (fr - d) (l.set k (q - d))) :: Fr) := by
  have hkl := (List.getElem?_eq_some_iff.1 hk).1
  refine Ctr.ex Ext.here rw_open ?_
  rintro ⟨aw, c2⟩ -
  refine Ctr.imp star_open ?_
  dsimp only [RWO, List.cons_append, List.nil_append]
  refine Ctr.pure (fun w hw => iv_shape (SlR.of_osl (a := aw) (by repeat (first | exact Ext.here | apply Ext.there))) (by omega) w hw) ?_
  rintro ⟨b2, o2, rfl⟩
  refine Ctr.of_body Try.func80 rfl Try.ntmps80 rfl ?_
  refine CG.seq ?_
  refine CG.region ?_
  refine OG.yield (Yield.assign rfl) rfl ?_
  refine OG.nil ?_
  refine QG.then ?_
  refine CG.seq ?_
  refine CG.seq ?_
  refine CG.region ?_
  refine OG.yield (Yield.move rfl) rfl ?_
  refine OG.yield (by first | exact Yield.as (Yield.lss rfl rfl) (bT (by omega)) | exact Yield.as (Yield.lss rfl rfl) (bF (by omega)) | exact Yield.lss rfl rfl) rfl ?_
  refine OG.yield (Yield.move rfl) rfl ?_
  refine OG.guard_yes rfl rfl rfl (by decide) ?_
  refine OG.yield (Yield.move rfl) rfl ?_
  refine OG.guard_yes rfl rfl rfl (by decide) ?_
  refine OG.yield (Yield.move rfl) rfl ?_
  refine OG.guard_yes rfl rfl rfl (by decide) ?_
  refine OG.yield (Yield.nilCheck rfl) rfl ?_
  refine OG.guard_yes rfl rfl rfl (by decide) ?_
  refine OG.yield (Yield.fieldAddr fa132_1 rfl) rfl ?_
  refine OG.guard_yes rfl rfl rfl (by decide) ?_
  refine OG.yield (Yield.load ti63 rfl (by first | exact Cel.of_blk (by repeat (first | exact Ext.here | apply Ext.there)) rfl | exact (hrow (by repeat (first | exact Ext.here | apply Ext.there))) _ _ rfl)) rfl ?_
  refine OG.guard_yes rfl rfl rfl (by decide) ?_
  refine OG.yield (Yield.len_slice Try.underlying63 rfl rfl) rfl ?_
  refine OG.guard_yes rfl rfl rfl (by decide) ?_
  refine OG.yield (by first | exact Yield.as (Yield.geq rfl rfl) (bT (by omega)) | exact Yield.as (Yield.geq rfl rfl) (bF (by omega)) | exact Yield.geq rfl rfl) rfl ?_
  refine OG.yield (by first | exact Yield.pick_t rfl rfl | exact Yield.pick_f rfl rfl | exact Yield.pick rfl (fun _ => rfl) (fun _ => rfl)) rfl ?_
  refine OG.nil ?_
  refine QG.then ?_
  refine CG.cond_f rfl ?_
  refine CG.skip ?_
  refine QG.then ?_
  refine CG.seq ?_
  refine CG.seq ?_
  rcases (show q < d ∨ (¬ q < d ∧ fr < d) ∨ (¬ q < d ∧ ¬ fr < d) by omega) with hh | hh | hh
  · skip
    refine CG.region ?_
    refine OG.yield (Yield.move rfl) rfl ?_
    refine OG.yield (Yield.nilCheck rfl) rfl ?_
    refine OG.yield (Yield.fieldAddr fa132_1 rfl) rfl ?_
    refine OG.yield (Yield.load ti63 rfl (by first | exact Cel.of_blk (by repeat (first | exact Ext.here | apply Ext.there)) rfl | exact (hrow (by repeat (first | exact Ext.here | apply Ext.there))) _ _ rfl)) rfl ?_
    refine OG.yield (Yield.move rfl) rfl ?_
    refine OG.yield (Yield.index_slice Try.underlying63 ti3 rfl rfl (by omega) (by omega)) rfl ?_
    refine OG.yield (Yield.load (v := .int .i64 q) ti3 rfl (by rw [show o2 + (k : Int).toNat * 1 = o2 + k by omega]; exact (SlR.of_osl (a := some ⟨b2, o2, none⟩) (by repeat (first | exact Ext.here | apply Ext.there))).cel (iv_get hk))) rfl ?_
    refine OG.yield (Yield.move rfl) rfl ?_
    refine OG.yield (by first | exact Yield.as (Yield.lss rfl rfl) (bT (by omega)) | exact Yield.as (Yield.lss rfl rfl) (bF (by omega)) | exact Yield.lss rfl rfl) rfl ?_
    refine OG.nil ?_
    refine QG.then ?_
    refine CG.cond_t rfl ?_
    refine CG.seq ?_
    refine CG.region ?_
    refine OG.yield (Yield.assign rfl) rfl ?_
    refine OG.nil ?_
    refine QG.then ?_
    refine CG.ret ?_
    refine QG.pass_ret ?_
    rw [if_pos hh, if_pos (.inl hh)]
    exact QG.ret1 rfl rfl () trivial rfl (rw_close (some ⟨b2, o2, none⟩, c2))
  · skip
    refine CG.region ?_
    refine OG.yield (Yield.move rfl) rfl ?_
    refine OG.yield (Yield.nilCheck rfl) rfl ?_
    refine OG.yield (Yield.fieldAddr fa132_1 rfl) rfl ?_
    refine OG.yield (Yield.load ti63 rfl (by first | exact Cel.of_blk (by repeat (first | exact Ext.here | apply Ext.there)) rfl | exact (hrow (by repeat (first | exact Ext.here | apply Ext.there))) _ _ rfl)) rfl ?_
    refine OG.yield (Yield.move rfl) rfl ?_
    refine OG.yield (Yield.index_slice Try.underlying63 ti3 rfl rfl (by omega) (by omega)) rfl ?_
    refine OG.yield (Yield.load (v := .int .i64 q) ti3 rfl (by rw [show o2 + (k : Int).toNat * 1 = o2 + k by omega]; exact (SlR.of_osl (a := some ⟨b2, o2, none⟩) (by repeat (first | exact Ext.here | apply Ext.there))).cel (iv_get hk))) rfl ?_
    refine OG.yield (Yield.move rfl) rfl ?_
    refine OG.yield (by first | exact Yield.as (Yield.lss rfl rfl) (bT (by omega)) | exact Yield.as (Yield.lss rfl rfl) (bF (by omega)) | exact Yield.lss rfl rfl) rfl ?_
    refine OG.nil ?_
    refine QG.then ?_
    refine CG.cond_f rfl ?_
    refine CG.skip ?_
    refine QG.then ?_
    refine CG.seq ?_
    refine CG.seq ?_
    refine CG.region ?_
    refine OG.yield (Yield.move rfl) rfl ?_
    refine OG.yield (Yield.nilCheck rfl) rfl ?_
    refine OG.yield (Yield.fieldAddr fa132_0 rfl) rfl ?_
    refine OG.yield (Yield.load ti3 rfl (by first | exact Cel.of_blk (by repeat (first | exact Ext.here | apply Ext.there)) rfl | exact (hrow (by repeat (first | exact Ext.here | apply Ext.there))) _ _ rfl)) rfl ?_
    refine OG.yield (Yield.move rfl) rfl ?_
    refine OG.yield (by first | exact Yield.as (Yield.lss rfl rfl) (bT (by omega)) | exact Yield.as (Yield.lss rfl rfl) (bF (by omega)) | exact Yield.lss rfl rfl) rfl ?_
    refine OG.nil ?_
    refine QG.then ?_
    refine CG.cond_t rfl ?_
    refine CG.seq ?_
    refine CG.region ?_
    refine OG.yield (Yield.assign rfl) rfl ?_
    refine OG.nil ?_
    refine QG.then ?_
    refine CG.ret ?_
    refine QG.pass_ret ?_
    rw [if_neg hh.1, if_pos hh.2, if_pos (.inr hh.2)]
    exact QG.ret1 rfl rfl () trivial rfl (rw_close (some ⟨b2, o2, none⟩, c2))
  · skip
    refine CG.region ?_
    refine OG.yield (Yield.move rfl) rfl ?_
    refine OG.yield (Yield.nilCheck rfl) rfl ?_
    refine OG.yield (Yield.fieldAddr fa132_1 rfl) rfl ?_
    refine OG.yield (Yield.load ti63 rfl (by first | exact Cel.of_blk (by repeat (first | exact Ext.here | apply Ext.there)) rfl | exact (hrow (by repeat (first | exact Ext.here | apply Ext.there))) _ _ rfl)) rfl ?_
    refine OG.yield (Yield.move rfl) rfl ?_
    refine OG.yield (Yield.index_slice Try.underlying63 ti3 rfl rfl (by omega) (by omega)) rfl ?_
    refine OG.yield (Yield.load (v := .int .i64 q) ti3 rfl (by rw [show o2 + (k : Int).toNat * 1 = o2 + k by omega]; exact (SlR.of_osl (a := some ⟨b2, o2, none⟩) (by repeat (first | exact Ext.here | apply Ext.there))).cel (iv_get hk))) rfl ?_
    refine OG.yield (Yield.move rfl) rfl ?_
    refine OG.yield (by first | exact Yield.as (Yield.lss rfl rfl) (bT (by omega)) | exact Yield.as (Yield.lss rfl rfl) (bF (by omega)) | exact Yield.lss rfl rfl) rfl ?_
    refine OG.nil ?_
    refine QG.then ?_
    refine CG.cond_f rfl ?_
    refine CG.skip ?_
    refine QG.then ?_
    refine CG.seq ?_
    refine CG.seq ?_
    refine CG.region ?_
    refine OG.yield (Yield.move rfl) rfl ?_
    refine OG.yield (Yield.nilCheck rfl) rfl ?_
    refine OG.yield (Yield.fieldAddr fa132_0 rfl) rfl ?_
    refine OG.yield (Yield.load ti3 rfl (by first | exact Cel.of_blk (by repeat (first | exact Ext.here | apply Ext.there)) rfl | exact (hrow (by repeat (first | exact Ext.here | apply Ext.there))) _ _ rfl)) rfl ?_
    refine OG.yield (Yield.move rfl) rfl ?_
    refine OG.yield (by first | exact Yield.as (Yield.lss rfl rfl) (bT (by omega)) | exact Yield.as (Yield.lss rfl rfl) (bF (by omega)) | exact Yield.lss rfl rfl) rfl ?_
    refine OG.nil ?_
    refine QG.then ?_
    refine CG.cond_f rfl ?_
    refine CG.skip ?_
    refine QG.then ?_
    refine CG.seq ?_
    refine CG.draw (.look 0 1 (.look 1 1 (.look 2 1 (.look 3 1 (.look 4 1 (.look 5 1 (.look 6 1 (.look 7 1 (.look 8 1 (.look 9 1 (.look 10 1 (.look 11 1 (.look 12 1 (.look 13 1 (.look 14 1 (.eff1 15 false (.done))))))))))))))))) [15] [] ([blk b [.int .i64 fr, .slice (some ⟨b2, o2, none⟩) l.length c2] 132]) ([]) mixed (by kernel_rfl) (by repeat (first | exact Imp.refl _ | exact Imp.none _ | apply Imp.pull (by repeat (first | exact Ext.here | apply Ext.there)) | apply Imp.trans Imp.drop)) (Imp.none _) ?_
    refine DG.look rfl rfl (Yield.move rfl) rfl ?_
    refine DG.look rfl rfl (Yield.nilCheck rfl) rfl ?_
    refine DG.look rfl rfl (Yield.fieldAddr fa132_1 rfl) rfl ?_
    refine DG.look rfl rfl (Yield.load ti63 rfl (by first | exact Cel.of_blk (by repeat (first | exact Ext.here | apply Ext.there)) rfl | exact (hrow (by repeat (first | exact Ext.here | apply Ext.there))) _ _ rfl)) rfl ?_
    refine DG.look rfl rfl (Yield.move rfl) rfl ?_
    refine DG.look rfl rfl (Yield.move rfl) rfl ?_
    refine DG.look rfl rfl (Yield.nilCheck rfl) rfl ?_
    refine DG.look rfl rfl (Yield.fieldAddr fa132_1 rfl) rfl ?_
    refine DG.look rfl rfl (Yield.load ti63 rfl (by first | exact Cel.of_blk (by repeat (first | exact Ext.here | apply Ext.there)) rfl | exact (hrow (by repeat (first | exact Ext.here | apply Ext.there))) _ _ rfl)) rfl ?_
    refine DG.look rfl rfl (Yield.move rfl) rfl ?_
    refine DG.look rfl rfl (Yield.index_slice Try.underlying63 ti3 rfl rfl (by omega) (by omega)) rfl ?_
    refine DG.look rfl rfl (Yield.load (v := .int .i64 q) ti3 rfl (by rw [show o2 + (k : Int).toNat * 1 = o2 + k by omega]; exact (SlR.of_osl (a := some ⟨b2, o2, none⟩) (by repeat (first | exact Ext.here | apply Ext.there))).cel (iv_get hk))) rfl ?_
    refine DG.look rfl rfl (Yield.move rfl) rfl ?_
    refine DG.look rfl rfl (Yield.sub rfl rfl (w64 (by omega) (by omega))) rfl ?_
    refine DG.look rfl rfl (Yield.index_slice Try.underlying63 ti3 rfl rfl (by omega) (by omega)) rfl ?_
    refine DG.eff1 ?_
    refine Chg.eff rfl rfl (storeInt (i := k) (z := q - d) ti3 (show o2 + (k : Int).toNat * 1 = o2 + k by omega) rfl rfl (by repeat (first | exact Foc.here | apply Foc.there)) hkl) rfl (fun _ => (by repeat (first | exact Imp.refl _ | exact Imp.none _ | apply Imp.pull (by repeat (first | exact Ext.here | apply Ext.there)) | apply Imp.trans Imp.drop))) (fun _ => Imp.refl _) (fun _ => (by repeat (first | exact Imp.refl _ | exact Imp.none _ | apply Imp.pull (by repeat (first | exact Ext.here | apply Ext.there)) | apply Imp.trans Imp.drop))) ?_
    rintro ⟨⟩ -
    refine DG.done ?_
    refine QG.then ?_
    refine CG.seq ?_
    refine CG.region ?_
    refine OG.yield (Yield.move rfl) rfl ?_
    refine OG.yield (Yield.move rfl) rfl ?_
    refine OG.yield (Yield.nilCheck rfl) rfl ?_
    refine OG.yield (Yield.fieldAddr fa132_0 rfl) rfl ?_
    refine OG.yield (Yield.load ti3 rfl (by first | exact Cel.of_blk (by repeat (first | exact Ext.here | apply Ext.there)) rfl | exact (hrow (by repeat (first | exact Ext.here | apply Ext.there))) _ _ rfl)) rfl ?_
    refine OG.yield (Yield.move rfl) rfl ?_
    refine OG.yield (Yield.sub rfl rfl (w64 (by omega) (by omega))) rfl ?_
    refine OG.yield (Yield.nilCheck rfl) rfl ?_
    refine OG.yield (Yield.fieldAddr fa132_0 rfl) rfl ?_
    refine OG.eff (Eff.store1 ti3 rfl rfl (by repeat (first | exact Foc.here | apply Foc.there)) rfl (by first | (simp; done) | decide)) rfl ?_
    rintro ⟨⟩ -
    refine OG.nil ?_
    refine QG.then ?_
    refine CG.seq ?_
    refine CG.region ?_
    refine OG.yield (Yield.assign rfl) rfl ?_
    refine OG.nil ?_
    refine QG.then ?_
    refine CG.ret ?_
    rw [if_neg hh.1, if_neg hh.2, if_neg (by omega)]
    refine QG.ret1 rfl rfl () trivial rfl (Imp.trans (by repeat (first | exact Imp.refl _ | exact Imp.none _ | apply Imp.pull (by repeat (first | exact Ext.here | apply Ext.there)) | apply Imp.trans Imp.drop)) (Imp.trans (B := RWO b (fr - d) (l.set k (q - d)) (some ⟨b2, o2, none⟩, c2) ++ Fr) ?_ (rw_close (some ⟨b2, o2, none⟩, c2))))
    dsimp only [RWO, oiv]
    rw [List.length_set]
    exact (by repeat (first | exact Imp.refl _ | exact Imp.none _ | apply Imp.pull (by repeat (first | exact Ext.here | apply Ext.there)) | apply Imp.trans Imp.drop))
/-- A space of the document that has nothing yet. -/
abbrev rsb0 (b bw k : Nat) : HProp := blk b [.pointer (some ⟨bw, 0, none⟩), .int .i64 k, .slice none 0 0, .slice none 0 0] 154
theorem rnew_ok {b : Nat} {fr q : Int} {l : List Int} {k : Nat} (hk : l[k]? = some q) (hl : l.length ≤ 1024) (hq : 1 ≤ q ∧ q ≤ 1000000) (hf : 1 ≤ fr ∧ fr ≤ 1000000) : Ctr Try.prog W0 60 [.pointer (some ⟨b, 0, none⟩), .int .i64 k] (RW b fr l :: Fr) (fun _ : Nat => True) (fun u => .tuple #[.pointer (some ⟨u, 0, none⟩), .int .i64 0])
    (fun u => rsb0 u b k :: RW b (fr - 1) (l.set k (q - 1)) :: Fr) := by
  have ht := rtake_spec W0 Fr (b := b) (fr := fr) (d := 1) hk hl (by omega) (by omega) (by decide)
  rw [if_neg (show ¬ q < ((1 : Nat) : Int) by omega), if_neg (show ¬ fr < ((1 : Nat) : Int) by omega)] at ht
  simp only [show ¬(q < ((1 : Nat) : Int) ∨ fr < ((1 : Nat) : Int)) by omega, if_false] at ht
  refine Ctr.of_body Try.func60 rfl Try.ntmps60 rfl ?_
  refine CG.seq ?_
  refine CG.region ?_
  refine OG.yield (Yield.assign rfl) rfl ?_
  refine OG.yield (Yield.assign rfl) rfl ?_
  refine OG.nil ?_
  refine QG.then ?_
  refine CG.seq ?_
  refine CG.region ?_
  refine OG.yield (Yield.move rfl) rfl ?_
  refine OG.yield (Yield.move rfl) rfl ?_
  refine OG.callo call80 rfl ((by repeat (first | exact Imp.refl _ | exact Imp.none _ | apply Imp.pull (by repeat (first | exact Ext.here | apply Ext.there)) | apply Imp.trans Imp.drop))) (ht) rfl ?_
  rintro ⟨⟩ -
  refine OG.yield (Yield.assign rfl) rfl ?_
  refine OG.nil ?_
  refine QG.then ?_
  refine CG.seq ?_
  refine CG.seq ?_
  refine CG.region ?_
  refine OG.yield (Yield.move rfl) rfl ?_
  refine OG.yield (by first | exact Yield.as (Yield.neq rfl rfl) (bT (by omega)) | exact Yield.as (Yield.neq rfl rfl) (bF (by omega)) | exact Yield.neq rfl rfl) rfl ?_
  refine OG.nil ?_
  refine QG.then ?_
  refine CG.cond_f rfl ?_
  refine CG.skip ?_
  refine QG.then ?_
  refine CG.seq ?_
  refine CG.region ?_
  refine OG.yield (Yield.move rfl) rfl ?_
  refine OG.yield (Yield.move rfl) rfl ?_
  refine OG.yield (Yield.build bu154 ti154 rfl (cells := [.pointer (some ⟨b, 0, none⟩), .int .i64 k, .slice none 0 0, .slice none 0 0]) rfl) rfl ?_
  refine OG.effd (Eff.box rfl) rfl ?_
  rintro b16 -
  refine OG.yield (Yield.assign rfl) rfl ?_
  refine OG.yield (Yield.assign rfl) rfl ?_
  refine OG.nil ?_
  refine QG.then ?_
  refine CG.ret ?_
  exact QG.ret2 rfl rfl rfl b16 trivial rfl (by repeat (first | exact Imp.refl _ | exact Imp.none _ | apply Imp.pull (by repeat (first | exact Ext.here | apply Ext.there)) | apply Imp.trans Imp.drop))
theorem rnew_bad {b : Nat} {fr q : Int} {l : List Int} {k : Nat} (hk : l[k]? = some q) (hl : l.length ≤ 1024) (hq : -1000000 ≤ q ∧ q < 1) (hf : -1000000 ≤ fr ∧ fr ≤ 1000000) : Ctr Try.prog W0 60 [.pointer (some ⟨b, 0, none⟩), .int .i64 k] (RW b fr l :: Fr) (fun _ : Unit => True) (fun _ => .tuple #[.pointer none, .int .i64 141])
    (fun _ => RW b fr l :: Fr) := by
  have ht := rtake_spec W0 Fr (b := b) (fr := fr) (d := 1) hk hl (by omega) (by omega) (by decide)
  rw [if_pos (show q < ((1 : Nat) : Int) by omega)] at ht
  simp only [show (q < ((1 : Nat) : Int) ∨ fr < ((1 : Nat) : Int)) by omega, if_true] at ht
  refine Ctr.of_body Try.func60 rfl Try.ntmps60 rfl ?_
  refine CG.seq ?_
  refine CG.region ?_
  refine OG.yield (Yield.assign rfl) rfl ?_
  refine OG.yield (Yield.assign rfl) rfl ?_
  refine OG.nil ?_
  refine QG.then ?_
  refine CG.seq ?_
  refine CG.region ?_
  refine OG.yield (Yield.move rfl) rfl ?_
  refine OG.yield (Yield.move rfl) rfl ?_
  refine OG.callo call80 rfl ((by repeat (first | exact Imp.refl _ | exact Imp.none _ | apply Imp.pull (by repeat (first | exact Ext.here | apply Ext.there)) | apply Imp.trans Imp.drop))) (ht) rfl ?_
  rintro ⟨⟩ -
  refine OG.yield (Yield.assign rfl) rfl ?_
  refine OG.nil ?_
  refine QG.then ?_
  refine CG.seq ?_
  refine CG.seq ?_
  refine CG.region ?_
  refine OG.yield (Yield.move rfl) rfl ?_
  refine OG.yield (by first | exact Yield.as (Yield.neq rfl rfl) (bT (by omega)) | exact Yield.as (Yield.neq rfl rfl) (bF (by omega)) | exact Yield.neq rfl rfl) rfl ?_
  refine OG.nil ?_
  refine QG.then ?_
  refine CG.cond_t rfl ?_
  refine CG.seq ?_
  refine CG.region ?_
  refine OG.yield (Yield.move rfl) rfl ?_
  refine OG.yield (Yield.assign rfl) rfl ?_
  refine OG.yield (Yield.assign rfl) rfl ?_
  refine OG.nil ?_
  refine QG.then ?_
  refine CG.ret ?_
  refine QG.pass_ret ?_
  exact QG.ret2 rfl rfl rfl () trivial rfl (by repeat (first | exact Imp.refl _ | exact Imp.none _ | apply Imp.pull (by repeat (first | exact Ext.here | apply Ext.there)) | apply Imp.trans Imp.drop))
theorem Lk.free {n : Nat} {qs : List Int} {rt : Nat → Option Nat} {o : Ob} {c : Nat} {σ : St} {k : Nat} {qk : Int} (L : Lk n qs rt o c σ) (hqk : qs[k]? = some qk) (hk : rt k = none) (h0 : 0 < qk) : 1 ≤ o.fr := by
  obtain ⟨A, rfl, hh, G, rfl, hcc⟩ := L
  obtain ⟨q, h1, h2⟩ := free_frame G.inv hqk (by rw [cnt_new G hh hk]; omega)
  exact Fz.cnt_pos h2
/-- What 'made' has made. -/
structure MD where
  m : Nat
  f : Nat
  t : Nat
  bx : Nat
  bw : Nat
  sa : Option Addr
  sc : Nat
  ra : Option Addr
  rc : Nat
  sl : List SpE
  σ : St
abbrev ptrs (l : List Nat) : List Value := l.map fun s => .pointer (some ⟨s, 0, none⟩)
/-- The laws' world: the program's parts and spaces, and the document's. -/
abbrev MG (n : Nat) (qs : List Int) (i : Nat) (z : MD) (Fr : List HProp) : List HProp :=
  blk z.bx [.pointer (some ⟨z.m, 0, none⟩), .pointer (some ⟨z.f, 0, none⟩), .pointer (some ⟨z.t, 0, none⟩), .slice z.sa z.sl.length z.sc, .pointer (some ⟨z.bw, 0, none⟩), .slice z.ra z.sl.length z.rc] 70 ::
  osl 81 1 z.sa z.sc z.sl.length (ptrs (z.sl.map (·.s))) :: osl 133 1 z.ra z.rc z.sl.length (ptrs (z.sl.map (·.b))) :: RW z.bw ((n : Int) - z.sl.length) (lft qs i) ::
  Star (z.sl.map fun e => sb e.s e.k e.r z.m z.f z.t) :: Star (z.sl.map fun e => rsb0 e.b z.bw e.k) :: WG z.m z.f z.t n qs z.σ Fr
theorem ptrs_snoc (l : List SpE) (e : SpE) (g : SpE → Nat) : ptrs ((l ++ [e]).map g) = ptrs (l.map g) ++ [.pointer (some ⟨g e, 0, none⟩)] := by simp [ptrs]
set_option maxHeartbeats 4000000 in
theorem made_spec {n qc : Nat} {qa : Option Addr} {qs : List Int} (hne : nerr n qs = 0) (hqs : SlR W0 Fr 1 qa qs.length (iv qs)) : Ctr Try.prog W0 24 [.int .i64 n, .slice qa qs.length qc] Fr
    (fun z : MD => z.sl.map (·.k) = posK qs qs.length ∧ Lk n qs (rtOf z.sl) ⟨fun _ _ => none, fun _ _ => false, n - z.sl.length⟩ 0 z.σ ∧ z.sl.length ≤ n) (fun z => .tuple #[.pointer (some ⟨z.bx, 0, none⟩), .bool true]) (fun z => MG n qs qs.length z Fr) := by
  obtain ⟨hn, hql, hq, hsum⟩ := nerr_ok hne
  have hn1 : 1 ≤ n ∧ n ≤ 1024 := by omega
  have hol := iv_len qs
  obtain ⟨G0, e0⟩ := Good.start (n := n) (m := 4) (inv_new hne) (by decide)
  have L0 := Lk.intro (c := 0) G0 rfl rfl e0 (Nat.le_refl 0)
  refine Ctr.of_body Try.func24 rfl Try.ntmps24 rfl ?_
  refine CG.seq ?_
  refine CG.region ?_
  refine OG.yield (Yield.assign rfl) rfl ?_
  refine OG.yield (Yield.assign rfl) rfl ?_
  refine OG.nil ?_
  refine QG.then ?_
  refine CG.seq ?_
  refine CG.region ?_
  refine OG.yield (Yield.move rfl) rfl ?_
  refine OG.callo call10 rfl (Imp.refl _) (Me.new_spec W0 _ (n := n) hn1.1 hn1.2) rfl ?_
  rintro m -
  refine OG.yield (Yield.move rfl) rfl ?_
  refine OG.yield (Yield.extract rfl rfl) rfl ?_
  refine OG.yield (Yield.extract rfl rfl) rfl ?_
  refine OG.yield (Yield.assign rfl) rfl ?_
  refine OG.yield (Yield.assign rfl) rfl ?_
  refine OG.nil ?_
  refine QG.then ?_
  refine CG.seq ?_
  refine CG.region ?_
  refine OG.yield (Yield.move rfl) rfl ?_
  refine OG.effd (Eff.lit0 Try.underlying63 ti3 rfl) rfl ?_
  rintro b25 -
  refine OG.yield (Yield.move rfl) rfl ?_
  refine OG.effd (Eff.append (a := some ⟨b25, 0, none⟩) (c := 0) (m := 0) (xs := []) (k := qs.length) (ys := iv qs) rfl rfl rfl Try.underlying63 Try.underlying63 ti3 rfl (by decide) (by repeat (first | exact Foc.here | apply Foc.there)) (hqs.imp (by repeat (first | exact Imp.refl _ | exact Imp.none _ | apply Imp.pull (by repeat (first | exact Ext.here | apply Ext.there)) | apply Imp.trans Imp.drop))) (iv_ones _) (by omega)) rfl ?_
  rintro ⟨a27, c27⟩ -
  rw [Nat.zero_add, List.nil_append]
  refine OG.callo call31 rfl (Imp.refl _) (Fz.new_ok W0 _ (total := n) (qs := qs) (by exact SlR.of_osl (E := 3) (a := a27) (c := c27) (by repeat (first | exact Ext.here | apply Ext.there))) hne) rfl ?_
  rintro f -
  refine OG.yield (Yield.move rfl) rfl ?_
  refine OG.yield (Yield.extract rfl rfl) rfl ?_
  refine OG.yield (Yield.extract rfl rfl) rfl ?_
  refine OG.yield (Yield.assign rfl) rfl ?_
  refine OG.yield (Yield.assign rfl) rfl ?_
  refine OG.nil ?_
  refine QG.then ?_
  refine CG.seq ?_
  refine CG.region ?_
  refine OG.callo call32 rfl (Imp.refl _) (Tl.new_spec W0 _ (n := 4) (by decide) (by decide)) rfl ?_
  rintro t -
  refine OG.yield (Yield.move rfl) rfl ?_
  refine OG.yield (Yield.extract rfl rfl) rfl ?_
  refine OG.yield (Yield.extract rfl rfl) rfl ?_
  refine OG.yield (Yield.assign rfl) rfl ?_
  refine OG.yield (Yield.assign rfl) rfl ?_
  refine OG.nil ?_
  refine QG.then ?_
  refine CG.seq ?_
  refine CG.seq ?_
  refine CG.region ?_
  refine OG.yield (Yield.move rfl) rfl ?_
  refine OG.yield (by first | exact Yield.as (Yield.neq rfl rfl) (bT (by omega)) | exact Yield.as (Yield.neq rfl rfl) (bF (by omega)) | exact Yield.neq rfl rfl) rfl ?_
  refine OG.yield (Yield.move rfl) rfl ?_
  refine OG.guard_yes rfl rfl rfl (by decide) ?_
  refine OG.yield (Yield.move rfl) rfl ?_
  refine OG.guard_yes rfl rfl rfl (by decide) ?_
  refine OG.yield (by first | exact Yield.as (Yield.neq rfl rfl) (bT (by omega)) | exact Yield.as (Yield.neq rfl rfl) (bF (by omega)) | exact Yield.neq rfl rfl) rfl ?_
  refine OG.yield (by first | exact Yield.pick_t rfl rfl | exact Yield.pick_f rfl rfl | exact Yield.pick rfl (fun _ => rfl) (fun _ => rfl)) rfl ?_
  refine OG.yield (Yield.move rfl) rfl ?_
  refine OG.guard_yes rfl rfl rfl (by decide) ?_
  refine OG.yield (Yield.move rfl) rfl ?_
  refine OG.guard_yes rfl rfl rfl (by decide) ?_
  refine OG.yield (by first | exact Yield.as (Yield.neq rfl rfl) (bT (by omega)) | exact Yield.as (Yield.neq rfl rfl) (bF (by omega)) | exact Yield.neq rfl rfl) rfl ?_
  refine OG.yield (by first | exact Yield.pick_t rfl rfl | exact Yield.pick_f rfl rfl | exact Yield.pick rfl (fun _ => rfl) (fun _ => rfl)) rfl ?_
  refine OG.yield (Yield.move rfl) rfl ?_
  refine OG.guard_yes rfl rfl rfl (by decide) ?_
  refine OG.yield (Yield.move rfl) rfl ?_
  refine OG.guard_yes rfl rfl rfl (by decide) ?_
  refine OG.yield (by first | exact Yield.ptr_nil Try.underlying24 rfl rfl | exact Yield.nil_nil Try.underlying24 rfl rfl) rfl ?_
  refine OG.yield (by first | exact Yield.pick_t rfl rfl | exact Yield.pick_f rfl rfl | exact Yield.pick rfl (fun _ => rfl) (fun _ => rfl)) rfl ?_
  refine OG.yield (Yield.move rfl) rfl ?_
  refine OG.guard_yes rfl rfl rfl (by decide) ?_
  refine OG.yield (Yield.move rfl) rfl ?_
  refine OG.guard_yes rfl rfl rfl (by decide) ?_
  refine OG.yield (by first | exact Yield.ptr_nil Try.underlying64 rfl rfl | exact Yield.nil_nil Try.underlying64 rfl rfl) rfl ?_
  refine OG.yield (by first | exact Yield.pick_t rfl rfl | exact Yield.pick_f rfl rfl | exact Yield.pick rfl (fun _ => rfl) (fun _ => rfl)) rfl ?_
  refine OG.yield (Yield.move rfl) rfl ?_
  refine OG.guard_yes rfl rfl rfl (by decide) ?_
  refine OG.yield (Yield.move rfl) rfl ?_
  refine OG.guard_yes rfl rfl rfl (by decide) ?_
  refine OG.yield (by first | exact Yield.ptr_nil Try.underlying65 rfl rfl | exact Yield.nil_nil Try.underlying65 rfl rfl) rfl ?_
  refine OG.yield (by first | exact Yield.pick_t rfl rfl | exact Yield.pick_f rfl rfl | exact Yield.pick rfl (fun _ => rfl) (fun _ => rfl)) rfl ?_
  refine OG.nil ?_
  refine QG.then ?_
  refine CG.cond_f rfl ?_
  refine CG.skip ?_
  refine QG.then ?_
  refine CG.seq ?_
  refine CG.region ?_
  refine OG.yield (Yield.move rfl) rfl ?_
  refine OG.yield (Yield.move rfl) rfl ?_
  refine OG.yield (Yield.move rfl) rfl ?_
  refine OG.yield (Yield.move rfl) rfl ?_
  refine OG.effd (Eff.lit0 Try.underlying63 ti3 rfl) rfl ?_
  rintro b61 -
  refine OG.yield (Yield.move rfl) rfl ?_
  refine OG.effd (Eff.append (a := some ⟨b61, 0, none⟩) (c := 0) (m := 0) (xs := []) (k := qs.length) (ys := iv qs) rfl rfl rfl Try.underlying63 Try.underlying63 ti3 rfl (by decide) (by repeat (first | exact Foc.here | apply Foc.there)) (hqs.imp (by repeat (first | exact Imp.refl _ | exact Imp.none _ | apply Imp.pull (by repeat (first | exact Ext.here | apply Ext.there)) | apply Imp.trans Imp.drop))) (iv_ones _) (by omega)) rfl ?_
  rintro ⟨a63, c63⟩ -
  rw [Nat.zero_add, List.nil_append]
  refine OG.yield (Yield.build bu132 ti132 rfl (cells := [.int .i64 n, .slice a63 qs.length c63]) rfl) rfl ?_
  refine OG.effd (Eff.box rfl) rfl ?_
  rintro b65 -
  refine OG.yield (Yield.build bu70 ti70 rfl (cells := [.pointer (some ⟨m, 0, none⟩), .pointer (some ⟨f, 0, none⟩), .pointer (some ⟨t, 0, none⟩), .slice none 0 0, .pointer (some ⟨b65, 0, none⟩), .slice none 0 0]) rfl) rfl ?_
  refine OG.effd (Eff.box rfl) rfl ?_
  rintro b67 -
  refine OG.yield (Yield.assign rfl) rfl ?_
  refine OG.nil ?_
  refine QG.then ?_
  refine CG.seq ?_
  refine CG.seq ?_
  refine CG.region ?_
  refine OG.yield (Yield.assign rfl) rfl ?_
  refine OG.nil ?_
  refine QG.then ?_
  refine CG.block ?_
  refine CG.loop (fun s : Nat × MD => s.1 ≤ qs.length ∧ s.2.m = m ∧ s.2.f = f ∧ s.2.t = t ∧ s.2.bx = b67 ∧ s.2.bw = b65 ∧ s.2.sl.map (·.k) = posK qs s.1 ∧ Lk n qs (rtOf s.2.sl) ⟨fun _ _ => none, fun _ _ => false, n - s.2.sl.length⟩ 0 s.2.σ ∧ s.2.sl.length ≤ n) (fun s => [(1, .slice qa qs.length qc), (6, .pointer (some ⟨m, 0, none⟩)), (8, .pointer (some ⟨f, 0, none⟩)), (10, .pointer (some ⟨t, 0, none⟩)), (12, .pointer (some ⟨b67, 0, none⟩)), (13, .int .i64 s.1)]) (fun s => MG n qs s.1 s.2 Fr) (fun s => qs.length - s.1) (0, ⟨m, f, t, b67, b65, none, 0, none, 0, [], ⟨List.replicate (n * 256) 0, List.replicate n (-1), List.replicate 4 Slot.zero, 0, 0, 0⟩⟩) ⟨Nat.zero_le _, rfl, rfl, rfl, rfl, rfl, rfl, L0, Nat.zero_le _⟩ (by repeat (first | exact Env.sub_nil _ | refine Env.sub_cons rfl ?_)) ?_ ?_
  · dsimp only [MG]
    rw [lft_zero]
    refine Imp.trans (B := RWO b65 n qs (a63, c63) ++ (blk b67 [.pointer (some ⟨m, 0, none⟩), .pointer (some ⟨f, 0, none⟩), .pointer (some ⟨t, 0, none⟩), .slice none 0 0, .pointer (some ⟨b65, 0, none⟩), .slice none 0 0] 70 :: WG m f t n qs ⟨List.replicate (n * 256) 0, List.replicate n (-1), List.replicate 4 Slot.zero, 0, 0, 0⟩ Fr)) (by repeat (first | exact Imp.refl _ | exact Imp.none _ | apply Imp.pull (by repeat (first | exact Ext.here | apply Ext.there)) | apply Imp.trans Imp.drop)) (Imp.trans (rw_close (a63, c63)) ?_)
    rw [show ((n : Int) - ([] : List SpE).length) = (n : Int) by simp]
    exact Imp.trans (Imp.trans osl_nil (Imp.trans osl_nil (Imp.trans star_nil star_nil))) (by repeat (first | exact Imp.refl _ | exact Imp.none _ | apply Imp.pull (by repeat (first | exact Ext.here | apply Ext.there)) | apply Imp.trans Imp.drop))
  rintro ⟨i, z⟩ ⟨hi, rfl, rfl, rfl, rfl, rfl, hk, L, hzl⟩
  dsimp only at hi hk L hzl ⊢
  refine CG.seq ?_
  refine CG.seq ?_
  refine CG.region ?_
  refine OG.yield (Yield.move rfl) rfl ?_
  refine OG.yield (Yield.move rfl) rfl ?_
  refine OG.yield (Yield.len_slice Try.underlying63 rfl rfl) rfl ?_
  refine OG.yield (by first | exact Yield.as (Yield.lss rfl rfl) (bT (by omega)) | exact Yield.as (Yield.lss rfl rfl) (bF (by omega)) | exact Yield.lss rfl rfl) rfl ?_
  refine OG.nil ?_
  refine QG.then ?_
  refine CG.cond rfl (fun hc => ?_) (fun hc => ?_)
  · try replace hc := of_decide_eq_true hc
    have hi' : i < qs.length := by omega
    have hget : qs[i]? = some qs[i] := by simp [hi']
    have hqi := hq qs[i] (List.getElem_mem hi')
    have hps := posK_succ qs i
    rw [show qs.getD i 0 = qs[i] by rw [List.getD_eq_getElem?_getD, hget]; rfl] at hps
    generalize qs[i] = q at hget hqi hps
    have hno : ∀ x ∈ z.sl, x.k ≠ i := fun x hx e => by
      have : x.k ∈ z.sl.map (·.k) := List.mem_map_of_mem hx
      rw [hk] at this; have := posK_lt this; omega
    have hrn := rtOf_none hno
    have hlg := lft_get (i := i) hget
    have hll := lft_len qs i
    rw [if_neg (by omega)] at hlg
    refine CG.skip ?_
    refine QG.then ?_
    refine CG.seq ?_
    refine CG.block ?_
    refine CG.seq ?_
    rcases (show 0 < q ∨ ¬ 0 < q by omega) with hq0 | hq0
    · skip
      rw [if_pos hq0] at hps
      have hfr := L.free hget hrn hq0
      dsimp only at hfr
      refine CG.region ?_
      refine OG.yield (Yield.move rfl) rfl ?_
      refine OG.yield (Yield.move rfl) rfl ?_
      refine OG.yield (Yield.move rfl) rfl ?_
      refine OG.yield (Yield.move rfl) rfl ?_
      refine OG.callo call33 rfl ((by repeat (first | exact Imp.refl _ | exact Imp.none _ | apply Imp.pull (by repeat (first | exact Ext.here | apply Ext.there)) | apply Imp.trans Imp.drop))) (new_ok W0 _ (m := z.m) (f := z.f) (t := z.t) (k := i) L hq hget hrn hq0) rfl ?_
      rintro ⟨s', r', σ'⟩ L'
      dsimp only at L' ⊢
      refine OG.yield (Yield.move rfl) rfl ?_
      refine OG.yield (Yield.extract rfl rfl) rfl ?_
      refine OG.yield (Yield.extract rfl rfl) rfl ?_
      refine OG.yield (Yield.assign rfl) rfl ?_
      refine OG.yield (Yield.assign rfl) rfl ?_
      refine OG.nil ?_
      refine QG.then ?_
      refine CG.seq ?_
      refine CG.region ?_
      refine OG.yield (Yield.move rfl) rfl ?_
      refine OG.yield (Yield.nilCheck rfl) rfl ?_
      refine OG.yield (Yield.fieldAddr fa70_4 rfl) rfl ?_
      refine OG.yield (Yield.load ti67 rfl (by first | exact Cel.of_blk (by repeat (first | exact Ext.here | apply Ext.there)) rfl | exact (hrow (by repeat (first | exact Ext.here | apply Ext.there))) _ _ rfl)) rfl ?_
      refine OG.yield (Yield.move rfl) rfl ?_
      refine OG.callo call60 rfl ((by repeat (first | exact Imp.refl _ | exact Imp.none _ | apply Imp.pull (by repeat (first | exact Ext.here | apply Ext.there)) | apply Imp.trans Imp.drop))) (rnew_ok W0 _ (b := z.bw) (fr := (n : Int) - z.sl.length) (l := lft qs i) (k := i) hlg (by omega) (by omega) (by omega)) rfl ?_
      rintro b' -
      rw [← lft_yes hget hq0]
      refine OG.yield (Yield.move rfl) rfl ?_
      refine OG.yield (Yield.extract rfl rfl) rfl ?_
      refine OG.yield (Yield.extract rfl rfl) rfl ?_
      refine OG.yield (Yield.assign rfl) rfl ?_
      refine OG.yield (Yield.assign rfl) rfl ?_
      refine OG.nil ?_
      refine QG.then ?_
      refine CG.seq ?_
      refine CG.seq ?_
      refine CG.region ?_
      refine OG.yield (Yield.move rfl) rfl ?_
      refine OG.yield (Yield.move rfl) rfl ?_
      refine OG.yield (by first | exact Yield.as (Yield.neq rfl rfl) (bT (by omega)) | exact Yield.as (Yield.neq rfl rfl) (bF (by omega)) | exact Yield.neq rfl rfl) rfl ?_
      refine OG.yield (Yield.move rfl) rfl ?_
      refine OG.guard_yes rfl rfl rfl (by decide) ?_
      refine OG.yield (Yield.move rfl) rfl ?_
      refine OG.guard_yes rfl rfl rfl (by decide) ?_
      refine OG.yield (by first | exact Yield.ptr_nil Try.underlying81 rfl rfl | exact Yield.nil_nil Try.underlying81 rfl rfl) rfl ?_
      refine OG.guard_yes rfl rfl rfl (by decide) ?_
      refine OG.yield (Yield.move rfl) rfl ?_
      refine OG.guard_yes rfl rfl rfl (by decide) ?_
      refine OG.yield (by first | exact Yield.ptr_nil Try.underlying133 rfl rfl | exact Yield.nil_nil Try.underlying133 rfl rfl) rfl ?_
      refine OG.guard_yes rfl rfl rfl (by decide) ?_
      refine OG.yield (Yield.as (Yield.bool_neq Try.underlying4 rfl rfl) (v' := .bool false) rfl) rfl ?_
      refine OG.yield (by first | exact Yield.pick_t rfl rfl | exact Yield.pick_f rfl rfl | exact Yield.pick rfl (fun _ => rfl) (fun _ => rfl)) rfl ?_
      refine OG.nil ?_
      refine QG.then ?_
      refine CG.cond_f rfl ?_
      refine CG.skip ?_
      refine QG.then ?_
      refine CG.seq ?_
      refine CG.region ?_
      refine OG.yield (Yield.move rfl) rfl ?_
      refine OG.yield (by first | exact Yield.ptr_nonnil Try.underlying133 rfl rfl | exact Yield.nil_nonnil Try.underlying133 rfl rfl) rfl ?_
      refine OG.nil ?_
      refine QG.then ?_
      refine CG.cond_t rfl ?_
      refine CG.seq ?_
      refine CG.region ?_
      refine OG.yield (Yield.move rfl) rfl ?_
      refine OG.yield (Yield.move rfl) rfl ?_
      refine OG.yield (Yield.nilCheck rfl) rfl ?_
      refine OG.yield (Yield.fieldAddr fa70_3 rfl) rfl ?_
      refine OG.yield (Yield.load ti66 rfl (by first | exact Cel.of_blk (by repeat (first | exact Ext.here | apply Ext.there)) rfl | exact (hrow (by repeat (first | exact Ext.here | apply Ext.there))) _ _ rfl)) rfl ?_
      refine OG.yield (Yield.move rfl) rfl ?_
      refine OG.effd (Eff.lit1 Try.underlying66 ti81 rfl rfl rfl) rfl ?_
      rintro b109 -
      refine OG.effd (Eff.append (a := z.sa) (c := z.sc) (m := z.sl.length) (xs := ptrs (z.sl.map (·.s))) (k := 1) (ys := [.pointer (some ⟨s', 0, none⟩)]) rfl rfl rfl Try.underlying66 Try.underlying66 ti81 rfl (by decide) (by repeat (first | exact Foc.here | apply Foc.there)) (SlR.of_osl (a := some ⟨b109, 0, none⟩) (by repeat (first | exact Ext.here | apply Ext.there))) (by simp [one]) (by omega)) rfl ?_
      rintro ⟨a110, c110⟩ -
      refine OG.yield (Yield.nilCheck rfl) rfl ?_
      refine OG.yield (Yield.fieldAddr fa70_3 rfl) rfl ?_
      refine OG.eff (Eff.store1 ti66 rfl rfl (by repeat (first | exact Foc.here | apply Foc.there)) rfl (by first | (simp; done) | decide)) rfl ?_
      rintro ⟨⟩ -
      refine OG.nil ?_
      refine QG.then ?_
      refine CG.region ?_
      refine OG.yield (Yield.move rfl) rfl ?_
      refine OG.yield (Yield.move rfl) rfl ?_
      refine OG.yield (Yield.nilCheck rfl) rfl ?_
      refine OG.yield (Yield.fieldAddr fa70_5 rfl) rfl ?_
      refine OG.yield (Yield.load ti68 rfl (by first | exact Cel.of_blk (by repeat (first | exact Ext.here | apply Ext.there)) rfl | exact (hrow (by repeat (first | exact Ext.here | apply Ext.there))) _ _ rfl)) rfl ?_
      refine OG.yield (Yield.move rfl) rfl ?_
      refine OG.effd (Eff.lit1 Try.underlying68 ti133 rfl rfl rfl) rfl ?_
      rintro b119 -
      refine OG.effd (Eff.append (a := z.ra) (c := z.rc) (m := z.sl.length) (xs := ptrs (z.sl.map (·.b))) (k := 1) (ys := [.pointer (some ⟨b', 0, none⟩)]) rfl rfl rfl Try.underlying68 Try.underlying68 ti133 rfl (by decide) (by repeat (first | exact Foc.here | apply Foc.there)) (SlR.of_osl (a := some ⟨b119, 0, none⟩) (by repeat (first | exact Ext.here | apply Ext.there))) (by simp [one]) (by omega)) rfl ?_
      rintro ⟨a120, c120⟩ -
      refine OG.yield (Yield.nilCheck rfl) rfl ?_
      refine OG.yield (Yield.fieldAddr fa70_5 rfl) rfl ?_
      refine OG.eff (Eff.store1 ti68 rfl rfl (by repeat (first | exact Foc.here | apply Foc.there)) rfl (by first | (simp; done) | decide)) rfl ?_
      rintro ⟨⟩ -
      refine OG.nil ?_
      refine QG.block_normal ?_
      refine QG.then ?_
      refine CG.region ?_
      refine OG.yield (Yield.move rfl) rfl ?_
      refine OG.yield (Yield.add rfl rfl (w64 (by omega) (by omega))) rfl ?_
      refine OG.yield (Yield.assign rfl) rfl ?_
      refine OG.nil ?_
      have L2 : Lk n qs (rtOf (z.sl ++ [⟨i, s', r', b'⟩])) ⟨fun _ _ => none, fun _ _ => false, n - (z.sl.length + 1)⟩ 0 σ' := by rw [rtOf_snoc (e := ⟨i, s', r', b'⟩) hno, ← Nat.sub_sub]; exact L'
      refine QG.next (i + 1, ⟨z.m, z.f, z.t, z.bx, z.bw, a110, c110, a120, c120, z.sl ++ [⟨i, s', r', b'⟩], σ'⟩) ⟨hi', rfl, rfl, rfl, rfl, rfl, by rw [List.map_append, hk, hps]; rfl, by simp only [List.length_append, List.length_cons, List.length_nil]; exact L2, by simp; omega⟩ (by simp only; omega) (by repeat (first | exact Env.sub_nil _ | refine Env.sub_cons rfl ?_)) ?_
      dsimp only [MG]
      rw [ptrs_snoc, ptrs_snoc, List.map_append, List.map_append, List.length_append, show ((n : Int) - ((z.sl.length + [SpE.mk i s' r' b'].length : Nat) : Int)) = (n : Int) - z.sl.length - 1 by simp only [List.length_cons, List.length_nil]; omega]
      refine Imp.trans (B := sb s' i r' z.m z.f z.t :: Star (z.sl.map fun e => sb e.s e.k e.r z.m z.f z.t) :: rsb0 b' z.bw i :: Star (z.sl.map fun e => rsb0 e.b z.bw e.k) :: blk z.bx [.pointer (some ⟨z.m, 0, none⟩), .pointer (some ⟨z.f, 0, none⟩), .pointer (some ⟨z.t, 0, none⟩), .slice a110 (z.sl.length + 1) c110, .pointer (some ⟨z.bw, 0, none⟩), .slice a120 (z.sl.length + 1) c120] 70 :: osl 81 1 a110 c110 (z.sl.length + 1) (ptrs (z.sl.map (·.s)) ++ [.pointer (some ⟨s', 0, none⟩)]) :: osl 133 1 a120 c120 (z.sl.length + 1) (ptrs (z.sl.map (·.b)) ++ [.pointer (some ⟨b', 0, none⟩)]) :: RW z.bw ((n : Int) - z.sl.length - 1) (lft qs (i + 1)) :: WG z.m z.f z.t n qs σ' Fr) (by repeat (first | exact Imp.refl _ | exact Imp.none _ | apply Imp.pull (by repeat (first | exact Ext.here | apply Ext.there)) | apply Imp.trans Imp.drop)) ?_
      refine Imp.trans star_add ?_
      refine Imp.trans (B := rsb0 b' z.bw i :: Star (z.sl.map fun e => rsb0 e.b z.bw e.k) :: Star ((z.sl.map fun e => sb e.s e.k e.r z.m z.f z.t) ++ [sb s' i r' z.m z.f z.t]) :: blk z.bx [.pointer (some ⟨z.m, 0, none⟩), .pointer (some ⟨z.f, 0, none⟩), .pointer (some ⟨z.t, 0, none⟩), .slice a110 (z.sl.length + 1) c110, .pointer (some ⟨z.bw, 0, none⟩), .slice a120 (z.sl.length + 1) c120] 70 :: osl 81 1 a110 c110 (z.sl.length + 1) (ptrs (z.sl.map (·.s)) ++ [.pointer (some ⟨s', 0, none⟩)]) :: osl 133 1 a120 c120 (z.sl.length + 1) (ptrs (z.sl.map (·.b)) ++ [.pointer (some ⟨b', 0, none⟩)]) :: RW z.bw ((n : Int) - z.sl.length - 1) (lft qs (i + 1)) :: WG z.m z.f z.t n qs σ' Fr) (by repeat (first | exact Imp.refl _ | exact Imp.none _ | apply Imp.pull (by repeat (first | exact Ext.here | apply Ext.there)) | apply Imp.trans Imp.drop)) ?_
      exact Imp.trans star_add (by repeat (first | exact Imp.refl _ | exact Imp.none _ | apply Imp.pull (by repeat (first | exact Ext.here | apply Ext.there)) | apply Imp.trans Imp.drop))
    · skip
      rw [if_neg hq0] at hps
      refine CG.region ?_
      refine OG.yield (Yield.move rfl) rfl ?_
      refine OG.yield (Yield.move rfl) rfl ?_
      refine OG.yield (Yield.move rfl) rfl ?_
      refine OG.yield (Yield.move rfl) rfl ?_
      refine OG.callo call33 rfl ((by repeat (first | exact Imp.refl _ | exact Imp.none _ | apply Imp.pull (by repeat (first | exact Ext.here | apply Ext.there)) | apply Imp.trans Imp.drop))) (new_bad W0 _ (m := z.m) (f := z.f) (t := z.t) (k := i) L hq hget hrn (by omega)) rfl ?_
      rintro ⟨⟩ -
      refine OG.yield (Yield.move rfl) rfl ?_
      refine OG.yield (Yield.extract rfl rfl) rfl ?_
      refine OG.yield (Yield.extract rfl rfl) rfl ?_
      refine OG.yield (Yield.assign rfl) rfl ?_
      refine OG.yield (Yield.assign rfl) rfl ?_
      refine OG.nil ?_
      refine QG.then ?_
      refine CG.seq ?_
      refine CG.region ?_
      refine OG.yield (Yield.move rfl) rfl ?_
      refine OG.yield (Yield.nilCheck rfl) rfl ?_
      refine OG.yield (Yield.fieldAddr fa70_4 rfl) rfl ?_
      refine OG.yield (Yield.load ti67 rfl (by first | exact Cel.of_blk (by repeat (first | exact Ext.here | apply Ext.there)) rfl | exact (hrow (by repeat (first | exact Ext.here | apply Ext.there))) _ _ rfl)) rfl ?_
      refine OG.yield (Yield.move rfl) rfl ?_
      refine OG.callo call60 rfl ((by repeat (first | exact Imp.refl _ | exact Imp.none _ | apply Imp.pull (by repeat (first | exact Ext.here | apply Ext.there)) | apply Imp.trans Imp.drop))) (rnew_bad W0 _ (b := z.bw) (fr := (n : Int) - z.sl.length) (l := lft qs i) (k := i) hlg (by omega) (by omega) (by omega)) rfl ?_
      rintro ⟨⟩ -
      rw [← lft_no hget hq0]
      refine OG.yield (Yield.move rfl) rfl ?_
      refine OG.yield (Yield.extract rfl rfl) rfl ?_
      refine OG.yield (Yield.extract rfl rfl) rfl ?_
      refine OG.yield (Yield.assign rfl) rfl ?_
      refine OG.yield (Yield.assign rfl) rfl ?_
      refine OG.nil ?_
      refine QG.then ?_
      refine CG.seq ?_
      refine CG.seq ?_
      refine CG.region ?_
      refine OG.yield (Yield.move rfl) rfl ?_
      refine OG.yield (Yield.move rfl) rfl ?_
      refine OG.yield (by first | exact Yield.as (Yield.neq rfl rfl) (bT (by omega)) | exact Yield.as (Yield.neq rfl rfl) (bF (by omega)) | exact Yield.neq rfl rfl) rfl ?_
      refine OG.yield (Yield.move rfl) rfl ?_
      refine OG.guard_yes rfl rfl rfl (by decide) ?_
      refine OG.yield (Yield.move rfl) rfl ?_
      refine OG.guard_yes rfl rfl rfl (by decide) ?_
      refine OG.yield (by first | exact Yield.ptr_nil Try.underlying81 rfl rfl | exact Yield.nil_nil Try.underlying81 rfl rfl) rfl ?_
      refine OG.guard_yes rfl rfl rfl (by decide) ?_
      refine OG.yield (Yield.move rfl) rfl ?_
      refine OG.guard_yes rfl rfl rfl (by decide) ?_
      refine OG.yield (by first | exact Yield.ptr_nil Try.underlying133 rfl rfl | exact Yield.nil_nil Try.underlying133 rfl rfl) rfl ?_
      refine OG.guard_yes rfl rfl rfl (by decide) ?_
      refine OG.yield (Yield.as (Yield.bool_neq Try.underlying4 rfl rfl) (v' := .bool false) rfl) rfl ?_
      refine OG.yield (by first | exact Yield.pick_t rfl rfl | exact Yield.pick_f rfl rfl | exact Yield.pick rfl (fun _ => rfl) (fun _ => rfl)) rfl ?_
      refine OG.nil ?_
      refine QG.then ?_
      refine CG.cond_f rfl ?_
      refine CG.skip ?_
      refine QG.then ?_
      refine CG.seq ?_
      refine CG.region ?_
      refine OG.yield (Yield.move rfl) rfl ?_
      refine OG.yield (by first | exact Yield.ptr_nonnil Try.underlying133 rfl rfl | exact Yield.nil_nonnil Try.underlying133 rfl rfl) rfl ?_
      refine OG.nil ?_
      refine QG.then ?_
      refine CG.cond_f rfl ?_
      refine CG.skip ?_
      refine QG.block_normal ?_
      refine QG.then ?_
      refine CG.region ?_
      refine OG.yield (Yield.move rfl) rfl ?_
      refine OG.yield (Yield.add rfl rfl (w64 (by omega) (by omega))) rfl ?_
      refine OG.yield (Yield.assign rfl) rfl ?_
      refine OG.nil ?_
      exact QG.next (i + 1, z) ⟨hi', rfl, rfl, rfl, rfl, rfl, by rw [hk, hps], L, hzl⟩ (by simp only; omega) (by repeat (first | exact Env.sub_nil _ | refine Env.sub_cons rfl ?_)) (by repeat (first | exact Imp.refl _ | exact Imp.none _ | apply Imp.pull (by repeat (first | exact Ext.here | apply Ext.there)) | apply Imp.trans Imp.drop))
  · try replace hc := of_decide_eq_false hc
    refine CG.exit ?_
    refine QG.pass_exit ?_
    refine QG.pass_exit ?_
    refine QG.block_exit ?_
    refine QG.then ?_
    refine CG.seq ?_
    refine CG.region ?_
    refine OG.yield (Yield.move rfl) rfl ?_
    refine OG.yield (Yield.assign rfl) rfl ?_
    refine OG.yield (Yield.assign rfl) rfl ?_
    refine OG.nil ?_
    refine QG.then ?_
    refine CG.ret ?_
    obtain rfl : i = qs.length := by omega
    exact QG.ret2 rfl rfl rfl z ⟨hk, L, hzl⟩ rfl (by repeat (first | exact Imp.refl _ | exact Imp.none _ | apply Imp.pull (by repeat (first | exact Ext.here | apply Ext.there)) | apply Imp.trans Imp.drop))
end
end Go.Proofs.Ytmlfcfbblfcpdaa.Sp
