/- Rules for steps of the model, and what functions of the program do. -/
import Derived.Test.YtphljkplokjonaaGreatZp4
set_option linter.unusedVariables false
set_option linter.unusedSimpArgs false
set_option linter.unusedSectionVars false
set_option maxRecDepth 100000
namespace Go.Proofs.YtphljkplokjonaaGreat.Sp
open Go Go.Sl Go.RowKit Go.Proofs Go.Proofs.YtphljkplokjonaaGreat.T Go.Proofs.YtphljkplokjonaaGreat.Me Go.Proofs.YtphljkplokjonaaGreat.Pe Go.Proofs.YtphljkplokjonaaGreat.Pg Tryz
open Go.Proofs.YtphljkplokjonaaGreat.Fz (iv oiv)
theorem one_bit {p : Nat} {right : Int} (h : 1 ≤ p ∧ p ≤ 7) (hr : right = 1 ∨ right = 2) : (Go.bits .and .i64 (p : Int) right ≠ 0) ↔ (Go.bits .and .i64 (p : Int) right = right) := by
 rcases (show p = 1 ∨ p = 2 ∨ p = 3 ∨ p = 4 ∨ p = 5 ∨ p = 6 ∨ p = 7 by omega) with rfl | rfl | rfl | rfl | rfl | rfl | rfl <;> rcases hr with rfl | rfl <;> decide
theorem mayP_rmay {o : Ob} {k a : Nat} {right : Int} (hK : ObK o k) (hr : right = 1 ∨ right = 2) : rmay o k (a : Int) right = mayP (pmO o k) right a := by
 rw [Bool.eq_iff_iff, rmay_iff]
 constructor
 ·rintro ⟨h1, h2, x, hx, h3, h4⟩
  rw [mayP_some (p := x.1) h1 (by unfold pmO; rw [hx]; rfl)]
  exact decide_eq_true ((one_bit (hK _ _ hx).1 hr).2 h4)
 ·intro h
  by_cases h1 : a < 1048576
  ·cases hx : o.vw k (a / 256) with
   | none => rw [mayP_none (by unfold pmO; rw [hx]; rfl)] at h; cases h
   | some x =>
    rw [mayP_some (p := x.1) h1 (by unfold pmO; rw [hx]; rfl)] at h
    have hx1 := (hK _ _ hx).1
    exact ⟨h1, by omega, x, rfl, by omega, (one_bit hx1 hr).1 (of_decide_eq_true h)⟩
  ·rw [mayP_far (by omega)] at h; cases h
theorem bufI_snoc {o : Ob} {k ad i : Nat} : bufI o k ad (i + 1) (i + 1) = bufI o k ad i i ++ [byteO o k (ad + i)] := by
 unfold bufI
 rw [List.range_succ, List.map_append]
 congr 1
 ·apply List.map_congr_left
  intro j hj
  have := List.mem_range.1 hj
  rw [if_pos (by omega), if_pos (by omega)]
 ·simp
structure BZ where
 a : Option Addr
 c : Nat
 b : List UInt8
section
variable (W0 : World) (Fr : List HProp)
variable {o : Ob} {b w k : Nat} {ts : List Int}
set_option maxHeartbeats 1000000 in
theorem rin_spec (hK : ObK o k) {ad : Nat} (had : ad < 4294967296) (nI : Int) : Ctr prog W0 203 [.pointer (some ⟨b, 0, none⟩), .int .u32 ad, .int .i64 nI] (RS b w k (pvs o k) ts :: Fr) (fun z : BZ => z.b = (inO o k ad nI).1) (fun z => .tuple #[.slice z.a z.b.length z.c, .int .i64 (inO o k ad nI).2]) (fun z => oby 5 z.a z.c z.b :: RS b w k (pvs o k) ts :: Fr) := by
 have hpl := pvs_len o k
 by_cases hg : nI < 0 ∨ 4096 < nI
 ·have e : inO o k ad nI = ([], 2) := by unfold inO; rw [if_pos hg]
  rw [e]
  refine Ctr.of_body func203 J ntmps203 J (cZ (aZ (gZ J (gZ J (fZ (bZ (cZ (cZ ?_))))))))
  rcases (show nI < 0 ∨ (0 ≤ nI ∧ 4096 < nI) by omega) with hg1 | hg1
  ·refine aZ (eZ J (dZ eQ ?_))
   refine eZ J (gQ J J J J J (gQ J J J J J (dZ mZ ?_)))
   exact fZ (bZ (fQ J (cZ (aZ (gZ J (gZ J (fZ (bZ (rZ (qZ (hX [.slice none 0 0, .int .i64 2] J ⟨rfl, rfl, trivial⟩ (⟨none, 0, []⟩ : BZ) J J (oby_nil (E := 5)))))))))))))
  ·refine aZ (eZ J (dZ eQ ?_))
   refine eZ J (kZ J J (eZ J (kZ J J (dZ kX ?_))))
   refine dZ mZ ?_
   exact fZ (bZ (fQ J (cZ (aZ (gZ J (gZ J (fZ (bZ (rZ (qZ (hX [.slice none 0 0, .int .i64 2] J ⟨rfl, rfl, trivial⟩ (⟨none, 0, []⟩ : BZ) J J (oby_nil (E := 5)))))))))))))
 ·obtain ⟨nn, rfl⟩ := Int.eq_ofNat_of_zero_le (show 0 ≤ nI by omega)
  have hnn : nn ≤ 4096 := by omega
  refine Ctr.of_body func203 J ntmps203 J (cZ (aZ (gZ J (gZ J (fZ (bZ (cZ (cZ (aZ (eZ J (dZ eQ ?_)))))))))))
  refine eZ J (kZ J J (eZ J (kZ J J (dZ kX ?_))))
  refine dZ mZ ?_
  refine fZ (bZ (vZ J (uZ (bZ (cZ (aZ (gZ J (fZ (bZ (cZ (cZ (aZ (gZ J (fZ (bZ (mQ (mX (fun y : Nat × Option Addr × Nat => y.1 ≤ nn ∧ ∀ i, i < y.1 → mayP (pmO o k) 1 (ad + i) = true) (fun y => [(0, .pointer (some ⟨b, 0, none⟩)), (1, .int .u32 ad), (2, .int .i64 nn), (8, .slice y.2.1 (bufI o k ad y.1 y.1).length y.2.2), (9, .int .i64 y.1)]) (fun y => oby 5 y.2.1 y.2.2 (bufI o k ad y.1 y.1) :: RS b w k (pvs o k) ts :: Fr) (fun y => nn - y.1) (0, none, 0) ⟨Nat.zero_le _, fun i h => absurd h (Nat.not_lt_zero _)⟩ eS (oby_nil (E := 5)) ?_)))))))))))))))))
  rintro ⟨i, ya', yc'⟩ ⟨hi, hal⟩
  dsimp only at hi hal ⊢
  refine cZ (cZ (aZ (eZ J (eZ J (dZ eQ ?_)))))
  refine fZ (bZ (lQ J (fun hc => ?_) (fun hc => ?_)))
  ·try replace hc := odT hc
   refine uZ (bZ (cZ (mQ (cZ (aZ (eZ J (dZ (cQ (c := (ad : Int)) underlying3 J J wO) (eZ J (dZ (hQ (c := ((ad + i : Nat) : Int)) J J (by rw [w64 (by omega) (by omega)]; omega)) ?_)))))))))
   refine gZ J (fZ (bZ (cZ (cZ (aZ (eZ J (eZ J (oZ call155 J (iM) (rmay_spec W0 _ (o := o) (b := b) (w := w) (k := k) (ts := ts) (a := ((ad + i : Nat) : Int)) (how := 1) (by decide)) J ?_))))))))
   rintro ⟨⟩ -
   rw [mayP_rmay hK (.inl J)]
   generalize hrm : mayP (pmO o k) 1 (ad + i) = rm
   refine dZ (iQ J) (fZ (bZ (lQ J (fun hc => ?_) (fun hc => ?_))))
   ·try replace hc := odT hc
    refine cZ (aZ (gZ J (gZ J (fZ (bZ (rZ (qZ (nQ (qZ (qZ (nQ (qZ ?_))))))))))))
    have hz : i < nn := by omega
    rw [show inO o k ad (nn : Int) = ([], 90) by unfold inO; rw [if_neg hg, Int.toNat_natCast, if_neg (by rw [mayA_f hz (by rw [hrm]; simpa using hc)]; decide)]]
    exact hX [.slice none 0 0, .int .i64 90] J ⟨rfl, rfl, trivial⟩ (⟨none, 0, []⟩ : BZ) J J (Imp.trans (oby_nil (E := 5)) iM)
   ·try replace hc := odF hc
    have hm : mayP (pmO o k) 1 (ad + i) = true := by rw [hrm]; simpa using hc
    have hm2 := hm
    rw [← mayP_rmay hK (.inl J)] at hm2
    obtain ⟨ha, hh0, x, hx, hx0, hmay⟩ := rmay_iff.1 hm2
    have hxl := (hK _ _ hx).2
    have hq : (ad + i) / 256 < 4096 := by omega
    obtain ⟨e, -⟩ := fnd_some hq hx
    have hbyte : x.2[(ad + i) % 256]? = some (byteO o k (ad + i)) := by
     unfold byteO; rw [hx]
     have : (ad + i) % 256 < x.2.length := by omega
     simp [this]
    refine uZ (bZ (kV (A := RS b w k (pvs o k) ts) eX rs_open ?_))
    rintro ⟨za, zc, zl, zta, ztc⟩ hz
    refine rX star_open ?_
    dsimp only [RSO, List.cons_append, List.nil_append] at hz ⊢
    obtain ⟨y, hy, y1, y2, y3⟩ := pv_at (z := ⟨za, zc, zl, zta, ztc⟩) hz hq hx
    dsimp only at hy
    have hil := (List.getElem?_eq_some_iff.1 hy).1
    refine lX (fun w hw => SlR.elem_shape (W0 := W0) (f := PV.cells) (xs := zl) (i := (pvTo o k ((ad + i) / 256)).length) (SlR.of_osl (E := 180) (a := za) (c := zc) eX) PV.len (by decide) hil w hw) ?_
    rintro ⟨ol, oo, rfl⟩
    generalize (pvTo o k ((ad + i) / 256)).length = ii at *
    have hyS : (zl.map fun x => oby 5 x.a x.c x.b)[ii]? = some (oby 5 y.a y.c y.b) := by rw [List.getElem?_map, hy]; rfl
    obtain ⟨yp, ypm, ya, yc, yb⟩ := y
    dsimp only at y1 y2 y3 hyS ⊢
    subst y1 y2 y3
    have hS : ∀ {G : List HProp}, Imp G [Star (zl.map fun x => oby 5 x.a x.c x.b)] → SlR W0 G 1 ya x.2.length (bytesV x.2) := fun hi => SlR.imp (G' := [oby 5 ya yc x.2, Star ((zl.map fun x => oby 5 x.a x.c x.b).eraseIdx ii)]) (SlR.of_osl (E := 5) (a := ya) eX) (Imp.trans hi (star_take hyS))
    refine lX (fun w hw => SlR.shape (hS iM) (fun q => by have := congrArg List.length q; rw [bytesV_length, hxl] at this; cases this) w hw) ?_
    rintro ⟨yb', yo, rfl⟩
    refine qQ (.lo 0 0 (.lo 1 0 (.lo 2 0 (.lo 3 0 (.lo 4 0 (.lo 5 1 (.lo 6 1 (.lo 7 1 (.lo 12 0 (.lo 13 0 (.eff1 8 false (.lo 9 1 (.lo 10 1 (.lo 11 1 (.lo 14 1 (.lo 15 1 (.eff1 16 false (.eff1 17 false (.lo 18 1 (.done)))))))))))))))))))) [8, 16, 17] [] ([blk b [.pointer (some ⟨w, 0, none⟩), .int .i64 k, .slice (some ⟨ol, oo, none⟩) zl.length zc, .slice zta ts.length ztc] 264]) ([]) mixed (by kernel_rfl) (iM) (Imp.none _) ?_
    refine nZ J J (nZ J J (dQ J J (wZ J fa264_2 J (hZ J (iZ ti36 J) ?_))))
    refine nZ J J (nZ J J (hZ J (oQ (dV J J (by omega) (tdiv_pos (by omega) (by omega) (by omega))) (v' := .int .i64 (((ad + i) / 256 : Nat) : Int)) (by congr 1)) ?_))
    refine nZ J J (hZ J (oQ (xX J J (by omega) (tmod_pos (by omega) (by omega))) (v' := .int .i64 (((ad + i) % 256 : Nat) : Int)) (by congr 1)) ?_)
    refine aQ (rQ J J call198 J (iM) (rfind_at W0 (oby 5 ya' yc' (bufI o k ad i i) :: Fr) (b := b) (w := w) (k := k) (ts := ts) (L := pvs o k) (z := ⟨some ⟨ol, oo, none⟩, zc, zl, zta, ztc⟩) hz (by omega) (((ad + i) / 256 : Nat) : Int)) J (fun _ => iM) (fun _ => Imp.refl _) (fun _ => iM) ?_)
    rintro ⟨⟩ -
    rw [e]
    refine hZ J (lZ underlying36 ti180 J J (by omega) (by omega)) ?_
    refine wZ J fa180_2 J (hZ J (jZ (v := .slice (some ⟨yb', yo, none⟩) x.2.length yc) ti32 J (by rw [show oo + (ii : Int).toNat * 3 + 2 = oo + ii * 3 + 2 by omega]; exact (SlR.elem (f := PV.cells) (xs := zl) (i := ii) (SlR.of_osl (W0 := W0) (E := 180) (c := zc) eX) PV.len hy) 2 _ J)) ?_)
    refine hZ J (lZ underlying32 ti5 J J (by omega) (by omega)) ?_
    refine hZ J (jZ (v := byteV (byteO o k (ad + i))) ti5 J (by rw [show yo + (((ad + i) % 256 : Nat) : Int).toNat * 1 = yo + (ad + i) % 256 * 1 by omega]; exact SlR.byte (hS iM) hbyte)) ?_
    refine aQ (wQ J J (gV underlying32 ti5 J J J) J (fun _ => iM) (fun _ => Imp.refl _) (fun _ => iM) ?_)
    rintro b46 -
    refine aQ (wQ J J (eV (bs := bufI o k ad i i) (ys := [byteO o k (ad + i)]) J J J underlying32 underlying32 ti5 (by decide) fC (SlR.of_osl_eq (E := 5) (a := some ⟨b46, 0, none⟩) eX J J) (by rw [bufI_len]; simp only [List.length_cons, List.length_nil]; omega)) J (fun _ => iM) (fun _ => Imp.refl _) (fun _ => iM) ?_)
    rintro ⟨a47, c47⟩ -
    refine hZ J (jQ J) (pQ (tZ (bZ (aZ (eZ J (dZ (hQ J J wO) (gZ J (fZ (gX (i + 1, a47, c47) ⟨by simp only; omega, fun j hj => ?_⟩ (by simp only; omega) (by rw [bufI_snoc]; exact eS) (by rw [bufI_snoc]; exact Imp.trans (B := RSO b w k ts ⟨some ⟨ol, oo, none⟩, zc, zl, zta, ztc⟩ ++ (oby 5 a47 c47 (bufI o k ad i i ++ [byteO o k (ad + i)]) :: Fr)) iM (Imp.trans (rs_close _ hz) iM)))))))))))
    by_cases hji : j < i
    ·exact hal j hji
    ·obtain rfl : j = i := by simp only at hj; omega
     exact hm
  ·try replace hc := odF hc
   refine iX (bQ (bQ (tQ (bZ (cZ (aZ (eZ J (gZ J (gZ J (fZ (bZ (rZ ?_))))))))))))
   obtain rfl : i = nn := by omega
   rw [show inO o k ad (i : Int) = (bufI o k ad i i, 0) by unfold inO; rw [if_neg hg, Int.toNat_natCast, if_pos (mayA_t hal)]]
   exact hX [.slice ya' (bufI o k ad i i).length yc', .int .i64 0] J ⟨rfl, rfl, trivial⟩ (⟨ya', yc', bufI o k ad i i⟩ : BZ) J J iM
end
theorem outO_vw {o : Ob} {k ad j q : Nat} {b : List UInt8} {x : Nat × List UInt8} (hx : o.vw k q = some x) : (outO o k ad b j).vw k q = some (x.1, putP ad b j q x.2) := by
 unfold outO; dsimp only; rw [hx]; simp
theorem outO_put {o : Ob} {k ad j : Nat} {b : List UInt8} {x : Nat × List UInt8} {c : UInt8} (hx : o.vw k ((ad + j) / 256) = some x) (hl : x.2.length = 256) (hc : b[j]? = some c) : putO (outO o k ad b j) k (ad + j) c = outO o k ad b (j + 1) := by
 have hdm := Nat.div_add_mod (ad + j) 256
 unfold putO
 rw [outO_vw hx]
 have e : outO o k ad b (j + 1) = ⟨(outO o k ad b (j + 1)).vw, o.ts, o.fr⟩ := rfl
 rw [e]
 show (⟨_, o.ts, o.fr⟩ : Ob) = _
 congr 1
 funext k' q
 by_cases h : k' = k ∧ q = (ad + j) / 256
 ·obtain ⟨rfl, rfl⟩ := h
  rw [up2_at, outO_vw hx]
  simp only [Option.map_some, Option.some.injEq, Prod.mk.injEq, true_and]
  apply List.ext_getElem?; intro i
  rw [List.getElem?_set]
  by_cases hi : i < x.2.length
  ·rw [putP_get hi, putP_get hi, putP_len]
   by_cases h2 : (ad + j) % 256 = i
   ·rw [if_pos h2, if_pos (by omega), if_pos (by omega), show (ad + j) / 256 * 256 + i - ad = j by omega, hc]; rfl
   ·rw [if_neg h2]
    by_cases h3 : i < 256 ∧ ad ≤ (ad + j) / 256 * 256 + i ∧ (ad + j) / 256 * 256 + i < ad + j
    ·rw [if_pos h3, if_pos (by omega)]
    ·rw [if_neg h3, if_neg (by omega)]
  ·rw [if_neg (by omega), putP_out (by omega), putP_out (by omega)]
 ·rw [up2_ne (by omega)]
  show (o.vw k' q).map _ = (o.vw k' q).map _
  cases hv : o.vw k' q with
  | none => rfl
  | some y =>
   simp only [Option.map_some, Option.some.injEq, Prod.mk.injEq, true_and]
   by_cases hk : k' = k
   ·rw [if_pos hk, if_pos hk]
    apply List.ext_getElem?; intro i
    by_cases hi : i < y.2.length
    ·rw [putP_get hi, putP_get hi]
     by_cases hq : i < 256 ∧ ad ≤ q * 256 + i ∧ q * 256 + i < ad + j
     ·rw [if_pos hq, if_pos (by omega)]
     ·rw [if_neg hq, if_neg (fun hq2 => h ⟨hk, by omega⟩)]
    ·rw [putP_out (by omega), putP_out (by omega)]
   ·rw [if_neg hk, if_neg hk]
section
variable (W0 : World) (Fr : List HProp)
variable {o : Ob} {b w k : Nat} {ts : List Int}
set_option maxHeartbeats 1000000 in
theorem rout_spec (hK : ObK o k) {ad : Nat} (had : ad < 4294967296) {ba : Option Addr} {bc : Nat} {bs : List UInt8} (hr : RdB W0 Fr ba bc bs) : Ctr prog W0 115 [.pointer (some ⟨b, 0, none⟩), .int .u32 ad, .slice ba bs.length bc] (RS b w k (pvs o k) ts :: Fr) (fun _ : Unit => True) (fun _ => .int .i64 (outR o k ad bs).1) (fun _ => RS b w k (pvs (outR o k ad bs).2 k) ts :: Fr) := by
 by_cases hg : 4096 < bs.length
 ·have e : outR o k ad bs = (2, o) := by unfold outR; rw [if_pos hg]
  rw [e]
  refine Ctr.of_body func115 J ntmps115 J (cZ (aZ (gZ J (fZ (bZ (cZ (cZ (aZ (eZ J (dZ (sZ underlying32 J J) (dZ kX ?_)))))))))))
  exact fZ (bZ (fQ J (cZ (aZ (gZ J (fZ (bZ (rZ (qZ (yZ J J () trivial J iM))))))))))
 ·have hnn : bs.length ≤ 4096 := by omega
  refine Ctr.of_body func115 J ntmps115 J (cZ (aZ (gZ J (fZ (bZ (cZ (cZ (aZ (eZ J (dZ (sZ underlying32 J J) (dZ kX ?_)))))))))))
  refine fZ (bZ (vZ J (uZ (bZ (cZ (cZ (aZ (gZ J (fZ (bZ (mQ (mX (fun i : Nat => i ≤ bs.length ∧ ∀ j, j < i → mayP (pmO o k) 2 (ad + j) = true) (fun i => [(0, .pointer (some ⟨b, 0, none⟩)), (1, .int .u32 ad), (2, .slice ba bs.length bc), (7, .int .i64 i)]) (fun _ => RS b w k (pvs o k) ts :: Fr) (fun i => bs.length - i) 0 ⟨Nat.zero_le _, fun i h => absurd h (Nat.not_lt_zero _)⟩ eS (Imp.refl _) ?_))))))))))))
  rintro i ⟨hi, hal⟩
  refine cZ (cZ (aZ (eZ J (eZ J (dZ (sZ underlying32 J J) (dZ eQ ?_))))))
  refine fZ (bZ (lQ J (fun hc => ?_) (fun hc => ?_)))
  ·try replace hc := odT hc
   refine uZ (bZ (cZ (mQ (cZ (aZ (eZ J (eZ J (dZ (cQ (c := (ad : Int)) underlying3 J J wO) (eZ J (dZ (hQ (c := ((ad + i : Nat) : Int)) J J (by rw [w64 (by omega) (by omega)]; omega)) ?_))))))))))
   refine oZ call155 J (iM) (rmay_spec W0 _ (o := o) (b := b) (w := w) (k := k) (ts := ts) (a := ((ad + i : Nat) : Int)) (how := 2) (by decide)) J ?_
   rintro ⟨⟩ -
   rw [mayP_rmay hK (.inr J)]
   generalize hrm : mayP (pmO o k) 2 (ad + i) = rm
   refine dZ (iQ J) (fZ (bZ (lQ J (fun hc => ?_) (fun hc => ?_))))
   ·try replace hc := odT hc
    refine cZ (aZ (gZ J (fZ (bZ (rZ (nQ (qZ (qZ (nQ (qZ ?_))))))))))
    have hz : i < bs.length := by omega
    rw [show outR o k ad bs = (90, o) by unfold outR; rw [if_neg hg, if_neg (by rw [mayA_f hz (by rw [hrm]; simpa using hc)]; decide)]]
    exact yZ J J () trivial J iM
   ·try replace hc := odF hc
    have hrt : rm = true := by simpa using hc
    refine uZ (tZ (bZ (aZ (eZ J (dZ (hQ J J wO) (gZ J (fZ (gX (i + 1) ⟨by omega, fun j hj => ?_⟩ (by first | omega | (simp only; omega)) eS iM))))))))
    by_cases hji : j < i
    ·exact hal j hji
    ·obtain rfl : j = i := by omega
     rw [hrm]; exact hrt
  ·try replace hc := odF hc
   obtain rfl : i = bs.length := by omega
   have hall : ∀ j, j < bs.length → ∃ x, o.vw k ((ad + j) / 256) = some x ∧ x.2.length = 256 ∧ ad + j < 1048576 := fun j hj => by
    have := hal j hj
    rw [← mayP_rmay hK (.inr J)] at this
    obtain ⟨h1, -, x, hx, -, -⟩ := rmay_iff.1 this
    exact ⟨x, hx, (hK _ _ hx).2, h1⟩
   rw [show outR o k ad bs = (0, outO o k ad bs bs.length) by unfold outR; rw [if_neg hg, if_pos (mayA_t hal)]]
   refine iX (bQ (bQ (tQ (bZ (cZ (cZ (aZ (gZ J (fZ (bZ (mQ (mX (fun i : Nat => i ≤ bs.length) (fun i => [(0, .pointer (some ⟨b, 0, none⟩)), (1, .int .u32 ad), (2, .slice ba bs.length bc), (8, .int .i64 i)]) (fun i => RS b w k (pvs (outO o k ad bs i) k) ts :: Fr) (fun i => bs.length - i) 0 (Nat.zero_le _) eS (by rw [outO_zero]; exact Imp.refl _) ?_))))))))))))
   intro j hj
   refine cZ (cZ (aZ (eZ J (eZ J (dZ (sZ underlying32 J J) (dZ eQ ?_))))))
   refine fZ (bZ (lQ J (fun hc => ?_) (fun hc => ?_)))
   ·try replace hc := odT hc
    obtain ⟨cb, hcb⟩ : ∃ cb, bs[j]? = some cb := ⟨_, List.getElem?_eq_getElem (by omega)⟩
    obtain ⟨x, hx, hxl, hlt⟩ := hall j (by omega)
    refine lX (fun w hw => SlR.shape (hr.slR.imp (Imp.drop (A := RS b _ k (pvs (outO o k ad bs j) k) ts))) (fun q => by have := congrArg List.length q; rw [bytesV_length] at this; simp only [List.length_nil] at this; omega) w hw) ?_
    rintro ⟨bb, bo, rfl⟩
    refine uZ (bZ (cZ (mQ (aZ (eZ J (eZ J (dZ (cQ (c := (ad : Int)) underlying3 J J wO) (eZ J (dZ (hQ (c := ((ad + j : Nat) : Int)) J J (by rw [w64 (by omega) (by omega)]; omega)) ?_)))))))))
    refine eZ J (eZ J (dZ (lZ underlying32 ti5 J J (by omega) (by omega)) ?_))
    refine dZ (jZ (v := byteV cb) ti5 J (by rw [show bo + (j : Int).toNat * 1 = bo + j * 1 by omega]; exact SlR.byte (hr.slR.imp iM) hcb)) ?_
    refine oZ call156 J (iM) (rput_spec W0 _ (o := outO o k ad bs j) (b := b) (w := w) (k := k) (ts := ts) (a := ad + j) (c := cb) hlt (outO_vw hx) (by rw [putP_len]; exact hxl)) J ?_
    rintro ⟨⟩ -
    rw [outO_put hx hxl hcb]
    exact fZ (tZ (bZ (aZ (eZ J (dZ (hQ J J wO) (gZ J (fZ (gX (j + 1) (by omega) (by first | omega | (simp only; omega)) eS iM))))))))
   ·try replace hc := odF hc
    refine iX (bQ (bQ (tQ (bZ (cZ (aZ (gZ J (fZ (bZ (rZ ?_))))))))))
    obtain rfl : j = bs.length := by omega
    exact yZ J J () trivial J iM
end
end Go.Proofs.YtphljkplokjonaaGreat.Sp
namespace Go.Proofs.YtphljkplokjonaaGreat.Sp
open Go Go.Sl Go.RowKit Go.Proofs Go.Proofs.YtphljkplokjonaaGreat.T Go.Proofs.YtphljkplokjonaaGreat.Me Go.Proofs.YtphljkplokjonaaGreat.Pe Go.Proofs.YtphljkplokjonaaGreat.Pg
open Go.Proofs.YtphljkplokjonaaGreat.Fz (iv oiv)
section
variable (W0 : World) (Fr : List HProp)
variable {o : Ob} {b w k : Nat} {ts : List Int}
end
end Go.Proofs.YtphljkplokjonaaGreat.Sp
namespace Go.Proofs.YtphljkplokjonaaGreat.Sp
open Go Go.Sl Go.RowKit Go.Proofs Go.Proofs.YtphljkplokjonaaGreat.T Go.Proofs.YtphljkplokjonaaGreat.Me Go.Proofs.YtphljkplokjonaaGreat.Pe Go.Proofs.YtphljkplokjonaaGreat.Pg Tryz
open Go.Proofs.YtphljkplokjonaaGreat.Fz (iv oiv)
section
variable (W0 : World) (Fr : List HProp)
variable {o : Ob} {b w k : Nat} {ts : List Int}
set_option maxHeartbeats 1000000 in
theorem rprotect_spec (p pm : Int) : Ctr prog W0 160 [.pointer (some ⟨b, 0, none⟩), .int .i64 p, .int .i64 pm] (RS b w k (pvs o k) ts :: Fr) (fun _ : Unit => True) (fun _ => .int .i64 (protO o k p pm).1) (fun _ => RS b w k (pvs (protO o k p pm).2 k) ts :: Fr) := by
 have hpl := pvs_len o k
 by_cases hg : (0 ≤ p ∧ p < 4096) ∧ 1 ≤ pm ∧ pm ≤ 7
 ·obtain ⟨q, rfl⟩ := Int.eq_ofNat_of_zero_le hg.1.1
  obtain ⟨mm, rfl⟩ := Int.eq_ofNat_of_zero_le (show 0 ≤ pm by omega)
  have hq : q < 4096 := by omega
  cases hx : o.vw k q with
  | none =>
   have e := fnd_none (o := o) (k := k) (p := (q : Int)) (by rw [vI_nat hq, hx])
   rw [show protO o k (q : Int) (mm : Int) = (90, o) by unfold protO; rw [if_neg (by omega), Int.toNat_natCast, hx]]
   refine Ctr.of_body func160 J ntmps160 J (cZ (aZ (gZ J (fZ (bZ (cZ (cZ (aZ (eZ J (oZ call200 J (iM) (rpages_ok W0 _ (q : Int)) J ?_))))))))))
   rintro ⟨⟩ -
   rw [decide_eq_true hg.1]
   refine dZ (iQ J) (eZ J (kZ J J (eZ J (kZ J J (oZ call201 J (iM) (rperms_ok W0 _ (mm : Int)) J ?_)))))
   rintro ⟨⟩ -
   rw [decide_eq_true hg.2]
   refine kZ J J (dZ (iQ J) (dZ mZ ?_))
   refine fZ (bZ (vZ J (uZ (bZ (cZ (aZ (eZ J (eZ J (oZ call198 J (iM) (rfind_spec W0 _ (b := b) (w := w) (k := k) (L := pvs o k) (ts := ts) (by omega) (q : Int)) J ?_)))))))))
   rintro ⟨⟩ -
   rw [e]
   refine gZ J (fZ (bZ (cZ (cZ (aZ (eZ J (dZ eQ ?_)))))))
   exact fZ (bZ (fQ J (cZ (aZ (gZ J (fZ (bZ (rZ (qZ (yZ J J () trivial J iM))))))))))
  | some x =>
   obtain ⟨e, -⟩ := fnd_some hq hx
   rw [show protO o k (q : Int) (mm : Int) = (0, ⟨up2 o.vw k q (some (mm, x.2)), o.ts, o.fr⟩) by unfold protO; rw [if_neg (by omega), Int.toNat_natCast, hx]; rfl]
   have hps := pvs_set (o := o) (k := k) (v := (mm, x.2)) (tb := o.ts) (fr := o.fr) hq hx
   refine Ctr.of_body func160 J ntmps160 J (cZ (aZ (gZ J (fZ (bZ (cZ (cZ (aZ (eZ J (oZ call200 J (iM) (rpages_ok W0 _ (q : Int)) J ?_))))))))))
   rintro ⟨⟩ -
   rw [decide_eq_true hg.1]
   refine dZ (iQ J) (eZ J (kZ J J (eZ J (kZ J J (oZ call201 J (iM) (rperms_ok W0 _ (mm : Int)) J ?_)))))
   rintro ⟨⟩ -
   rw [decide_eq_true hg.2]
   refine kZ J J (dZ (iQ J) (dZ mZ ?_))
   refine fZ (bZ (vZ J (uZ (bZ (cZ (aZ (eZ J (eZ J (oZ call198 J (iM) (rfind_spec W0 _ (b := b) (w := w) (k := k) (L := pvs o k) (ts := ts) (by omega) (q : Int)) J ?_)))))))))
   rintro ⟨⟩ -
   rw [e]
   refine gZ J (fZ (bZ (cZ (cZ (aZ (eZ J (dZ eQ ?_)))))))
   refine fZ (bZ (vZ J (uZ (bZ (cZ (kV (A := RS b w k (pvs o k) ts) eX rs_open ?_))))))
   rintro ⟨za, zc, zl, zta, ztc⟩ hz
   refine rX star_open ?_
   dsimp only [RSO, List.cons_append, List.nil_append] at hz ⊢
   obtain ⟨y, hy, y1, y2, y3⟩ := pv_at (z := ⟨za, zc, zl, zta, ztc⟩) hz hq hx
   dsimp only at hy
   have hil := (List.getElem?_eq_some_iff.1 hy).1
   refine lX (fun w hw => SlR.elem_shape (W0 := W0) (f := PV.cells) (xs := zl) (i := (pvTo o k q).length) (SlR.of_osl (E := 180) (a := za) (c := zc) eX) PV.len (by decide) hil w hw) ?_
   rintro ⟨ol, oo, rfl⟩
   generalize (pvTo o k q).length = ii at *
   obtain ⟨yp, ypm, ya, yc, yb⟩ := y
   dsimp only at y1 y2 y3
   subst y1 y2 y3
   refine aZ (eZ J (zZ J (pZ fa264_2 J (dZ (iZ ti36 J) ?_))))
   refine eZ J (eZ J (dZ (oQ (lZ underlying36 ti180 J J (by omega) (by omega)) (v' := .pointer (some ⟨ol, oo + ii * 3, none⟩)) (by rw [Int.toNat_natCast])) ?_))
   refine pZ fa180_1 J (sQ (fV 1 (b := ol) (o := oo) (i := ii) (fc' := PV.cells) (r := ⟨yp, x.1, ya, yc, x.2⟩) (r' := ⟨yp, mm, ya, yc, x.2⟩) (rs := zl) PV.len hy J (by decide) ti3 J J fC J J) J ?_)
   rintro ⟨⟩ -
   refine fZ (bZ (cZ (aZ (gZ J (fZ (bZ (rZ (yZ J J () trivial J (Imp.trans (B := RSO b w k ts ⟨some ⟨ol, oo, none⟩, zc, zl.set ii ⟨yp, mm, ya, yc, x.2⟩, zta, ztc⟩ ++ Fr) ?_ (rs_close _ (by rw [List.map_set, hz]; exact hps)))))))))))
   dsimp only [RSO, List.cons_append, List.nil_append]
   rw [List.length_set, List.map_set (f := fun x : PV => oby 5 x.a x.c x.b), Ms.set_self (l := zl.map fun x => oby 5 x.a x.c x.b) (by rw [List.getElem?_map, hy]; rfl)]
   exact iM
 ·rw [show protO o k p pm = (2, o) by unfold protO; rw [if_pos hg]]
  refine Ctr.of_body func160 J ntmps160 J (cZ (aZ (gZ J (fZ (bZ (cZ (cZ ?_)))))))
  rcases Decidable.em (0 ≤ p ∧ p < 4096) with hp | hp
  ·refine aZ (eZ J (oZ call200 J (iM) (rpages_ok W0 _ p) J ?_))
   rintro ⟨⟩ -
   rw [decide_eq_true hp]
   refine dZ (iQ J) (eZ J (kZ J J (eZ J (kZ J J (oZ call201 J (iM) (rperms_ok W0 _ pm) J ?_)))))
   rintro ⟨⟩ -
   rw [decide_eq_false (fun q => hg ⟨hp, q⟩)]
   refine kZ J J (dZ (iQ J) (dZ mZ ?_))
   exact fZ (bZ (fQ J (cZ (aZ (gZ J (fZ (bZ (rZ (qZ (yZ J J () trivial J iM))))))))))
  ·refine aZ (eZ J (oZ call200 J (iM) (rpages_ok W0 _ p) J ?_))
   rintro ⟨⟩ -
   rw [decide_eq_false hp]
   refine dZ (iQ J) (eZ J (gQ J J J J J (gQ J J J J J (gQ J J J J J (dZ mZ ?_)))))
   exact fZ (bZ (fQ J (cZ (aZ (gZ J (fZ (bZ (rZ (qZ (yZ J J () trivial J iM))))))))))
end
theorem plu_add {a : Option Addr} {c : Nat} {l : List PV} {x : PV} {G : List HProp} :
 Imp (oby 5 x.a x.c x.b :: osl 180 3 a c (l.length + 1) ((l.map PV.cells).flatten ++ x.cells) :: Star (l.map fun x => oby 5 x.a x.c x.b) :: G) (PLU a c (l ++ [x]) ++ G) := by
 rw [show PLU a c (l ++ [x]) = [osl 180 3 a c (l.length + 1) ((l.map PV.cells).flatten ++ x.cells), Star ((l.map fun x => oby 5 x.a x.c x.b) ++ [oby 5 x.a x.c x.b])] by simp [PLU]]
 refine Imp.trans (B := oby 5 x.a x.c x.b :: Star (l.map fun x => oby 5 x.a x.c x.b) :: osl 180 3 a c (l.length + 1) ((l.map PV.cells).flatten ++ x.cells) :: G) iM (Imp.trans star_add ?_)
 dsimp only [List.cons_append, List.nil_append]
 exact iM
section
variable (W0 : World) (Fr : List HProp)
variable {b w k : Nat} {ts : List Int} {L : List PGv}
set_option maxHeartbeats 1000000 in
theorem rpages_of (hL : L.length ≤ 4096) (hB : ∀ x ∈ L, x.2.2.length ≤ 256) : Ctr prog W0 121 [.pointer (some ⟨b, 0, none⟩)] (RS b w k L ts :: Fr) (fun z : PZ => z.l.map PV.v = L) (fun z => .slice z.a z.l.length z.c) (fun z => PLU z.a z.c z.l ++ (RS b w k L ts :: Fr)) := by
 refine Ctr.ex Ext.here rs_open ?_
 rintro ⟨za, zc, zl, zta, ztc⟩ hz
 refine Ctr.imp star_open ?_
 dsimp only [RSO, List.cons_append, List.nil_append] at hz ⊢
 have hzl : zl.length = L.length := by rw [← hz, List.length_map]
 refine Ctr.of_body func121 J ntmps121 J (cZ (aZ (gZ J (fZ (bZ (cZ (aZ (gZ J (fZ (bZ (cZ (cZ (aZ (gZ J (fZ (bZ (mQ (mX (fun y : Nat × PZ => y.1 ≤ zl.length ∧ y.2.l.map PV.v = L.take y.1 ∧ y.2.l.length = y.1) (fun y => [(0, .pointer (some ⟨b, 0, none⟩)), (3, .slice y.2.a y.2.l.length y.2.c), (4, .int .i64 y.1)]) (fun y => PLU y.2.a y.2.c y.2.l ++ (RSO b w k ts ⟨za, zc, zl, zta, ztc⟩ ++ Fr)) (fun y => zl.length - y.1) (0, ⟨none, 0, []⟩) ⟨Nat.zero_le _, rfl, rfl⟩ eS (Imp.trans star_nil (Imp.trans osl_nil iM)) ?_))))))))))))))))))
 rintro ⟨i, y⟩ ⟨hi, hy, hyl⟩
 dsimp only [RSO, PLU, List.cons_append, List.nil_append] at hi hy hyl ⊢
 refine cZ (cZ (aZ (eZ J (eZ J (zZ J (pZ fa264_2 J (dZ (iZ ti36 J) ?_)))))))
 refine dZ (sZ underlying36 J J) (dZ eQ ?_)
 refine fZ (bZ (lQ J (fun hc => ?_) (fun hc => ?_)))
 ·try replace hc := odT hc
  obtain ⟨x, hx⟩ : ∃ x, zl[i]? = some x := ⟨_, List.getElem?_eq_getElem (by omega)⟩
  have hxv : L[i]? = some x.v := by rw [← hz, List.getElem?_map, hx]; rfl
  have hxb : x.b.length ≤ 256 := hB x.v (List.mem_of_getElem? hxv)
  have hyS : (zl.map fun x => oby 5 x.a x.c x.b)[i]? = some (oby 5 x.a x.c x.b) := by rw [List.getElem?_map, hx]; rfl
  have hS : ∀ {G : List HProp}, Imp G [Star (zl.map fun x => oby 5 x.a x.c x.b)] → SlR W0 G 1 x.a x.b.length (bytesV x.b) := fun hi => SlR.imp (G' := [oby 5 x.a x.c x.b, Star ((zl.map fun x => oby 5 x.a x.c x.b).eraseIdx i)]) (SlR.of_osl (E := 5) (a := x.a) eX) (Imp.trans hi (star_take hyS))
  refine lX (fun w hw => SlR.elem_shape (W0 := W0) (f := PV.cells) (xs := zl) (i := i) (SlR.of_osl (E := 180) (a := za) (c := zc) eX) PV.len (by decide) (by omega) w hw) ?_
  rintro ⟨ol, oo, rfl⟩
  refine uZ (bZ (cZ (mQ (qQ (.lo 0 0 (.lo 1 0 (.lo 2 0 (.lo 3 0 (.lo 4 0 (.lo 5 0 (.lo 6 0 (.lo 7 0 (.lo 8 0 (.lo 9 0 (.lo 10 0 (.lo 11 0 (.lo 12 0 (.lo 13 0 (.lo 14 0 (.lo 15 0 (.lo 16 0 (.lo 18 0 (.lo 19 0 (.lo 20 0 (.lo 21 0 (.lo 22 0 (.lo 23 0 (.lo 24 0 (.lo 25 0 (.eff1 17 false (.eff1 26 false (.lo 27 1 (.eff1 28 false (.eff1 29 false (.lo 30 1 (.done)))))))))))))))))))))))))))))))) [17, 26, 28, 29] [] ([blk b [.pointer (some ⟨w, 0, none⟩), .int .i64 k, .slice (some ⟨ol, oo, none⟩) zl.length zc, .slice zta ts.length ztc] 264, osl 180 3 (some ⟨ol, oo, none⟩) zc zl.length ((zl.map PV.cells).flatten)]) ([]) mixed (by kernel_rfl) (iM) (Imp.none _) ?_))))
  refine nZ J J (nZ J J (dQ J J (wZ J fa264_2 J (hZ J (iZ ti36 J) ?_))))
  refine nZ J J (hZ J (lZ underlying36 ti180 J J (by omega) (by omega)) ?_)
  refine wZ J fa180_0 J (hZ J (jZ (v := .int .i64 x.p) ti3 J (by rw [show oo + (i : Int).toNat * 3 = oo + i * 3 by omega]; exact (SlR.elem (f := PV.cells) (xs := zl) (i := i) (SlR.of_osl (W0 := W0) (E := 180) (c := zc) eX) PV.len hx) 0 _ J)) ?_)
  refine nZ J J (dQ J J (wZ J fa264_2 J (hZ J (iZ ti36 J) ?_)))
  refine nZ J J (hZ J (lZ underlying36 ti180 J J (by omega) (by omega)) ?_)
  refine wZ J fa180_1 J (hZ J (jZ (v := .int .i64 x.pm) ti3 J (by rw [show oo + (i : Int).toNat * 3 + 1 = oo + i * 3 + 1 by omega]; exact (SlR.elem (f := PV.cells) (xs := zl) (i := i) (SlR.of_osl (W0 := W0) (E := 180) (c := zc) eX) PV.len hx) 1 _ J)) ?_)
  refine nZ J J (dQ J J (wZ J fa264_2 J (hZ J (iZ ti36 J) ?_)))
  refine nZ J J (hZ J (lZ underlying36 ti180 J J (by omega) (by omega)) ?_)
  refine wZ J fa180_2 J (hZ J (jZ (v := .slice x.a x.b.length x.c) ti32 J (by rw [show oo + (i : Int).toNat * 3 + 2 = oo + i * 3 + 2 by omega]; exact (SlR.elem (f := PV.cells) (xs := zl) (i := i) (SlR.of_osl (W0 := W0) (E := 180) (c := zc) eX) PV.len hx) 2 _ J)) ?_)
  refine aQ (wQ J J (sX underlying32 ti5 J) J (fun _ => iM) (fun _ => Imp.refl _) (fun _ => iM) ?_)
  rintro b31 -
  refine aQ (wQ J J (nV (ys := x.b) J J J underlying32 underlying32 ti5 (by decide) fC (hS iM) (by omega)) J (fun _ => iM) (fun _ => Imp.refl _) (fun _ => iM) ?_)
  rintro ⟨a40, c40⟩ -
  refine hZ J (aX (pvs := [(0, .int .i64 x.p), (1, .int .i64 x.pm), (2, .slice a40 x.b.length c40)]) bu180 ti180 J (cells := PV.cells ⟨x.p, x.pm, a40, c40, x.b⟩) J) (aQ (wQ J J (aV [.tmp 41] (vs := [.agg (PV.cells ⟨x.p, x.pm, a40, c40, x.b⟩).toArray]) (cells := PV.cells ⟨x.p, x.pm, a40, c40, x.b⟩) underlying36 ti180 J J J J (by decide) (by simp [Value.cells, PV.cells]) (by simp [Value.cells])) J (fun _ => iM) (fun _ => Imp.refl _) (fun _ => iM) ?_))
  rintro b42 -
  refine aQ (wQ J J (fX (a := y.a) (c := y.c) (m := y.l.length) (xs := (y.l.map PV.cells).flatten) (k := 1) (ys := PV.cells ⟨x.p, x.pm, a40, c40, x.b⟩) J J J underlying36 underlying36 ti180 J (by decide) fC (SlR.of_osl (a := some ⟨b42, 0, none⟩) eX) (PV.ones _) (by omega)) J (fun _ => iM) (fun _ => Imp.refl _) (fun _ => iM) ?_)
  rintro ⟨pa2, pc2⟩ -
  refine hZ J (jQ J) (pQ (tZ (bZ (aZ (eZ J (dZ (hQ J J wO) (gZ J (fZ (gX (i + 1, ⟨pa2, pc2, y.l ++ [⟨x.p, x.pm, a40, c40, x.b⟩]⟩) ⟨by simp only; omega, ?_, by simp only [List.length_append, List.length_cons, List.length_nil]; omega⟩ (by simp only; omega) (by simp only [List.length_append, List.length_cons, List.length_nil]; exact eS) (Imp.trans (B := oby 5 a40 c40 x.b :: osl 180 3 pa2 pc2 (y.l.length + 1) ((y.l.map PV.cells).flatten ++ PV.cells ⟨x.p, x.pm, a40, c40, x.b⟩) :: Star (y.l.map fun x => oby 5 x.a x.c x.b) :: (RSO b w k ts ⟨some ⟨ol, oo, none⟩, zc, zl, zta, ztc⟩ ++ Fr)) iM (plu_add (x := ⟨x.p, x.pm, a40, c40, x.b⟩))))))))))))
  obtain ⟨q1, q2⟩ := List.getElem?_eq_some_iff.1 hxv
  simp only [List.map_append, hy]
  rw [List.take_succ_eq_append_getElem q1, q2]; rfl
 ·try replace hc := odF hc
  refine iX (bQ (bQ (tQ (bZ (cZ (aZ (eZ J (gZ J (fZ (bZ (rZ ?_)))))))))))
  obtain rfl : i = zl.length := by omega
  refine yZ J J y (by rw [hy, hzl, List.take_length]) J (Imp.trans (B := RSO b w k ts ⟨za, zc, zl, zta, ztc⟩ ++ (PLU y.a y.c y.l ++ Fr)) iM (Imp.trans (rs_close _ hz) iM))
end
end Go.Proofs.YtphljkplokjonaaGreat.Sp
namespace Go.Proofs.YtphljkplokjonaaGreat.Sp
open Go Go.Sl Go.RowKit Go.Proofs Go.Proofs.YtphljkplokjonaaGreat.T Go.Proofs.YtphljkplokjonaaGreat.Me Go.Proofs.YtphljkplokjonaaGreat.Pe Go.Proofs.YtphljkplokjonaaGreat.Pg
open Go.Proofs.YtphljkplokjonaaGreat.Fz (iv oiv)
def insP (zl : List PV) (pos : Nat) (x : PV) : List PV := zl.take pos ++ x :: zl.drop pos
def cutP (pos i : Nat) : Nat := if i ≤ pos then i else i + 1
theorem insP_len {zl : List PV} {pos : Nat} {x : PV} (h : pos ≤ zl.length) : (insP zl pos x).length = zl.length + 1 := by unfold insP; rw [List.length_append, List.length_cons, List.length_take, List.length_drop]; omega
theorem insP_at {zl : List PV} {pos : Nat} {x : PV} (h : pos ≤ zl.length) : (insP zl pos x)[pos]? = some x := by
 unfold insP
 have e : (zl.take pos).length = pos := by rw [List.length_take]; omega
 rw [List.getElem?_append_right (by omega), e, Nat.sub_self]; rfl
theorem insP_lo {zl : List PV} {pos i : Nat} {x : PV} (h : pos ≤ zl.length) (hi : i < pos) : (insP zl pos x)[i]? = zl[i]? := by
 unfold insP
 have e : (zl.take pos).length = pos := by rw [List.length_take]; omega
 rw [List.getElem?_append_left (by omega), List.getElem?_take, if_pos hi]
theorem insP_hi {zl : List PV} {pos i : Nat} {x : PV} (h : pos ≤ zl.length) (hi : pos ≤ i) : (insP zl pos x)[i + 1]? = zl[i]? := by
 unfold insP
 have e : (zl.take pos).length = pos := by rw [List.length_take]; omega
 rw [List.getElem?_append_right (by omega), e, show i + 1 - pos = (i - pos) + 1 by omega, List.getElem?_cons_succ, List.getElem?_drop]; congr 1; omega
theorem take_snoc {l : List PV} {i : Nat} {x : PV} (hx : l[i]? = some x) : l.take (i + 1) = l.take i ++ [x] := by
 obtain ⟨q1, q2⟩ := List.getElem?_eq_some_iff.1 hx
 rw [List.take_succ_eq_append_getElem q1, q2]
theorem pos_cmp {o : Ob} {k p : Nat} {zl : List PV} {i : Nat} {y : PV} (hz : zl.map PV.v = pvs o k) (hp : p < 4096) (hn : o.vw k p = none) (hy : zl[i]? = some y) : (i < (pvTo o k p).length → y.p < p) ∧ ((pvTo o k p).length ≤ i → p < y.p) := by
 have e := pvs_cut o k hp
 rw [hn, ← hz] at e
 have h : (zl.map PV.v)[i]? = some y.v := by rw [List.getElem?_map, hy]; rfl
 rw [e, show optP p none = [] from J, List.append_nil] at h
 constructor
 ·intro hi
  rw [List.getElem?_append_left hi] at h
  exact (pvTo_in (List.mem_of_getElem? h)).1
 ·intro hi
  rw [List.getElem?_append_right hi] at h
  have := pvR_in (List.mem_of_getElem? h)
  have e2 : y.v.1 = y.p := rfl
  omega
theorem ins_pvs {o : Ob} {k fr : Nat} {x : PV} {zl : List PV} {tb : Nat → Nat → Bool} (hz : zl.map PV.v = pvs o k) (hp : x.p < 4096) (hn : o.vw k x.p = none) : (insP zl (pvTo o k x.p).length x).map PV.v = pvs ⟨up2 o.vw k x.p (some (x.pm, x.b)), tb, fr⟩ k := by
 have e := pvs_cut o k hp
 rw [hn, show optP x.p none = [] from J, List.append_nil] at e
 unfold insP
 rw [List.map_append, List.map_cons, List.map_take, List.map_drop, hz, e, pvs_upd hp, List.take_left' J, List.drop_left' J]
 simp [optP, PV.v]
structure TsOk (o : Ob) (k : Nat) (ts : List Int) : Prop where
 mem : ∀ g : Nat, o.ts k g = true ↔ (g : Int) ∈ ts
 len : ts.length = cN (o.ts k) 64
theorem TsOk.le {o : Ob} {k : Nat} {ts : List Int} (h : TsOk o k ts) : ts.length ≤ 64 := by rw [h.len]; exact cN_le _ _
def insT (ts : List Int) (p : Nat) : List Int := if ((p / 64 : Nat) : Int) ∈ ts then ts else ts ++ [((p / 64 : Nat) : Int)]
theorem tsOk_up {o o' : Ob} {k p : Nat} {ts : List Int} (h : TsOk o k ts) (hp : p < 4096) (e : o'.ts = up2 o.ts k (p / 64) true) : TsOk o' k (insT ts p) := by
 have hc := cN_ts (h := o.ts) (k := k) (g := p / 64) (k' := k) (m := 64) (by omega)
 have hm := h.mem (p / 64)
 have hl := h.len
 unfold insT
 constructor
 ·intro g
  rw [e]
  by_cases hg : g = p / 64
  ·subst hg
   rw [up2_at]
   split <;> simp_all
  ·rw [up2_ne (by omega), h.mem g]
   split
   ·rfl
   ·simp only [List.mem_append, List.mem_singleton]
    constructor
    ·exact .inl
    ·rintro (q | q)
     ·exact q
     ·omega
 ·rw [e]
  by_cases hq : ((p / 64 : Nat) : Int) ∈ ts
  ·rw [if_pos hq, hl, hc, if_neg (by rw [hm.2 hq]; simp)]; rfl
  ·rw [if_neg hq, List.length_append, hl, hc, if_pos ⟨rfl, by cases h2 : o.ts k (p / 64) with | false => rfl | true => exact absurd (hm.1 h2) hq⟩]; rfl
def layT (ts : List Int) : List PGv → List Int
 | [] => ts
 | x :: l => layT (insT ts x.1) l
theorem layT_snoc {x : PGv} : ∀ {l : List PGv} {ts : List Int}, layT ts (l ++ [x]) = insT (layT ts l) x.1
 | [], _ => rfl
 | y :: l, ts => by show layT (insT ts y.1) (l ++ [x]) = _; rw [layT_snoc]; rfl
theorem tsOk_lay {k : Nat} : ∀ {l : List PGv} {o : Ob} {ts : List Int}, (∀ x ∈ l, x.1 < 4096) → TsOk o k ts → TsOk (layL o k l) k (layT ts l)
 | [], _, _, _, h => h
 | x :: l, o, ts, hl, h => tsOk_lay (l := l) (o := lay1 o k x) (ts := insT ts x.1) (fun y hy => hl y (List.mem_cons_of_mem _ hy)) (tsOk_up h (hl x (List.mem_cons_self ..)) J)
theorem take_snoc' {α : Type} {l : List α} {i : Nat} {x : α} (hx : l[i]? = some x) : l.take (i + 1) = l.take i ++ [x] := by
 obtain ⟨q1, q2⟩ := List.getElem?_eq_some_iff.1 hx
 rw [List.take_succ_eq_append_getElem q1, q2]
def newT (o : Ob) (k : Nat) : List Int → List PGv → List Int
 | tb, [] => tb
 | tb, x :: l => newT o k (if o.ts k (x.1 / 64) = true ∨ ((x.1 / 64 : Nat) : Int) ∈ tb then tb else tb ++ [((x.1 / 64 : Nat) : Int)]) l
theorem newT_snoc {o : Ob} {k : Nat} {x : PGv} : ∀ {l : List PGv} {tb : List Int}, newT o k tb (l ++ [x]) = (if o.ts k (x.1 / 64) = true ∨ ((x.1 / 64 : Nat) : Int) ∈ newT o k tb l then newT o k tb l else newT o k tb l ++ [((x.1 / 64 : Nat) : Int)])
 | [], _ => rfl
 | y :: l, tb => by simp only [List.cons_append, newT]; exact newT_snoc
theorem newT_in {o : Ob} {k : Nat} : ∀ {l : List PGv} {o' : Ob} {tb : List Int}, (∀ g : Nat, o'.ts k g = true ↔ (o.ts k g = true ∨ (g : Int) ∈ tb)) → ∀ g : Nat, (layL o' k l).ts k g = true ↔ (o.ts k g = true ∨ (g : Int) ∈ newT o k tb l)
 | [], _, _, h => h
 | x :: l, o', tb, h => by
  refine newT_in (l := l) (o' := lay1 o' k x) fun g => ?_
  show up2 o'.ts k (x.1 / 64) true k g = true ↔ _
  by_cases hg : g = x.1 / 64
  ·subst hg
   rw [up2_at]
   split
   ·rename_i q; simpa using q
   ·simp
  ·rw [up2_ne (by omega), h g]
   split
   ·rfl
   ·simp only [List.mem_append, List.mem_singleton]
    constructor
    ·rintro (q | q)
     ·exact .inl q
     ·exact .inr (.inl q)
    ·rintro (q | q | q)
     ·exact .inl q
     ·exact .inr q
     ·omega
theorem newT_len {o : Ob} {k : Nat} : ∀ {l : List PGv} {tb : List Int}, (newT o k tb l).length ≤ tb.length + l.length
 | [], _ => Nat.le_refl _
 | x :: l, tb => by
  have := newT_len (o := o) (k := k) (l := l) (tb := if o.ts k (x.1 / 64) = true ∨ ((x.1 / 64 : Nat) : Int) ∈ tb then tb else tb ++ [((x.1 / 64 : Nat) : Int)])
  unfold newT
  rw [List.length_cons]
  split at this <;> simp_all <;> omega
theorem needL_le {k : Nat} : ∀ {l : List PGv} {o : Ob}, l.length ≤ needL o k l ∧ needL o k l ≤ 2 * l.length
 | [], _ => ⟨Nat.le_refl _, Nat.le_refl _⟩
 | x :: l, o => by
  have := needL_le (k := k) (l := l) (o := lay1 o k x)
  have h : 1 ≤ cost1 o k x.1 ∧ cost1 o k x.1 ≤ 2 := by unfold cost1; split <;> omega
  simp only [needL, List.length_cons]; omega
theorem nob_all {o : Ob} {k : Nat} {l : List PGv} {i : Nat} {x : PGv} (hx : l[i]? = some x) (h : ∀ y ∈ l.take i, o.vw k y.1 = none) (hp : o.vw k x.1 = none) : ∀ y ∈ l.take (i + 1), o.vw k y.1 = none := take_all (P := fun y => o.vw k y.1 = none) hx h hp
end Go.Proofs.YtphljkplokjonaaGreat.Sp
namespace Go.Proofs.YtphljkplokjonaaGreat.Sp
open Go Go.Sl Go.RowKit Go.Proofs Go.Proofs.YtphljkplokjonaaGreat.T Go.Proofs.YtphljkplokjonaaGreat.Me Go.Proofs.YtphljkplokjonaaGreat.Pe Go.Proofs.YtphljkplokjonaaGreat.Pg Tryz
open Go.Proofs.YtphljkplokjonaaGreat.Fz (iv oiv iv_append iv_ones)
abbrev outL (zl : List PV) (pos : Nat) (x : PV) (i : Nat) : List PV := (insP zl pos x).take (cutP pos i)
theorem outL_lo {zl : List PV} {pos i : Nat} {x y : PV} (h : pos ≤ zl.length) (hi : i < pos) (hy : zl[i]? = some y) : outL zl pos x (i + 1) = outL zl pos x i ++ [y] := by
 unfold outL cutP; rw [if_pos (by omega), if_pos (by omega)]; exact take_snoc (by rw [insP_lo h hi]; exact hy)
theorem outL_at {zl : List PV} {pos : Nat} {x y : PV} (h : pos ≤ zl.length) (hy : zl[pos]? = some y) : outL zl pos x (pos + 1) = outL zl pos x pos ++ [x] ++ [y] := by
 unfold outL cutP; rw [if_neg (by omega), if_pos (Nat.le_refl _), take_snoc (by rw [insP_hi h (Nat.le_refl _)]; exact hy), take_snoc (insP_at h)]
theorem outL_hi {zl : List PV} {pos i : Nat} {x y : PV} (h : pos ≤ zl.length) (hi : pos < i) (hy : zl[i]? = some y) : outL zl pos x (i + 1) = outL zl pos x i ++ [y] := by
 unfold outL cutP; rw [if_neg (by omega), if_neg (by omega)]; exact take_snoc (by rw [insP_hi h (by omega)]; exact hy)
theorem outL_end {zl : List PV} {pos : Nat} {x : PV} (h : pos < zl.length) : outL zl pos x zl.length = insP zl pos x := by
 unfold outL cutP; rw [if_neg (by omega)]; exact List.take_of_length_le (by rw [insP_len (by omega)]; omega)
theorem outL_last {zl : List PV} {x : PV} : insP zl zl.length x = outL zl zl.length x zl.length ++ [x] := by
 unfold outL cutP; rw [if_pos (Nat.le_refl _)]
 have h1 := take_snoc (insP_at (zl := zl) (x := x) (Nat.le_refl zl.length))
 rw [← h1]; exact (List.take_of_length_le (by rw [insP_len (Nat.le_refl _)]; omega)).symm
theorem outL_len {zl : List PV} {pos i : Nat} {x : PV} (h : pos ≤ zl.length) : (outL zl pos x i).length ≤ zl.length + 1 := by
 unfold outL; rw [List.length_take, insP_len h]; omega
theorem osl_snoc {a : Option Addr} {c : Nat} {l : List PV} {x : PV} {G : List HProp} : Imp (osl 180 3 a c (l.length + 1) ((l.map PV.cells).flatten ++ x.cells) :: G) (osl 180 3 a c (l ++ [x]).length (((l ++ [x]).map PV.cells).flatten) :: G) := by
 rw [show osl 180 3 a c (l ++ [x]).length (((l ++ [x]).map PV.cells).flatten) = osl 180 3 a c (l.length + 1) ((l.map PV.cells).flatten ++ x.cells) by simp]
 exact Imp.refl _
abbrev obx (x : PV) : HProp := oby 5 x.a x.c x.b
theorem star_ins {zl : List PV} {pos : Nat} {x : PV} {G : List HProp} (h : pos ≤ zl.length) : Imp (obx x :: Star (zl.map obx) :: G) (Star ((insP zl pos x).map obx) :: G) := by
 have h1 : ((insP zl pos x).map obx)[pos]? = some (obx x) := by rw [List.getElem?_map, insP_at h]; rfl
 have h2 := star_put (B := obx x) (G := G) h1
 have e1 : ((insP zl pos x).map obx).eraseIdx pos = zl.map obx := by
  unfold insP
  have el : ((zl.take pos).map obx).length = pos := by rw [List.length_map, List.length_take]; omega
  rw [List.map_append, List.eraseIdx_append_of_length_le (by omega), el, Nat.sub_self, List.map_cons, List.eraseIdx_zero, List.tail_cons, ← List.map_append, List.take_append_drop]
 rw [e1, Ms.set_self h1] at h2
 exact h2
section
variable (W0 : World) (Fr : List HProp)
variable {o : Ob} {b w k : Nat} {ts : List Int}
set_option maxHeartbeats 2000000 in
theorem rlay_spec {x : PV} {fr : Nat} {tb : Nat → Nat → Bool} (hp : x.p < 4096) (hn : o.vw k x.p = none) (hts : ts.length ≤ 64) : Ctr prog W0 225 [.pointer (some ⟨b, 0, none⟩), .agg x.cells.toArray] (oby 5 x.a x.c x.b :: RS b w k (pvs o k) ts :: Fr) (fun _ : Unit => True) (fun _ => .tuple #[])
 (fun _ => RS b w k (pvs ⟨up2 o.vw k x.p (some (x.pm, x.b)), tb, fr⟩ k) (insT ts x.p) :: Fr) := by
 have hpl := pvs_len o k
 refine Ctr.imp (Imp.trans (B := RS b w k (pvs o k) ts :: oby 5 x.a x.c x.b :: Fr) iM (Imp.refl _)) ?_
 refine Ctr.ex Ext.here rs_open ?_
 rintro ⟨za, zc, zl, zta, ztc⟩ hz
 refine Ctr.imp star_open ?_
 dsimp only [RSO, List.cons_append, List.nil_append] at hz ⊢
 have hzl : zl.length = (pvs o k).length := by rw [← hz, List.length_map]
 have hins := ins_pvs (fr := fr) (tb := tb) hz hp hn
 have hcmp := fun (i : Nat) (y : PV) => pos_cmp (i := i) (y := y) hz hp hn
 have hpos : (pvTo o k x.p).length ≤ zl.length := by
  have e := pvs_cut o k hp
  rw [hzl, e]; simp only [List.length_append]; omega
 generalize (pvTo o k x.p).length = pos at *
 have hzl4 : zl.length ≤ 4096 := by omega
 refine Ctr.of_body func225 J ntmps225 J (cZ (aZ (kQ (uX J) J ?_)))
 rintro b3 -
 refine fZ (bZ (cZ (aZ (gZ J (fZ (bZ (cZ (aZ (gZ J (fZ (bZ (cZ (cZ (aZ (gZ J (fZ (bZ (mQ (mX (fun y : Nat × Option Addr × Nat => y.1 ≤ zl.length) (fun y => [(0, .pointer (some ⟨b, 0, none⟩)), (3, .pointer (some ⟨b3, 0, none⟩)), (4, .slice y.2.1 (outL zl pos x y.1).length y.2.2), (5, .bool (decide (pos < y.1))), (6, .int .i64 y.1)]) (fun y => osl 180 3 y.2.1 y.2.2 (outL zl pos x y.1).length (((outL zl pos x y.1).map PV.cells).flatten) :: blk b3 x.cells 180 :: (RSO b w k ts ⟨za, zc, zl, zta, ztc⟩ ++ (oby 5 x.a x.c x.b :: Fr))) (fun y => zl.length - y.1) (0, none, 0) (Nat.zero_le _) eS (Imp.trans osl_nil iM) ?_)))))))))))))))))))
 rintro ⟨i, ya, yc⟩ hi
 dsimp only [RSO, List.cons_append, List.nil_append] at hi ⊢
 have hol := outL_len (i := i) (x := x) hpos
 refine cZ (cZ (aZ (eZ J (eZ J (zZ J (pZ fa264_2 J (dZ (iZ ti36 J) ?_)))))))
 refine dZ (sZ underlying36 J J) (dZ eQ ?_)
 refine fZ (bZ (lQ J (fun hc => ?_) (fun hc => ?_)))
 ·try replace hc := odT hc
  obtain ⟨y, hy⟩ : ∃ y, zl[i]? = some y := ⟨_, List.getElem?_eq_getElem (by omega)⟩
  have hil := (List.getElem?_eq_some_iff.1 hy).1
  obtain ⟨hc1, hc2⟩ := hcmp i y hy
  refine lX (fun w hw => SlR.elem_shape (W0 := W0) (f := PV.cells) (xs := zl) (i := i) (SlR.of_osl (E := 180) (a := za) (c := zc) eX) PV.len (by decide) hil w hw) ?_
  rintro ⟨ol, oo, rfl⟩
  refine uZ (bZ (cZ (mQ (cZ (cZ ?_)))))
  rcases (show i < pos ∨ i = pos ∨ pos < i by omega) with hh | hh | hh
  ·have e1 := outL_lo (x := x) hpos hh hy
   have hlt := hc1 hh
   rw [show decide (pos < i) = false from decide_eq_false (by omega)]
   generalize outL zl pos x i = out at e1 hol ⊢
   refine qQ (.lo 0 1 (.lo 1 1 (.lo 2 1 (.lo 3 1 (.lo 4 1 (.lo 5 1 (.lo 6 1 (.lo 7 1 (.lo 8 1 (.lo 9 1 (.lo 10 1 (.lo 11 1 (.lo 12 1 (.lo 13 1 (.lo 14 1 (.done)))))))))))))))) [] [] ([]) ([]) mixed (by kernel_rfl) (Imp.none _) (Imp.none _) (nZ J J (hZ J (iQ J) (nZ J J (nZ J J (dQ J J (wZ J fa264_2 J (hZ J (iZ ti36 J) ?_)))))))
   refine nZ J J (hZ J (lZ underlying36 ti180 J J (by omega) (by omega)) ?_)
   refine wZ J fa180_0 J (hZ J (jZ (v := .int .i64 y.p) ti3 J (by rw [show oo + (i : Int).toNat * 3 = oo + i * 3 by omega]; exact (SlR.elem (f := PV.cells) (xs := zl) (i := i) (SlR.of_osl (W0 := W0) (E := 180) (a := some ⟨ol, oo, none⟩) (c := zc) eX) PV.len hy) 0 _ J)) ?_)
   refine wZ J fa180_0 J (hZ J (jZ (v := .int .i64 x.p) ti3 J (Cel.of_blk eX J)) ?_)
   refine hZ J kX ?_
   refine hZ J mZ ?_
   refine pQ (bZ (vZ J (uZ (bZ (aZ (eZ J (eZ J (zZ J (pZ fa264_2 J (dZ (iZ ti36 J) ?_))))))))))
   refine eZ J (dZ (lZ underlying36 ti180 J J (by omega) (by omega)) ?_)
   refine dZ (zQ (vs := y.cells) ti180 J (PV.len _) (by rw [show oo + (i : Int).toNat * 3 = oo + i * 3 by omega]; exact SlR.elem (f := PV.cells) (xs := zl) (i := i) (SlR.of_osl (W0 := W0) (E := 180) (a := some ⟨ol, oo, none⟩) (c := zc) eX) PV.len hy)) ?_
   refine kQ (aV [.tmp 42] (vs := [.agg y.cells.toArray]) (cells := y.cells) underlying36 ti180 J J J J (by decide) (by simp [Value.cells, PV.cells]) (by simp [Value.cells])) J ?_
   rintro b43 -
   refine kQ (fX (a := ya) (c := yc) (m := out.length) (xs := (out.map PV.cells).flatten) (k := 1) (ys := y.cells) J J J underlying36 underlying36 ti180 J (by decide) fC (SlR.of_osl (a := some ⟨b43, 0, none⟩) eX) (PV.ones _) (by omega)) J ?_
   rintro ⟨yb, yd⟩ -
   refine gZ J (fZ (tZ (bZ (aZ (eZ J (dZ (hQ J J wO) (gZ J (fZ (gX (i + 1, yb, yd) (by simp only; omega) (by simp only; omega) ?_ ?_)))))))))
   ·dsimp only; rw [e1, List.length_append, show decide (pos < i + 1) = false from decide_eq_false (by omega)]; exact eS
   ·dsimp only; rw [e1]; exact Imp.trans (B := osl 180 3 yb yd (out.length + 1) ((out.map PV.cells).flatten ++ y.cells) :: blk b3 x.cells 180 :: (RSO b w k ts ⟨some ⟨ol, oo, none⟩, zc, zl, zta, ztc⟩ ++ (oby 5 x.a x.c x.b :: Fr))) iM osl_snoc
  ·subst hh
   have e1 := outL_at (x := x) hpos hy
   have hlt := hc2 (Nat.le_refl _)
   rw [show decide (i < i) = false from decide_eq_false (by omega)]
   generalize outL zl i x i = out at e1 hol ⊢
   refine qQ (.lo 0 1 (.lo 1 1 (.lo 2 1 (.lo 3 1 (.lo 4 1 (.lo 5 1 (.lo 6 1 (.lo 7 1 (.lo 8 1 (.lo 9 1 (.lo 10 1 (.lo 11 1 (.lo 12 1 (.lo 13 1 (.lo 14 1 (.done)))))))))))))))) [] [] ([]) ([]) mixed (by kernel_rfl) (Imp.none _) (Imp.none _) (nZ J J (hZ J (iQ J) (nZ J J (nZ J J (dQ J J (wZ J fa264_2 J (hZ J (iZ ti36 J) ?_)))))))
   refine nZ J J (hZ J (lZ underlying36 ti180 J J (by omega) (by omega)) ?_)
   refine wZ J fa180_0 J (hZ J (jZ (v := .int .i64 y.p) ti3 J (by rw [show oo + (i : Int).toNat * 3 = oo + i * 3 by omega]; exact (SlR.elem (f := PV.cells) (xs := zl) (i := i) (SlR.of_osl (W0 := W0) (E := 180) (a := some ⟨ol, oo, none⟩) (c := zc) eX) PV.len hy) 0 _ J)) ?_)
   refine wZ J fa180_0 J (hZ J (jZ (v := .int .i64 x.p) ti3 J (Cel.of_blk eX J)) ?_)
   refine hZ J kX ?_
   refine hZ J mZ ?_
   refine pQ (bZ (fQ J (cZ (aZ (eZ J (dZ (zQ (vs := x.cells) ti180 J (PV.len _) (Row.of_blk (b := b3) eX J)) ?_))))))
   refine kQ (aV [.tmp 32] (vs := [.agg x.cells.toArray]) (cells := x.cells) underlying36 ti180 J J J J (by decide) (by simp [Value.cells, PV.cells]) (by simp [Value.cells])) J ?_
   rintro b33 -
   refine kQ (fX (a := ya) (c := yc) (m := out.length) (xs := (out.map PV.cells).flatten) (k := 1) (ys := x.cells) J J J underlying36 underlying36 ti180 J (by decide) fC (SlR.of_osl (a := some ⟨b33, 0, none⟩) eX) (PV.ones _) (by omega)) J ?_
   rintro ⟨ya2, yc2⟩ -
   refine gZ J (fZ (bZ (aZ (gZ J (fZ (bZ (aZ (eZ J (eZ J (zZ J (pZ fa264_2 J (dZ (iZ ti36 J) ?_))))))))))))
   refine eZ J (dZ (lZ underlying36 ti180 J J (by omega) (by omega)) ?_)
   refine dZ (zQ (vs := y.cells) ti180 J (PV.len _) (by rw [show oo + (i : Int).toNat * 3 = oo + i * 3 by omega]; exact SlR.elem (f := PV.cells) (xs := zl) (i := i) (SlR.of_osl (W0 := W0) (E := 180) (a := some ⟨ol, oo, none⟩) (c := zc) eX) PV.len hy)) ?_
   refine kQ (aV [.tmp 42] (vs := [.agg y.cells.toArray]) (cells := y.cells) underlying36 ti180 J J J J (by decide) (by simp [Value.cells, PV.cells]) (by simp [Value.cells])) J ?_
   rintro b43 -
   refine kQ (fX (a := ya2) (c := yc2) (m := out.length + 1) (xs := (out.map PV.cells).flatten ++ x.cells) (k := 1) (ys := y.cells) J J J underlying36 underlying36 ti180 J (by decide) fC (SlR.of_osl (a := some ⟨b43, 0, none⟩) eX) (PV.ones _) (by omega)) J ?_
   rintro ⟨yb, yd⟩ -
   refine gZ J (fZ (tZ (bZ (aZ (eZ J (dZ (hQ J J wO) (gZ J (fZ (gX (i + 1, yb, yd) (by simp only; omega) (by simp only; omega) ?_ ?_)))))))))
   ·dsimp only; rw [e1, List.length_append, List.length_append, show decide (i < i + 1) = true from decide_eq_true (by omega)]; exact eS
   ·dsimp only; rw [e1]; refine Imp.trans (B := osl 180 3 yb yd ((out ++ [x]).length + 1) (((out ++ [x]).map PV.cells).flatten ++ y.cells) :: blk b3 x.cells 180 :: (RSO b w k ts ⟨some ⟨ol, oo, none⟩, zc, zl, zta, ztc⟩ ++ (oby 5 x.a x.c x.b :: Fr))) ?_ osl_snoc
    rw [show osl 180 3 yb yd ((out ++ [x]).length + 1) (((out ++ [x]).map PV.cells).flatten ++ y.cells) = osl 180 3 yb yd (out.length + 1 + 1) ((out.map PV.cells).flatten ++ x.cells ++ y.cells) by simp]
    exact iM
  ·have e1 := outL_hi (x := x) hpos hh hy
   rw [show decide (pos < i) = true from decide_eq_true hh]
   generalize outL zl pos x i = out at e1 hol ⊢
   refine qQ (.lo 0 1 (.lo 1 1 (.lo 2 1 (.lo 3 1 (.lo 4 1 (.lo 5 1 (.lo 6 1 (.lo 7 1 (.lo 8 1 (.lo 9 1 (.lo 10 1 (.lo 11 1 (.lo 12 1 (.lo 13 1 (.lo 14 1 (.done)))))))))))))))) [] [] ([]) ([]) mixed (by kernel_rfl) (Imp.none _) (Imp.none _) (nZ J J (hZ J (iQ J) (nZ J J (dX J J J (dX J J J (dX J J J (dX J J J (dX J J J (dX J J J (dX J J J (dX J J J (dX J J J (dX J J J (dX J J J (hZ J mZ ?_)))))))))))))))
   refine pQ (bZ (vZ J (uZ (bZ (aZ (eZ J (eZ J (zZ J (pZ fa264_2 J (dZ (iZ ti36 J) ?_))))))))))
   refine eZ J (dZ (lZ underlying36 ti180 J J (by omega) (by omega)) ?_)
   refine dZ (zQ (vs := y.cells) ti180 J (PV.len _) (by rw [show oo + (i : Int).toNat * 3 = oo + i * 3 by omega]; exact SlR.elem (f := PV.cells) (xs := zl) (i := i) (SlR.of_osl (W0 := W0) (E := 180) (a := some ⟨ol, oo, none⟩) (c := zc) eX) PV.len hy)) ?_
   refine kQ (aV [.tmp 42] (vs := [.agg y.cells.toArray]) (cells := y.cells) underlying36 ti180 J J J J (by decide) (by simp [Value.cells, PV.cells]) (by simp [Value.cells])) J ?_
   rintro b43 -
   refine kQ (fX (a := ya) (c := yc) (m := out.length) (xs := (out.map PV.cells).flatten) (k := 1) (ys := y.cells) J J J underlying36 underlying36 ti180 J (by decide) fC (SlR.of_osl (a := some ⟨b43, 0, none⟩) eX) (PV.ones _) (by omega)) J ?_
   rintro ⟨yb, yd⟩ -
   refine gZ J (fZ (tZ (bZ (aZ (eZ J (dZ (hQ J J wO) (gZ J (fZ (gX (i + 1, yb, yd) (by simp only; omega) (by simp only; omega) ?_ ?_)))))))))
   ·dsimp only; rw [e1, List.length_append, show decide (pos < i + 1) = true from decide_eq_true (by omega)]; exact eS
   ·dsimp only; rw [e1]; exact Imp.trans (B := osl 180 3 yb yd (out.length + 1) ((out.map PV.cells).flatten ++ y.cells) :: blk b3 x.cells 180 :: (RSO b w k ts ⟨some ⟨ol, oo, none⟩, zc, zl, zta, ztc⟩ ++ (oby 5 x.a x.c x.b :: Fr))) iM osl_snoc
 ·try replace hc := odF hc
  refine iX (bQ (bQ (tQ (bZ (CG.cut (fun y : Option Addr × Nat => True) (fun y => [(0, .pointer (some ⟨b, 0, none⟩)), (3, .pointer (some ⟨b3, 0, none⟩)), (4, .slice y.1 (insP zl pos x).length y.2)]) (fun y => osl 180 3 y.1 y.2 (insP zl pos x).length (((insP zl pos x).map PV.cells).flatten) :: blk b3 x.cells 180 :: (RSO b w k ts ⟨za, zc, zl, zta, ztc⟩ ++ (oby 5 x.a x.c x.b :: Fr))) ?_ ?_)))))
  ·refine cZ ?_
   rcases (show pos < zl.length ∨ pos = zl.length by omega) with hh | hh
   ·obtain rfl : i = zl.length := by omega
    rw [show decide (pos < zl.length) = true from decide_eq_true hh, outL_end hh]
    exact aZ (eZ J (dZ (iQ J) (fZ (bZ (vZ J (uZ (pV (ya, yc) trivial eS iM)))))))
   ·obtain rfl : i = zl.length := by omega
    subst hh
    have e2 := outL_last (zl := zl) (x := x)
    rw [show decide (zl.length < zl.length) = false from decide_eq_false (by omega)]
    generalize outL zl zl.length x zl.length = out at e2 hol ⊢
    refine aZ (eZ J (dZ (iQ J) (fZ (bZ (fQ J (aZ (eZ J (dZ (zQ (vs := x.cells) ti180 J (PV.len _) (Row.of_blk (b := b3) eX J)) ?_))))))))
    refine kQ (aV [.tmp 48] (vs := [.agg x.cells.toArray]) (cells := x.cells) underlying36 ti180 J J J J (by decide) (by simp [Value.cells, PV.cells]) (by simp [Value.cells])) J ?_
    rintro b49 -
    refine kQ (fX (a := ya) (c := yc) (m := out.length) (xs := (out.map PV.cells).flatten) (k := 1) (ys := x.cells) J J J underlying36 underlying36 ti180 J (by decide) fC (SlR.of_osl (a := some ⟨b49, 0, none⟩) eX) (PV.ones _) (by omega)) J ?_
    rintro ⟨ya2, yc2⟩ -
    refine gZ J (fZ (pV (ya2, yc2) trivial ?_ ?_))
    ·dsimp only; rw [e2, List.length_append]; exact eS
    ·dsimp only; rw [e2]; exact Imp.trans (B := osl 180 3 ya2 yc2 (out.length + 1) ((out.map PV.cells).flatten ++ x.cells) :: blk b3 x.cells 180 :: (RSO b w k ts ⟨za, zc, zl, zta, ztc⟩ ++ (oby 5 x.a x.c x.b :: Fr))) iM osl_snoc
  rintro ⟨fa, fc⟩ -
  dsimp only [RSO, List.cons_append, List.nil_append]
  refine cZ (aZ (eZ J (eZ J (zZ J (pZ fa264_2 J (sQ (uQ ti36 J J fC J (by first | (simp; done) | decide)) J ?_))))))
  rintro ⟨⟩ -
  refine fZ (bZ (cZ (aZ (eZ J (pZ fa180_0 J (dZ (jZ (v := .int .i64 x.p) ti3 J (Cel.of_blk eX J)) ?_))))))
  refine dZ (oQ (dV J J (by omega) (tdiv_pos (by omega) (by omega) (by omega))) (v' := .int .i64 ((x.p / 64 : Nat) : Int)) (by congr 1)) ?_
  refine oZ call224 J ((Imp.trans (B := obx x :: Star (zl.map obx) :: blk b [.pointer (some ⟨w, 0, none⟩), .int .i64 k, .slice fa (insP zl pos x).length fc, .slice zta ts.length ztc] 264 :: osl 180 3 fa fc (insP zl pos x).length (((insP zl pos x).map PV.cells).flatten) :: oiv zta ztc ts :: blk b3 x.cells 180 :: Fr) iM (Imp.trans (star_ins hpos) (Imp.trans (B := RSO b w k ts ⟨fa, fc, insP zl pos x, zta, ztc⟩ ++ (blk b3 x.cells 180 :: Fr)) iM (rs_close _ hins))))) (rtable_spec W0 (blk b3 x.cells 180 :: Fr) (b := b) (w := w) (k := k) (L := pvs ⟨up2 o.vw k x.p (some (x.pm, x.b)), tb, fr⟩ k) (ts := ts) (by omega) ((x.p / 64 : Nat) : Int)) J ?_
  rintro ⟨⟩ -
  refine dZ (iQ J) (fZ (bZ (lQ J (fun hc => ?_) (fun hc => ?_))))
  ·try replace hc := odT hc
   have hg : ¬ ((x.p / 64 : Nat) : Int) ∈ ts := by simpa using hc
   rw [show insT ts x.p = ts ++ [((x.p / 64 : Nat) : Int)] from if_neg hg]
   refine kV (A := RS b w k (pvs ⟨up2 o.vw k x.p (some (x.pm, x.b)), tb, fr⟩ k) ts) eX rs_open ?_
   rintro ⟨za2, zc2, zl2, zta2, ztc2⟩ hz2
   refine rX star_open ?_
   dsimp only [RSO, List.cons_append, List.nil_append] at hz2 ⊢
   refine qQ (.lo 0 0 (.lo 1 0 (.lo 2 0 (.lo 3 0 (.lo 4 2 (.lo 5 1 (.lo 6 1 (.lo 7 1 (.eff1 8 false (.eff1 9 false (.lo 10 1 (.lo 11 1 (.eff1 12 true (.done)))))))))))))) [8, 9, 12] [4] ([]) ([blk b [.pointer (some ⟨w, 0, none⟩), .int .i64 k, .slice za2 zl2.length zc2, .slice zta2 ts.length ztc2] 264]) mixed (by kernel_rfl) (Imp.none _) iM ?_
   refine nZ J J (nZ J J (dQ J J (wZ J fa264_3 J (hZ J (iZ ti80 J) ?_))))
   refine wZ J fa180_0 J (hZ J (jZ (v := .int .i64 x.p) ti3 J (Cel.of_blk eX J)) ?_)
   refine hZ J (oQ (dV J J (by omega) (tdiv_pos (by omega) (by omega) (by omega))) (v' := .int .i64 ((x.p / 64 : Nat) : Int)) (by congr 1)) ?_
   refine aQ (wQ J J (gV underlying80 ti3 J J J) J (fun _ => iM) (fun _ => Imp.refl _) (fun _ => iM) ?_)
   rintro b69 -
   refine aQ (wQ J J (fX (a := zta2) (c := ztc2) (m := ts.length) (xs := iv ts) (k := 1) (ys := iv [((x.p / 64 : Nat) : Int)]) J J J underlying80 underlying80 ti3 J (by decide) fC (SlR.of_osl (a := some ⟨b69, 0, none⟩) eX) (iv_ones _) (by omega)) J (fun _ => iM) (fun _ => Imp.refl _) (fun _ => iM) ?_)
   rintro ⟨a70, c70⟩ -
   refine dQ J J (wZ J fa264_3 J (aQ (wQ J J (uQ ti80 J J fC J (by first | (simp; done) | decide)) J (fun _ => iM) (fun _ => Imp.refl _) (fun _ => iM) ?_)))
   rintro ⟨⟩ -
   refine pQ ?_
   first
   | (refine qX J () trivial J (Imp.trans (B := RSO b w k (ts ++ [((x.p / 64 : Nat) : Int)]) ⟨za2, zc2, zl2, a70, c70⟩ ++ Fr) ?_ (rs_close _ hz2))
      dsimp only [RSO, oiv, List.cons_append, List.nil_append]
      rw [List.length_append, iv_append]
      exact iM)
   | exact qX J () trivial J iM
  ·try replace hc := odF hc
   have hg : ((x.p / 64 : Nat) : Int) ∈ ts := by simpa using hc
   rw [show insT ts x.p = ts from if_pos hg]
   refine uZ ?_
   first
   | (refine qX J () trivial J (Imp.trans (B := RSO b w k (ts ++ [((x.p / 64 : Nat) : Int)]) ⟨za2, zc2, zl2, a70, c70⟩ ++ Fr) ?_ (rs_close _ hz2))
      dsimp only [RSO, oiv, List.cons_append, List.nil_append]
      rw [List.length_append, iv_append]
      exact iM)
   | exact qX J () trivial J iM
end
end Go.Proofs.YtphljkplokjonaaGreat.Sp
namespace Go.Proofs.YtphljkplokjonaaGreat.Sp
open Go Go.Sl Go.RowKit Go.Proofs Go.Proofs.YtphljkplokjonaaGreat.T Go.Proofs.YtphljkplokjonaaGreat.Me Go.Proofs.YtphljkplokjonaaGreat.Pe Go.Proofs.YtphljkplokjonaaGreat.Pg Tryz
open Go.Proofs.YtphljkplokjonaaGreat.Fz (iv oiv iv_append iv_ones iv_get)
def allR (q : Int) (o : Ob) (k : Nat) (L : List PGv) : Int × Ob :=
 if ∃ x ∈ L, (o.vw k x.1).isSome = true then (91, o) else if q < needL o k L then (141, o) else (0, layL o k L)
def allN (q : Int) (o : Ob) (k : Nat) (L : List PGv) : Nat := if (allR q o k L).1 = 0 then needL o k L else 0
theorem all_there {q : Int} {o : Ob} {k : Nat} {L : List PGv} {x : PGv} (hx : x ∈ L) (h : (o.vw k x.1).isSome = true) : allR q o k L = (91, o) ∧ allN q o k L = 0 := by
 have e : allR q o k L = (91, o) := if_pos ⟨x, hx, h⟩
 refine ⟨e, ?_⟩
 unfold allN; rw [e, if_neg (show (91 : Int) ≠ 0 by decide)]
theorem all_quota {q : Int} {o : Ob} {k : Nat} {L : List PGv} (h : ∀ x ∈ L, o.vw k x.1 = none) (hq : q < needL o k L) : allR q o k L = (141, o) ∧ allN q o k L = 0 := by
 have e : allR q o k L = (141, o) := by
  unfold allR; rw [if_neg (by rintro ⟨x, hx, h2⟩; rw [h x hx] at h2; cases h2), if_pos hq]
 refine ⟨e, ?_⟩
 unfold allN; rw [e, if_neg (show (141 : Int) ≠ 0 by decide)]
theorem all_done {q : Int} {o : Ob} {k : Nat} {L : List PGv} (h : ∀ x ∈ L, o.vw k x.1 = none) (hq : ¬ q < needL o k L) : allR q o k L = (0, layL o k L) ∧ allN q o k L = needL o k L := by
 have e : allR q o k L = (0, layL o k L) := by
  unfold allR; rw [if_neg (by rintro ⟨x, hx, h2⟩; rw [h x hx] at h2; cases h2), if_neg hq]
 refine ⟨e, ?_⟩
 unfold allN; rw [e]; rfl
theorem cost_known {o : Ob} {k p : Nat} {ts : List Int} {L : List PGv} (hT : TsOk o k ts) : cost1 (layL o k L) k p = (if ((p / 64 : Nat) : Int) ∈ ts ∨ ((p / 64 : Nat) : Int) ∈ newT o k [] L then 1 else 2) := by
 have h := newT_in (o := o) (k := k) (l := L) (o' := o) (tb := []) (fun g => by simp) (p / 64)
 unfold cost1
 by_cases q : (layL o k L).ts k (p / 64) = true
 ·rw [if_pos q, if_pos]
  rcases h.1 q with q2 | q2
  ·exact .inl ((hT.mem _).1 q2)
  ·exact .inr q2
 ·rw [if_neg q, if_neg]
  rintro (q2 | q2)
  ·exact q (h.2 (.inl ((hT.mem _).2 q2)))
  ·exact q (h.2 (.inr q2))
theorem newT_step {o : Ob} {k : Nat} {ts : List Int} {x : PGv} {L : List PGv} (hT : TsOk o k ts) : newT o k [] (L ++ [x]) = (if ((x.1 / 64 : Nat) : Int) ∈ ts ∨ ((x.1 / 64 : Nat) : Int) ∈ newT o k [] L then newT o k [] L else newT o k [] L ++ [((x.1 / 64 : Nat) : Int)]) := by
 rw [newT_snoc]
 by_cases h : o.ts k (x.1 / 64) = true ∨ ((x.1 / 64 : Nat) : Int) ∈ newT o k [] L
 ·rw [if_pos h, if_pos (h.imp (hT.mem _).1 id)]
 ·rw [if_neg h, if_neg (fun q => h (q.imp (hT.mem _).2 id))]
theorem star_uncons {A : HProp} {D G : List HProp} : Imp (Star (A :: D) :: G) (A :: Star D :: G) := Imp.trans star_open (Imp.cons star_close)
theorem oiv_snoc {a : Option Addr} {c : Nat} {l : List Int} {x : Int} {G : List HProp} : Imp (osl 3 1 a c (l.length + 1) (iv l ++ iv [x]) :: G) (oiv a c (l ++ [x]) :: G) := by
 rw [show oiv a c (l ++ [x]) = osl 3 1 a c (l.length + 1) (iv l ++ iv [x]) by dsimp only [oiv]; rw [List.length_append, iv_append]; rfl]
 exact Imp.refl _
theorem mem_take1 {l : List Int} {j : Nat} {z g : Int} (hz : l[j]? = some z) : g ∈ l.take (j + 1) ↔ g ∈ l.take j ∨ g = z := by
 obtain ⟨q1, q2⟩ := List.getElem?_eq_some_iff.1 hz
 rw [List.take_succ_eq_append_getElem q1, q2]; simp
section
variable (W0 : World) (Fr : List HProp)
variable {o : Ob} {b w k : Nat} {ts : List Int}
set_option maxHeartbeats 4000000 in
theorem rall_spec {a : Option Addr} {c : Nat} {l : List PV} {fr q : Int} {ls : List Int} (hA : Asc (-1) (l.map PV.v)) (hT : TsOk o k ts) (hk : ls[k]? = some q) (hls : ls.length ≤ 1024) (hq : -1000000 ≤ q ∧ q ≤ 1000000) (hf : q ≤ fr ∧ fr ≤ 1000000) :
 Ctr prog W0 202 [.pointer (some ⟨b, 0, none⟩), .slice a l.length c] (PLU a c l ++ (RS b w k (pvs o k) ts :: RW w fr ls :: Fr)) (fun ts' : List Int => TsOk (allR q o k (l.map PV.v)).2 k ts') (fun _ => .int .i64 (allR q o k (l.map PV.v)).1)
  (fun ts' => RS b w k (pvs (allR q o k (l.map PV.v)).2 k) ts' :: RW w (fr - allN q o k (l.map PV.v)) (ls.set k (q - allN q o k (l.map PV.v))) :: Fr) := by
 have hpl := pvs_len o k
 have htl := hT.le
 have hll : l.length ≤ 4096 := by have := hA.len (by decide) (by decide); rw [List.length_map] at this; omega
 have hLv : ∀ {i : Nat} {y : PV}, l[i]? = some y → (l.map PV.v)[i]? = some y.v := fun h => by rw [List.getElem?_map, h]; rfl
 have hset : ls.set k q = ls := Ms.set_self hk
 obtain ⟨L, hL⟩ : ∃ L, L = l.map PV.v := ⟨_, rfl⟩
 rw [← hL] at hA hLv ⊢
 have hLl : L.length = l.length := by rw [hL, List.length_map]
 have hwn : ∀ i, (needL o k (L.take i) ≤ 8192 ∧ (newT o k [] (L.take i)).length ≤ 4096) := fun i => by
  have h1 := needL_le (k := k) (l := L.take i) (o := o)
  have h2 := newT_len (o := o) (k := k) (l := L.take i) (tb := [])
  have h3 : (L.take i).length ≤ 4096 := by rw [List.length_take]; omega
  simp only [List.length_nil] at h2; omega
 dsimp only [PLU, List.cons_append, List.nil_append]
 refine Ctr.of_body func202 J ntmps202 J (cZ (aZ (gZ J (fZ (bZ (cZ (aZ (gZ J (fZ (bZ (cZ (aZ (gZ J (fZ (bZ (cZ (cZ (aZ (gZ J (fZ (bZ (mQ (mX (fun y : Nat × Option Addr × Nat => y.1 ≤ l.length ∧ ∀ x ∈ L.take y.1, o.vw k x.1 = none) (fun y => [(0, .pointer (some ⟨b, 0, none⟩)), (1, .slice a l.length c), (5, .int .i64 (needL o k (L.take y.1) : Nat)), (6, .slice y.2.1 (newT o k [] (L.take y.1)).length y.2.2), (7, .int .i64 y.1)]) (fun y => oiv y.2.1 y.2.2 (newT o k [] (L.take y.1)) :: (PLU a c l ++ (RS b w k (pvs o k) ts :: RW w fr ls :: Fr))) (fun y => l.length - y.1) (0, none, 0) ⟨Nat.zero_le _, fun x h => by cases h⟩ eS (Imp.trans osl_nil iM) ?_)))))))))))))))))))))))
 rintro ⟨i, ta, tc⟩ ⟨hi, hno⟩
 dsimp only [PLU, List.cons_append, List.nil_append] at hi hno ⊢
 obtain ⟨hw1, hw2⟩ := hwn i
 refine cZ (cZ (aZ (eZ J (eZ J (dZ (sZ underlying36 J J) (dZ eQ ?_))))))
 refine fZ (bZ (lQ J (fun hc => ?_) (fun hc => ?_)))
 ·try replace hc := odT hc
  obtain ⟨y, hy⟩ : ∃ y, l[i]? = some y := ⟨_, List.getElem?_eq_getElem (by omega)⟩
  have hyv := hLv hy
  have hil := (List.getElem?_eq_some_iff.1 hy).1
  have hp4 : y.p < 4096 := (hA.mem y.v (List.mem_of_getElem? hyv)).2.1
  refine lX (fun w hw => SlR.elem_shape (W0 := W0) (f := PV.cells) (xs := l) (i := i) (SlR.of_osl (E := 180) (a := a) (c := c) eX) PV.len (by decide) hil w hw) ?_
  rintro ⟨ol, oo, rfl⟩
  refine uZ (bZ (cZ (mQ (cZ (cZ ?_)))))
  rcases hv : o.vw k y.p with _ | v
  ·refine aZ (eZ J (eZ J (eZ J (dZ (lZ underlying36 ti180 J J (by omega) (by omega)) ?_))))
   refine pZ fa180_0 J (dZ (jZ (v := .int .i64 y.p) ti3 J (by rw [show oo + (i : Int).toNat * 3 = oo + i * 3 by omega]; exact (SlR.elem (f := PV.cells) (xs := l) (i := i) (SlR.of_osl (W0 := W0) (E := 180) (a := some ⟨ol, oo, none⟩) (c := c) eX) PV.len hy) 0 _ J)) ?_)
   refine oZ call198 J (iM) (rfind_spec W0 _ (b := b) (w := w) (k := k) (L := pvs o k) (ts := ts) (by omega) (y.p : Int)) J ?_
   rintro ⟨⟩ -
   rw [fnd_none (by rw [vI_nat hp4]; exact hv)]
   refine dZ cX ?_
   refine fZ (bZ (vZ J (uZ (bZ (cZ (aZ (eZ J (dZ (hQ J J wO) (gZ J (fZ (bZ (cZ (aZ (eZ J (eZ J (dZ (lZ underlying36 ti180 J J (by omega) (by omega)) ?_))))))))))))))))
   refine pZ fa180_0 J (dZ (jZ (v := .int .i64 y.p) ti3 J (by rw [show oo + (i : Int).toNat * 3 = oo + i * 3 by omega]; exact (SlR.elem (f := PV.cells) (xs := l) (i := i) (SlR.of_osl (W0 := W0) (E := 180) (a := some ⟨ol, oo, none⟩) (c := c) eX) PV.len hy) 0 _ J)) ?_)
   refine dZ (oQ (dV J J (by omega) (tdiv_pos (by omega) (by omega) (by omega))) (v' := .int .i64 ((y.p / 64 : Nat) : Int)) (by congr 1)) ?_
   refine gZ J (fZ (bZ (cZ (aZ (eZ J (eZ J (oZ call224 J (iM) (rtable_spec W0 _ (b := b) (w := w) (k := k) (L := pvs o k) (ts := ts) (by omega) ((y.p / 64 : Nat) : Int)) J ?_)))))))
   rintro ⟨⟩ -
   refine gZ J (fZ (bZ ?_))
   have hcost := cost_known (p := y.p) (L := L.take i) hT
   have hns := newT_step (x := y.v) (L := L.take i) hT
   rw [← take_snoc' hyv, show y.v.1 = y.p from J] at hns
   have hnd := needL_snoc (k := k) (x := y.v) (l := L.take i) (o := o)
   rw [← take_snoc' hyv, show y.v.1 = y.p from J, hcost] at hnd
   have hno2 := nob_all hyv hno hv
   clear hcost
   generalize ((y.p / 64 : Nat) : Int) = g at hns hnd ⊢
   generalize newT o k [] (L.take i) = tb at hns hnd hw2 ⊢
   refine cZ (cZ (aZ (gZ J (fZ (bZ (mQ (mX (fun j : Nat => j ≤ tb.length) (fun j => [(0, .pointer (some ⟨b, 0, none⟩)), (1, .slice (some ⟨ol, oo, none⟩) l.length c), (5, .int .i64 ((needL o k (L.take i) : Int) + 1)), (6, .slice ta tb.length tc), (7, .int .i64 i), (8, .int .i64 g), (9, .bool (decide (g ∈ ts) || decide (g ∈ tb.take j))), (10, .int .i64 j)]) (fun j => oiv ta tc tb :: (PLU (some ⟨ol, oo, none⟩) c l ++ (RS b w k (pvs o k) ts :: RW w fr ls :: Fr))) (fun j => tb.length - j) 0 (Nat.zero_le _) (by simp only [List.take_zero, List.not_mem_nil, decide_false, Bool.or_false]; exact eS) iM ?_)))))))
   rintro j hj
   dsimp only [PLU, List.cons_append, List.nil_append] at hj ⊢
   refine cZ (cZ (aZ (eZ J (eZ J (dZ (sZ underlying80 J J) (dZ eQ ?_))))))
   refine fZ (bZ (lQ J (fun hc => ?_) (fun hc => ?_)))
   ·try replace hc := odT hc
    obtain ⟨z, hz⟩ : ∃ z, tb[j]? = some z := ⟨_, List.getElem?_eq_getElem (by omega)⟩
    have hmt := mem_take1 (g := g) hz
    refine lX (fun w hw => iv_shape (SlR.of_osl (W0 := W0) (E := 3) (a := ta) (c := tc) eX) (by omega) w hw) ?_
    rintro ⟨tl, to, rfl⟩
    refine uZ (bZ (cZ (mQ ?_)))
    rcases hkn : (decide (g ∈ ts) || decide (g ∈ tb.take j))
    ·refine aZ (eZ J (eZ J (kZ J J (eZ J (kZ J J (eZ J (kZ J J (dZ (lZ underlying80 ti3 J J (by omega) (by omega)) ?_))))))))
     refine kZ J J (dZ (jZ (v := .int .i64 z) ti3 J (by rw [show to + (j : Int).toNat * 1 = to + j by omega]; exact (SlR.of_osl (W0 := W0) (E := 3) (a := some ⟨tl, to, none⟩) (c := tc) eX).cel (iv_get hz))) ?_)
     refine kZ J J (eZ J (kZ J J (dZ (yQ J J) (dZ mZ ?_))))
     refine gZ J (fZ (tZ (bZ (aZ (eZ J (dZ (hQ J J wO) (gZ J (fZ (gX (j + 1) (by omega) (by omega) ?_ iM)))))))))
     have e1 : (decide (g ∈ ts) || decide (g ∈ tb.take (j + 1))) = decide (z = g) := by
      simp only [Bool.or_eq_false_iff, decide_eq_false_iff_not] at hkn
      rw [decide_eq_false hkn.1, Bool.false_or]
      refine decide_eq_decide.2 ⟨fun q => ?_, fun q => hmt.2 (.inr q.symm)⟩
      rcases hmt.1 q with q | q
      ·exact absurd q hkn.2
      ·exact q.symm
     try dsimp only
     rw [e1]; exact eS
    ·refine aZ (eZ J (eZ J (gQ J J J J J (gQ J J J J J (gQ J J J J J (gQ J J J J J (gQ J J J J J (gQ J J J J J (dZ mZ ?_)))))))))
     refine gZ J (fZ (tZ (bZ (aZ (eZ J (dZ (hQ J J wO) (gZ J (fZ (gX (j + 1) (by omega) (by omega) ?_ iM)))))))))
     have e1 : (decide (g ∈ ts) || decide (g ∈ tb.take (j + 1))) = true := by
      simp only [Bool.or_eq_true, decide_eq_true_iff] at hkn ⊢
      rcases hkn with q | q
      ·exact .inl q
      ·exact .inr (hmt.2 (.inl q))
     try dsimp only
     rw [e1]; exact eS
   ·try replace hc := odF hc
    refine iX (bQ (bQ (tQ (bZ (cZ ?_)))))
    rcases Decidable.em (g ∈ ts ∨ g ∈ tb) with hg | hg
    ·rw [List.take_of_length_le (show tb.length ≤ j by omega), show (decide (g ∈ ts) || decide (g ∈ tb)) = true by simpa using hg]
     rw [if_pos hg] at hns hnd
     refine aZ (eZ J (dZ (iQ J) (fZ (bZ (vZ J (uZ (tZ (bZ (aZ (eZ J (dZ (hQ J J wO) (gZ J (fZ (gX (i + 1, ta, tc) ⟨by simp only; omega, hno2⟩ (by simp only; omega) ?_ ?_))))))))))))))
     ·dsimp only; rw [hns, hnd]; exact eS
     ·dsimp only; rw [hns]; exact iM
    ·rw [List.take_of_length_le (show tb.length ≤ j by omega), show (decide (g ∈ ts) || decide (g ∈ tb)) = false by simpa using hg]
     rw [if_neg hg] at hns hnd
     refine aZ (eZ J (dZ (iQ J) (fZ (bZ (fQ J (cZ (aZ (eZ J (eZ J (kQ (gV underlying80 ti3 J J J) J ?_))))))))))
     rintro b57 -
     refine kQ (fX (a := ta) (c := tc) (m := tb.length) (xs := iv tb) (k := 1) (ys := iv [g]) J J J underlying80 underlying80 ti3 J (by decide) fC (SlR.of_osl (a := some ⟨b57, 0, none⟩) eX) (iv_ones _) (by omega)) J ?_
     rintro ⟨a58, c58⟩ -
     refine gZ J (fZ (bZ (aZ (eZ J (dZ (hQ J J wO) (gZ J (fZ (tZ (bZ (aZ (eZ J (dZ (hQ J J wO) (gZ J (fZ (gX (i + 1, a58, c58) ⟨by simp only; omega, hno2⟩ (by simp only; omega) ?_ ?_)))))))))))))))
     ·dsimp only; rw [hns, hnd, List.length_append, show ((needL o k (L.take i) + 2 : Nat) : Int) = (needL o k (L.take i) : Int) + 1 + 1 by omega]; exact eS
     ·dsimp only; rw [hns]; exact Imp.trans (B := osl 3 1 a58 c58 (tb.length + 1) (iv tb ++ iv [g]) :: (PLU (some ⟨ol, oo, none⟩) c l ++ (RS b w k (pvs o k) ts :: RW w fr ls :: Fr))) iM oiv_snoc
  ·refine aZ (eZ J (eZ J (eZ J (dZ (lZ underlying36 ti180 J J (by omega) (by omega)) ?_))))
   refine pZ fa180_0 J (dZ (jZ (v := .int .i64 y.p) ti3 J (by rw [show oo + (i : Int).toNat * 3 = oo + i * 3 by omega]; exact (SlR.elem (f := PV.cells) (xs := l) (i := i) (SlR.of_osl (W0 := W0) (E := 180) (a := some ⟨ol, oo, none⟩) (c := c) eX) PV.len hy) 0 _ J)) ?_)
   refine oZ call198 J (iM) (rfind_spec W0 _ (b := b) (w := w) (k := k) (L := pvs o k) (ts := ts) (by omega) (y.p : Int)) J ?_
   rintro ⟨⟩ -
   rw [(fnd_some hp4 hv).1]
   refine dZ cX ?_
   refine fZ (bZ (fQ J (cZ (aZ (gZ J (fZ (bZ (rZ (qZ (nQ (qZ (qZ (nQ (qZ ?_))))))))))))))
   obtain ⟨e1, e2⟩ := all_there (q := q) (o := o) (k := k) (L := L) (x := y.v) (List.mem_of_getElem? hyv) (by show (o.vw k y.p).isSome = true; rw [hv]; rfl)
   rw [e1, e2]
   exact yZ J J ts hT J (by rw [show q - ((0 : Nat) : Int) = q by omega, show fr - ((0 : Nat) : Int) = fr by omega, hset]; exact iM)
 ·try replace hc := odF hc
  refine iX (bQ (bQ (tQ (bZ ?_))))
  obtain rfl : i = l.length := by omega
  have hTk : L.take l.length = L := by rw [← hLl, List.take_length]
  rw [hTk] at hno hw1 hw2 ⊢
  refine cZ ?_
  rcases Decidable.em (q < needL o k L) with hh | hh
  ·refine kV (A := RS b w k (pvs o k) ts) eX rs_open ?_
   rintro ⟨za, zc, zl, zta, ztc⟩ hz
   refine rX star_open ?_
   dsimp only [RSO, List.cons_append, List.nil_append] at hz ⊢
   refine qQ (.lo 0 1 (.lo 1 1 (.lo 2 1 (.lo 3 1 (.lo 4 1 (.lo 5 1 (.lo 6 1 (.lo 7 1 (.lo 8 1 (.eff1 9 false (.lo 10 1 (.done)))))))))))) [9] [] ([]) ([]) mixed (by kernel_rfl) (Imp.none _) (Imp.none _) (nZ J J (dQ J J (wZ J fa264_0 J (hZ J (iZ ti197 J) ?_))))
   refine nZ J J (dQ J J (wZ J fa264_1 J (hZ J (iZ ti3 J) ?_)))
   refine nZ J J (aQ (rQ J J call149 J (iM) (rtake_spec W0 _ (b := w) (fr := fr) (q := q) (l := ls) (k := k) (d := needL o k L) hk hls hq (by omega) (by omega)) J (fun _ => iM) (fun _ => Imp.refl _) (fun _ => iM) ?_))
   rintro ⟨⟩ -
   rw [if_pos hh, if_pos (.inl hh)]
   refine hZ J (jQ J) (pQ (bZ (cZ (cZ (aZ (gZ J (fZ (bZ (mQ (mX (fun _ : Unit => True) (fun _ => [(11, .int .i64 141), (12, .int .i64 0), (1, .slice a l.length c)]) (fun _ => RS b w k (pvs o k) ts :: RW w fr ls :: Fr) (fun _ => 0) () trivial eS (Imp.trans (B := RSO b w k ts ⟨za, zc, zl, zta, ztc⟩ ++ (RW w fr ls :: Fr)) iM (rs_close _ hz)) ?_))))))))))
   rintro ⟨⟩ -
   refine cZ (cZ ?_)
   rcases (show 0 < l.length ∨ ¬ 0 < l.length by omega) with h0 | h0
   ·refine aZ (eZ J (eZ J (dZ (sZ underlying36 J J) (dZ eQ ?_))))
    refine eZ J (kZ J J (eZ J (kZ J J (dZ zX ?_))))
    refine dZ mZ ?_
    refine fZ (bZ (vZ J (iX (bQ (bQ (tQ (bZ (cZ (aZ (eZ J (gZ J (fZ (bZ (rZ ?_))))))))))))))
    obtain ⟨e1, e2⟩ := all_quota (q := q) hno hh
    rw [e1, e2]
    exact yZ J J ts hT J (by rw [show q - ((0 : Nat) : Int) = q by omega, show fr - ((0 : Nat) : Int) = fr by omega, hset]; exact iM)
   ·refine aZ (eZ J (eZ J (dZ (sZ underlying36 J J) (dZ eQ ?_))))
    refine eZ J (gQ J J J J J (gQ J J J J J (dZ mZ ?_)))
    refine fZ (bZ (vZ J (iX (bQ (bQ (tQ (bZ (cZ (aZ (eZ J (gZ J (fZ (bZ (rZ ?_))))))))))))))
    obtain ⟨e1, e2⟩ := all_quota (q := q) hno hh
    rw [e1, e2]
    exact yZ J J ts hT J (by rw [show q - ((0 : Nat) : Int) = q by omega, show fr - ((0 : Nat) : Int) = fr by omega, hset]; exact iM)
  ·refine kV (A := RS b w k (pvs o k) ts) eX rs_open ?_
   rintro ⟨za, zc, zl, zta, ztc⟩ hz
   refine rX star_open ?_
   dsimp only [RSO, List.cons_append, List.nil_append] at hz ⊢
   refine qQ (.lo 0 1 (.lo 1 1 (.lo 2 1 (.lo 3 1 (.lo 4 1 (.lo 5 1 (.lo 6 1 (.lo 7 1 (.lo 8 1 (.eff1 9 false (.lo 10 1 (.done)))))))))))) [9] [] ([]) ([]) mixed (by kernel_rfl) (Imp.none _) (Imp.none _) (nZ J J (dQ J J (wZ J fa264_0 J (hZ J (iZ ti197 J) ?_))))
   refine nZ J J (dQ J J (wZ J fa264_1 J (hZ J (iZ ti3 J) ?_)))
   refine nZ J J (aQ (rQ J J call149 J (iM) (rtake_spec W0 _ (b := w) (fr := fr) (q := q) (l := ls) (k := k) (d := needL o k L) hk hls hq (by omega) (by omega)) J (fun _ => iM) (fun _ => Imp.refl _) (fun _ => iM) ?_))
   rintro ⟨⟩ -
   rw [if_neg hh, if_neg (show ¬ fr < (needL o k L : Nat) by omega), if_neg (show ¬ (q < (needL o k L : Nat) ∨ fr < (needL o k L : Nat)) by omega)]
   refine hZ J (jQ J) (pQ (bZ (cZ (cZ (aZ (gZ J (fZ (bZ (mQ (mX (fun i : Nat => i ≤ l.length) (fun i => [(0, .pointer (some ⟨b, 0, none⟩)), (1, .slice a l.length c), (11, .int .i64 0), (12, .int .i64 i)]) (fun i => RS b w k (pvs (layL o k (L.take i)) k) (layT ts (L.take i)) :: osl 180 3 a c l.length ((l.map PV.cells).flatten) :: Star ((l.drop i).map obx) :: RW w (fr - (needL o k L : Nat)) (ls.set k (q - (needL o k L : Nat))) :: Fr) (fun i => l.length - i) 0 (Nat.zero_le _) eS (Imp.trans (B := RSO b w k ts ⟨za, zc, zl, zta, ztc⟩ ++ (osl 180 3 a c l.length ((l.map PV.cells).flatten) :: Star (l.map obx) :: RW w (fr - (needL o k L : Nat)) (ls.set k (q - (needL o k L : Nat))) :: Fr)) iM (rs_close _ hz)) ?_))))))))))
   rintro i hi
   try dsimp only at hi ⊢
   refine cZ (cZ ?_)
   rcases (show i < l.length ∨ i = l.length by omega) with h0 | h0
   ·obtain ⟨y, hy⟩ : ∃ y, l[i]? = some y := ⟨_, List.getElem?_eq_getElem h0⟩
    have hyv := hLv hy
    have hmem := hA.mem y.v (List.mem_of_getElem? hyv)
    have hvn : (layL o k (L.take i)).vw k y.p = none := by
     rw [layL_vw (fun x hx => by have := hA.before hyv x hx; have e2 : y.v.1 = y.p := rfl; omega)]
     exact hno y.v (List.mem_of_getElem? hyv)
    have hts2 := (tsOk_lay (l := L.take i) (fun x hx => (hA.mem x (List.mem_of_mem_take hx)).2.1) hT).le
    refine lX (fun w hw => SlR.elem_shape (W0 := W0) (f := PV.cells) (xs := l) (i := i) (SlR.of_osl (E := 180) (a := a) (c := c) eX) PV.len (by decide) h0 w hw) ?_
    rintro ⟨ol, oo, rfl⟩
    have hdr : (l.drop i).map obx = obx y :: (l.drop (i + 1)).map obx := by
     obtain ⟨q1, q2⟩ := List.getElem?_eq_some_iff.1 hy
     rw [List.drop_eq_getElem_cons q1, q2, List.map_cons]
    rw [hdr]
    refine rX (Imp.trans (B := Star (obx y :: (l.drop (i + 1)).map obx) :: RS b w k (pvs (layL o k (L.take i)) k) (layT ts (L.take i)) :: osl 180 3 (some ⟨ol, oo, none⟩) c l.length ((l.map PV.cells).flatten) :: RW w (fr - (needL o k L : Nat)) (ls.set k (q - (needL o k L : Nat))) :: Fr) iM star_uncons) ?_
    refine aZ (eZ J (eZ J (dZ (sZ underlying36 J J) (dZ eQ ?_))))
    refine eZ J (kZ J J (eZ J (kZ J J (dZ zX ?_))))
    refine dZ mZ ?_
    refine fZ (bZ (fQ J (uZ (bZ (cZ (mQ (aZ (eZ J (eZ J (eZ J (dZ (lZ underlying36 ti180 J J (by omega) (by omega)) ?_)))))))))))
    refine dZ (zQ (vs := y.cells) ti180 J (PV.len _) (by rw [show oo + (i : Int).toNat * 3 = oo + i * 3 by omega]; exact SlR.elem (f := PV.cells) (xs := l) (i := i) (SlR.of_osl (W0 := W0) (E := 180) (a := some ⟨ol, oo, none⟩) (c := c) eX) PV.len hy)) ?_
    refine oZ call225 J (iM) (rlay_spec W0 _ (o := layL o k (L.take i)) (b := b) (w := w) (k := k) (ts := layT ts (L.take i)) (x := y) (fr := (layL o k (L.take i)).fr - cost1 (layL o k (L.take i)) k y.p) (tb := up2 (layL o k (L.take i)).ts k (y.p / 64) true) hmem.2.1 hvn hts2) J ?_
    rintro ⟨⟩ -
    refine fZ (tZ (bZ (aZ (eZ J (dZ (hQ J J wO) (gZ J (fZ (gX (i + 1) (by omega) (by omega) eS ?_))))))))
    try dsimp only
    rw [take_snoc' hyv, layL_snoc, layT_snoc]
    exact iM
   ·subst h0
    rw [hTk]
    refine aZ (eZ J (eZ J (dZ (sZ underlying36 J J) (dZ eQ ?_))))
    refine eZ J (gQ J J J J J (gQ J J J J J (dZ mZ ?_)))
    refine fZ (bZ (vZ J (iX (bQ (bQ (tQ (bZ (cZ (aZ (eZ J (gZ J (fZ (bZ (rZ ?_))))))))))))))
    obtain ⟨e1, e2⟩ := all_done (q := q) hno hh
    rw [e1, e2]
    exact yZ J J (layT ts L) (tsOk_lay (fun x hx => (hA.mem x hx).2.1) hT) J iM
end
end Go.Proofs.YtphljkplokjonaaGreat.Sp
namespace Go.Proofs.YtphljkplokjonaaGreat.Sp
open Go Go.Sl Go.RowKit Go.Proofs Go.Proofs.YtphljkplokjonaaGreat.T Go.Proofs.YtphljkplokjonaaGreat.Me Go.Proofs.YtphljkplokjonaaGreat.Pe Go.Proofs.YtphljkplokjonaaGreat.Pg Tryz
open Go.Proofs.YtphljkplokjonaaGreat.Fz (iv oiv iv_append iv_ones iv_get iv_len)
theorem flat_drop {α : Type} {f : α → List Value} {sz : Nat} (hf : ∀ x, (f x).length = sz) : ∀ (xs : List α) (i : Nat), ((xs.map f).flatten).drop (i * sz) = ((xs.drop i).map f).flatten
 | xs, 0 => by simp
 | [], i + 1 => by simp
 | x :: xs, i + 1 => by
  rw [List.map_cons, List.flatten_cons, List.drop_append, List.drop_of_length_le (by rw [hf, Nat.add_mul]; omega), hf, show (i + 1) * sz - sz = i * sz by rw [Nat.add_mul]; omega, flat_drop hf xs i]; rfl
theorem flat_take {α : Type} {f : α → List Value} {sz : Nat} (hf : ∀ x, (f x).length = sz) : ∀ (xs : List α) (i : Nat), ((xs.map f).flatten).take (i * sz) = ((xs.take i).map f).flatten
 | xs, 0 => by simp
 | [], i + 1 => by simp
 | x :: xs, i + 1 => by
  rw [List.map_cons, List.flatten_cons, List.take_append, List.take_of_length_le (by rw [hf, Nat.add_mul]; omega), hf, show (i + 1) * sz - sz = i * sz by rw [Nat.add_mul]; omega, flat_take hf xs i]; rfl
def dO (o o' : Ob) (k : Nat) : Int := (used o' k : Int) - used o k
theorem dO_same {o : Ob} {k : Nat} : dO o o k = 0 := by unfold dO; omega
theorem dO_all {q : Int} {o : Ob} {k : Nat} {L : List PGv} (hA : Asc (-1) L) : dO o (allR q o k L).2 k = (allN q o k L : Int) := by
 by_cases h1 : ∃ x ∈ L, (o.vw k x.1).isSome = true
 ·obtain ⟨x, hx, h⟩ := h1
  obtain ⟨e1, e2⟩ := all_there (q := q) hx h
  rw [e1, e2]; exact dO_same
 ·have h2 : ∀ x ∈ L, o.vw k x.1 = none := fun x hx => by
   cases h3 : o.vw k x.1 with
   | none => rfl
   | some y => exact absurd ⟨x, hx, by rw [h3]; rfl⟩ h1
  by_cases h3 : q < needL o k L
  ·obtain ⟨e1, e2⟩ := all_quota h2 h3
   rw [e1, e2]; exact dO_same
  ·obtain ⟨e1, e2⟩ := all_done h2 h3
   rw [e1, e2]
   unfold dO
   have := used_lay hA h2
   dsimp only
   omega
theorem map_all {qk : Int} {o : Ob} {k : Nat} {p pm : Int} (h : (0 ≤ p ∧ p < 4096) ∧ 1 ≤ pm ∧ pm ≤ 7) : mapO qk o k p pm = allR (qk - used o k) o k [(p.toNat, pm.toNat, zs)] := by
 unfold mapO allR
 rw [if_neg (fun q => q h)]
 by_cases h1 : (o.vw k p.toNat).isSome = true
 ·rw [if_pos h1, if_pos ⟨_, List.mem_cons_self .., h1⟩]
 ·have hne : ¬ ∃ x ∈ [(p.toNat, pm.toNat, zs)], (o.vw k x.1).isSome = true := by
   rintro ⟨x, hx, h2⟩
   rw [List.mem_singleton] at hx
   subst hx; exact h1 h2
  rw [if_neg h1, if_neg hne]
  rfl
theorem asc_one {p pm : Int} (h : (0 ≤ p ∧ p < 4096) ∧ 1 ≤ pm ∧ pm ≤ 7) : Asc (-1) [(p.toNat, pm.toNat, zs)] := .cons (by simp only; omega) (by simp only; omega) ⟨by simp only; omega, by simp only; omega⟩ (by simp) .nil
theorem dO_unmap {o : Ob} {k : Nat} {p : Int} : dO o (unmapO o k p).2 k = if (unmapO o k p).1 = 0 then -1 else 0 := by
 have := used_unmap (o := o) (k := k) (k' := k) (p := p)
 unfold dO
 by_cases h : (unmapO o k p).1 = 0
 ·rw [if_pos ⟨rfl, h⟩] at this; rw [if_pos h]; omega
 ·rw [if_neg (fun q => h q.2)] at this; rw [if_neg h]; omega
section
variable (W0 : World) (Fr : List HProp)
variable {o : Ob} {b w k : Nat} {ts : List Int} {fr qk : Int} {ls : List Int}
abbrev RWd (w k : Nat) (o o' : Ob) (fr q : Int) (ls : List Int) : HProp := RW w (fr - dO o o' k) (ls.set k (q - dO o o' k))
theorem rwd_same {w k : Nat} {o : Ob} {fr q : Int} {ls : List Int} (hk : ls[k]? = some q) : RWd w k o o fr q ls = RW w fr ls := by
 unfold RWd; rw [dO_same, Int.sub_zero, Int.sub_zero, Ms.set_self hk]
theorem rmap_spec (p pm : Int) (hT : TsOk o k ts) (hk : ls[k]? = some (qk - used o k)) (hls : ls.length ≤ 1024) (hq : -1000000 ≤ qk - used o k) (hf : qk - used o k ≤ fr ∧ fr ≤ 1000000) :
 Ctr prog W0 158 [.pointer (some ⟨b, 0, none⟩), .int .i64 p, .int .i64 pm] (RS b w k (pvs o k) ts :: RW w fr ls :: Fr) (fun ts' : List Int => TsOk (mapO qk o k p pm).2 k ts') (fun _ => .int .i64 (mapO qk o k p pm).1)
  (fun ts' => RS b w k (pvs (mapO qk o k p pm).2 k) ts' :: RWd w k o (mapO qk o k p pm).2 fr (qk - used o k) ls :: Fr) := by
 refine Ctr.of_body func158 J ntmps158 J (cZ (aZ (gZ J (fZ (bZ (cZ (cZ ?_)))))))
 rcases (show ¬(0 ≤ p ∧ p < 4096) ∨ ((0 ≤ p ∧ p < 4096) ∧ ¬(1 ≤ pm ∧ pm ≤ 7)) ∨ ((0 ≤ p ∧ p < 4096) ∧ 1 ≤ pm ∧ pm ≤ 7) by omega) with hh | hh | hh
 ·have e : mapO qk o k p pm = (2, o) := if_pos (by omega)
  rw [e, rwd_same hk]
  refine aZ (eZ J (oZ call200 J (iM) (rpages_ok W0 _ p) J ?_))
  rintro ⟨⟩ -
  rw [decide_eq_false hh]
  refine dZ (iQ J) (eZ J (gQ J J J J J (gQ J J J J J (gQ J J J J J (dZ mZ ?_)))))
  exact fZ (bZ (fQ J (cZ (aZ (gZ J (fZ (bZ (rZ (qZ (yZ J J ts hT J iM))))))))))
 ·have e : mapO qk o k p pm = (2, o) := if_pos (by omega)
  rw [e, rwd_same hk]
  refine aZ (eZ J (oZ call200 J (iM) (rpages_ok W0 _ p) J ?_))
  rintro ⟨⟩ -
  rw [decide_eq_true hh.1]
  refine dZ (iQ J) (eZ J (kZ J J (eZ J (kZ J J (oZ call201 J (iM) (rperms_ok W0 _ pm) J ?_)))))
  rintro ⟨⟩ -
  rw [decide_eq_false hh.2]
  refine kZ J J (dZ (iQ J) (dZ mZ ?_))
  exact fZ (bZ (fQ J (cZ (aZ (gZ J (fZ (bZ (rZ (qZ (yZ J J ts hT J iM))))))))))
 ·have hA := asc_one hh
  have ed := dO_all (q := qk - used o k) (o := o) (k := k) hA
  rw [← map_all hh] at ed
  unfold RWd
  rw [ed, map_all hh]
  refine aZ (eZ J (oZ call200 J (iM) (rpages_ok W0 _ p) J ?_))
  rintro ⟨⟩ -
  rw [decide_eq_true hh.1]
  refine dZ (iQ J) (eZ J (kZ J J (eZ J (kZ J J (oZ call201 J (iM) (rperms_ok W0 _ pm) J ?_)))))
  rintro ⟨⟩ -
  rw [decide_eq_true hh.2]
  refine kZ J J (dZ (iQ J) (dZ mZ ?_))
  refine fZ (bZ (vZ J (uZ (bZ (cZ (aZ (eZ J (eZ J (eZ J (kQ (Eff.makeB (k := 256) underlying32 ti5 J J (by decide)) J ?_))))))))))
  rintro b18 -
  refine dZ (oQ (aX (pvs := [(0, .int .i64 p), (1, .int .i64 pm), (2, .slice (some ⟨b18, 0, none⟩) 256 256)]) bu180 ti180 J (cells := [.int .i64 p, .int .i64 pm, .slice (some ⟨b18, 0, none⟩) 256 256]) J) (v' := .agg (PV.cells ⟨p.toNat, pm.toNat, some ⟨b18, 0, none⟩, 256, zs⟩).toArray) (by unfold PV.cells; dsimp only; rw [Int.toNat_of_nonneg hh.1.1, Int.toNat_of_nonneg (by omega)]; rfl)) ?_
  refine kQ (aV [.tmp 19] (vs := [.agg (PV.cells ⟨p.toNat, pm.toNat, some ⟨b18, 0, none⟩, 256, zs⟩).toArray]) (cells := PV.cells ⟨p.toNat, pm.toNat, some ⟨b18, 0, none⟩, 256, zs⟩) underlying36 ti180 J J J J (by decide) (by simp [Value.cells, PV.cells]) (by simp [Value.cells])) J ?_
  rintro b20 -
  refine oZ call202 J ((Imp.trans (B := obx ⟨p.toNat, pm.toNat, some ⟨b18, 0, none⟩, 256, zs⟩ :: Star [] :: osl 180 3 (some ⟨b20, 0, none⟩) 1 1 (PV.cells ⟨p.toNat, pm.toNat, some ⟨b18, 0, none⟩, 256, zs⟩ ++ []) :: RS b w k (pvs o k) ts :: RW w fr ls :: Fr) (Imp.trans (Imp.trans star_nil iM) (Imp.refl _)) (Imp.trans star_add iM))) (rall_spec W0 _ (o := o) (b := b) (w := w) (k := k) (ts := ts) (fr := fr) (q := qk - used o k) (ls := ls) (a := some ⟨b20, 0, none⟩) (c := 1) (l := [⟨p.toNat, pm.toNat, some ⟨b18, 0, none⟩, 256, zs⟩]) hA hT hk hls (by omega) hf) J ?_
  rintro ts' hT'
  exact gZ J (fZ (bZ (rZ (yZ J J ts' hT' J iM))))
set_option maxHeartbeats 1000000 in
theorem runmap_spec {q : Int} (p : Int) (hk : ls[k]? = some q) (hls : ls.length ≤ 1024) (hq : -1000000 ≤ q ∧ q ≤ 1000000) (hf : -1000000 ≤ fr ∧ fr ≤ 1000000) :
 Ctr prog W0 159 [.pointer (some ⟨b, 0, none⟩), .int .i64 p] (RS b w k (pvs o k) ts :: RW w fr ls :: Fr) (fun _ : Unit => True) (fun _ => .int .i64 (unmapO o k p).1)
  (fun _ => RS b w k (pvs (unmapO o k p).2 k) ts :: RWd w k o (unmapO o k p).2 fr q ls :: Fr) := by
 have hpl := pvs_len o k
 have hkl := (List.getElem?_eq_some_iff.1 hk).1
 refine Ctr.of_body func159 J ntmps159 J (cZ (aZ (gZ J (fZ (bZ (cZ (cZ ?_)))))))
 rcases Decidable.em (0 ≤ p ∧ p < 4096) with hh | hh
 ·refine aZ (eZ J (oZ call200 J (iM) (rpages_ok W0 _ p) J ?_))
  rintro ⟨⟩ -
  rw [decide_eq_true hh]
  refine dZ (iQ J) (fZ (bZ (vZ J (uZ (bZ (cZ ?_))))))
  rcases hv : o.vw k p.toNat with _ | x
  ·have e : unmapO o k p = (90, o) := by unfold unmapO; rw [if_neg (fun q => q hh), if_neg (by rw [hv]; simp)]
   rw [e, rwd_same hk]
   refine aZ (eZ J (eZ J (oZ call198 J (iM) (rfind_spec W0 _ (b := b) (w := w) (k := k) (L := pvs o k) (ts := ts) (by omega) p) J ?_)))
   rintro ⟨⟩ -
   rw [fnd_none (show vI o k p = none by unfold vI; rw [if_pos hh, hv])]
   refine gZ J (fZ (bZ (cZ (cZ (aZ (eZ J (dZ eQ ?_)))))))
   exact fZ (bZ (fQ J (cZ (aZ (gZ J (fZ (bZ (rZ (qZ (yZ J J () trivial J iM))))))))))
  ·have e : unmapO o k p = (0, ⟨up2 o.vw k p.toNat none, o.ts, o.fr + 1⟩) := by unfold unmapO; rw [if_neg (fun q => q hh), if_pos (by rw [hv]; rfl)]
   have ed := dO_unmap (o := o) (k := k) (p := p)
   rw [e, if_pos J] at ed
   unfold RWd
   rw [e, ed, show fr - (-1 : Int) = fr + 1 by omega, show q - (-1 : Int) = q + 1 by omega]
   obtain ⟨pn, rfl⟩ := Int.eq_ofNat_of_zero_le hh.1
   rw [Int.toNat_natCast] at hv ⊢
   obtain ⟨f1, f2⟩ := fnd_some (by omega) hv
   refine aZ (eZ J (eZ J (oZ call198 J (iM) (rfind_spec W0 _ (b := b) (w := w) (k := k) (L := pvs o k) (ts := ts) (by omega) (pn : Int)) J ?_)))
   rintro ⟨⟩ -
   rw [f1]
   refine gZ J (fZ (bZ (cZ (cZ (aZ (eZ J (dZ eQ ?_)))))))
   refine fZ (bZ (vZ J (uZ (bZ (cZ (kV (A := RS b w k (pvs o k) ts) eX rs_open ?_))))))
   rintro ⟨za, zc, zl, zta, ztc⟩ hz
   refine rX star_open ?_
   dsimp only [RSO, List.cons_append, List.nil_append] at hz ⊢
   obtain ⟨y, hy, y1, y2, y3⟩ := pv_at (z := ⟨za, zc, zl, zta, ztc⟩) hz (show pn < 4096 by omega) hv
   dsimp only at hy
   have hil := (List.getElem?_eq_some_iff.1 hy).1
   have hzl : zl.length = (pvs o k).length := by rw [← hz, List.length_map]
   have hers : (zl.eraseIdx (pvTo o k pn).length).map PV.v = pvs ⟨up2 o.vw k pn none, o.ts, o.fr + 1⟩ k := by
    rw [List.eraseIdx_eq_take_drop_succ, List.map_append, List.map_take, List.map_drop, hz, pvs_cut o k (show pn < 4096 by omega), pvs_upd (show pn < 4096 by omega), hv]
    rw [List.append_assoc, List.take_left' J, show (pvTo o k pn).length + 1 = (pvTo o k pn ++ optP pn (some x)).length by simp [optP], ← List.append_assoc, List.drop_left' J]
    simp [optP]
   refine lX (fun w hw => SlR.elem_shape (W0 := W0) (f := PV.cells) (xs := zl) (i := (pvTo o k pn).length) (SlR.of_osl (E := 180) (a := za) (c := zc) eX) PV.len (by decide) hil w hw) ?_
   rintro ⟨ol, oo, rfl⟩
   refine lX (fun w hw => (osl_facts (W0 := W0) (E := 180) (sz := 3) (a := some ⟨ol, oo, none⟩) (c := zc) (m := zl.length) (xs := (zl.map PV.cells).flatten) eX w hw).2) ?_
   intro hcap
   generalize (pvTo o k pn).length = i at *
   refine qQ (.lo 0 0 (.lo 2 0 (.lo 3 0 (.lo 4 0 (.lo 5 2 (.lo 6 0 (.lo 7 0 (.lo 9 0 (.lo 10 0 (.lo 11 0 (.lo 12 2 (.lo 13 0 (.lo 14 0 (.lo 15 0 (.eff1 1 false (.eff1 8 false (.eff1 16 false (.lo 17 1 (.lo 18 1 (.eff1 19 true (.done))))))))))))))))))))) [1, 8, 16, 19] [5, 12] ([]) ([blk b [.pointer (some ⟨w, 0, none⟩), .int .i64 k, .slice (some ⟨ol, oo, none⟩) zl.length zc, .slice zta ts.length ztc] 264]) mixed (by kernel_rfl) (Imp.none _) iM ?_
   refine nZ J J (nZ J J (dQ J J (wZ J fa264_2 J (hZ J (iZ ti36 J) ?_))))
   refine nZ J J (hZ J (oQ (sV underlying36 ti180 J (Bound.some J) (by omega) (by omega)) (v' := .slice (some ⟨ol, oo, none⟩) i zc) (by rw [Int.toNat_natCast])) ?_)
   refine nZ J J (dQ J J (wZ J fa264_2 J (hZ J (iZ ti36 J) ?_)))
   refine nZ J J (hZ J (hQ J J wO) (hZ J (oQ (Yield.slice underlying36 ti180 J (Bound.some J) Bound.none (by omega) (by omega) (by omega)) (v' := .slice ((some ⟨ol, oo, none⟩ : Option Addr).map fun a => cutAt a (i + 1) zc 3) (zl.length - (i + 1)) (zc - (i + 1))) (by rw [show ((i : Int) + 1).toNat = i + 1 by omega, Int.toNat_natCast])) ?_))
   refine aQ (wQ J J (sX underlying36 ti180 J) J (fun _ => iM) (fun _ => Imp.refl _) (fun _ => iM) ?_)
   rintro b15 -
   refine aQ (wQ J J (Eff.append0 (k := i) (ys := ((zl.take i).map PV.cells).flatten) J J J underlying36 underlying36 ti180 J (by decide) fC (SlR.of_row ((SlR.of_osl (W0 := W0) (E := 180) (a := some ⟨ol, oo, none⟩) (c := zc) (m := zl.length) (xs := (zl.map PV.cells).flatten) eX).row 0 (i * 3) (by rw [List.drop_zero]; exact flat_take PV.len zl i)) (by rw [flat_len PV.len, List.length_take]; omega)) (Ms.flat_ones PV.ones _) (by omega)) J (fun _ => iM) (fun _ => Imp.refl _) (fun _ => iM) ?_)
   rintro ⟨a22, c22⟩ -
   refine aQ (wQ J J (fX (a := a22) (c := c22) (m := i) (xs := ((zl.take i).map PV.cells).flatten) (k := zl.length - (i + 1)) (ys := ((zl.drop (i + 1)).map PV.cells).flatten) J J J underlying36 underlying36 ti180 J (by decide) fC (SlR.cut (SlR.of_osl (W0 := W0) (E := 180) (a := some ⟨ol, oo, none⟩) (c := zc) (m := zl.length) (xs := (zl.map PV.cells).flatten) eX) (by omega) (Nat.le_refl _) hcap (by rw [flat_drop PV.len, List.take_of_length_le (by rw [flat_len PV.len, List.length_drop]; omega)])) (Ms.flat_ones PV.ones _) (by omega)) J (fun _ => iM) (fun _ => Imp.refl _) (fun _ => iM) ?_)
   rintro ⟨a30, c30⟩ -
   refine dQ J J (wZ J fa264_2 J (aQ (wQ J J (uQ ti36 J J fC J (by first | (simp; done) | decide)) J (fun _ => iM) (fun _ => Imp.refl _) (fun _ => iM) ?_)))
   rintro ⟨⟩ -
   refine pQ (bZ (cZ (kV (A := RW w fr ls) eX rw_open ?_)))
   rintro ⟨wa, wc⟩ -
   refine rX star_open ?_
   dsimp only [RWO, List.cons_append, List.nil_append]
   refine lX (fun w hw => iv_shape (SlR.of_osl (W0 := W0) (E := 3) (a := wa) (c := wc) (m := ls.length) (xs := iv ls) eX) (by omega) w hw) ?_
   rintro ⟨wl, wo, rfl⟩
   refine qQ (.lo 0 1 (.lo 1 1 (.lo 2 1 (.lo 3 1 (.lo 4 1 (.lo 5 1 (.lo 6 1 (.lo 7 1 (.lo 8 1 (.lo 9 1 (.lo 10 1 (.lo 11 1 (.lo 12 1 (.lo 13 1 (.lo 14 1 (.eff1 15 false (.done))))))))))))))))) [15] [] ([]) ([]) mixed (by kernel_rfl) (Imp.none _) (Imp.none _) (nZ J J (dQ J J (wZ J fa264_0 J (hZ J (iZ ti197 J) ?_))))
   refine dQ J J (wZ J fa199_1 J (hZ J (iZ ti80 J) ?_))
   refine nZ J J (dQ J J (wZ J fa264_1 J (hZ J (iZ ti3 J) ?_)))
   refine hZ J (lZ underlying80 ti3 J J (by omega) (by omega)) ?_
   refine hZ J (jZ (v := .int .i64 q) ti3 J (by rw [show wo + (k : Int).toNat * 1 = wo + k by omega]; exact (SlR.of_osl (W0 := W0) (E := 3) (a := some ⟨wl, wo, none⟩) (c := wc) (m := ls.length) (xs := iv ls) eX).cel (iv_get hk))) ?_
   refine hZ J (hQ J J wO) (hZ J (lZ underlying80 ti3 J J (by omega) (by omega)) ?_)
   refine aQ (wQ J J (storeInt (i := k) (z := q + 1) ti3 (show wo + (k : Int).toNat * 1 = wo + k by omega) J J fC hkl) J (fun _ => iM) (fun _ => Imp.refl _) (fun _ => iM) ?_)
   rintro ⟨⟩ -
   refine pQ (bZ (cZ (aZ (eZ J (zZ J (pZ fa264_0 J (dZ (iZ ti197 J) ?_)))))))
   refine zZ J (pZ fa199_0 J (dZ (iZ ti3 J) ?_))
   refine dZ (hQ J J wO) (zZ J (pZ fa199_0 J (sQ (uQ ti3 J J fC J (by first | (simp; done) | decide)) J ?_)))
   rintro ⟨⟩ -
   refine fZ (bZ (cZ (aZ (gZ J (fZ (bZ (rZ ?_)))))))
   have hyS : (zl.map obx)[i]? = some (obx y) := by rw [List.getElem?_map, hy]; rfl
   have hel : (zl.eraseIdx i).length = i + (zl.length - (i + 1)) := by rw [List.length_eraseIdx, if_pos hil]; omega
   have hec : ((zl.eraseIdx i).map PV.cells).flatten = ((zl.take i).map PV.cells).flatten ++ ((zl.drop (i + 1)).map PV.cells).flatten := by rw [List.eraseIdx_eq_take_drop_succ, List.map_append, List.flatten_append]
   refine yZ J J () trivial J (Imp.trans (B := RSO b w k ts ⟨a30, c30, zl.eraseIdx i, zta, ztc⟩ ++ (RWO w (fr + 1) (ls.set k (q + 1)) (some ⟨wl, wo, none⟩, wc) ++ Fr)) ?_ (Imp.trans (rs_close _ hers) (Imp.trans (B := RWO w (fr + 1) (ls.set k (q + 1)) (some ⟨wl, wo, none⟩, wc) ++ (RS b w k (pvs ⟨up2 o.vw k pn none, o.ts, o.fr + 1⟩ k) ts :: Fr)) iM (Imp.trans (rw_close _) iM))))
   dsimp only [RSO, RWO, oiv, List.cons_append, List.nil_append]
   rw [hel, hec, List.length_set, ← eraseIdx_map']
   exact Imp.trans (B := Star (zl.map obx) :: blk b [.pointer (some ⟨w, 0, none⟩), .int .i64 k, .slice a30 (i + (zl.length - (i + 1))) c30, .slice zta ts.length ztc] 264 :: osl 180 3 a30 c30 (i + (zl.length - (i + 1))) (((zl.take i).map PV.cells).flatten ++ ((zl.drop (i + 1)).map PV.cells).flatten) :: osl 3 1 zta ztc ts.length (iv ts) :: blk w [.int .i64 (fr + 1), .slice (some ⟨wl, wo, none⟩) ls.length wc] 199 :: osl 3 1 (some ⟨wl, wo, none⟩) wc ls.length (iv (ls.set k (q + 1))) :: Fr) iM (Imp.trans (star_take hyS) iM)
 ·have e : unmapO o k p = (2, o) := if_pos hh
  rw [e, rwd_same hk]
  refine aZ (eZ J (oZ call200 J (iM) (rpages_ok W0 _ p) J ?_))
  rintro ⟨⟩ -
  rw [decide_eq_false hh]
  exact dZ (iQ J) (fZ (bZ (fQ J (cZ (aZ (gZ J (fZ (bZ (rZ (qZ (yZ J J () trivial J iM)))))))))))
end
end Go.Proofs.YtphljkplokjonaaGreat.Sp
namespace Go.Proofs.YtphljkplokjonaaGreat.Vi
open Go Go.Sl Go.RowKit Go.Proofs Go.Proofs.YtphljkplokjonaaGreat.T Tryz
def lineC (q : Nat) : List Value := (List.range 8).map fun i => .bool (q.testBit i)
theorem lineC_len (q : Nat) : (lineC q).length = 8 := by simp [lineC]
theorem lineC_get (q : Nat) {i : Nat} (h : i < 8) : (lineC q)[i]? = some (.bool (q.testBit i)) := by simp [lineC, h]
def setBit (q i : Nat) (b : Bool) : Nat := if b then q ||| 2 ^ i else q ^^^ (q &&& 2 ^ i)
theorem setBit_test (q i j : Nat) (b : Bool) : (setBit q i b).testBit j = if i = j then b else q.testBit j := by
 unfold setBit
 cases b with
 | true => simp only [if_true, Nat.testBit_or, Nat.testBit_two_pow]; by_cases h : i = j <;> simp [h]
 | false => simp only [Bool.false_eq_true, if_false, Nat.testBit_xor, Nat.testBit_and, Nat.testBit_two_pow]; by_cases h : i = j <;> simp [h]
theorem lt_of_bits {q : Nat} (h : ∀ j, 8 ≤ j → q.testBit j = false) : q < 256 := by
 rw [show (256 : Nat) = 2 ^ 8 by rfl]
 exact Nat.lt_pow_two_of_testBit q h
theorem bits_of_lt {q : Nat} (h : q < 256) {j : Nat} (hj : 8 ≤ j) : q.testBit j = false :=
 Nat.testBit_lt_two_pow (Nat.lt_of_lt_of_le h (by rw [show (256 : Nat) = 2 ^ 8 by rfl]; exact Nat.pow_le_pow_right (by decide) hj))
theorem setBit_lt {q i : Nat} (h : q < 256) (hi : i < 8) (b : Bool) : setBit q i b < 256 := lt_of_bits fun j hj => by
 rw [setBit_test, if_neg (by omega)]; exact bits_of_lt h hj
theorem lineC_set (q i : Nat) (b : Bool) : (lineC q).set i (.bool b) = lineC (setBit q i b) := by
 apply List.ext_getElem?
 intro j
 rw [List.getElem?_set]
 by_cases h : j < 8
 ·rw [lineC_get q h, lineC_get (setBit q i b) h, setBit_test, lineC_len]
  by_cases hij : i = j
  ·subst hij; simp [h]
  ·simp [hij]
 ·have e1 : ∀ q, (lineC q)[j]? = none := fun q => List.getElem?_eq_none (by rw [lineC_len]; omega)
  rw [e1, e1, lineC_len]
  by_cases hij : i = j
  ·subst hij; simp [h]
  ·rw [if_neg hij]
def VC (q p : Nat) (at' : Int) (set : Bool) : List Value := lineC q ++ lineC p ++ [.int .i64 at', .bool set]
theorem VC_len (q p : Nat) (a : Int) (s : Bool) : (VC q p a s).length = 18 := by simp [VC, lineC_len]
theorem VC_p (q p : Nat) (a : Int) (s : Bool) {i : Nat} (h : i < 8) : (VC q p a s)[8 + i]? = some (.bool (p.testBit i)) := by
 unfold VC; rw [List.append_assoc, List.getElem?_append_right (by rw [lineC_len]; omega), lineC_len, Nat.add_sub_cancel_left, List.getElem?_append_left (by rw [lineC_len]; exact h), lineC_get p h]
theorem VC_at (q p : Nat) (a : Int) (s : Bool) : (VC q p a s)[16]? = some (.int .i64 a) := by
 unfold VC; rw [List.getElem?_append_right (by simp [lineC_len])]; simp [lineC_len]
theorem VC_set (q p : Nat) (a : Int) (s : Bool) : (VC q p a s)[17]? = some (.bool s) := by
 unfold VC; rw [List.getElem?_append_right (by simp [lineC_len])]; simp [lineC_len]
theorem VC_setq (q p : Nat) (a : Int) (s b : Bool) {i : Nat} (h : i < 8) : (VC q p a s).set i (.bool b) = VC (setBit q i b) p a s := by
 unfold VC; rw [List.append_assoc, List.set_append_left _ _ (by rw [lineC_len]; exact h), lineC_set, ← List.append_assoc]
theorem VC_setp (q p : Nat) (a : Int) (s b : Bool) {i : Nat} (h : i < 8) : (VC q p a s).set (8 + i) (.bool b) = VC q (setBit p i b) a s := by
 unfold VC; rw [List.append_assoc, List.set_append_right _ _ (by rw [lineC_len]; omega), lineC_len, Nat.add_sub_cancel_left, List.set_append_left _ _ (by rw [lineC_len]; exact h), lineC_set, ← List.append_assoc]
theorem VC_setat (q p : Nat) (a a' : Int) (s : Bool) : (VC q p a s).set 16 (.int .i64 a') = VC q p a' s := by
 unfold VC; rw [List.set_append_right _ _ (by simp [lineC_len])]; simp [lineC_len]
theorem VC_setset (q p : Nat) (a : Int) (s s' : Bool) : (VC q p a s).set 17 (.bool s') = VC q p a s' := by
 unfold VC; rw [List.set_append_right _ _ (by simp [lineC_len])]; simp [lineC_len]
theorem VC_rowq (q p : Nat) (a : Int) (s : Bool) : ((VC q p a s).drop 0).take 8 = lineC q := by
 unfold VC; rw [List.drop_zero, List.append_assoc, List.take_append_of_le_length (by rw [lineC_len]; omega), List.take_of_length_le (by rw [lineC_len]; omega)]
theorem VC_rowp (q p : Nat) (a : Int) (s : Bool) : ((VC q p a s).drop 8).take 8 = lineC p := by
 unfold VC; rw [List.append_assoc, List.drop_append, List.drop_eq_nil_of_le (by rw [lineC_len]; omega), lineC_len, Nat.sub_self, List.drop_zero, List.nil_append, List.take_append_of_le_length (by rw [lineC_len]; omega), List.take_of_length_le (by rw [lineC_len]; omega)]
theorem lineC_ones (q : Nat) : ∀ v ∈ lineC q, one v = true := by
 intro v hv; simp only [lineC, List.mem_map] at hv; obtain ⟨i, _, rfl⟩ := hv; rfl
theorem lineC_fit (q : Nat) : fitK [none, none, none, none, none, none, none, none] (lineC q) = true := by rfl
theorem lineC_zero {q : Nat} (h : q < 256) : eqCells (lineC q) (lineC 0) = decide (q = 0) := by
 by_cases hq : q = 0
 ·subst hq; decide
 ·rw [decide_eq_false hq]
  obtain ⟨j, hj⟩ := Nat.exists_testBit_of_ne_zero hq
  have hj8 : j < 8 := by
   rcases Nat.lt_or_ge j 8 with h1 | h1
   ·exact h1
   ·rw [bits_of_lt h h1] at hj; cases hj
  have e : eqCells (lineC q) (lineC 0) = ((List.range 8).all fun j => !q.testBit j) := by
   simp only [lineC, List.range, List.range.loop, List.map_cons, List.map_nil, eqCells, cellEq, List.all_cons, List.all_nil, Nat.zero_testBit]
   cases q.testBit 0 <;> cases q.testBit 1 <;> cases q.testBit 2 <;> cases q.testBit 3 <;> cases q.testBit 4 <;> cases q.testBit 5 <;> cases q.testBit 6 <;> cases q.testBit 7 <;> rfl
  rw [e]
  rw [List.all_eq_false]
  exact ⟨j, by simpa using hj8, by simp [hj]⟩
theorem wraps_word (n : Int) (h₀ : 0 ≤ n) (h₁ : n < 2 ^ 32) : IntKind.u32.wrap n = n := by rw [IntKind.wrap_u32]; omega
theorem pow_u32 {i : Nat} (h : i < 32) : IntKind.u32.wrap (1 * 2 ^ i) = ((2 ^ i : Nat) : Int) := by
 rw [Int.one_mul, show ((2 : Int) ^ i) = ((2 ^ i : Nat) : Int) by simp]
 have h1 : 2 ^ i < 2 ^ 32 := Nat.pow_lt_pow_right (by decide) h
 generalize 2 ^ i = z at h1
 exact wu32 (by omega) (by omega)
theorem or_nat {a b : Nat} (ha : a < 2 ^ 32) (hb : b < 2 ^ 32) : Go.bits .or .u32 (a : Int) (b : Int) = ((a ||| b : Nat) : Int) := (bits_nat .u32 32 (by decide) wraps_word a b ha hb).2
theorem mod_step (q i : Nat) : q % 2 ^ (i + 1) = if q.testBit i then (q % 2 ^ i) ||| 2 ^ i else q % 2 ^ i := by
 apply Nat.eq_of_testBit_eq
 intro j
 by_cases h : q.testBit i = true
 ·rw [if_pos h]
  simp only [Nat.testBit_or, Nat.testBit_mod_two_pow, Nat.testBit_two_pow]
  by_cases hj : i = j
  ·subst hj; simp [h]
  ·have : (j < i + 1) = (j < i) := by apply propext; omega
   simp [hj, this]
 ·rw [if_neg h]
  simp only [Nat.testBit_mod_two_pow]
  by_cases hj : i = j
  ·subst hj; simp [h]
  ·have : (j < i + 1) = (j < i) := by apply propext; omega
   simp [this]
abbrev V (v q p : Nat) (at' : Int) (set : Bool) : HProp := blk v (VC q p at' set) 162
section
variable (W0 : World) (Fr : List HProp)
theorem bits_spec {q : Nat} (hq : q < 256) : Ctr prog W0 83 [.agg (lineC q).toArray] Fr (fun _ : Unit => True) (fun _ => .int .u32 q) (fun _ => Fr) := by
 refine Ctr.of_body func83 J ntmps83 J (cZ (aZ (kQ (uX J) J ?_)))
 rintro b1 -
 show OG prog W0 _ _ _ _ _ _ (blk b1 (lineC q) 160 :: Fr)
 refine gZ J (fZ (bZ (cZ (aZ (gZ J (fZ (bZ (cZ (cZ (aZ (dZ (zQ ti160 J (lineC_len q) (Row.of_blk eX (by rw [lineC_len, List.drop_zero, List.take_of_length_le (by rw [lineC_len]; omega)]))) ?_)))))))))))
 refine dZ (Yield.buildArr0 underlying160 ti160 ti4) (dZ (Yield.agg_eql 6 J (ys := lineC 0) J (by decide) flat160 guard160 (lineC_fit q) (lineC_fit 0) (lineC_zero hq)) (fZ (bZ (lQ J (fun hc => ?_) (fun hc => ?_)))))
 ·try replace hc := odT hc
  subst hc
  exact cZ (aZ (eZ J (gZ J (fZ (bZ (rZ (qZ (yZ J J () trivial J iM))))))))
 ·try replace hc := odF hc
  refine uZ (bZ (cZ (cZ (aZ (dZ (zQ ti160 J (lineC_len q) (Row.of_blk eX (by rw [lineC_len, List.drop_zero, List.take_of_length_le (by rw [lineC_len]; omega)]))) ?_)))))
  refine eZ J (fZ (bZ (mQ (mX (fun i : Nat => i ≤ 8) (fun i => [(1, .pointer (some ⟨b1, 0, none⟩)), (3, .int .u32 (q % 2 ^ i : Nat)), (10, .agg (lineC q).toArray), (11, .int .i64 i)]) (fun _ => [blk b1 (lineC q) 160] ++ Fr) (fun i => 8 - i) 0 (by decide) (by rw [Nat.pow_zero, Nat.mod_one]; exact eS) (Imp.refl _) ?_))))
  intro i hi
  refine cZ (aZ (dZ eQ ?_))
  refine fZ (bZ (cZ (lQ J (fun hc => ?_) (fun hc => ?_))))
  ·try replace hc := odT hc
   have hi' : i < 8 := by omega
   have hp : 2 ^ i < 2 ^ 32 := Nat.pow_lt_pow_right (by decide) (by omega)
   have hm : q % 2 ^ i < 2 ^ 32 := Nat.lt_of_le_of_lt (Nat.mod_le _ _) (by omega)
   refine uZ (bZ (cZ (mQ (cZ (aZ (eZ J (dZ (Yield.index_agg (v := .bool (q.testBit i)) underlying160 ti4 J J (by omega) (by omega) (by rw [Nat.mul_one]; exact lineC_get q hi')) ?_)))))))
   refine gZ J (gZ J (fZ (bZ (cZ (aZ (eZ J (fZ (bZ (lQ J (fun hc => ?_) (fun hc => ?_))))))))))
   ·try replace hc := odT hc
    refine aZ (eZ J (eZ J (dZ (zV (m := i) (c := ((2 ^ i : Nat) : Int)) J J J (by simp [IntKind.bits]; omega) (by rw [Int.one_mul, show ((2 : Int) ^ i) = ((2 ^ i : Nat) : Int) by simp]; exact wu32 (by omega) (by omega))) ?_)))
    refine dZ (cV J J J (or_nat hm hp)) (gZ J (fZ (tZ (bZ (aZ (dZ (hQ J J wO) (eZ J (fZ (gX (i + 1) (show i + 1 ≤ 8 by omega) (show 8 - (i + 1) < 8 - i by omega) ?_ iM)))))))))
    rw [mod_step, if_pos hc]; exact eS
   ·try replace hc := odF hc
    refine uZ (tZ (bZ (aZ (dZ (hQ J J wO) (eZ J (fZ (gX (i + 1) (show i + 1 ≤ 8 by omega) (show 8 - (i + 1) < 8 - i by omega) ?_ iM)))))))
    rw [mod_step, if_neg (by rw [hc]; decide)]; exact eS
  ·try replace hc := odF hc
   refine iX (bQ (bQ (tQ (bZ (cZ (aZ (eZ J (gZ J (fZ (bZ (rZ ?_)))))))))))
   have : i = 8 := by omega
   subst this
   exact yZ J J () trivial (by rw [Nat.mod_eq_of_lt (by omega)]) iM
theorem new_spec : Ctr prog W0 54 [] Fr (fun _ : Nat => True) (fun v => .pointer (some ⟨v, 0, none⟩)) (fun v => V v 0 0 0 false :: Fr) := by
 refine Ctr.of_body func54 J ntmps54 J (cZ (aZ (gZ J (fZ (bZ (cZ (aZ (dZ (Yield.build0 bu162 ti162) (kQ (uX J) J ?_)))))))))
 rintro b2 -
 exact gZ J (fZ (bZ (rZ (yZ J J b2 trivial J (Imp.refl _)))))
theorem timer_spec {v q p : Nat} {a : Int} {s : Bool} (n : Int) : Ctr prog W0 217 [.pointer (some ⟨v, 0, none⟩), .int .i64 n] (V v q p a s :: Fr) (fun _ : Unit => True)
 (fun _ => .int .i64 (if 0 ≤ n ∧ n ≤ 281474976710656 then 0 else 2)) (fun _ => (if 0 ≤ n ∧ n ≤ 281474976710656 then V v q p n true else V v q p a s) :: Fr) := by
 refine Ctr.of_body func217 J ntmps217 J (cZ (aZ (gZ J (fZ (bZ (cZ (cZ ?_)))))))
 rcases (show n < 0 ∨ (0 ≤ n ∧ n > 281474976710656) ∨ (0 ≤ n ∧ n ≤ 281474976710656) by omega) with hh | hh | hh
 ·refine aZ (eZ J (dZ eQ ?_))
  refine eZ J (gQ J J J J J (gQ J J J J J (dZ mZ ?_)))
  refine fZ (bZ (fQ J (cZ (aZ (gZ J (fZ (bZ (rZ (qZ ?_)))))))))
  rw [if_neg (by omega), if_neg (by omega)]
  exact yZ J J () trivial J (Imp.refl _)
 ·refine aZ (eZ J (dZ eQ ?_))
  refine eZ J (kZ J J (eZ J (kZ J J (dZ kX ?_))))
  refine dZ mZ ?_
  refine fZ (bZ (fQ J (cZ (aZ (gZ J (fZ (bZ (rZ (qZ ?_)))))))))
  rw [if_neg (by omega), if_neg (by omega)]
  exact yZ J J () trivial J (Imp.refl _)
 ·refine aZ (eZ J (dZ eQ ?_))
  refine eZ J (kZ J J (eZ J (kZ J J (dZ kX ?_))))
  refine dZ mZ ?_
  refine fZ (bZ (vZ J (uZ (bZ (cZ (aZ (eZ J (eZ J (eZ J (zZ J (pZ fa162_2 J (sQ (uQ ti3 J J fC J (by rw [VC_len]; decide)) J ?_))))))))))))
  rintro ⟨⟩ -
  rw [show 0 + 16 = 16 from J, VC_setat]
  refine zZ J (pZ fa162_3 J (sQ (uQ ti4 J J fC J (by rw [VC_len]; decide)) J ?_))
  rintro ⟨⟩ -
  rw [show 0 + 17 = 17 from J, VC_setset]
  refine fZ (bZ (cZ (aZ (gZ J (fZ (bZ (rZ ?_)))))))
  rw [if_pos hh, if_pos hh]
  exact yZ J J () trivial J (Imp.refl _)
theorem stop_spec {v q p : Nat} {a : Int} {s : Bool} : Ctr prog W0 82 [.pointer (some ⟨v, 0, none⟩)] (V v q p a s :: Fr) (fun _ : Unit => True) (fun _ => .tuple #[]) (fun _ => V v q p 0 false :: Fr) := by
 refine Ctr.of_body func82 J ntmps82 J (aZ (eZ J (eZ J (zZ J (pZ fa162_2 J (sQ (uQ ti3 J J fC J (by rw [VC_len]; decide)) J ?_))))))
 rintro ⟨⟩ -
 rw [show 0 + 16 = 16 from J, VC_setat]
 refine zZ J (pZ fa162_3 J (sQ (uQ ti4 J J fC J (by rw [VC_len]; decide)) J ?_))
 rintro ⟨⟩ -
 rw [show 0 + 17 = 17 from J, VC_setset]
 exact fZ (qX J () trivial J (Imp.refl _))
theorem time_spec {v q p : Nat} {a : Int} {s : Bool} : Ctr prog W0 65 [.pointer (some ⟨v, 0, none⟩)] (V v q p a s :: Fr) (fun _ : Unit => True) (fun _ => .tuple #[.int .i64 a, .bool s]) (fun _ => V v q p a s :: Fr) := by
 refine Ctr.of_body func65 J ntmps65 J (cZ (aZ (gZ J (gZ J (fZ (bZ (cZ (qQ (.lo 0 1 (.lo 1 1 (.lo 2 1 (.lo 3 1 (.lo 4 1 (.lo 5 1 (.lo 6 1 (.lo 7 1 (.lo 8 1 (.lo 9 1 (.done))))))))))) [] [] ([]) ([]) mixed (by kernel_rfl) (Imp.none _) (Imp.none _) (nZ J J (dQ J J (wZ J fa162_2 J (hZ J (jZ ti3 J (Cel.of_blk eX (VC_at q p a s))) ?_))))))))))))
 refine nZ J J (dQ J J (wZ J fa162_3 J (hZ J (jZ ti4 J (Cel.of_blk eX (VC_set q p a s))) ?_)))
 exact hZ J (jQ J) (hZ J (jQ J) (pQ (bZ (rZ (oX J J J () trivial J (Imp.refl _))))))
theorem queue_spec {v q p : Nat} {a : Int} {s : Bool} (n : Int) : Ctr prog W0 62 [.pointer (some ⟨v, 0, none⟩), .int .i64 n] (V v q p a s :: Fr) (fun _ : Unit => True)
 (fun _ => .int .i64 (if 0 ≤ n ∧ n < 8 then 0 else 2)) (fun _ => V v (if 0 ≤ n ∧ n < 8 then setBit q n.toNat true else q) p a s :: Fr) := by
 refine Ctr.of_body func62 J ntmps62 J (cZ (aZ (gZ J (fZ (bZ (cZ (cZ ?_)))))))
 rcases (show n < 0 ∨ (0 ≤ n ∧ n ≥ 8) ∨ (0 ≤ n ∧ n < 8) by omega) with hh | hh | hh
 ·refine aZ (eZ J (dZ eQ ?_))
  refine eZ J (gQ J J J J J (gQ J J J J J (dZ mZ ?_)))
  refine fZ (bZ (fQ J (cZ (aZ (gZ J (fZ (bZ (rZ (qZ ?_)))))))))
  rw [if_neg (by omega), if_neg (by omega)]
  exact yZ J J () trivial J (Imp.refl _)
 ·refine aZ (eZ J (dZ eQ ?_))
  refine eZ J (kZ J J (eZ J (kZ J J (dZ cX ?_))))
  refine dZ mZ ?_
  refine fZ (bZ (fQ J (cZ (aZ (gZ J (fZ (bZ (rZ (qZ ?_)))))))))
  rw [if_neg (by omega), if_neg (by omega)]
  exact yZ J J () trivial J (Imp.refl _)
 ·refine aZ (eZ J (dZ eQ ?_))
  refine eZ J (kZ J J (eZ J (kZ J J (dZ cX ?_))))
  refine dZ mZ ?_
  refine fZ (bZ (vZ J (uZ (bZ (cZ (aZ (eZ J (eZ J (zZ J (pZ fa162_0 J (dZ (bX underlying160 ti4 J J (by omega) (by omega)) ?_)))))))))))
  refine sQ (uQ ti4 J J fC J (by rw [VC_len]; omega)) J ?_
  rintro ⟨⟩ -
  rw [show 0 + 0 + n.toNat * 1 = n.toNat by omega, VC_setq _ _ _ _ _ (by omega)]
  refine fZ (bZ (cZ (aZ (gZ J (fZ (bZ (rZ ?_)))))))
  rw [if_pos hh, if_pos hh]
  exact yZ J J () trivial J (Imp.refl _)
theorem pending_spec {v q p : Nat} {a : Int} {s : Bool} (hp : p < 256) : Ctr prog W0 34 [.pointer (some ⟨v, 0, none⟩)] (V v q p a s :: Fr) (fun _ : Unit => True) (fun _ => .int .u32 p) (fun _ => V v q p a s :: Fr) := by
 refine Ctr.of_body func34 J ntmps34 J (cZ (aZ (gZ J (fZ (bZ (cZ (aZ (eZ J (zZ J (pZ fa162_1 J (dZ (zQ ti160 J (lineC_len p) (Row.of_blk eX (VC_rowp q p a s))) ?_)))))))))))
 refine oZ call83 J (Imp.refl _) (bits_spec W0 _ hp) J ?_
 rintro ⟨⟩ -
 exact gZ J (fZ (bZ (rZ (yZ J J () trivial J (Imp.refl _)))))
def due (a : Int) (s : Bool) (now : Int) : Bool := s && decide (a ≤ now)
theorem or_lt {p q : Nat} (hp : p < 256) (hq : q < 256) : p ||| q < 256 := Nat.or_lt_two_pow (n := 8) hp hq
theorem rel_step (p t i : Nat) : setBit (p ||| (t % 2 ^ i)) i ((p ||| (t % 2 ^ i)).testBit i || t.testBit i) = p ||| (t % 2 ^ (i + 1)) := by
 apply Nat.eq_of_testBit_eq
 intro j
 rw [setBit_test]
 simp only [Nat.testBit_or, Nat.testBit_mod_two_pow]
 by_cases hj : i = j
 ·subst hj; simp
 ·have : (j < i + 1) = (j < i) := by apply propext; omega
  simp [hj, this]
theorem release_spec {v q p : Nat} {a : Int} {s : Bool} (now : Int) (hq : q < 256) (hp : p < 256) : Ctr prog W0 27 [.pointer (some ⟨v, 0, none⟩), .int .i64 now] (V v q p a s :: Fr) (fun _ : Unit => True)
 (fun _ => .int .u32 (if due a s now then setBit q 0 true else q : Nat)) (fun _ => V v 0 (p ||| (if due a s now then setBit q 0 true else q)) (if due a s now then 0 else a) (s && !due a s now) :: Fr) := by
 have h1 : due a s now = true → setBit q 0 true < 256 := fun _ => setBit_lt hq (by decide) true
 refine Ctr.of_body func27 J ntmps27 J (cZ (aZ (gZ J (fZ (bZ (CG.cut (fun _ : Unit => True) (fun _ => [(0, .pointer (some ⟨v, 0, none⟩)), (1, .int .i64 now)]) (fun _ => V v (if due a s now then setBit q 0 true else q) p (if due a s now then 0 else a) (s && !due a s now) :: Fr) ?_ ?_))))))
 ·refine cZ ?_
  rcases (show (s = true ∧ a ≤ now) ∨ (s = true ∧ ¬ a ≤ now) ∨ s = false by cases s <;> simp; omega) with hh | hh | hh
  ·refine aZ (eZ J (zZ J (pZ fa162_3 J (dZ (oQ (jZ ti4 J (Cel.of_blk eX (VC_set q p a s))) (v' := .bool true) (by rw [hh.1])) ?_))))
   refine eZ J (kZ J J (eZ J (kZ J J (zZ J (kZ J J (pZ fa162_2 J (kZ J J (dZ (jZ ti3 J (Cel.of_blk eX (VC_at q p a s))) ?_))))))))
   refine kZ J J (eZ J (kZ J J (dZ Yield.leqA ?_)))
   refine dZ mZ ?_
   refine fZ (bZ (fQ J (cZ (aZ (eZ J (oZ call82 J (iM) (stop_spec W0 Fr) J ?_))))))
   rintro ⟨⟩ -
   refine fZ (bZ (aZ (eZ J (zZ J (pZ fa162_0 J (dZ (bX underlying160 ti4 J J (by omega) (by omega)) ?_))))))
   refine sQ (uQ ti4 J J fC J (by rw [VC_len]; decide)) J ?_
   rintro ⟨⟩ -
   rw [show 0 + 0 + (0 : Int).toNat * 1 = 0 from J, VC_setq _ _ _ _ _ (by decide)]
   refine fZ ?_
   have hd : due a s now = true := by simp [due, hh.1, hh.2]
   rw [hd]
   refine pV () trivial eS ?_
   rw [hh.1]
   exact Imp.refl _
  ·refine aZ (eZ J (zZ J (pZ fa162_3 J (dZ (oQ (jZ ti4 J (Cel.of_blk eX (VC_set q p a s))) (v' := .bool true) (by rw [hh.1])) ?_))))
   refine eZ J (kZ J J (eZ J (kZ J J (zZ J (kZ J J (pZ fa162_2 J (kZ J J (dZ (jZ ti3 J (Cel.of_blk eX (VC_at q p a s))) ?_))))))))
   refine kZ J J (eZ J (kZ J J (dZ Yield.leqA ?_)))
   refine dZ mZ ?_
   refine fZ (bZ (vZ J (uZ ?_)))
   have hd : due a s now = false := by simp [due, hh.1, hh.2]
   rw [hd]
   refine pV () trivial eS ?_
   rw [hh.1]
   exact Imp.refl _
  ·refine aZ (eZ J (zZ J (pZ fa162_3 J (dZ (oQ (jZ ti4 J (Cel.of_blk eX (VC_set q p a s))) (v' := .bool false) (by rw [hh])) ?_))))
   refine eZ J (gQ J J J J J (gQ J J J J J (gQ J J J J J (gQ J J J J J (gQ J J J J J (gQ J J J J J (dZ mZ ?_)))))))
   refine fZ (bZ (vZ J (uZ ?_)))
   have hd : due a s now = false := by simp [due, hh]
   rw [hd]
   refine pV () trivial eS ?_
   rw [hh]
   exact Imp.refl _
 rintro ⟨⟩ -
 have ht : (if due a s now then setBit q 0 true else q) < 256 := by split; exact setBit_lt hq (by decide) true; exact hq
 generalize (if due a s now then setBit q 0 true else q) = t at ht ⊢
 generalize (if due a s now then 0 else a) = a'
 generalize (s && !due a s now) = s'
 refine cZ (aZ (eZ J (zZ J (pZ fa162_0 J (dZ (zQ ti160 J (lineC_len t) (Row.of_blk eX (VC_rowq t p a' s'))) ?_)))))
 refine kQ (pX ti160) J ?_
 rintro b5 -
 refine sQ (xQ ti160 J J fC (lineC_len t) (lineC_ones t) J) J ?_
 rintro ⟨⟩ -
 refine fZ (bZ (cZ (cZ (aZ (dZ (zQ ti160 J (lineC_len t) (Row.of_blk eX (by rw [lineC_len, List.drop_zero, List.take_of_length_le (by rw [lineC_len]; omega)]))) ?_)))))
 refine eZ J (fZ (bZ (mQ (mX (fun i : Nat => i ≤ 8) (fun i => [(0, .pointer (some ⟨v, 0, none⟩)), (5, .pointer (some ⟨b5, 0, none⟩)), (30, .agg (lineC t).toArray), (31, .int .i64 i)]) (fun i => blk b5 (lineC t) 160 :: V v t (p ||| (t % 2 ^ i)) a' s' :: Fr) (fun i => 8 - i) 0 (by decide) eS (by rw [Nat.pow_zero, Nat.mod_one, Nat.or_zero]; exact Imp.refl _) ?_))))
 intro i hi
 refine cZ (aZ (dZ eQ ?_))
 refine fZ (bZ (cZ (lQ J (fun hc => ?_) (fun hc => ?_))))
 ·try replace hc := odT hc
  have hi' : i < 8 := by omega
  refine uZ (bZ (cZ (mQ (cZ (aZ (eZ J (dZ (Yield.index_agg (v := .bool (t.testBit i)) underlying160 ti4 J J (by omega) (by omega) (by rw [Nat.mul_one]; exact lineC_get t hi')) ?_)))))))
  refine gZ J (gZ J (fZ (bZ ?_)))
  rcases Bool.eq_false_or_eq_true ((p ||| (t % 2 ^ i)).testBit i) with hb | hb
  ·refine qQ (.lo 0 1 (.lo 1 1 (.lo 2 1 (.lo 3 1 (.lo 4 1 (.lo 5 1 (.lo 6 1 (.lo 7 1 (.lo 8 1 (.lo 9 1 (.lo 10 1 (.lo 11 1 (.lo 12 1 (.lo 13 1 (.eff1 14 false (.done)))))))))))))))) [14] [] ([]) ([]) mixed (by kernel_rfl) (Imp.none _) (Imp.none _) (nZ J J (nZ J J (nZ J J (nZ J J (dQ J J (wZ J fa162_1 J (hZ J (bX underlying160 ti4 J J (by omega) (by omega)) ?_)))))))
   refine hZ J (oQ (jZ (v := .bool ((p ||| (t % 2 ^ i)).testBit i)) ti4 J (Cel.of_blk eX (by rw [show 0 + 8 + (i : Int).toNat * 1 = 8 + i by omega]; exact VC_p _ _ _ _ hi'))) (v' := .bool true) (by rw [hb])) ?_
   refine nZ J J (dX J J J (hZ J mZ ?_))
   refine dQ J J (wZ J fa162_1 J (hZ J (bX underlying160 ti4 J J (by omega) (by omega)) ?_))
   refine aQ (wQ J J (uQ ti4 J J fC J (by rw [VC_len]; omega)) J (fun _ => iM) (fun _ => Imp.refl _) (fun _ => iM) ?_)
   rintro ⟨⟩ -
   rw [show 0 + 8 + (i : Int).toNat * 1 = 8 + i by omega, VC_setp _ _ _ _ _ hi']
   refine pQ (tZ (bZ (aZ (dZ (hQ J J wO) (eZ J (fZ (gX (i + 1) (show i + 1 ≤ 8 by omega) (show 8 - (i + 1) < 8 - i by omega) eS ?_)))))))
   have e := rel_step p t i
   rw [hb, Bool.true_or] at e
   rw [e]
   exact iM
  ·refine qQ (.lo 0 1 (.lo 1 1 (.lo 2 1 (.lo 3 1 (.lo 4 1 (.lo 5 1 (.lo 6 1 (.lo 7 1 (.lo 8 1 (.lo 9 1 (.lo 10 1 (.lo 11 1 (.lo 12 1 (.lo 13 1 (.eff1 14 false (.done)))))))))))))))) [14] [] ([]) ([]) mixed (by kernel_rfl) (Imp.none _) (Imp.none _) (nZ J J (nZ J J (nZ J J (nZ J J (dQ J J (wZ J fa162_1 J (hZ J (bX underlying160 ti4 J J (by omega) (by omega)) ?_)))))))
   refine hZ J (oQ (jZ (v := .bool ((p ||| (t % 2 ^ i)).testBit i)) ti4 J (Cel.of_blk eX (by rw [show 0 + 8 + (i : Int).toNat * 1 = 8 + i by omega]; exact VC_p _ _ _ _ hi'))) (v' := .bool false) (by rw [hb])) ?_
   refine nZ J J (nZ J J (hZ J mZ ?_))
   refine dQ J J (wZ J fa162_1 J (hZ J (bX underlying160 ti4 J J (by omega) (by omega)) ?_))
   refine aQ (wQ J J (uQ ti4 J J fC J (by rw [VC_len]; omega)) J (fun _ => iM) (fun _ => Imp.refl _) (fun _ => iM) ?_)
   rintro ⟨⟩ -
   rw [show 0 + 8 + (i : Int).toNat * 1 = 8 + i by omega, VC_setp _ _ _ _ _ hi']
   refine pQ (tZ (bZ (aZ (dZ (hQ J J wO) (eZ J (fZ (gX (i + 1) (show i + 1 ≤ 8 by omega) (show 8 - (i + 1) < 8 - i by omega) eS ?_)))))))
   have e := rel_step p t i
   rw [hb, Bool.false_or] at e
   rw [e]
   exact iM
 ·try replace hc := odF hc
  refine iX (bQ (bQ (tQ (bZ (cZ ?_)))))
  have h8 : i = 8 := by omega
  subst h8
  rw [Nat.mod_eq_of_lt (show t < 2 ^ 8 by omega)]
  refine aZ (eZ J (dZ (Yield.buildArr0 underlying160 ti160 ti4) (zZ J (pZ fa162_0 J (sQ (Eff.store (cs' := VC 0 (p ||| t) a' s') ti160 J J fC J ?_ (by rw [VC_len]; decide) ?_) J ?_)))))
  ·intro c hc; exact lineC_ones 0 c hc
  ·unfold over VC
   rw [show 0 + 0 = 0 from J, List.take_zero, List.nil_append]
   show lineC 0 ++ List.drop 8 (lineC t ++ lineC (p ||| t) ++ [Value.int IntKind.i64 a', Value.bool s']) = _
   rw [List.append_assoc, List.drop_append, List.drop_eq_nil_of_le (by rw [lineC_len]; omega), lineC_len, List.nil_append, Nat.sub_self, List.drop_zero, List.append_assoc]
  rintro ⟨⟩ -
  refine fZ (bZ (cZ (aZ (dZ (zQ ti160 J (lineC_len t) (Row.of_blk eX (by rw [lineC_len, List.drop_zero, List.take_of_length_le (by rw [lineC_len]; omega)]))) ?_))))
  refine oZ call83 J (Imp.refl _) (bits_spec W0 _ ht) J ?_
  rintro ⟨⟩ -
  exact gZ J (fZ (bZ (rZ (yZ J J () trivial J iM))))
def clr (p m : Nat) : Nat := p ^^^ (p &&& m)
theorem clr_test (p m j : Nat) : (clr p m).testBit j = (p.testBit j && !m.testBit j) := by
 unfold clr; simp only [Nat.testBit_xor, Nat.testBit_and]; cases p.testBit j <;> cases m.testBit j <;> rfl
theorem clr_lt {p : Nat} (h : p < 256) (m : Nat) : clr p m < 256 := lt_of_bits fun j hj => by rw [clr_test, bits_of_lt h hj]; rfl
theorem clr_zero (p : Nat) : clr p 0 = p := by apply Nat.eq_of_testBit_eq; intro j; rw [clr_test]; simp
theorem clr_mod {p : Nat} (h : p < 256) (m : Nat) : clr p (m % 2 ^ 8) = clr p m := by
 apply Nat.eq_of_testBit_eq; intro j
 rw [clr_test, clr_test, Nat.testBit_mod_two_pow]
 by_cases hj : j < 8
 ·simp [hj]
 ·rw [bits_of_lt h (by omega)]; simp
theorem clr_step (p m i : Nat) : clr p (m % 2 ^ (i + 1)) = if m.testBit i then setBit (clr p (m % 2 ^ i)) i false else clr p (m % 2 ^ i) := by
 apply Nat.eq_of_testBit_eq; intro j
 by_cases h : m.testBit i = true
 ·rw [if_pos h, setBit_test, clr_test, clr_test, Nat.testBit_mod_two_pow, Nat.testBit_mod_two_pow]
  by_cases hj : i = j
  ·subst hj; simp [h]
  ·have : (j < i + 1) = (j < i) := by apply propext; omega
   simp [hj, this]
 ·rw [if_neg h, clr_test, clr_test, Nat.testBit_mod_two_pow, Nat.testBit_mod_two_pow]
  by_cases hj : i = j
  ·subst hj; simp [h]
  ·have : (j < i + 1) = (j < i) := by apply propext; omega
   simp [this]
theorem testBit_int (m i : Nat) : decide (((m : Int) / 2 ^ i) % 2 = 1) = m.testBit i := by
 rw [Nat.testBit_eq_decide_div_mod_eq]
 congr 1
 have : (((m : Int) / 2 ^ i) % 2) = ((m / 2 ^ i % 2 : Nat) : Int) := by simp
 rw [this]
 apply propext; omega
theorem ack_spec {v q p m : Nat} {a : Int} {s : Bool} (hp : p < 256) (hm : m < 4294967296) : Ctr prog W0 218 [.pointer (some ⟨v, 0, none⟩), .int .u32 m] (V v q p a s :: Fr) (fun _ : Unit => True) (fun _ => .tuple #[]) (fun _ => V v q (clr p m) a s :: Fr) := by
 refine Ctr.of_body func218 J ntmps218 J (cZ (aZ (eZ J (fZ (bZ (mQ (mX (fun i : Nat => i ≤ 8) (fun i => [(0, .pointer (some ⟨v, 0, none⟩)), (1, .int .u32 m), (5, .int .i64 i)]) (fun i => V v q (clr p (m % 2 ^ i)) a s :: Fr) (fun i => 8 - i) 0 (by decide) eS (by rw [Nat.pow_zero, Nat.mod_one, clr_zero]; exact Imp.refl _) ?_)))))))
 intro i hi
 refine cZ (aZ (dZ eQ ?_))
 refine fZ (bZ (cZ (lQ J (fun hc => ?_) (fun hc => ?_))))
 ·try replace hc := odT hc
  have hi' : i < 8 := by omega
  refine uZ (bZ (cZ (mQ (cZ (aZ (eZ J (gZ J (fZ (bZ (cZ (aZ (eZ J (eZ J (dZ (Yield.shr (m := i) (c := (m : Int) / 2 ^ i) J J J (by simp [IntKind.bits]; omega) J) ?_))))))))))))))
  refine dZ (cV (c := ((m : Int) / 2 ^ i) % 2) J J J (bits_mask .u32 32 (by decide) wraps_word 1 (by decide) _ (Int.ediv_nonneg (by omega) (Int.pow_nonneg (by decide))) (Int.lt_of_le_of_lt (Int.ediv_le_self _ (by omega)) (by omega)))) ?_
  refine dZ (oQ (yQ J J) (v' := .bool (m.testBit i)) (by rw [testBit_int])) ?_
  refine fZ (bZ (lQ J (fun hc => ?_) (fun hc => ?_)))
  ·try replace hc := odT hc
   refine aZ (eZ J (eZ J (zZ J (pZ fa162_1 J (dZ (bX underlying160 ti4 J J (by omega) (by omega)) ?_)))))
   refine sQ (uQ ti4 J J fC J (by rw [VC_len]; omega)) J ?_
   rintro ⟨⟩ -
   rw [show 0 + 8 + (i : Int).toNat * 1 = 8 + i by omega, VC_setp _ _ _ _ _ hi']
   refine fZ (tZ (bZ (aZ (dZ (hQ J J wO) (eZ J (fZ (gX (i + 1) (show i + 1 ≤ 8 by omega) (show 8 - (i + 1) < 8 - i by omega) eS ?_)))))))
   rw [clr_step, if_pos hc]; exact iM
  ·try replace hc := odF hc
   refine uZ (tZ (bZ (aZ (dZ (hQ J J wO) (eZ J (fZ (gX (i + 1) (show i + 1 ≤ 8 by omega) (show 8 - (i + 1) < 8 - i by omega) eS ?_)))))))
   rw [clr_step, if_neg (by rw [hc]; decide)]; exact iM
 ·try replace hc := odF hc
  refine iX (bQ (bQ (tQ ?_)))
  have h8 : i = 8 := by omega
  subst h8
  rw [clr_mod hp]
  exact qX J () trivial J iM
end
end Go.Proofs.YtphljkplokjonaaGreat.Vi
namespace Go.Proofs.YtphljkplokjonaaGreat.Vc
open Go Go.Sl Go.RowKit Go.Proofs Go.Proofs.YtphljkplokjonaaGreat.T Tryz
structure RingAt (cs : List Value) (o : Nat) (arr : List UInt8) (first : Nat) (bs : List UInt8) : Prop where
 room : o + 66 ≤ cs.length
 len : arr.length = 64
 lt : first < 64
 few : bs.length ≤ 64
 carr : ∀ (i : Nat) (b : UInt8), arr[i]? = some b → cs[o + i]? = some (byteV b)
 cfirst : cs[o + 64]? = some (.int .i64 first)
 cn : cs[o + 65]? = some (.int .i64 bs.length)
 get : ∀ (i : Nat) (b : UInt8), bs[i]? = some b → arr[(first + i) % 64]? = some b
def Ring (cs : List Value) (o : Nat) (bs : List UInt8) : Prop := ∃ arr first, RingAt cs o arr first bs
def But (cs cs' : List Value) (o m : Nat) : Prop := cs'.length = cs.length ∧ ∀ k, (k < o ∨ o + m ≤ k) → cs'[k]? = cs[k]?
theorem But.refl (cs : List Value) (o m : Nat) : But cs cs o m := ⟨rfl, fun _ _ => rfl⟩
theorem But.trans {a b c : List Value} {o m : Nat} (h : But a b o m) (k : But b c o m) : But a c o m := ⟨k.1.trans h.1, fun i hi => (k.2 i hi).trans (h.2 i hi)⟩
theorem But.set {cs : List Value} {o m i : Nat} (v : Value) (h1 : o ≤ i) (h2 : i < o + m) : But cs (cs.set i v) o m := ⟨by simp, fun k hk => by rw [List.getElem?_set_ne (by omega)]⟩
theorem Ring.but {cs cs' : List Value} {o o' : Nat} {bs : List UInt8} (h : Ring cs o bs) (b : But cs cs' o' 66) (hd : o + 66 ≤ o' ∨ o' + 66 ≤ o) : Ring cs' o bs := by
 obtain ⟨arr, first, h⟩ := h
 refine ⟨arr, first, by rw [b.1]; exact h.room, h.len, h.lt, h.few, fun i x hi => ?_, ?_, ?_, h.get⟩
 ·have := h.carr i x hi
  have hlt : i < 64 := by
   rw [← h.len]
   rcases Nat.lt_or_ge i arr.length with q | q
   ·exact q
   ·rw [List.getElem?_eq_none q] at hi; cases hi
  rw [b.2 _ (by omega)]; exact this
 ·rw [b.2 _ (by omega)]; exact h.cfirst
 ·rw [b.2 _ (by omega)]; exact h.cn
section
variable (W0 : World) (Fr : List HProp)
set_option maxHeartbeats 1000000 in
theorem all_spec {g o : Nat} {cs : List Value} {t : TypeId} {bs : List UInt8} (h : Ring cs o bs) :
 Ctr prog W0 74 [.pointer (some ⟨g, o, none⟩)] (blk g cs t :: Fr) (fun _ : Option Addr × Nat => True) (fun p => .slice p.1 bs.length p.2) (fun p => osl 5 1 p.1 p.2 bs.length (bytesV bs) :: blk g cs t :: Fr) := by
 obtain ⟨arr, first, h⟩ := h
 have hfew := h.few
 have hlt := h.lt
 have hlen := h.len
 refine Ctr.of_body func74 J ntmps74 J (cZ (aZ (gZ J (fZ (bZ (cZ (aZ (kQ (sX underlying32 ti5 J) J ?_))))))))
 rintro b5 -
 refine gZ J (fZ (bZ (cZ (cZ (aZ (eZ J (zZ J (pZ fa146_2 J (dZ (jZ ti3 J (Cel.of_blk eX h.cn)) ?_)))))))))
 refine eZ J (fZ (bZ (mQ ?_)))
 refine mX (fun i : Nat × Option Addr × Nat => i.1 ≤ bs.length) (fun i => [(0, .pointer (some ⟨g, o, none⟩)), (3, .slice i.2.1 i.1 i.2.2), (9, .int .i64 bs.length), (10, .int .i64 i.1)])
  (fun i => osl 5 1 i.2.1 i.2.2 i.1 (bytesV (bs.take i.1)) :: blk g cs t :: Fr) (fun i => bs.length - i.1) (0, some ⟨b5, 0, none⟩, 0) (Nat.zero_le _) ?_ (Imp.refl _) ?_
 ·exact Env.sub_cons J (Env.sub_cons J (Env.sub_cons J (Env.sub_cons J (Env.sub_nil _))))
 rintro ⟨i, a, c⟩ (hi : i ≤ bs.length)
 refine cZ (aZ (dZ eQ ?_))
 refine fZ (bZ (cZ (lQ J (fun hc => ?_) (fun hc => ?_))))
 ·try replace hc := odT hc
  have hi' : i < bs.length := by omega
  have hget : bs[i]? = some bs[i] := by simp [hi']
  refine uZ (bZ (cZ (mQ (cZ (aZ (eZ J (gZ J (fZ (bZ (qQ (.lo 0 0 (.lo 1 1 (.lo 2 1 (.lo 3 1 (.lo 4 1 (.lo 5 1 (.lo 6 1 (.lo 7 1 (.lo 8 1 (.lo 9 1 (.lo 10 1 (.lo 11 1 (.lo 12 1 (.eff1 13 false (.eff1 14 false (.lo 15 1 (.done))))))))))))))))) [13, 14] [] ([]) ([]) mixed (by kernel_rfl) (Imp.none _) (Imp.none _) (nZ J J (nZ J J (nZ J J (dQ J J (wZ J fa146_1 J (hZ J (jZ ti3 J (Cel.of_blk eX h.cfirst)) ?_))))))))))))))))
  refine nZ J J (hZ J (hQ J J wO) (hZ J (xX J J (by omega) (tmod_pos (by omega) (by omega))) ?_))
  refine dQ J J (wZ J fa146_0 J (hZ J (bX underlying144 ti5 J J (by omega) (by omega)) ?_))
  refine DG.look J J (jZ ti5 J (Cel.of_blk eX (v := byteV bs[i]) (by
   rw [show o + 0 + (((first : Int) + (i : Int)) % 64).toNat * 1 = o + (first + i) % 64 by omega]; exact h.carr _ _ (h.get i _ hget)))) J ?_
  refine aQ (wQ J J (gV underlying32 ti5 J J J) J (fun _ => iM) (fun _ => Imp.refl _) (fun _ => iM) ?_)
  rintro b26 -
  refine aQ (wQ J J (fX J J J underlying32 underlying32 ti5 J (by decide) fC (SlR.of_osl eX) (bytesV_one (bs := [bs[i]])) (by omega)) J (fun _ => iM) (fun _ => Imp.refl _) (fun _ => iM) ?_)
  rintro ⟨a', c'⟩ -
  refine hZ J (jQ J) (pQ (tZ (bZ (aZ (dZ (hQ J J wO) (eZ J (fZ (gX (i + 1, a', c') (show i + 1 ≤ bs.length by omega) (show bs.length - (i + 1) < bs.length - i by omega) ?_ ?_))))))))
  ·exact Env.sub_cons J (Env.sub_cons J (Env.sub_cons J (Env.sub_cons J (Env.sub_nil _))))
  ·dsimp only
   rw [List.take_succ_eq_append_getElem hi', bytesV_append]
   exact iM
 ·try replace hc := odF hc
  refine iX (bQ (bQ (tQ (bZ (cZ (aZ (eZ J (gZ J (fZ (bZ (rZ (yZ J J (a, c) trivial ?_ ?_))))))))))))
  ·have : i = bs.length := by omega
   subst this; rfl
  ·have : i = bs.length := by omega
   subst this
   rw [List.take_length]
   exact Imp.refl _
end
theorem lt_of_get {α : Type} {l : List α} {i : Nat} {v : α} (h : l[i]? = some v) : i < l.length := by
 rcases Nat.lt_or_ge i l.length with q | q
 ·exact q
 ·rw [List.getElem?_eq_none q] at h; cases h
theorem RingAt.take {cs : List Value} {o : Nat} {arr : List UInt8} {first : Nat} {bs : List UInt8} (h : RingAt cs o arr first bs) {k : Nat} (hk : k ≤ bs.length) :
 RingAt ((cs.set (o + 64) (.int .i64 ((first + k) % 64 : Nat))).set (o + 65) (.int .i64 (bs.length - k : Nat))) o arr ((first + k) % 64) (bs.drop k) := by
 have hroom := h.room
 have hlen := h.len
 have hfew := h.few
 refine ⟨by simp; exact hroom, h.len, by omega, by simp; omega, fun i b hi => ?_, ?_, ?_, fun i b hi => ?_⟩
 ·have := lt_of_get hi
  rw [List.getElem?_set_ne (by omega), List.getElem?_set_ne (by omega)]; exact h.carr i b hi
 ·rw [List.getElem?_set_ne (by omega), List.getElem?_set_self (by omega)]
 ·rw [List.getElem?_set_self (by simp; omega)]; simp
 ·rw [List.getElem?_drop] at hi
  have := h.get (k + i) b hi
  rw [show (first + (k + i)) % 64 = ((first + k) % 64 + i) % 64 by omega] at this
  exact this
theorem RingAt.put {cs : List Value} {o : Nat} {arr : List UInt8} {first : Nat} {bs : List UInt8} (h : RingAt cs o arr first bs) (b : UInt8) (hk : bs.length < 64) :
 RingAt ((cs.set (o + (first + bs.length) % 64) (byteV b)).set (o + 65) (.int .i64 (bs.length + 1 : Nat))) o (arr.set ((first + bs.length) % 64) b) first (bs ++ [b]) := by
 have hroom := h.room
 have hlen := h.len
 have hlt := h.lt
 refine ⟨by simp; exact hroom, by simp [hlen], h.lt, by simp; omega, fun i x hi => ?_, ?_, ?_, fun i x hi => ?_⟩
 ·have := lt_of_get hi
  simp only [List.length_set] at this
  rw [List.getElem?_set_ne (by omega)]
  by_cases hq : (first + bs.length) % 64 = i
  ·subst hq
   rw [List.getElem?_set_self (by omega)] at hi
   cases hi
   rw [List.getElem?_set_self (by omega)]
  ·rw [List.getElem?_set_ne hq] at hi
   rw [List.getElem?_set_ne (by omega)]; exact h.carr i x hi
 ·rw [List.getElem?_set_ne (by omega), List.getElem?_set_ne (by omega)]; exact h.cfirst
 ·rw [List.getElem?_set_self (by simp; omega)]; simp
 ·have hi2 := lt_of_get hi
  simp only [List.length_append, List.length_singleton] at hi2
  by_cases hq : i = bs.length
  ·subst hq
   rw [List.getElem?_append_right (Nat.le_refl _)] at hi
   simp at hi
   subst hi
   rw [List.getElem?_set_self (by omega)]
  ·rw [List.getElem?_append_left (by omega)] at hi
   rw [List.getElem?_set_ne (by omega)]; exact h.get i x hi
section
variable (W0 : World) (Fr : List HProp)
def kOf (n : Int) (m : Nat) : Nat := (max 0 (min n (m : Int))).toNat
theorem kOf_le (n : Int) (m : Nat) : kOf n m ≤ m := by unfold kOf; omega
set_option maxHeartbeats 1000000 in
theorem take_spec {g o : Nat} {cs : List Value} {t : TypeId} {bs : List UInt8} (n : Int) (h : Ring cs o bs) :
 Ctr prog W0 81 [.pointer (some ⟨g, o, none⟩), .int .i64 n] (blk g cs t :: Fr) (fun p : (Option Addr × Nat) × List Value => But cs p.2 o 66 ∧ Ring p.2 o (bs.drop (kOf n bs.length)))
  (fun p => .slice p.1.1 (kOf n bs.length) p.1.2) (fun p => osl 5 1 p.1.1 p.1.2 (kOf n bs.length) (bytesV (bs.take (kOf n bs.length))) :: blk g p.2 t :: Fr) := by
 obtain ⟨arr, first, h⟩ := h
 have hfew := h.few
 have hlt := h.lt
 have hlen := h.len
 have hroom := h.room
 have hk := kOf_le n bs.length
 have hkk : max 0 (min n (bs.length : Int)) = ((kOf n bs.length : Nat) : Int) := by unfold kOf; omega
 generalize kOf n bs.length = k at *
 refine Ctr.of_body func81 J ntmps81 J (cZ (aZ (gZ J (fZ (bZ (cZ (aZ (eZ J (eZ J (zZ J (pZ fa146_2 J (dZ (jZ ti3 J (Cel.of_blk eX h.cn)) ?_))))))))))))
 refine dZ (mV J J) (dZ (Yield.max2 J J) (gZ J (fZ ?_)))
 rw [hkk]
 refine bZ (cZ (aZ (eZ J (oZ call74 J (iM) (all_spec W0 Fr ⟨arr, first, h⟩) J ?_))))
 rintro ⟨a, c⟩ -
 refine OG.pure (fun w hw => osl_facts Ext.here w hw) ?_
 rintro ⟨_, hcap⟩
 refine eZ J (dZ (sV underlying32 ti5 J (Bound.some J) (by omega) (by omega)) ?_)
 refine gZ J (fZ (bZ (cZ (aZ (eZ J (eZ J (zZ J (pZ fa146_1 J (dZ (jZ ti3 J (Cel.of_blk eX h.cfirst)) ?_)))))))))
 refine eZ J (dZ (hQ J J wO) (dZ (xX J J (by omega) (tmod_pos (by omega) (by omega))) ?_))
 refine zZ J (pZ fa146_1 J (sQ (uQ ti3 J J fC J (show o + 64 < cs.length by omega)) J ?_))
 rintro ⟨⟩ -
 refine fZ (bZ (cZ (aZ (eZ J (zZ J (pZ fa146_2 J (dZ (jZ ti3 J (Cel.of_blk eX (by rw [List.getElem?_set_ne (by omega)]; exact h.cn))) ?_)))))))
 refine eZ J (dZ (yX J J wO) (zZ J (pZ fa146_2 J (sQ (uQ ti3 J J fC J (show o + 65 < (cs.set (o + 64) _).length by simp; omega)) J ?_))))
 rintro ⟨⟩ -
 refine fZ (bZ (cZ (aZ (eZ J (gZ J (fZ (bZ (rZ ?_))))))))
 have e1 : ((first : Int) + (k : Int)) % 64 = (((first + k) % 64 : Nat) : Int) := by omega
 have e2 : ((bs.length : Int) - (k : Int)) = ((bs.length - k : Nat) : Int) := by omega
 rw [e1, e2]
 refine yZ J J ((a, c), (cs.set (o + 64) _).set (o + 65) _) ⟨?_, arr, (first + k) % 64, h.take hk⟩ J ?_
 ·exact (But.set _ (by omega) (by omega)).trans (But.set _ (by omega) (by omega))
 ·refine Imp.head (fun x hx => ?_)
  have := osl_take hk x hx
  rw [Nat.mul_one, bytesV_take] at this
  exact this
set_option maxHeartbeats 1000000 in
theorem lay_spec {g o : Nat} {cs : List Value} {t : TypeId} {bs ds : List UInt8} {a2 : Option Addr} {c2 : Nat} (h : Ring cs o bs) (hd : SlR W0 Fr 1 a2 ds.length (bytesV ds)) (hc2 : ds.length ≤ c2) (hsz : ds.length ≤ 2 ^ 48) :
 Ctr prog W0 73 [.pointer (some ⟨g, o, none⟩), .slice a2 ds.length c2] (blk g cs t :: Fr) (fun p : List Value => But cs p o 66 ∧ Ring p o (bs ++ ds.take (64 - bs.length)))
  (fun _ => .int .i64 (min ds.length (64 - bs.length) : Nat)) (fun p => blk g p t :: Fr) := by
 obtain ⟨arr, first, h⟩ := h
 have hfew := h.few
 have hlt := h.lt
 have hlen := h.len
 have hroom := h.room
 have hj : min (ds.length : Int) (64 - (bs.length : Int)) = ((min ds.length (64 - bs.length) : Nat) : Int) := by omega
 have htk : ds.take (min ds.length (64 - bs.length)) = ds.take (64 - bs.length) := by
  rw [Nat.min_def]; split
  ·rw [List.take_of_length_le (Nat.le_refl _), List.take_of_length_le (by omega)]
  ·rfl
 generalize hjj : min ds.length (64 - bs.length) = j at *
 have hj1 : j ≤ ds.length := by omega
 have hj2 : bs.length + j ≤ 64 := by omega
 refine Ctr.of_body func73 J ntmps73 J (cZ (aZ (gZ J (fZ (bZ (cZ (aZ (eZ J (dZ (sZ underlying32 J J) (eZ J (zZ J (pZ fa146_2 J (dZ (jZ ti3 J (Cel.of_blk eX h.cn)) ?_)))))))))))))
 refine dZ (yX J J wO) (dZ (mV J J) (gZ J (fZ ?_)))
 rw [hj]
 refine bZ (cZ (cZ (aZ (eZ J (eZ J (dZ (sV underlying32 ti5 J (Bound.some J) (by omega) (by omega)) ?_))))))
 refine dZ (sZ underlying32 J J) (eZ J (fZ (bZ (mQ ?_))))
 refine mX (fun i : Nat × List Value => i.1 ≤ j ∧ But cs i.2 o 66 ∧ ∃ arr first, RingAt i.2 o arr first (bs ++ ds.take i.1)) (fun i => [(0, .pointer (some ⟨g, o, none⟩)), (5, .int .i64 j), (18, .slice a2 j c2), (19, .int .i64 j), (20, .int .i64 i.1)])
  (fun i => blk g i.2 t :: Fr) (fun i => j - i.1) (0, cs) ⟨Nat.zero_le _, But.refl _ _ _, arr, first, by simpa using h⟩ ?_ (Imp.refl _) ?_
 ·exact Env.sub_cons J (Env.sub_cons J (Env.sub_cons J (Env.sub_cons J (Env.sub_cons J (Env.sub_nil _)))))
 clear h hlt hlen
 clear arr first
 rintro ⟨i, cs1⟩ ⟨hi, hbut, arr, first, h⟩
 dsimp only at hi hbut h
 have hlt := h.lt
 have hlen := h.len
 have hroom1 := h.room
 have hll : (bs ++ ds.take i).length = bs.length + i := by simp; omega
 have hcn : cs1[o + 65]? = some (.int .i64 ((bs.length + i : Nat) : Int)) := by rw [← hll]; exact h.cn
 refine cZ (aZ (dZ eQ ?_))
 refine fZ (bZ (cZ (lQ J (fun hc => ?_) (fun hc => ?_))))
 ·try replace hc := odT hc
  have hi' : i < j := by omega
  have hget : ds[i]? = some ds[i] := by simp
  refine lX (fun w hw => SlR.shape (hd.imp Imp.drop) (by intro q; have := congrArg List.length q; simp [bytesV] at this; subst this; simp at hj1; omega) w hw) ?_
  rintro ⟨b, o2, rfl⟩
  refine uZ (bZ (cZ (mQ (cZ (aZ (dZ (lZ underlying32 ti5 J J (by omega) (by omega)) ?_))))))
  refine dZ (jZ ti5 J (v := byteV ds[i]) (by simpa using (SlR.imp hd Imp.drop).cel (bytesV_get hget))) ?_
  refine gZ J (fZ (bZ (cZ (qQ (.lo 0 1 (.lo 1 1 (.lo 2 1 (.lo 3 1 (.lo 4 1 (.lo 5 1 (.lo 6 1 (.lo 7 1 (.lo 8 1 (.lo 9 1 (.lo 10 1 (.lo 11 1 (.lo 12 1 (.lo 13 1 (.lo 14 1 (.eff1 15 false (.done))))))))))))))))) [15] [] ([]) ([]) mixed (by kernel_rfl) (Imp.none _) (Imp.none _) (nZ J J (nZ J J (dQ J J (wZ J fa146_1 J (hZ J (jZ ti3 J (Cel.of_blk eX h.cfirst)) ?_)))))))))
  refine nZ J J (dQ J J (wZ J fa146_2 J (hZ J (jZ ti3 J (Cel.of_blk eX hcn)) ?_)))
  refine hZ J (hQ J J wO) (hZ J (xX J J (by omega) (tmod_pos (by omega) (by omega))) ?_)
  refine nZ J J (dQ J J (wZ J fa146_0 J (hZ J (bX underlying144 ti5 J J (by omega) (by omega)) ?_)))
  refine aQ (wQ J J (uQ ti5 J J fC J (show o + 0 + (((first : Int) + ((bs.length + i : Nat) : Int)) % 64).toNat * 1 < cs1.length by omega)) J (fun _ => iM) (fun _ => Imp.refl _) (fun _ => iM) ?_)
  rintro ⟨⟩ -
  refine pQ ?_
  have e0 : o + 0 + (((first : Int) + ((bs.length + i : Nat) : Int)) % 64).toNat * 1 = o + (first + (bs ++ ds.take i).length) % 64 := by rw [hll]; omega
  rw [e0]
  refine bZ (aZ (eZ J (zZ J (pZ fa146_2 J (dZ (jZ ti3 J (Cel.of_blk eX (by rw [List.getElem?_set_ne (by omega)]; exact hcn))) ?_)))))
  refine dZ (hQ J J wO) (zZ J (pZ fa146_2 J (sQ (uQ ti3 J J fC J (show o + 65 < (cs1.set _ _).length by simp; omega)) J ?_)))
  rintro ⟨⟩ -
  refine fZ (tZ (bZ (aZ (dZ (hQ J J wO) (eZ J (fZ ?_))))))
  have e1 : (((bs.length + i : Nat) : Int) + 1) = (((bs ++ ds.take i).length + 1 : Nat) : Int) := by rw [hll]; omega
  rw [e1]
  have hput := h.put ds[i] (by omega)
  rw [List.append_assoc, ← List.take_succ_eq_append_getElem (by omega)] at hput
  refine gX (i + 1, (cs1.set _ _).set _ _) ⟨show i + 1 ≤ j by omega, hbut.trans ((But.set _ (by omega) (by omega)).trans (But.set _ (by omega) (by omega))), _, _, hput⟩ (show j - (i + 1) < j - i by omega) ?_ (Imp.refl _)
  ·exact Env.sub_cons J (Env.sub_cons J (Env.sub_cons J (Env.sub_cons J (Env.sub_cons J (Env.sub_nil _)))))
 ·try replace hc := odF hc
  refine iX (bQ (bQ (tQ (bZ (cZ (aZ (eZ J (gZ J (fZ (bZ (rZ ?_)))))))))))
  have hij : i = j := by omega
  subst hij
  refine yZ J J cs1 ⟨hbut, arr, first, ?_⟩ J (Imp.refl _)
  rw [← htk]; exact h
end
def Con (g : Nat) (out inn : List UInt8) : HProp := fun h => ∃ cs, (cs.length = 132 ∧ Ring cs 0 out ∧ Ring cs 66 inn) ∧ blk g cs 148 h
theorem con_open {g : Nat} {out inn : List UInt8} (y : Heaplet) (h : Con g out inn y) : ∃ cs, (cs.length = 132 ∧ Ring cs 0 out ∧ Ring cs 66 inn) ∧ blk g cs 148 y := h
theorem con_len {g : Nat} {out inn : List UInt8} {y : Heaplet} (h : Con g out inn y) : out.length ≤ 64 ∧ inn.length ≤ 64 := by
 obtain ⟨cs, ⟨_, ⟨_, _, h1⟩, ⟨_, _, h2⟩⟩, _⟩ := h
 exact ⟨h1.few, h2.few⟩
theorem ring_zero {cs : List Value} {o : Nat} (h : o + 66 ≤ cs.length) (hz : ∀ i, i < 64 → cs[o + i]? = some (byteV 0)) (h1 : cs[o + 64]? = some (.int .i64 0)) (h2 : cs[o + 65]? = some (.int .i64 0)) : Ring cs o [] :=
 ⟨List.replicate 64 0, 0, h, by simp, by omega, by simp, fun i b hi => by
  have hlt := lt_of_get hi
  simp only [List.length_replicate] at hlt
  rw [List.getElem?_replicate, if_pos hlt] at hi
  cases hi
  exact hz i hlt, h1, h2, fun i b hi => by simp at hi⟩
def zeroCells : List Value := List.replicate 64 (.int .u8 0) ++ List.replicate 2 (.int .i64 0) ++ List.replicate 64 (.int .u8 0) ++ List.replicate 2 (.int .i64 0)
theorem con_zero {g : Nat} {y : Heaplet} (h : blk g zeroCells 148 y) : Con g [] [] y := by
 refine ⟨zeroCells, ⟨rfl, ring_zero (by decide) ?_ J J, ring_zero (by decide) ?_ J J⟩, h⟩
 all_goals
  intro i hi
  have : ∀ j : Fin 64, zeroCells[0 + j.val]? = some (byteV 0) ∧ zeroCells[66 + j.val]? = some (byteV 0) := by
   intro j
   refine ⟨?_, ?_⟩
   ·have hj := j.isLt
    unfold zeroCells
    rw [List.getElem?_append_left (by simp; omega), List.getElem?_append_left (by simp; omega), List.getElem?_append_left (by simp only [List.length_replicate]; omega), List.getElem?_replicate]
    simp [byteV]
   ·have hj := j.isLt
    unfold zeroCells
    rw [List.getElem?_append_left (by simp; omega), List.getElem?_append_right (by simp), List.getElem?_replicate]
    simp [byteV]
  first | exact (this ⟨i, hi⟩).1 | exact (this ⟨i, hi⟩).2
section
variable (W0 : World) (Fr : List HProp)
theorem new_spec : Ctr prog W0 55 [] Fr (fun _ : Nat => True) (fun g => .pointer (some ⟨g, 0, none⟩)) (fun g => Con g [] [] :: Fr) := by
 refine Ctr.of_body func55 J ntmps55 J (cZ (aZ (gZ J (fZ (bZ (cZ (aZ (dZ (Yield.build0 bu148 ti148) (kQ (uX J) J ?_)))))))))
 rintro b2 -
 refine gZ J (fZ (bZ (rZ (yZ J J b2 trivial J (Imp.head fun y hy => con_zero ?_)))))
 have e : zeroCells = (Value.agg ((List.replicate 64 (Value.int .u8 0) ++ List.replicate 2 (Value.int .i64 0) ++ List.replicate 64 (Value.int .u8 0) ++ List.replicate 2 (Value.int .i64 0)).toArray)).cells.toList := by simp [zeroCells, Value.cells]
 rw [e]; exact hy
theorem out_spec {g : Nat} {out inn : List UInt8} :
 Ctr prog W0 21 [.pointer (some ⟨g, 0, none⟩)] (Con g out inn :: Fr) (fun _ : Option Addr × Nat => True) (fun p => .slice p.1 out.length p.2) (fun p => osl 5 1 p.1 p.2 out.length (bytesV out) :: Con g out inn :: Fr) := by
 refine Ctr.ex Ext.here con_open ?_
 rintro cs ⟨hl, h1, h2⟩
 refine Ctr.of_body func21 J ntmps21 J (cZ (aZ (gZ J (fZ (bZ (cZ (aZ (eZ J (zZ J (pZ fa148_0 J (oZ call74 J (iM) (all_spec W0 Fr h1) J ?_)))))))))))
 rintro p -
 exact gZ J (fZ (bZ (rZ (yZ J J p trivial J (Imp.cons (Imp.head fun y hy => ⟨cs, ⟨hl, h1, h2⟩, hy⟩))))))
theorem in_spec {g : Nat} {out inn : List UInt8} :
 Ctr prog W0 36 [.pointer (some ⟨g, 0, none⟩)] (Con g out inn :: Fr) (fun _ : Option Addr × Nat => True) (fun p => .slice p.1 inn.length p.2) (fun p => osl 5 1 p.1 p.2 inn.length (bytesV inn) :: Con g out inn :: Fr) := by
 refine Ctr.ex Ext.here con_open ?_
 rintro cs ⟨hl, h1, h2⟩
 refine Ctr.of_body func36 J ntmps36 J (cZ (aZ (gZ J (fZ (bZ (cZ (aZ (eZ J (zZ J (pZ fa148_1 J (oZ call74 J (iM) (all_spec W0 Fr h2) J ?_)))))))))))
 rintro p -
 exact gZ J (fZ (bZ (rZ (yZ J J p trivial J (Imp.cons (Imp.head fun y hy => ⟨cs, ⟨hl, h1, h2⟩, hy⟩))))))
theorem write_spec {g : Nat} {out inn ds : List UInt8} {a2 : Option Addr} {c2 : Nat} (hd : SlR W0 Fr 1 a2 ds.length (bytesV ds)) (hc2 : ds.length ≤ c2) (hsz : ds.length ≤ 2 ^ 48) :
 Ctr prog W0 20 [.pointer (some ⟨g, 0, none⟩), .slice a2 ds.length c2] (Con g out inn :: Fr) (fun _ : Unit => True) (fun _ => .int .i64 (min ds.length (64 - out.length) : Nat)) (fun _ => Con g (out ++ ds.take (64 - out.length)) inn :: Fr) := by
 refine Ctr.ex Ext.here con_open ?_
 rintro cs ⟨hl, h1, h2⟩
 refine Ctr.of_body func20 J ntmps20 J (cZ (aZ (gZ J (fZ (bZ (cZ (aZ (eZ J (zZ J (pZ fa148_0 J (eZ J (oZ call73 J (iM) (lay_spec W0 Fr h1 hd hc2 hsz) J ?_))))))))))))
 rintro cs' ⟨hb, hr⟩
 exact gZ J (fZ (bZ (rZ (yZ J J () trivial J (Imp.head fun y hy => ⟨cs', ⟨by rw [hb.1, hl], hr, h2.but hb (by omega)⟩, hy⟩)))))
theorem feed_spec {g : Nat} {out inn ds : List UInt8} {a2 : Option Addr} {c2 : Nat} (hd : SlR W0 Fr 1 a2 ds.length (bytesV ds)) (hc2 : ds.length ≤ c2) (hsz : ds.length ≤ 2 ^ 48) :
 Ctr prog W0 60 [.pointer (some ⟨g, 0, none⟩), .slice a2 ds.length c2] (Con g out inn :: Fr) (fun _ : Unit => True) (fun _ => .int .i64 (min ds.length (64 - inn.length) : Nat)) (fun _ => Con g out (inn ++ ds.take (64 - inn.length)) :: Fr) := by
 refine Ctr.ex Ext.here con_open ?_
 rintro cs ⟨hl, h1, h2⟩
 refine Ctr.of_body func60 J ntmps60 J (cZ (aZ (gZ J (fZ (bZ (cZ (aZ (eZ J (zZ J (pZ fa148_1 J (eZ J (oZ call73 J (iM) (lay_spec W0 Fr h2 hd hc2 hsz) J ?_))))))))))))
 rintro cs' ⟨hb, hr⟩
 exact gZ J (fZ (bZ (rZ (yZ J J () trivial J (Imp.head fun y hy => ⟨cs', ⟨by rw [hb.1, hl], h1.but hb (by omega), hr⟩, hy⟩)))))
theorem read_spec {g : Nat} {out inn : List UInt8} (n : Int) :
 Ctr prog W0 26 [.pointer (some ⟨g, 0, none⟩), .int .i64 n] (Con g out inn :: Fr) (fun _ : Option Addr × Nat => True) (fun p => .slice p.1 (kOf n inn.length) p.2)
  (fun p => osl 5 1 p.1 p.2 (kOf n inn.length) (bytesV (inn.take (kOf n inn.length))) :: Con g out (inn.drop (kOf n inn.length)) :: Fr) := by
 refine Ctr.ex Ext.here con_open ?_
 rintro cs ⟨hl, h1, h2⟩
 refine Ctr.of_body func26 J ntmps26 J (cZ (aZ (gZ J (fZ (bZ (cZ (aZ (eZ J (zZ J (pZ fa148_1 J (eZ J (oZ call81 J (iM) (take_spec W0 Fr n h2) J ?_))))))))))))
 rintro ⟨p, cs'⟩ ⟨hb, hr⟩
 exact gZ J (fZ (bZ (rZ (yZ J J p trivial J (Imp.cons (Imp.head fun y hy => ⟨cs', ⟨by rw [hb.1, hl], h1.but hb (by omega), hr⟩, hy⟩))))))
theorem kOf_all {n : Int} {m : Nat} (h : (m : Int) ≤ n) : kOf n m = m := by unfold kOf; omega
theorem drain_spec {g : Nat} {out inn : List UInt8} :
 Ctr prog W0 61 [.pointer (some ⟨g, 0, none⟩)] (Con g out inn :: Fr) (fun _ : Option Addr × Nat => True) (fun p => .slice p.1 out.length p.2)
  (fun p => osl 5 1 p.1 p.2 out.length (bytesV out) :: Con g [] inn :: Fr) := by
 refine Ctr.ex Ext.here con_open ?_
 rintro cs ⟨hl, h1, h2⟩
 have hk : kOf 64 out.length = out.length := kOf_all (by obtain ⟨_, _, h⟩ := h1; have := h.few; omega)
 have hts := take_spec W0 Fr (g := g) (t := 148) 64 h1
 rw [hk, List.take_length, List.drop_length] at hts
 refine Ctr.of_body func61 J ntmps61 J (cZ (aZ (gZ J (fZ (bZ (cZ (aZ (eZ J (zZ J (pZ fa148_0 J (oZ call81 J (iM) (hts) J ?_)))))))))))
 rintro ⟨p, cs'⟩ ⟨hb, hr⟩
 exact gZ J (fZ (bZ (rZ (yZ J J p trivial J (Imp.cons (Imp.head fun y hy => ⟨cs', ⟨by rw [hb.1, hl], hr, h2.but hb (by omega)⟩, hy⟩))))))
theorem writeB {g : Nat} {out inn ds : List UInt8} {a2 : Option Addr} {c2 : Nat} (hd : RdB W0 Fr a2 c2 ds) (hsz : ds.length ≤ 2 ^ 48) :
 Ctr prog W0 20 [.pointer (some ⟨g, 0, none⟩), .slice a2 ds.length c2] (Con g out inn :: Fr) (fun _ : Unit => True) (fun _ => .int .i64 (min ds.length (64 - out.length) : Nat)) (fun _ => Con g (out ++ ds.take (64 - out.length)) inn :: Fr) :=
 Ctr.pure (fun w hw => hd.cap w (hw.imp Imp.drop)) fun hc => write_spec W0 Fr hd.slR hc hsz
theorem feedB {g : Nat} {out inn ds : List UInt8} {a2 : Option Addr} {c2 : Nat} (hd : RdB W0 Fr a2 c2 ds) (hsz : ds.length ≤ 2 ^ 48) :
 Ctr prog W0 60 [.pointer (some ⟨g, 0, none⟩), .slice a2 ds.length c2] (Con g out inn :: Fr) (fun _ : Unit => True) (fun _ => .int .i64 (min ds.length (64 - inn.length) : Nat)) (fun _ => Con g out (inn ++ ds.take (64 - inn.length)) :: Fr) :=
 Ctr.pure (fun w hw => hd.cap w (hw.imp Imp.drop)) fun hc => feed_spec W0 Fr hd.slR hc hsz
theorem readB {g : Nat} {out inn : List UInt8} (n : Int) :
 Ctr prog W0 26 [.pointer (some ⟨g, 0, none⟩), .int .i64 n] (Con g out inn :: Fr) (fun _ : Option Addr × Nat => True) (fun p => .slice p.1 (inn.take (kOf n inn.length)).length p.2)
  (fun p => oby 5 p.1 p.2 (inn.take (kOf n inn.length)) :: Con g out (inn.drop (kOf n inn.length)) :: Fr) := by
 have h := read_spec W0 Fr (g := g) (out := out) (inn := inn) n
 have e : (inn.take (kOf n inn.length)).length = kOf n inn.length := by rw [List.length_take]; have := kOf_le n inn.length; omega
 unfold oby; rw [e]; exact h
end
end Go.Proofs.YtphljkplokjonaaGreat.Vc
namespace Go.Proofs.YtphljkplokjonaaGreat.Vd
open Go Go.Sl Go.RowKit Go.Proofs Go.Proofs.YtphljkplokjonaaGreat.T Go.Proofs.YtphljkplokjonaaGreat.Ms Tryz
structure Ak where
 tag : Int
 write : Bool
 sector : Int
 addr : Int
 data : B
 due : Int
 st : Int
structure CA where
 tag : Int
 write : Bool
 sector : Int
 addr : Int
 m : Msg
 due : Int
 st : Int
def CA.cells (x : CA) : List Value := [.int .u32 x.tag, .bool x.write, .int .i64 x.sector, .int .u32 x.addr, x.m.cell, .int .i64 x.due, .int .i64 x.st]
def CA.abs (x : CA) : Ak := ⟨x.tag, x.write, x.sector, x.addr, x.m.b, x.due, x.st⟩
theorem CA.len (x : CA) : x.cells.length = 7 := rfl
theorem CA.ones (x : CA) : ∀ v ∈ x.cells, one v = true := by simp [CA.cells, one, Msg.cell]
structure Ds where
 part : Int
 first : Int
 count : Int
 latency : Int
 last : Int
 asks : List Ak
 told : List Int
structure Ds.OK (s : Ds) : Prop where
 part : 0 ≤ s.part ∧ s.part ≤ 7
 first : 0 ≤ s.first ∧ s.first ≤ 1024
 count : 0 ≤ s.count ∧ s.count ≤ 1024
 lat : 1 ≤ s.latency ∧ s.latency ≤ 8
 asks : s.asks.length ≤ 4
 told : s.told.length ≤ 4
 data : ∀ a ∈ s.asks, a.data.length ≤ 64
 sec : ∀ a ∈ s.asks, 0 ≤ a.sector ∧ a.sector < s.count
structure DC where
 cas : List CA
 pl : List Msg
 a : Option Addr
 c : Nat
 ta : Option Addr
 tc : Nat
abbrev DH (d : Nat) (s : Ds) (last : Int) (a : Option Addr) (m c : Nat) (ta : Option Addr) (tm tc : Nat) : HProp :=
 blk d [.int .i64 s.part, .int .i64 s.first, .int .i64 s.count, .int .i64 s.latency, .int .u32 last, .slice a m c, .slice ta tm tc] 175
abbrev oasks (a : Option Addr) (c : Nat) (l : List CA) : HProp := osl 177 7 a c l.length ((l.map CA.cells).flatten)
abbrev DO (d : Nat) (s : Ds) (x : DC) : List HProp :=
 [DH d s s.last x.a x.cas.length x.c x.ta s.told.length x.tc, oasks x.a x.c x.cas, onum 27 .u32 x.ta x.tc s.told, pool x.pl]
structure DC.OK (x : DC) (s : Ds) : Prop where
 abs : x.cas.map CA.abs = s.asks
 mem : ∀ a ∈ x.cas, a.m ∈ x.pl
 ok : s.OK
def D (d : Nat) (s : Ds) : HProp := fun h => ∃ x : DC, x.OK s ∧ Star (DO d s x) h
theorem d_open {d : Nat} {s : Ds} (y : Heaplet) (h : D d s y) : ∃ x : DC, x.OK s ∧ Star (DO d s x) y := h
theorem d_close {d : Nat} {s : Ds} {G : List HProp} (x : DC) (hx : x.OK s) : Imp (DO d s x ++ G) (D d s :: G) := Imp.trans star_close (Imp.head fun y hy => ⟨x, hx, hy⟩)
theorem d_facts {W0 : World} {G R : List HProp} {d : Nat} {s : Ds} (x : Ext G (D d s) R) (w : World) (hw : Sat W0 G w) : s.OK := by
 obtain ⟨_, _, y, hy, _⟩ := Sat.ext x hw
 exact hy.ok
theorem DC.OK.len {x : DC} {s : Ds} (h : x.OK s) : x.cas.length = s.asks.length := by rw [← h.abs]; simp
theorem DC.OK.get {x : DC} {s : Ds} (h : x.OK s) {n : Nat} {a : Ak} (ha : s.asks[n]? = some a) : ∃ c, x.cas[n]? = some c ∧ c.abs = a := by
 rw [← h.abs, List.getElem?_map] at ha
 cases hc : x.cas[n]? with
 | none => rw [hc] at ha; cases ha
 | some c => rw [hc] at ha; exact ⟨c, rfl, by simpa using ha⟩
theorem shape_as {W0 : World} {G R : List HProp} {a : Option Addr} {c n : Nat} {l : List CA} (h : n < l.length) (e : Ext G (oasks a c l) R) (w : World) (hw : Sat W0 G w) : ∃ b o, a = some ⟨b, o, none⟩ :=
 (SlR.of_osl e).elem_shape (i := n) CA.len (by decide) h w hw
section
variable (W0 : World) (Fr : List HProp)
theorem within_spec (n lo hi : Int) : Ctr prog W0 123 [.int .i64 n, .int .i64 lo, .int .i64 hi] Fr (fun _ : Unit => True) (fun _ => .bool (decide (lo ≤ n ∧ n ≤ hi))) (fun _ => Fr) := by
 refine Ctr.of_body func123 J ntmps123 J (cZ (aZ (gZ J (fZ (bZ (cZ ?_))))))
 rcases (show n < lo ∨ lo ≤ n by omega) with hh | hh
 ·refine aZ (eZ J (eZ J (dZ cX ?_)))
  refine eZ J (gQ J J J J J (gQ J J J J J (gQ J J J J J (dZ mZ ?_))))
  exact gZ J (fZ (bZ (rZ (yZ J J () trivial (by rw [decide_eq_false (by omega)]) (Imp.refl _)))))
 ·refine aZ (eZ J (eZ J (dZ cX ?_)))
  refine eZ J (kZ J J (eZ J (kZ J J (eZ J (kZ J J (dZ (Yield.leq J J) (dZ mZ ?_)))))))
  exact gZ J (fZ (bZ (rZ (yZ J J () trivial (by rw [show decide (lo ≤ n ∧ n ≤ hi) = decide (n ≤ hi) by simp [hh]]) (Imp.refl _)))))
def newBad (part first count latency : Int) : Bool := !(decide (0 ≤ part ∧ part ≤ 7)) || !(decide (0 ≤ first ∧ first ≤ 1024)) || !(decide (0 ≤ count ∧ count ≤ 1024)) || decide (1024 < first + count) || !(decide (1 ≤ latency ∧ latency ≤ 8))
theorem cloneB_spec {a : Option Addr} {c : Nat} {bs : B} (hr : RdB W0 Fr a c bs) (hb : bs.length ≤ 140737488351232) : Ctr prog W0 94 [.slice a bs.length c] Fr (fun m : Msg => m.b = bs) (fun m => m.cell) (fun m => m.own :: Fr) := by
 refine Ctr.pure (ψ := a = none → bs = []) (fun w hw h => by
  subst h
  obtain ⟨_, h2 | ⟨_, _, h2, _⟩⟩ := (hr w hw).1
  ·have := congrArg List.length h2; rw [bytesV_length] at this; exact List.length_eq_zero_iff.1 this
  ·cases h2) fun hn => ?_
 refine Ctr.of_body func94 J ntmps94 J (cZ (aZ (gZ J (fZ (bZ (cZ (cZ ?_)))))))
 rcases a with _ | ad
 ·refine aZ (eZ J (dZ (Yield.sl_nil underlying32 J J) (fZ (bZ (fQ J (cZ (aZ (gZ J (fZ (bZ (rZ (qZ ?_))))))))))))
  have hb0 := hn J
  subst hb0
  exact yZ J J Msg.nil J J own_nil
 ·refine aZ (eZ J (dZ (Yield.sl_nil underlying32 J J) (fZ (bZ (vZ J (uZ (bZ (cZ (aZ (kQ (sX underlying32 ti5 J) J ?_))))))))))
  rintro b5 -
  refine eZ J (kQ (eV (bs := []) (ys := bs) J J J underlying32 underlying32 ti5 (by decide) fC (hr.imp iM).slR (by simp only [List.length_nil]; omega)) J ?_)
  rintro ⟨am, cm⟩ -
  rw [List.nil_append]
  exact gZ J (fZ (bZ (rZ (yZ J J ⟨am, cm, bs⟩ J J iM))))
theorem cloneU_spec {a : Option Addr} {c : Nat} {l : List Int} (hr : SlR W0 Fr 1 a l.length (intsV .u32 l)) (hb : l.length ≤ 2 ^ 20) : Ctr prog W0 92 [.slice a l.length c] Fr (fun _ : Option Addr × Nat => True) (fun q => .slice q.1 l.length q.2) (fun q => onum 27 .u32 q.1 q.2 l :: Fr) := by
 refine Ctr.pure (ψ := a = none → l = []) (fun w hw h => by
  subst h
  obtain ⟨_, h2 | ⟨_, _, h2, _⟩⟩ := hr w hw
  ·have := congrArg List.length h2; rw [intsV_len] at this; exact List.length_eq_zero_iff.1 this
  ·cases h2) fun hn => ?_
 refine Ctr.of_body func92 J ntmps92 J (cZ (aZ (gZ J (fZ (bZ (cZ (cZ ?_)))))))
 rcases a with _ | ad
 ·refine aZ (eZ J (dZ (Yield.sl_nil underlying37 J J) (fZ (bZ (fQ J (cZ (aZ (gZ J (fZ (bZ (rZ (qZ ?_))))))))))))
  have hb0 := hn J
  subst hb0
  exact yZ J J (none, 0) trivial J osl_nil
 ·refine aZ (eZ J (dZ (Yield.sl_nil underlying37 J J) (fZ (bZ (vZ J (uZ (bZ (cZ (aZ (kQ (sX underlying37 ti27 J) J ?_))))))))))
  rintro b5 -
  refine eZ J (kQ (fX (a := some ⟨b5, 0, none⟩) (c := 0) (m := 0) (xs := []) (k := l.length) (ys := intsV .u32 l) J J J underlying37 underlying37 ti27 J (by decide) fC (hr.imp iM) (intsV_ones _ _) (by omega)) J ?_)
  rintro ⟨am, cm⟩ -
  rw [Nat.zero_add, List.nil_append]
  exact gZ J (fZ (bZ (rZ (yZ J J (am, cm) trivial J iM))))
theorem new_ok {part first count latency : Int} (h : newBad part first count latency = false) : Ctr prog W0 58 [.int .i64 part, .int .i64 first, .int .i64 count, .int .i64 latency] Fr (fun _ : Nat => True) (fun d => .tuple #[.pointer (some ⟨d, 0, none⟩), .int .i64 0]) (fun d => D d ⟨part, first, count, latency, 0, [], []⟩ :: Fr) := by
 unfold newBad at h
 simp only [Bool.or_eq_false_iff, Bool.not_eq_false', decide_eq_false_iff_not, decide_eq_true_eq] at h
 obtain ⟨⟨⟨⟨h1, h2⟩, h3⟩, h4⟩, h5⟩ := h
 refine Ctr.of_body func58 J ntmps58 J (cZ (aZ (gZ J (gZ J (fZ (bZ (cZ (cZ (aZ (eZ J (oZ call123 J (Imp.refl _) (within_spec W0 _ part 0 7) J ?_)))))))))))
 rintro ⟨⟩ -
 rw [decide_eq_true (p := 0 ≤ part ∧ part ≤ 7) (by omega)]
 refine dZ (iQ J) (eZ J (kZ J J (eZ J (kZ J J (oZ call123 J (Imp.refl _) (within_spec W0 _ first 0 1024) J ?_)))))
 rintro ⟨⟩ -
 rw [decide_eq_true (p := 0 ≤ first ∧ first ≤ 1024) (by omega)]
 refine kZ J J (dZ (iQ J) (dZ mZ ?_))
 refine eZ J (kZ J J (eZ J (kZ J J (oZ call123 J (Imp.refl _) (within_spec W0 _ count 0 1024) J ?_))))
 rintro ⟨⟩ -
 rw [decide_eq_true (p := 0 ≤ count ∧ count ≤ 1024) (by omega)]
 refine kZ J J (dZ (iQ J) (dZ mZ ?_))
 refine eZ J (kZ J J (eZ J (kZ J J (eZ J (kZ J J (dZ (hQ J J wO) (kZ J J (dZ kX ?_))))))))
 refine dZ mZ ?_
 refine eZ J (kZ J J (eZ J (kZ J J (oZ call123 J (Imp.refl _) (within_spec W0 _ latency 1 8) J ?_))))
 rintro ⟨⟩ -
 rw [decide_eq_true (p := 1 ≤ latency ∧ latency ≤ 8) (by omega)]
 refine kZ J J (dZ (iQ J) (dZ mZ ?_))
 refine fZ (bZ (vZ J (uZ (bZ (cZ (aZ (eZ J (eZ J (eZ J (eZ J (dZ (aX (pvs := [(0, .int .i64 part), (1, .int .i64 first), (2, .int .i64 count), (3, .int .i64 latency)]) bu175 ti175 J (cells := [.int .i64 part, .int .i64 first, .int .i64 count, .int .i64 latency, .int .u32 0, .slice none 0 0, .slice none 0 0]) J) (kQ (uX J) J ?_))))))))))))
 rintro b39 -
 refine gZ J (gZ J (fZ (bZ (rZ ?_))))
 have hcl := d_close (d := b39) (G := Fr) (s := ⟨part, first, count, latency, 0, [], []⟩) ⟨[], [], none, 0, none, 0⟩ ⟨rfl, fun a h => absurd h List.not_mem_nil, ⟨h1, h2, h3, h5, Nat.zero_le _, Nat.zero_le _, fun a h => absurd h List.not_mem_nil, fun a h => absurd h List.not_mem_nil⟩⟩
 exact oX J J J b39 trivial J (Imp.trans (Imp.trans pool_nil (Imp.trans (osl_nil (E := 27) (sz := 1)) (Imp.trans (osl_nil (E := 177) (sz := 7)) iM))) hcl)
def subE (s : Ds) (write : Bool) (sector : Int) (len : Nat) (major : Int) : Int :=
 if ¬(0 ≤ sector ∧ sector ≤ s.count - 1) then 2 else if ¬(0 ≤ major ∧ major ≤ 281474976710656) then 2 else if write = true ∧ len ≠ 64 then 6 else if 4 ≤ s.asks.length then 4 else 0
theorem submit_bad {d dm dc : Nat} {s : Ds} {write : Bool} {sector addr major : Int} {da : Option Addr} (he : subE s write sector dm major ≠ 0) :
 Ctr prog W0 91 [.pointer (some ⟨d, 0, none⟩), .bool write, .int .i64 sector, .int .u32 addr, .slice da dm dc, .int .i64 major] (D d s :: Fr) (fun _ : Unit => True) (fun _ => .tuple #[.int .u32 0, .int .i64 (subE s write sector dm major)]) (fun _ => D d s :: Fr) := by
 refine Ctr.ex Ext.here d_open ?_
 intro x hx
 refine Ctr.imp star_open ?_
 have hln := hx.len
 have hcnt := hx.ok.count
 have hcl := d_close (d := d) (G := Fr) x hx
 dsimp only [DO, List.cons_append, List.nil_append] at hcl ⊢
 refine Ctr.of_body func91 J ntmps91 J (cZ (aZ (gZ J (gZ J (fZ (bZ (cZ (mQ (cZ ?_)))))))))
 rcases (show ¬(0 ≤ sector ∧ sector ≤ s.count - 1) ∨ ((0 ≤ sector ∧ sector ≤ s.count - 1) ∧ ¬(0 ≤ major ∧ major ≤ 281474976710656)) ∨ ((0 ≤ sector ∧ sector ≤ s.count - 1) ∧ (0 ≤ major ∧ major ≤ 281474976710656) ∧ write = true ∧ dm ≠ 64) ∨ ((0 ≤ sector ∧ sector ≤ s.count - 1) ∧ (0 ≤ major ∧ major ≤ 281474976710656) ∧ write = false ∧ 4 ≤ s.asks.length) ∨ ((0 ≤ sector ∧ sector ≤ s.count - 1) ∧ (0 ≤ major ∧ major ≤ 281474976710656) ∧ (write = true ∧ dm = 64) ∧ 4 ≤ s.asks.length) by unfold subE at he; cases write <;> (simp only [true_and, false_and, if_false, reduceCtorEq] at he ⊢; (repeat' split at he) <;> first | omega | exact absurd J he)) with hh | hh | ⟨hh1, hh2, rfl, hh⟩ | ⟨hh1, hh2, rfl, hh⟩ | ⟨hh1, hh2, ⟨rfl, hh3⟩, hh⟩
 ·refine aZ (eZ J (eZ J (zZ J (pZ fa175_2 J (dZ (iZ ti3 J) ?_)))))
  refine dZ (yX J J wO) (oZ call123 J (Imp.refl _) (within_spec W0 _ sector 0 (s.count - 1)) J ?_)
  rintro ⟨⟩ -
  first | rw [decide_eq_true (p := 0 ≤ sector ∧ sector ≤ s.count - 1) (by omega)] | rw [decide_eq_false (p := 0 ≤ sector ∧ sector ≤ s.count - 1) (by omega)]
  refine dZ (iQ J) (eZ J (gQ J J J J J (gQ J J J J J (gQ J J J J J (dZ mZ ?_)))))
  exact gZ J (fZ (bZ (fQ J (cZ (aZ (gZ J (gZ J (fZ (bZ (rZ (nQ (qZ (oX J J J () trivial (by unfold subE; rw [if_pos hh]) (Imp.trans iM hcl))))))))))))))
 ·refine aZ (eZ J (eZ J (zZ J (pZ fa175_2 J (dZ (iZ ti3 J) ?_)))))
  refine dZ (yX J J wO) (oZ call123 J (Imp.refl _) (within_spec W0 _ sector 0 (s.count - 1)) J ?_)
  rintro ⟨⟩ -
  first | rw [decide_eq_true (p := 0 ≤ sector ∧ sector ≤ s.count - 1) (by omega)] | rw [decide_eq_false (p := 0 ≤ sector ∧ sector ≤ s.count - 1) (by omega)]
  refine dZ (iQ J) (eZ J (kZ J J (eZ J (kZ J J (oZ call123 J (Imp.refl _) (within_spec W0 _ major 0 281474976710656) J ?_)))))
  rintro ⟨⟩ -
  first | rw [decide_eq_true (p := 0 ≤ major ∧ major ≤ 281474976710656) (by omega)] | rw [decide_eq_false (p := 0 ≤ major ∧ major ≤ 281474976710656) (by omega)]
  refine kZ J J (dZ (iQ J) (dZ mZ ?_))
  exact gZ J (fZ (bZ (fQ J (cZ (aZ (gZ J (gZ J (fZ (bZ (rZ (nQ (qZ (oX J J J () trivial (by unfold subE; rw [if_neg (not_not_intro hh.1), if_pos hh.2]) (Imp.trans iM hcl))))))))))))))
 ·refine aZ (eZ J (eZ J (zZ J (pZ fa175_2 J (dZ (iZ ti3 J) ?_)))))
  refine dZ (yX J J wO) (oZ call123 J (Imp.refl _) (within_spec W0 _ sector 0 (s.count - 1)) J ?_)
  rintro ⟨⟩ -
  first | rw [decide_eq_true (p := 0 ≤ sector ∧ sector ≤ s.count - 1) (by omega)] | rw [decide_eq_false (p := 0 ≤ sector ∧ sector ≤ s.count - 1) (by omega)]
  refine dZ (iQ J) (eZ J (kZ J J (eZ J (kZ J J (oZ call123 J (Imp.refl _) (within_spec W0 _ major 0 281474976710656) J ?_)))))
  rintro ⟨⟩ -
  first | rw [decide_eq_true (p := 0 ≤ major ∧ major ≤ 281474976710656) (by omega)] | rw [decide_eq_false (p := 0 ≤ major ∧ major ≤ 281474976710656) (by omega)]
  refine kZ J J (dZ (iQ J) (dZ mZ ?_))
  refine gZ J (fZ (bZ (vZ J (cZ (aZ (eZ J (eZ J (kZ J J (eZ J (kZ J J (dZ (sZ underlying32 J J) (kZ J J (dZ vQ ?_)))))))))))))
  refine dZ mZ ?_
  exact gZ J (fZ (bZ (fQ J (cZ (aZ (gZ J (gZ J (fZ (bZ (rZ (nQ (qZ (oX J J J () trivial (by unfold subE; rw [if_neg (not_not_intro hh1), if_neg (not_not_intro hh2), if_pos ⟨rfl, hh⟩]) (Imp.trans iM hcl))))))))))))))
 ·refine aZ (eZ J (eZ J (zZ J (pZ fa175_2 J (dZ (iZ ti3 J) ?_)))))
  refine dZ (yX J J wO) (oZ call123 J (Imp.refl _) (within_spec W0 _ sector 0 (s.count - 1)) J ?_)
  rintro ⟨⟩ -
  first | rw [decide_eq_true (p := 0 ≤ sector ∧ sector ≤ s.count - 1) (by omega)] | rw [decide_eq_false (p := 0 ≤ sector ∧ sector ≤ s.count - 1) (by omega)]
  refine dZ (iQ J) (eZ J (kZ J J (eZ J (kZ J J (oZ call123 J (Imp.refl _) (within_spec W0 _ major 0 281474976710656) J ?_)))))
  rintro ⟨⟩ -
  first | rw [decide_eq_true (p := 0 ≤ major ∧ major ≤ 281474976710656) (by omega)] | rw [decide_eq_false (p := 0 ≤ major ∧ major ≤ 281474976710656) (by omega)]
  refine kZ J J (dZ (iQ J) (dZ mZ ?_))
  refine gZ J (fZ (bZ (vZ J (cZ (aZ (eZ J (eZ J (gQ J J J J J (gQ J J J J J (gQ J J J J J (dZ mZ ?_)))))))))))
  refine gZ J (fZ (bZ (vZ J (cZ (aZ (eZ J (zZ J (pZ fa175_5 J (dZ (iZ ti173 J) ?_)))))))))
  refine dZ (sZ underlying173 J J) (dZ cX ?_)
  exact gZ J (fZ (bZ (fQ J (cZ (aZ (gZ J (gZ J (fZ (bZ (rZ (nQ (qZ (oX J J J () trivial (by unfold subE; rw [if_neg (not_not_intro hh1), if_neg (not_not_intro hh2), if_neg (by simp), if_pos hh]) (Imp.trans iM hcl))))))))))))))
 ·refine aZ (eZ J (eZ J (zZ J (pZ fa175_2 J (dZ (iZ ti3 J) ?_)))))
  refine dZ (yX J J wO) (oZ call123 J (Imp.refl _) (within_spec W0 _ sector 0 (s.count - 1)) J ?_)
  rintro ⟨⟩ -
  first | rw [decide_eq_true (p := 0 ≤ sector ∧ sector ≤ s.count - 1) (by omega)] | rw [decide_eq_false (p := 0 ≤ sector ∧ sector ≤ s.count - 1) (by omega)]
  refine dZ (iQ J) (eZ J (kZ J J (eZ J (kZ J J (oZ call123 J (Imp.refl _) (within_spec W0 _ major 0 281474976710656) J ?_)))))
  rintro ⟨⟩ -
  first | rw [decide_eq_true (p := 0 ≤ major ∧ major ≤ 281474976710656) (by omega)] | rw [decide_eq_false (p := 0 ≤ major ∧ major ≤ 281474976710656) (by omega)]
  refine kZ J J (dZ (iQ J) (dZ mZ ?_))
  refine gZ J (fZ (bZ (vZ J (cZ (aZ (eZ J (eZ J (kZ J J (eZ J (kZ J J (dZ (sZ underlying32 J J) (kZ J J (dZ vQ ?_)))))))))))))
  refine dZ mZ ?_
  refine gZ J (fZ (bZ (vZ J (cZ (aZ (eZ J (zZ J (pZ fa175_5 J (dZ (iZ ti173 J) ?_)))))))))
  refine dZ (sZ underlying173 J J) (dZ cX ?_)
  exact gZ J (fZ (bZ (fQ J (cZ (aZ (gZ J (gZ J (fZ (bZ (rZ (nQ (qZ (oX J J J () trivial (by unfold subE; rw [if_neg (not_not_intro hh1), if_neg (not_not_intro hh2), if_neg (by simp [hh3]), if_pos hh]) (Imp.trans iM hcl))))))))))))))
def w32 (n : Int) : Int := IntKind.u32.wrap n
def subR (s : Ds) (write : Bool) (sector addr : Int) (data : B) (major : Int) : Ds :=
 { s with last := w32 (s.last + 1), asks := s.asks ++ [⟨w32 (s.last + 1), write, sector, addr, if write then data else [], major + s.latency, 0⟩] }
set_option maxHeartbeats 1000000 in
theorem submit_ok {d dc : Nat} {s : Ds} {write : Bool} {sector addr major : Int} {da : Option Addr} {data : B} (hr : RdB W0 Fr da dc data) (hdl : data.length ≤ 2 ^ 47) (he : subE s write sector data.length major = 0) :
 Ctr prog W0 91 [.pointer (some ⟨d, 0, none⟩), .bool write, .int .i64 sector, .int .u32 addr, .slice da data.length dc, .int .i64 major] (D d s :: Fr) (fun _ : Unit => True) (fun _ => .tuple #[.int .u32 (w32 (s.last + 1)), .int .i64 0]) (fun _ => D d (subR s write sector addr data major) :: Fr) := by
 refine Ctr.ex Ext.here d_open ?_
 intro x hx
 refine Ctr.imp star_open ?_
 have hln := hx.len
 have hok := hx.ok
 have hcnt := hx.ok.count
 have hlat := hx.ok.lat
 obtain ⟨h1, h2, h3, h4⟩ : (0 ≤ sector ∧ sector ≤ s.count - 1) ∧ (0 ≤ major ∧ major ≤ 281474976710656) ∧ (write = true → data.length = 64) ∧ s.asks.length < 4 := by
  unfold subE at he
  cases write <;> (simp only [true_and, false_and, if_false, reduceCtorEq] at he; (repeat' split at he) <;> first | omega | (refine ⟨by omega, by omega, ?_, by omega⟩; intro _; first | omega | contradiction))
 have hclose : ∀ (m : Msg) (a' : Option Addr) (c' : Nat), m.b = (if write then data else []) → Imp (DO d (subR s write sector addr data major) ⟨x.cas ++ [⟨w32 (s.last + 1), write, sector, addr, m, major + s.latency, 0⟩], x.pl ++ [m], a', c', x.ta, x.tc⟩ ++ Fr) (D d (subR s write sector addr data major) :: Fr) := by
  intro m a' c' hm
  refine d_close _ ⟨?_, ?_, ⟨hok.part, hok.first, hok.count, hok.lat, ?_, hok.told, ?_, ?_⟩⟩
  ·dsimp only [subR]; rw [List.map_append, hx.abs]; simp [CA.abs, hm]
  ·intro a ha
   rcases List.mem_append.1 ha with ha | ha
   ·exact List.mem_append.2 (.inl (hx.mem a ha))
   ·simp only [List.mem_cons, List.not_mem_nil, or_false] at ha; subst ha; simp
  ·dsimp only [subR]; rw [List.length_append]; simp only [List.length_cons, List.length_nil]; omega
  ·intro a ha
   rcases List.mem_append.1 ha with ha | ha
   ·exact hok.data a ha
   ·simp only [List.mem_cons, List.not_mem_nil, or_false] at ha; subst ha
    dsimp only
    split
    ·rename_i hw; rw [h3 hw]; exact Nat.le_refl _
    ·simp
  ·intro a ha
   rcases List.mem_append.1 ha with ha | ha
   ·exact hok.sec a ha
   ·simp only [List.mem_cons, List.not_mem_nil, or_false] at ha; subst ha; dsimp only [subR]; omega
 dsimp only [DO, subR, oasks, List.cons_append, List.nil_append] at hclose ⊢
 refine Ctr.of_body func91 J ntmps91 J (cZ (aZ (gZ J (gZ J (fZ (bZ (cZ (mQ (cZ ?_)))))))))
 cases write
 ·refine aZ (eZ J (eZ J (zZ J (pZ fa175_2 J (dZ (iZ ti3 J) ?_)))))
  refine dZ (yX J J wO) (oZ call123 J (Imp.refl _) (within_spec W0 _ sector 0 (s.count - 1)) J ?_)
  rintro ⟨⟩ -
  rw [decide_eq_true (p := 0 ≤ sector ∧ sector ≤ s.count - 1) (by omega)]
  refine dZ (iQ J) (eZ J (kZ J J (eZ J (kZ J J (oZ call123 J (Imp.refl _) (within_spec W0 _ major 0 281474976710656) J ?_)))))
  rintro ⟨⟩ -
  rw [decide_eq_true (p := 0 ≤ major ∧ major ≤ 281474976710656) (by omega)]
  refine kZ J J (dZ (iQ J) (dZ mZ ?_))
  refine gZ J (fZ (bZ (vZ J (cZ (aZ (eZ J (eZ J (gQ J J J J J (gQ J J J J J (gQ J J J J J (dZ mZ ?_)))))))))))
  refine gZ J (fZ (bZ (vZ J (cZ (aZ (eZ J (zZ J (pZ fa175_5 J (dZ (iZ ti173 J) ?_)))))))))
  refine dZ (sZ underlying173 J J) (dZ cX ?_)
  refine gZ J (fZ (bZ (vZ J (uZ (tZ (bZ (cZ (cZ (aZ (eZ J (dZ (iQ J) (fZ (bZ (fQ J (aZ (gZ J (fZ (bZ (cZ (aZ (eZ J (zZ J (pZ fa175_4 J ?_)))))))))))))))))))))))
  refine dZ (iZ ti27 J) ?_
  refine dZ (hQ J J J) (zZ J (pZ fa175_4 J (sQ (uQ ti27 J J fC J (by first | (simp; done) | decide)) J ?_)))
  rintro ⟨⟩ -
  refine fZ (bZ (cZ (qQ (.lo 0 0 (.lo 1 0 (.lo 2 0 (.lo 3 0 (.lo 4 2 (.lo 5 0 (.lo 6 0 (.lo 7 0 (.lo 8 2 (.lo 9 0 (.lo 10 0 (.lo 11 0 (.lo 12 1 (.lo 14 0 (.lo 15 0 (.lo 16 0 (.lo 17 0 (.lo 18 2 (.lo 19 0 (.eff1 13 false (.lo 20 1 (.eff1 21 false (.eff1 22 false (.lo 23 1 (.lo 24 1 (.eff1 25 true (.done))))))))))))))))))))))))))) [13, 21, 22, 25] [4, 8, 18] ([]) ([DH d s (w32 (s.last + 1)) x.a x.cas.length x.c x.ta s.told.length x.tc]) mixed (by kernel_rfl) (Imp.none _) (iM) ?_)))
  refine nZ J J (nZ J J (dQ J J (wZ J fa175_5 J (hZ J (jZ (v := .slice x.a x.cas.length x.c) ti173 J (Cel.of_blk (b := d) eX J)) ?_))))
  refine nZ J J (dQ J J (wZ J fa175_4 J (hZ J (jZ (v := .int .u32 (w32 (s.last + 1))) ti27 J (Cel.of_blk (b := d) eX J)) ?_)))
  refine nZ J J (nZ J J (nZ J J (nZ J J (nZ J J (nZ J J (dQ J J (wZ J fa175_3 J (hZ J (jZ (v := .int .i64 s.latency) ti3 J (Cel.of_blk (b := d) eX J)) ?_))))))))
  refine hZ J (hQ J J wO) (aQ (rQ J J call94 J (Imp.refl _) (cloneB_spec W0 _ (a := none) (c := 0) (bs := []) (RdB.of_slR SlR.nil (Nat.le_refl _)) (by simp)) J (fun _ => iM) (fun _ => Imp.refl _) (fun _ => iM) ?_))
  rintro m hm
  refine hZ J (aX (pvs := [(0, .int .u32 (w32 (s.last + 1))), (1, .bool false), (2, .int .i64 sector), (3, .int .u32 addr), (4, m.cell), (5, .int .i64 (major + s.latency)), (6, .int .i64 0)]) bu177 ti177 J (cells := CA.cells ⟨w32 (s.last + 1), false, sector, addr, m, major + s.latency, 0⟩) J) (aQ (wQ J J (aV [.tmp 71] (vs := [.agg (CA.cells ⟨w32 (s.last + 1), false, sector, addr, m, major + s.latency, 0⟩).toArray]) (cells := CA.cells ⟨w32 (s.last + 1), false, sector, addr, m, major + s.latency, 0⟩) underlying173 ti177 J J J J (by decide) (by simp [Value.cells, CA.cells]) (by simp [Value.cells])) J (fun _ => iM) (fun _ => Imp.refl _) (fun _ => iM) ?_))
  rintro b72 -
  refine aQ (wQ J J (fX (a := x.a) (c := x.c) (k := 1) (ys := CA.cells ⟨w32 (s.last + 1), false, sector, addr, m, major + s.latency, 0⟩) J J J underlying173 underlying173 ti177 J (by decide) fC (SlR.of_osl (a := some ⟨b72, 0, none⟩) eX) (CA.ones _) (by omega)) J (fun _ => iM) (fun _ => Imp.refl _) (fun _ => iM) ?_)
  rintro ⟨a73, c73⟩ -
  refine dQ J J (wZ J fa175_5 J (aQ (wQ J J (uQ ti173 J J fC J (by first | (simp; done) | decide)) J (fun _ => iM) (fun _ => Imp.refl _) (fun _ => iM) ?_)))
  rintro ⟨⟩ -
  refine pQ (bZ (cZ (aZ (eZ J (zZ J (pZ fa175_4 J (dZ (iZ ti27 J) ?_)))))))
  refine gZ J (gZ J (fZ (bZ (rZ (oX J J J () trivial J (Imp.trans ?_ (hclose m a73 c73 hm)))))))
  rw [List.length_append, flat_app]
  exact Imp.trans (Imp.trans (Imp.pull (A := m.own) eX (Imp.pull (A := pool x.pl) eX (Imp.refl _))) pool_add) iM
 ·refine aZ (eZ J (eZ J (zZ J (pZ fa175_2 J (dZ (iZ ti3 J) ?_)))))
  refine dZ (yX J J wO) (oZ call123 J (Imp.refl _) (within_spec W0 _ sector 0 (s.count - 1)) J ?_)
  rintro ⟨⟩ -
  rw [decide_eq_true (p := 0 ≤ sector ∧ sector ≤ s.count - 1) (by omega)]
  refine dZ (iQ J) (eZ J (kZ J J (eZ J (kZ J J (oZ call123 J (Imp.refl _) (within_spec W0 _ major 0 281474976710656) J ?_)))))
  rintro ⟨⟩ -
  rw [decide_eq_true (p := 0 ≤ major ∧ major ≤ 281474976710656) (by omega)]
  refine kZ J J (dZ (iQ J) (dZ mZ ?_))
  refine gZ J (fZ (bZ (vZ J (cZ (aZ (eZ J (eZ J (kZ J J (eZ J (kZ J J (dZ (sZ underlying32 J J) (kZ J J (dZ (oQ (nX J J) (bF (by have := h3 rfl; omega))) ?_)))))))))))))
  refine dZ mZ ?_
  refine gZ J (fZ (bZ (vZ J (cZ (aZ (eZ J (zZ J (pZ fa175_5 J (dZ (iZ ti173 J) ?_)))))))))
  refine dZ (sZ underlying173 J J) (dZ cX ?_)
  refine gZ J (fZ (bZ (vZ J (uZ (tZ (bZ (cZ (cZ (aZ (eZ J (dZ (iQ J) (fZ (bZ (vZ J (uZ (bZ (cZ (aZ (eZ J (zZ J (pZ fa175_4 J (dZ (iZ ti27 J) ?_))))))))))))))))))))))
  refine dZ (hQ J J J) (zZ J (pZ fa175_4 J (sQ (uQ ti27 J J fC J (by first | (simp; done) | decide)) J ?_)))
  rintro ⟨⟩ -
  refine fZ (bZ (cZ (qQ (.lo 0 0 (.lo 1 0 (.lo 2 0 (.lo 3 0 (.lo 4 2 (.lo 5 0 (.lo 6 0 (.lo 7 0 (.lo 8 2 (.lo 9 0 (.lo 10 0 (.lo 11 0 (.lo 12 1 (.lo 14 0 (.lo 15 0 (.lo 16 0 (.lo 17 0 (.lo 18 2 (.lo 19 0 (.eff1 13 false (.lo 20 1 (.eff1 21 false (.eff1 22 false (.lo 23 1 (.lo 24 1 (.eff1 25 true (.done))))))))))))))))))))))))))) [13, 21, 22, 25] [4, 8, 18] ([]) ([DH d s (w32 (s.last + 1)) x.a x.cas.length x.c x.ta s.told.length x.tc]) mixed (by kernel_rfl) (Imp.none _) (iM) ?_)))
  refine nZ J J (nZ J J (dQ J J (wZ J fa175_5 J (hZ J (jZ (v := .slice x.a x.cas.length x.c) ti173 J (Cel.of_blk (b := d) eX J)) ?_))))
  refine nZ J J (dQ J J (wZ J fa175_4 J (hZ J (jZ (v := .int .u32 (w32 (s.last + 1))) ti27 J (Cel.of_blk (b := d) eX J)) ?_)))
  refine nZ J J (nZ J J (nZ J J (nZ J J (nZ J J (nZ J J (dQ J J (wZ J fa175_3 J (hZ J (jZ (v := .int .i64 s.latency) ti3 J (Cel.of_blk (b := d) eX J)) ?_))))))))
  refine hZ J (hQ J J wO) (aQ (rQ J J call94 J (Imp.refl _) (cloneB_spec W0 _ (a := da) (c := dc) (bs := data) (by exact hr.imp iM) (by have := h3 rfl; omega)) J (fun _ => iM) (fun _ => Imp.refl _) (fun _ => iM) ?_))
  rintro m hm
  refine hZ J (aX (pvs := [(0, .int .u32 (w32 (s.last + 1))), (1, .bool true), (2, .int .i64 sector), (3, .int .u32 addr), (4, m.cell), (5, .int .i64 (major + s.latency)), (6, .int .i64 0)]) bu177 ti177 J (cells := CA.cells ⟨w32 (s.last + 1), true, sector, addr, m, major + s.latency, 0⟩) J) (aQ (wQ J J (aV [.tmp 71] (vs := [.agg (CA.cells ⟨w32 (s.last + 1), true, sector, addr, m, major + s.latency, 0⟩).toArray]) (cells := CA.cells ⟨w32 (s.last + 1), true, sector, addr, m, major + s.latency, 0⟩) underlying173 ti177 J J J J (by decide) (by simp [Value.cells, CA.cells]) (by simp [Value.cells])) J (fun _ => iM) (fun _ => Imp.refl _) (fun _ => iM) ?_))
  rintro b72 -
  refine aQ (wQ J J (fX (a := x.a) (c := x.c) (k := 1) (ys := CA.cells ⟨w32 (s.last + 1), true, sector, addr, m, major + s.latency, 0⟩) J J J underlying173 underlying173 ti177 J (by decide) fC (SlR.of_osl (a := some ⟨b72, 0, none⟩) eX) (CA.ones _) (by omega)) J (fun _ => iM) (fun _ => Imp.refl _) (fun _ => iM) ?_)
  rintro ⟨a73, c73⟩ -
  refine dQ J J (wZ J fa175_5 J (aQ (wQ J J (uQ ti173 J J fC J (by first | (simp; done) | decide)) J (fun _ => iM) (fun _ => Imp.refl _) (fun _ => iM) ?_)))
  rintro ⟨⟩ -
  refine pQ (bZ (cZ (aZ (eZ J (zZ J (pZ fa175_4 J (dZ (iZ ti27 J) ?_)))))))
  refine gZ J (gZ J (fZ (bZ (rZ (oX J J J () trivial J (Imp.trans ?_ (hclose m a73 c73 hm)))))))
  rw [List.length_append, flat_app]
  exact Imp.trans (Imp.trans (Imp.pull (A := m.own) eX (Imp.pull (A := pool x.pl) eX (Imp.refl _))) pool_add) iM
end
end Go.Proofs.YtphljkplokjonaaGreat.Vd
