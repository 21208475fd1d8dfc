/- Rules for steps of the model, and what functions of the program do. -/
import Derived.Test.YtphljkplokjonaaGreatZp7
import Derived.Test.YtphljkplokjonaaGreatRows
set_option linter.unusedVariables false
set_option linter.unusedSimpArgs false
set_option linter.unusedSectionVars false
set_option maxRecDepth 100000
namespace Go.Proofs.YtphljkplokjonaaGreat.Vi
open Go Go.Sl Go.RowKit Go.Proofs Go.Proofs.YtphljkplokjonaaGreat.T Tryz
def RC (q p : Nat) (at' : Int) : List Value := lineC q ++ lineC p ++ [.int .i64 at']
theorem RC_len (q p : Nat) (a : Int) : (RC q p a).length = 17 := by simp [RC, lineC_len]
theorem RC_p (q p : Nat) (a : Int) {i : Nat} (h : i < 8) : (RC q p a)[8 + i]? = some (.bool (p.testBit i)) := by
 unfold RC; rw [List.append_assoc, List.getElem?_append_right (by rw [lineC_len]; omega), lineC_len, Nat.add_sub_cancel_left, List.getElem?_append_left (by rw [lineC_len]; exact h), lineC_get p h]
theorem RC_at (q p : Nat) (a : Int) : (RC q p a)[16]? = some (.int .i64 a) := by
 unfold RC; rw [List.getElem?_append_right (by simp [lineC_len])]; simp [lineC_len]
theorem RC_setq (q p : Nat) (a : Int) (b : Bool) {i : Nat} (h : i < 8) : (RC q p a).set i (.bool b) = RC (setBit q i b) p a := by
 unfold RC; rw [List.append_assoc, List.set_append_left _ _ (by rw [lineC_len]; exact h), lineC_set, ← List.append_assoc]
theorem RC_setp (q p : Nat) (a : Int) (b : Bool) {i : Nat} (h : i < 8) : (RC q p a).set (8 + i) (.bool b) = RC q (setBit p i b) a := by
 unfold RC; rw [List.append_assoc, List.set_append_right _ _ (by rw [lineC_len]; omega), lineC_len, Nat.add_sub_cancel_left, List.set_append_left _ _ (by rw [lineC_len]; exact h), lineC_set, ← List.append_assoc]
theorem RC_setat (q p : Nat) (a a' : Int) : (RC q p a).set 16 (.int .i64 a') = RC q p a' := by
 unfold RC; rw [List.set_append_right _ _ (by simp [lineC_len])]; simp [lineC_len]
theorem RC_rowq (q p : Nat) (a : Int) : ((RC q p a).drop 0).take 8 = lineC q := by
 unfold RC; rw [List.drop_zero, List.append_assoc, List.take_append_of_le_length (by rw [lineC_len]; omega), List.take_of_length_le (by rw [lineC_len]; omega)]
theorem RC_rowp (q p : Nat) (a : Int) : ((RC q p a).drop 8).take 8 = lineC p := by
 unfold RC; rw [List.append_assoc, List.drop_append, List.drop_eq_nil_of_le (by rw [lineC_len]; omega), lineC_len, Nat.sub_self, List.drop_zero, List.nil_append, List.take_append_of_le_length (by rw [lineC_len]; omega), List.take_of_length_le (by rw [lineC_len]; omega)]
abbrev R (r q p : Nat) (at' : Int) : HProp := blk r (RC q p at') 269
section
variable (W0 : World) (Fr : List HProp)
theorem rnew_spec : Ctr prog W0 102 [] Fr (fun _ : Nat => True) (fun v => .pointer (some ⟨v, 0, none⟩)) (fun v => R v 0 0 (-1) :: Fr) := by
 refine Ctr.of_body func102 J ntmps102 J (cZ (aZ (gZ J (fZ (bZ (cZ (aZ (dZ (aX bu269 ti269 J (cells := [_, _, _, _, _, _, _, _, _, _, _, _, _, _, _, _, _]) J) (kQ (uX J) J ?_)))))))))
 rintro b2 -
 exact gZ J (fZ (bZ (rZ (yZ J J b2 trivial J (Imp.refl _)))))
theorem rtimer_spec {v q p : Nat} {a : Int} (n : Int) : Ctr prog W0 166 [.pointer (some ⟨v, 0, none⟩), .int .i64 n] (R v q p a :: Fr) (fun _ : Unit => True)
 (fun _ => .int .i64 (if 0 ≤ n ∧ n ≤ 281474976710656 then 0 else 2)) (fun _ => R v q p (if 0 ≤ n ∧ n ≤ 281474976710656 then n else a) :: Fr) := by
 refine Ctr.of_body func166 J ntmps166 J (cZ (aZ (gZ J (fZ (bZ (cZ (cZ ?_)))))))
 rcases (show n < 0 ∨ (0 ≤ n ∧ n > 281474976710656) ∨ (0 ≤ n ∧ n ≤ 281474976710656) by omega) with hh | hh | hh
 ·refine aZ (eZ J (dZ eQ ?_))
  refine eZ J (gQ J J J J J (gQ J J J J J (dZ mZ ?_)))
  refine fZ (bZ (fQ J (cZ (aZ (gZ J (fZ (bZ (rZ (qZ ?_)))))))))
  rw [if_neg (by omega), if_neg (by omega)]
  exact yZ J J () trivial J (Imp.refl _)
 ·refine aZ (eZ J (dZ eQ ?_))
  refine eZ J (kZ J J (eZ J (kZ J J (dZ kX ?_))))
  refine dZ mZ ?_
  refine fZ (bZ (fQ J (cZ (aZ (gZ J (fZ (bZ (rZ (qZ ?_)))))))))
  rw [if_neg (by omega), if_neg (by omega)]
  exact yZ J J () trivial J (Imp.refl _)
 ·refine aZ (eZ J (dZ eQ ?_))
  refine eZ J (kZ J J (eZ J (kZ J J (dZ kX ?_))))
  refine dZ mZ ?_
  refine fZ (bZ (vZ J (uZ (bZ (cZ (aZ (eZ J (eZ J (zZ J (pZ fa269_2 J (sQ (uQ ti3 J J fC J (by rw [RC_len]; decide)) J ?_)))))))))))
  rintro ⟨⟩ -
  rw [show 0 + 16 = 16 from J, RC_setat]
  refine fZ (bZ (cZ (aZ (gZ J (fZ (bZ (rZ ?_)))))))
  rw [if_pos hh, if_pos hh]
  exact yZ J J () trivial J (Imp.refl _)
theorem rtime_spec {v q p : Nat} {a : Int} : Ctr prog W0 117 [.pointer (some ⟨v, 0, none⟩)] (R v q p a :: Fr) (fun _ : Unit => True) (fun _ => .tuple #[.int .i64 (max a 0), .bool (decide (0 ≤ a))]) (fun _ => R v q p a :: Fr) := by
 refine Ctr.of_body func117 J ntmps117 J (cZ (aZ (gZ J (gZ J (fZ (bZ (cZ (qQ (.lo 0 1 (.lo 1 1 (.lo 2 1 (.lo 3 1 (.lo 4 1 (.lo 5 1 (.lo 6 1 (.lo 7 1 (.lo 8 1 (.lo 9 1 (.lo 10 1 (.lo 11 1 (.done))))))))))))) [] [] ([]) ([]) mixed (by kernel_rfl) (Imp.none _) (Imp.none _) (nZ J J (dQ J J (wZ J fa269_2 J (hZ J (jZ ti3 J (Cel.of_blk eX (RC_at q p a))) ?_))))))))))))
 refine hZ J (Yield.max2 J J) (nZ J J (dQ J J (wZ J fa269_2 J (hZ J (jZ ti3 J (Cel.of_blk eX (RC_at q p a))) ?_))))
 exact hZ J (oV J J) (hZ J (jQ J) (hZ J (jQ J) (pQ (bZ (rZ (oX J J J () trivial J (Imp.refl _)))))))
theorem rqueue_spec {v q p : Nat} {a : Int} (n : Int) : Ctr prog W0 110 [.pointer (some ⟨v, 0, none⟩), .int .i64 n] (R v q p a :: Fr) (fun _ : Unit => True)
 (fun _ => .int .i64 (if 0 ≤ n ∧ n < 8 then 0 else 2)) (fun _ => R v (if 0 ≤ n ∧ n < 8 then setBit q n.toNat true else q) p a :: Fr) := by
 refine Ctr.of_body func110 J ntmps110 J (cZ (aZ (gZ J (fZ (bZ (cZ (cZ ?_)))))))
 rcases (show n < 0 ∨ (0 ≤ n ∧ n ≥ 8) ∨ (0 ≤ n ∧ n < 8) by omega) with hh | hh | hh
 ·refine aZ (eZ J (dZ eQ ?_))
  refine eZ J (gQ J J J J J (gQ J J J J J (dZ mZ ?_)))
  refine fZ (bZ (fQ J (cZ (aZ (gZ J (fZ (bZ (rZ (qZ ?_)))))))))
  rw [if_neg (by omega), if_neg (by omega)]
  exact yZ J J () trivial J (Imp.refl _)
 ·refine aZ (eZ J (dZ eQ ?_))
  refine eZ J (kZ J J (eZ J (kZ J J (dZ cX ?_))))
  refine dZ mZ ?_
  refine fZ (bZ (fQ J (cZ (aZ (gZ J (fZ (bZ (rZ (qZ ?_)))))))))
  rw [if_neg (by omega), if_neg (by omega)]
  exact yZ J J () trivial J (Imp.refl _)
 ·refine aZ (eZ J (dZ eQ ?_))
  refine eZ J (kZ J J (eZ J (kZ J J (dZ cX ?_))))
  refine dZ mZ ?_
  refine fZ (bZ (vZ J (uZ (bZ (cZ (aZ (eZ J (eZ J (zZ J (pZ fa269_0 J (dZ (bX underlying159 ti4 J J (by omega) (by omega)) ?_)))))))))))
  refine sQ (uQ ti4 J J fC J (by rw [RC_len]; omega)) J ?_
  rintro ⟨⟩ -
  rw [show 0 + 0 + n.toNat * 1 = n.toNat by omega, RC_setq _ _ _ _ (by omega)]
  refine fZ (bZ (cZ (aZ (gZ J (fZ (bZ (rZ ?_)))))))
  rw [if_pos hh, if_pos hh]
  exact yZ J J () trivial J (Imp.refl _)
theorem rset_spec {q : Nat} (hq : q < 256) : Ctr prog W0 154 [.agg (lineC q).toArray] Fr (fun _ : Unit => True) (fun _ => .int .u32 q) (fun _ => Fr) := by
 refine Ctr.of_body func154 J ntmps154 J (cZ (aZ (kQ (uX J) J ?_)))
 rintro b1 -
 show OG prog W0 _ _ _ _ _ _ (blk b1 (lineC q) 159 :: Fr)
 refine gZ J (fZ (bZ (cZ (aZ (gZ J (fZ (bZ (cZ (cZ (aZ (gZ J (fZ (bZ (mQ (mX (fun i : Nat => i ≤ 8) (fun i => [(1, .pointer (some ⟨b1, 0, none⟩)), (3, .int .u32 (q % 2 ^ i : Nat)), (4, .int .i64 i)]) (fun _ => [blk b1 (lineC q) 159] ++ Fr) (fun i => 8 - i) 0 (by decide) (by rw [Nat.pow_zero, Nat.mod_one]; exact eS) (Imp.refl _) ?_)))))))))))))))
 intro i hi
 refine cZ (cZ (aZ (eZ J (dZ eQ ?_))))
 refine fZ (bZ (lQ J (fun hc => ?_) (fun hc => ?_)))
 ·try replace hc := odT hc
  have hi' : i < 8 := by omega
  have hp : 2 ^ i < 2 ^ 32 := Nat.pow_lt_pow_right (by decide) (by omega)
  have hm : q % 2 ^ i < 2 ^ 32 := Nat.lt_of_le_of_lt (Nat.mod_le _ _) (by omega)
  refine uZ (bZ (cZ (mQ (cZ (aZ (eZ J (dZ (bX underlying159 ti4 J J (by omega) (by omega)) ?_)))))))
  refine dZ (jZ (v := .bool (q.testBit i)) ti4 J (Cel.of_blk eX (by rw [show 0 + (i : Int).toNat * 1 = i by omega]; exact lineC_get q hi'))) ?_
  refine fZ (bZ (lQ J (fun hc => ?_) (fun hc => ?_)))
  ·try replace hc := odT hc
   refine aZ (eZ J (eZ J (dZ (zV (m := i) (c := ((2 ^ i : Nat) : Int)) J J J (by simp [IntKind.bits]; omega) (pow_u32 (by omega))) ?_)))
   refine dZ (cV J J J (or_nat hm hp)) (gZ J (fZ (tZ (bZ (aZ (eZ J (dZ (hQ J J wO) (gZ J (fZ (gX (i + 1) (show i + 1 ≤ 8 by omega) (show 8 - (i + 1) < 8 - i by omega) ?_ iM))))))))))
   rw [mod_step, if_pos hc]; exact eS
  ·try replace hc := odF hc
   refine uZ (tZ (bZ (aZ (eZ J (dZ (hQ J J wO) (gZ J (fZ (gX (i + 1) (show i + 1 ≤ 8 by omega) (show 8 - (i + 1) < 8 - i by omega) ?_ iM))))))))
   rw [mod_step, if_neg (by rw [hc]; decide)]; exact eS
 ·try replace hc := odF hc
  refine iX (bQ (bQ (tQ (bZ (cZ (aZ (eZ J (gZ J (fZ (bZ (rZ ?_)))))))))))
  have : i = 8 := by omega
  subst this
  exact yZ J J () trivial (by rw [Nat.mod_eq_of_lt (by omega)]) iM
theorem rpending_spec {v q p : Nat} {a : Int} (hp : p < 256) : Ctr prog W0 118 [.pointer (some ⟨v, 0, none⟩)] (R v q p a :: Fr) (fun _ : Unit => True) (fun _ => .int .u32 p) (fun _ => R v q p a :: Fr) := by
 refine Ctr.of_body func118 J ntmps118 J (cZ (aZ (gZ J (fZ (bZ (cZ (aZ (eZ J (zZ J (pZ fa269_1 J (dZ (zQ ti159 J (lineC_len p) (Row.of_blk eX (RC_rowp q p a))) ?_)))))))))))
 refine oZ call154 J (Imp.refl _) (rset_spec W0 _ hp) J ?_
 rintro ⟨⟩ -
 exact gZ J (fZ (bZ (rZ (yZ J J () trivial J (Imp.refl _)))))
theorem rack_spec {v q p m : Nat} {a : Int} (hp : p < 256) (hm : m < 4294967296) : Ctr prog W0 167 [.pointer (some ⟨v, 0, none⟩), .int .u32 m] (R v q p a :: Fr) (fun _ : Unit => True) (fun _ => .tuple #[]) (fun _ => R v q (clr p m) a :: Fr) := by
 refine Ctr.of_body func167 J ntmps167 J (cZ (aZ (gZ J (fZ (bZ (mQ (mX (fun i : Nat => i ≤ 8) (fun i => [(0, .pointer (some ⟨v, 0, none⟩)), (1, .int .u32 m), (4, .int .i64 i)]) (fun i => R v q (clr p (m % 2 ^ i)) a :: Fr) (fun i => 8 - i) 0 (by decide) eS (by rw [Nat.pow_zero, Nat.mod_one, clr_zero]; exact Imp.refl _) ?_)))))))
 intro i hi
 refine cZ (cZ (aZ (eZ J (dZ eQ ?_))))
 refine fZ (bZ (lQ J (fun hc => ?_) (fun hc => ?_)))
 ·try replace hc := odT hc
  have hi' : i < 8 := by omega
  refine uZ (bZ (cZ (mQ (cZ (aZ (eZ J (eZ J (dZ (Yield.shr (m := i) (c := (m : Int) / 2 ^ i) J J J (by simp [IntKind.bits]; omega) J) ?_))))))))
  refine dZ (cV (c := ((m : Int) / 2 ^ i) % 2) J J J (bits_mask .u32 32 (by decide) wraps_word 1 (by decide) _ (Int.ediv_nonneg (by omega) (Int.pow_nonneg (by decide))) (Int.lt_of_le_of_lt (Int.ediv_le_self _ (by omega)) (by omega)))) ?_
  refine dZ (oQ (yQ J J) (v' := .bool (m.testBit i)) (by rw [testBit_int])) ?_
  refine fZ (bZ (lQ J (fun hc => ?_) (fun hc => ?_)))
  ·try replace hc := odT hc
   refine aZ (eZ J (eZ J (zZ J (pZ fa269_1 J (dZ (bX underlying159 ti4 J J (by omega) (by omega)) ?_)))))
   refine sQ (uQ ti4 J J fC J (by rw [RC_len]; omega)) J ?_
   rintro ⟨⟩ -
   rw [show 0 + 8 + (i : Int).toNat * 1 = 8 + i by omega, RC_setp _ _ _ _ hi']
   refine fZ (tZ (bZ (aZ (eZ J (dZ (hQ J J wO) (gZ J (fZ (gX (i + 1) (show i + 1 ≤ 8 by omega) (show 8 - (i + 1) < 8 - i by omega) eS ?_))))))))
   rw [clr_step, if_pos hc]; exact iM
  ·try replace hc := odF hc
   refine uZ (tZ (bZ (aZ (eZ J (dZ (hQ J J wO) (gZ J (fZ (gX (i + 1) (show i + 1 ≤ 8 by omega) (show 8 - (i + 1) < 8 - i by omega) eS ?_))))))))
   rw [clr_step, if_neg (by rw [hc]; decide)]; exact iM
 ·try replace hc := odF hc
  refine iX (bQ (bQ (tQ ?_)))
  have h8 : i = 8 := by omega
  subst h8
  rw [clr_mod hp]
  exact qX J () trivial J iM
def cut (q i : Nat) : Nat := clr q (255 % 2 ^ i)
theorem cut_zero (q : Nat) : cut q 0 = q := by unfold cut; rw [Nat.pow_zero, Nat.mod_one, clr_zero]
theorem cut_step (q i : Nat) (hi : i < 8) : setBit (cut q i) i false = cut q (i + 1) := by
 unfold cut
 rw [clr_step, if_pos]
 have : ∀ j : Fin 8, Nat.testBit 255 j.val = true := by decide
 exact this ⟨i, hi⟩
theorem cut_all {q : Nat} (h : q < 256) : cut q 8 = 0 := by
 unfold cut
 rw [clr_mod h]
 apply Nat.eq_of_testBit_eq; intro j
 rw [clr_test, Nat.zero_testBit]
 by_cases hj : j < 8
 ·have : ∀ j : Fin 8, Nat.testBit 255 j.val = true := by decide
  have := this ⟨j, hj⟩
  simp only at this; rw [this]; simp
 ·rw [bits_of_lt h (by omega)]; rfl
theorem rrelease_spec {v q p : Nat} {a : Int} (now : Int) (hq : q < 256) (hp : p < 256) : Ctr prog W0 111 [.pointer (some ⟨v, 0, none⟩), .int .i64 now] (R v q p a :: Fr) (fun _ : Unit => True)
 (fun _ => .int .u32 (if 0 ≤ a ∧ a ≤ now then setBit q 0 true else q : Nat)) (fun _ => R v 0 (p ||| (if 0 ≤ a ∧ a ≤ now then setBit q 0 true else q)) (if 0 ≤ a ∧ a ≤ now then -1 else a) :: Fr) := by
 refine Ctr.of_body func111 J ntmps111 J (cZ (aZ (gZ J (fZ (bZ (cZ (aZ (eZ J (zZ J (pZ fa269_0 J (dZ (zQ ti159 J (lineC_len q) (Row.of_blk eX (RC_rowq q p a))) ?_)))))))))))
 refine kQ (pX ti159) J ?_
 rintro b5 -
 refine sQ (xQ ti159 J J fC (lineC_len q) (lineC_ones q) J) J ?_
 rintro ⟨⟩ -
 refine fZ (bZ (CG.cut (fun _ : Unit => True) (fun _ => [(0, .pointer (some ⟨v, 0, none⟩)), (1, .int .i64 now), (5, .pointer (some ⟨b5, 0, none⟩))]) (fun _ => blk b5 (lineC (if 0 ≤ a ∧ a ≤ now then setBit q 0 true else q)) 159 :: R v q p (if 0 ≤ a ∧ a ≤ now then -1 else a) :: Fr) ?_ ?_))
 ·refine cZ ?_
  rcases (show a < 0 ∨ (0 ≤ a ∧ ¬ a ≤ now) ∨ (0 ≤ a ∧ a ≤ now) by omega) with hh | hh | hh
  ·refine aZ (eZ J (zZ J (pZ fa269_2 J (dZ (jZ ti3 J (Cel.of_blk eX (RC_at q p a))) ?_))))
   refine dZ cX ?_
   refine eZ J (gQ J J J J J (gQ J J J J J (gQ J J J J J (gQ J J J J J (gQ J J J J J (gQ J J J J J (dZ mZ ?_)))))))
   refine fZ (bZ (vZ J (uZ ?_)))
   rw [if_neg (by omega), if_neg (by omega)]
   exact pV () trivial eS iM
  ·refine aZ (eZ J (zZ J (pZ fa269_2 J (dZ (jZ ti3 J (Cel.of_blk eX (RC_at q p a))) ?_))))
   refine dZ cX ?_
   refine eZ J (kZ J J (eZ J (kZ J J (zZ J (kZ J J (pZ fa269_2 J (kZ J J (dZ (jZ ti3 J (Cel.of_blk eX (RC_at q p a))) ?_))))))))
   refine kZ J J (eZ J (kZ J J (dZ Yield.leqA ?_)))
   refine dZ mZ ?_
   refine fZ (bZ (vZ J (uZ ?_)))
   rw [if_neg (by omega), if_neg (by omega)]
   exact pV () trivial eS iM
  ·refine aZ (eZ J (zZ J (pZ fa269_2 J (dZ (jZ ti3 J (Cel.of_blk eX (RC_at q p a))) ?_))))
   refine dZ cX ?_
   refine eZ J (kZ J J (eZ J (kZ J J (zZ J (kZ J J (pZ fa269_2 J (kZ J J (dZ (jZ ti3 J (Cel.of_blk eX (RC_at q p a))) ?_))))))))
   refine kZ J J (eZ J (kZ J J (dZ Yield.leqA ?_)))
   refine dZ mZ ?_
   refine fZ (bZ (fQ J (cZ (aZ (dZ (bX underlying159 ti4 J J (by omega) (by omega)) ?_)))))
   refine sQ (uQ ti4 J J fC J (by rw [lineC_len]; decide)) J ?_
   rintro ⟨⟩ -
   rw [show 0 + (0 : Int).toNat * 1 = 0 from J, lineC_set]
   refine fZ (bZ (aZ (eZ J (zZ J (pZ fa269_2 J (sQ (uQ ti3 J J fC J (by rw [RC_len]; decide)) J ?_))))))
   rintro ⟨⟩ -
   rw [show 0 + 16 = 16 from J, RC_setat]
   refine fZ ?_
   rw [if_pos hh, if_pos hh]
   exact pV () trivial eS iM
 rintro ⟨⟩ -
 have ht : (if 0 ≤ a ∧ a ≤ now then setBit q 0 true else q) < 256 := by split; exact setBit_lt hq (by decide) true; exact hq
 generalize (if 0 ≤ a ∧ a ≤ now then setBit q 0 true else q) = t at ht ⊢
 generalize (if 0 ≤ a ∧ a ≤ now then -1 else a) = a'
 refine cZ (cZ (aZ (gZ J (fZ (bZ (mQ (mX (fun i : Nat => i ≤ 8) (fun i => [(0, .pointer (some ⟨v, 0, none⟩)), (5, .pointer (some ⟨b5, 0, none⟩)), (6, .int .i64 i)]) (fun i => blk b5 (lineC t) 159 :: R v (cut q i) (p ||| (t % 2 ^ i)) a' :: Fr) (fun i => 8 - i) 0 (by decide) eS (by rw [Nat.pow_zero, Nat.mod_one, Nat.or_zero, cut_zero]; exact Imp.refl _) ?_)))))))
 intro i hi
 refine cZ (cZ (aZ (eZ J (dZ eQ ?_))))
 refine fZ (bZ (lQ J (fun hc => ?_) (fun hc => ?_)))
 ·try replace hc := odT hc
  have hi' : i < 8 := by omega
  refine uZ (bZ (cZ (mQ (cZ ?_))))
  rcases Bool.eq_false_or_eq_true ((p ||| (t % 2 ^ i)).testBit i) with hb | hb
  ·refine qQ (.lo 0 1 (.lo 1 1 (.lo 2 1 (.lo 3 1 (.lo 4 1 (.lo 5 1 (.lo 6 1 (.lo 7 1 (.lo 8 1 (.lo 9 1 (.lo 10 1 (.lo 11 1 (.lo 12 1 (.lo 13 1 (.lo 14 1 (.lo 15 1 (.eff1 16 false (.done)))))))))))))))))) [16] [] ([]) ([]) mixed (by kernel_rfl) (Imp.none _) (Imp.none _) (nZ J J (nZ J J (nZ J J (nZ J J (dQ J J (wZ J fa269_1 J (hZ J (bX underlying159 ti4 J J (by omega) (by omega)) ?_)))))))
   refine hZ J (oQ (jZ (v := .bool ((p ||| (t % 2 ^ i)).testBit i)) ti4 J (Cel.of_blk eX (by rw [show 0 + 8 + (i : Int).toNat * 1 = 8 + i by omega]; exact RC_p _ _ _ hi'))) (v' := .bool true) (by rw [hb])) ?_
   refine nZ J J (dX J J J (dX J J J (dX J J J (hZ J mZ ?_))))
   refine dQ J J (wZ J fa269_1 J (hZ J (bX underlying159 ti4 J J (by omega) (by omega)) ?_))
   refine aQ (wQ J J (uQ ti4 J J fC J (by rw [RC_len]; omega)) J (fun _ => iM) (fun _ => Imp.refl _) (fun _ => iM) ?_)
   rintro ⟨⟩ -
   rw [show 0 + 8 + (i : Int).toNat * 1 = 8 + i by omega, RC_setp _ _ _ _ hi']
   refine pQ (bZ (aZ (eZ J (eZ J (zZ J (pZ fa269_0 J (dZ (bX underlying159 ti4 J J (by omega) (by omega)) ?_)))))))
   refine sQ (uQ ti4 J J fC J (by rw [RC_len]; omega)) J ?_
   rintro ⟨⟩ -
   rw [show 0 + 0 + (i : Int).toNat * 1 = i by omega, RC_setq _ _ _ _ hi', cut_step q i hi']
   refine fZ (tZ (bZ (aZ (eZ J (dZ (hQ J J wO) (gZ J (fZ (gX (i + 1) (show i + 1 ≤ 8 by omega) (show 8 - (i + 1) < 8 - i by omega) eS ?_))))))))
   have e := rel_step p t i
   rw [hb, Bool.true_or] at e
   rw [e]
   exact iM
  ·refine qQ (.lo 0 1 (.lo 1 1 (.lo 2 1 (.lo 3 1 (.lo 4 1 (.lo 5 1 (.lo 6 1 (.lo 7 1 (.lo 8 1 (.lo 9 1 (.lo 10 1 (.lo 11 1 (.lo 12 1 (.lo 13 1 (.lo 14 1 (.lo 15 1 (.eff1 16 false (.done)))))))))))))))))) [16] [] ([]) ([]) mixed (by kernel_rfl) (Imp.none _) (Imp.none _) (nZ J J (nZ J J (nZ J J (nZ J J (dQ J J (wZ J fa269_1 J (hZ J (bX underlying159 ti4 J J (by omega) (by omega)) ?_)))))))
   refine hZ J (oQ (jZ (v := .bool ((p ||| (t % 2 ^ i)).testBit i)) ti4 J (Cel.of_blk eX (by rw [show 0 + 8 + (i : Int).toNat * 1 = 8 + i by omega]; exact RC_p _ _ _ hi'))) (v' := .bool false) (by rw [hb])) ?_
   refine nZ J J (nZ J J (hZ J (bX underlying159 ti4 J J (by omega) (by omega)) ?_))
   refine hZ J (jZ (v := .bool (t.testBit i)) ti4 J (Cel.of_blk (b := b5) eX (by rw [show 0 + (i : Int).toNat * 1 = i by omega]; exact lineC_get t hi'))) ?_
   refine hZ J mZ ?_
   refine dQ J J (wZ J fa269_1 J (hZ J (bX underlying159 ti4 J J (by omega) (by omega)) ?_))
   refine aQ (wQ J J (uQ ti4 J J fC J (by rw [RC_len]; omega)) J (fun _ => iM) (fun _ => Imp.refl _) (fun _ => iM) ?_)
   rintro ⟨⟩ -
   rw [show 0 + 8 + (i : Int).toNat * 1 = 8 + i by omega, RC_setp _ _ _ _ hi']
   refine pQ (bZ (aZ (eZ J (eZ J (zZ J (pZ fa269_0 J (dZ (bX underlying159 ti4 J J (by omega) (by omega)) ?_)))))))
   refine sQ (uQ ti4 J J fC J (by rw [RC_len]; omega)) J ?_
   rintro ⟨⟩ -
   rw [show 0 + 0 + (i : Int).toNat * 1 = i by omega, RC_setq _ _ _ _ hi', cut_step q i hi']
   refine fZ (tZ (bZ (aZ (eZ J (dZ (hQ J J wO) (gZ J (fZ (gX (i + 1) (show i + 1 ≤ 8 by omega) (show 8 - (i + 1) < 8 - i by omega) eS ?_))))))))
   have e := rel_step p t i
   rw [hb, Bool.false_or] at e
   rw [e]
   exact iM
 ·try replace hc := odF hc
  refine iX (bQ (bQ (tQ (bZ (cZ ?_)))))
  have h8 : i = 8 := by omega
  subst h8
  rw [Nat.mod_eq_of_lt (show t < 2 ^ 8 by omega), cut_all hq]
  refine aZ (dZ (zQ ti159 J (lineC_len t) (Row.of_blk eX (by rw [lineC_len, List.drop_zero, List.take_of_length_le (by rw [lineC_len]; omega)]))) ?_)
  refine oZ call154 J (Imp.refl _) (rset_spec W0 _ ht) J ?_
  rintro ⟨⟩ -
  exact gZ J (fZ (bZ (rZ (yZ J J () trivial J iM))))
def atOf : Bool → Int → Int
 | true, a => a
 | false, _ => -1
theorem due_iff {a : Int} {s : Bool} (ha : s = true → 0 ≤ a) (now : Int) : (0 ≤ atOf s a ∧ atOf s a ≤ now) ↔ due a s now = true := by
 cases s with
 | true => have := ha rfl; show (0 ≤ a ∧ a ≤ now) ↔ (true && decide (a ≤ now)) = true; simp; omega
 | false => show (0 ≤ (-1 : Int) ∧ _) ↔ (false && decide (a ≤ now)) = true; simp
theorem rrelease2 {v q p : Nat} {a : Int} {s : Bool} (now : Int) (hq : q < 256) (hp : p < 256) (ha : s = true → 0 ≤ a) : Ctr prog W0 111 [.pointer (some ⟨v, 0, none⟩), .int .i64 now] (R v q p (atOf s a) :: Fr) (fun _ : Unit => True)
 (fun _ => .int .u32 (if due a s now then setBit q 0 true else q : Nat)) (fun _ => R v 0 (p ||| (if due a s now then setBit q 0 true else q)) (atOf (s && !due a s now) (if due a s now then 0 else a)) :: Fr) := by
 have h := rrelease_spec W0 Fr (v := v) (a := atOf s a) now hq hp
 simp only [due_iff ha now] at h
 have e : (if due a s now = true then -1 else atOf s a) = atOf (s && !due a s now) (if due a s now then 0 else a) := by
  cases hd : due a s now with
  | true => cases s <;> rfl
  | false => cases s <;> rfl
 rw [e] at h; exact h
end
end Go.Proofs.YtphljkplokjonaaGreat.Vi
namespace Go.Proofs.YtphljkplokjonaaGreat.Vc
open Go Go.Sl Go.RowKit Go.Proofs Go.Proofs.YtphljkplokjonaaGreat.T Tryz
abbrev RcO (r : Nat) (out inn : List UInt8) (p : (Option Addr × Nat) × (Option Addr × Nat)) : List HProp :=
 [blk r [.slice p.1.1 out.length p.1.2, .slice p.2.1 inn.length p.2.2] 220, oby 5 p.1.1 p.1.2 out, oby 5 p.2.1 p.2.2 inn]
def Rc (r : Nat) (out inn : List UInt8) : HProp := fun h => ∃ p, True ∧ Star (RcO r out inn p) h
theorem rc_open {r : Nat} {out inn : List UInt8} (y : Heaplet) (h : Rc r out inn y) : ∃ p, True ∧ Star (RcO r out inn p) y := h
theorem rc_close {r : Nat} {out inn : List UInt8} {G : List HProp} (p : (Option Addr × Nat) × (Option Addr × Nat)) : Imp (RcO r out inn p ++ G) (Rc r out inn :: G) :=
 Imp.trans star_close (Imp.head fun y hy => ⟨p, trivial, hy⟩)
section
variable (W0 : World) (Fr : List HProp)
theorem rnew_spec : Ctr prog W0 103 [] Fr (fun _ : Nat => True) (fun r => .pointer (some ⟨r, 0, none⟩)) (fun r => Rc r [] [] :: Fr) := by
 refine Ctr.of_body func103 J ntmps103 J (cZ (aZ (gZ J (fZ (bZ (cZ (aZ (dZ (Yield.build0 bu220 ti220) (kQ (uX J) J ?_)))))))))
 rintro b2 -
 exact gZ J (fZ (bZ (rZ (yZ J J b2 trivial J (Imp.trans (Imp.trans oby_nil (Imp.trans oby_nil iM)) (rc_close (out := []) (inn := []) ((none, 0), (none, 0))))))))
theorem rwrite_spec {r : Nat} {out inn ds : List UInt8} {a2 : Option Addr} {c2 : Nat} (hd : RdB W0 Fr a2 c2 ds) (hsz : ds.length ≤ 2 ^ 47 - 4096) (ho : out.length ≤ 64) :
 Ctr prog W0 204 [.pointer (some ⟨r, 0, none⟩), .slice a2 ds.length c2] (Rc r out inn :: Fr) (fun _ : Unit => True) (fun _ => .int .i64 (min ds.length (64 - out.length) : Nat)) (fun _ => Rc r (out ++ ds.take (64 - out.length)) inn :: Fr) := by
 refine Ctr.pure (fun w hw => hd.cap w (hw.imp Imp.drop)) fun hc => (Ctr.ex Ext.here rc_open ?_)
 rintro ⟨⟨a, c⟩, a', c'⟩ -
 refine Ctr.imp star_open (Ctr.of_body func204 J ntmps204 J (cZ (aZ (gZ J (fZ (bZ (cZ (aZ (eZ J (dZ (sZ underlying32 J J) (eZ J (zZ J (pZ fa220_0 J (dZ (iZ ti32 J) ?_))))))))))))))
 refine dZ (sZ underlying32 J J) (dZ (yX J J wO) (dZ (mV J J) (gZ J (fZ ?_))))
 rw [show min (ds.length : Int) (64 - (out.length : Int)) = ((min ds.length (64 - out.length) : Nat) : Int) by omega]
 refine bZ (cZ (qQ (.lo 0 0 (.lo 2 0 (.lo 3 0 (.lo 4 0 (.lo 5 2 (.lo 7 0 (.lo 8 0 (.lo 9 0 (.eff1 1 false (.eff1 6 false (.eff1 10 false (.lo 11 1 (.lo 12 1 (.eff1 13 true (.done))))))))))))))) [1, 6, 10, 13] [5] ([]) ([blk r [.slice a out.length c, .slice a' inn.length c'] 220]) mixed (by kernel_rfl) (Imp.none _) (iM) ?_))
 refine nZ J J (nZ J J (dQ J J (wZ J fa220_0 J (hZ J (iZ ti32 J) ?_))))
 refine nZ J J (nZ J J (hZ J (oQ (sV underlying32 ti5 J (Bound.some J) (by omega) (by omega)) (v' := .slice a2 (ds.take (64 - out.length)).length c2) (by rw [List.length_take, Nat.min_comm]; rfl)) ?_))
 refine aQ (wQ J J (sX underlying32 ti5 J) J (fun _ => iM) (fun _ => Imp.refl _) (fun _ => iM) ?_)
 rintro b16 -
 refine aQ (wQ J J (by first | exact nV J J J underlying32 underlying32 ti5 (by decide) fC (by first | exact SlR.of_osl eX | exact SlR.of_osl_eq eX J J | exact SlR.of_osl_eq eX J (by simp [bytesV, byteV]) | assumption | exact SlAt.old (by assumption) eX | exact RdB.slR (by assumption)) (by omega) | exact eV J J J underlying32 underlying32 ti5 (by decide) fC (by first | exact SlR.of_osl eX | exact SlR.of_osl_eq eX J J | exact SlR.of_osl_eq eX J (by simp [bytesV, byteV]) | assumption | exact SlAt.old (by assumption) eX | exact RdB.slR (by assumption)) (by first | omega | (simp only [List.length_append, List.length_cons, List.length_nil, List.length_take, List.length_drop]; omega))) J (fun _ => iM) (fun _ => Imp.refl _) (fun _ => iM) ?_)
 rintro ⟨a21, c21⟩ -
 refine aQ (wQ J J (eV J J J underlying32 underlying32 ti5 (by decide) fC ((SlR.takeB (hd.imp (by exact iM)).slR _)) (by simp; omega)) J (fun _ => iM) (fun _ => Imp.refl _) (fun _ => iM) ?_)
 rintro ⟨a25, c25⟩ -
 refine dQ J J (wZ J fa220_0 J (aQ (wQ J J (uQ ti32 J J fC J (by first | (simp; done) | decide)) J (fun _ => iM) (fun _ => Imp.refl _) (fun _ => iM) ?_)))
 rintro ⟨⟩ -
 exact pQ (bZ (cZ (aZ (eZ J (gZ J (fZ (bZ (rZ (yZ J J () trivial J (Imp.trans iM (rc_close ((a25, c25), (a', c')))))))))))))
theorem rfeed_spec {r : Nat} {out inn ds : List UInt8} {a2 : Option Addr} {c2 : Nat} (hd : RdB W0 Fr a2 c2 ds) (hsz : ds.length ≤ 2 ^ 47 - 4096) (ho : inn.length ≤ 64) :
 Ctr prog W0 108 [.pointer (some ⟨r, 0, none⟩), .slice a2 ds.length c2] (Rc r out inn :: Fr) (fun _ : Unit => True) (fun _ => .int .i64 (min ds.length (64 - inn.length) : Nat)) (fun _ => Rc r out (inn ++ ds.take (64 - inn.length)) :: Fr) := by
 refine Ctr.pure (fun w hw => hd.cap w (hw.imp Imp.drop)) fun hc => (Ctr.ex Ext.here rc_open ?_)
 rintro ⟨⟨a, c⟩, a', c'⟩ -
 refine Ctr.imp star_open (Ctr.of_body func108 J ntmps108 J (cZ (aZ (gZ J (fZ (bZ (cZ (aZ (eZ J (dZ (sZ underlying32 J J) (eZ J (zZ J (pZ fa220_1 J (dZ (iZ ti32 J) ?_))))))))))))))
 refine dZ (sZ underlying32 J J) (dZ (yX J J wO) (dZ (mV J J) (gZ J (fZ ?_))))
 rw [show min (ds.length : Int) (64 - (inn.length : Int)) = ((min ds.length (64 - inn.length) : Nat) : Int) by omega]
 refine bZ (cZ (qQ (.lo 0 0 (.lo 2 0 (.lo 3 0 (.lo 4 0 (.lo 5 2 (.lo 7 0 (.lo 8 0 (.lo 9 0 (.eff1 1 false (.eff1 6 false (.eff1 10 false (.lo 11 1 (.lo 12 1 (.eff1 13 true (.done))))))))))))))) [1, 6, 10, 13] [5] ([]) ([blk r [.slice a out.length c, .slice a' inn.length c'] 220]) mixed (by kernel_rfl) (Imp.none _) (iM) ?_))
 refine nZ J J (nZ J J (dQ J J (wZ J fa220_1 J (hZ J (iZ ti32 J) ?_))))
 refine nZ J J (nZ J J (hZ J (oQ (sV underlying32 ti5 J (Bound.some J) (by omega) (by omega)) (v' := .slice a2 (ds.take (64 - inn.length)).length c2) (by rw [List.length_take, Nat.min_comm]; rfl)) ?_))
 refine aQ (wQ J J (sX underlying32 ti5 J) J (fun _ => iM) (fun _ => Imp.refl _) (fun _ => iM) ?_)
 rintro b16 -
 refine aQ (wQ J J (by first | exact nV J J J underlying32 underlying32 ti5 (by decide) fC (by first | exact SlR.of_osl eX | exact SlR.of_osl_eq eX J J | exact SlR.of_osl_eq eX J (by simp [bytesV, byteV]) | assumption | exact SlAt.old (by assumption) eX | exact RdB.slR (by assumption)) (by omega) | exact eV J J J underlying32 underlying32 ti5 (by decide) fC (by first | exact SlR.of_osl eX | exact SlR.of_osl_eq eX J J | exact SlR.of_osl_eq eX J (by simp [bytesV, byteV]) | assumption | exact SlAt.old (by assumption) eX | exact RdB.slR (by assumption)) (by first | omega | (simp only [List.length_append, List.length_cons, List.length_nil, List.length_take, List.length_drop]; omega))) J (fun _ => iM) (fun _ => Imp.refl _) (fun _ => iM) ?_)
 rintro ⟨a21, c21⟩ -
 refine aQ (wQ J J (eV J J J underlying32 underlying32 ti5 (by decide) fC ((SlR.takeB (hd.imp (by exact iM)).slR _)) (by simp; omega)) J (fun _ => iM) (fun _ => Imp.refl _) (fun _ => iM) ?_)
 rintro ⟨a25, c25⟩ -
 refine dQ J J (wZ J fa220_1 J (aQ (wQ J J (uQ ti32 J J fC J (by first | (simp; done) | decide)) J (fun _ => iM) (fun _ => Imp.refl _) (fun _ => iM) ?_)))
 rintro ⟨⟩ -
 exact pQ (bZ (cZ (aZ (eZ J (gZ J (fZ (bZ (rZ (yZ J J () trivial J (Imp.trans iM (rc_close ((a, c), (a25, c25)))))))))))))
theorem rdrain_spec {r : Nat} {out inn : List UInt8} (ho : out.length ≤ 64) :
 Ctr prog W0 109 [.pointer (some ⟨r, 0, none⟩)] (Rc r out inn :: Fr) (fun _ : Option Addr × Nat => True) (fun p => .slice p.1 out.length p.2) (fun p => oby 5 p.1 p.2 out :: Rc r [] inn :: Fr) := by
 refine Ctr.ex Ext.here rc_open ?_
 rintro ⟨⟨a, c⟩, a', c'⟩ -
 refine Ctr.imp star_open (Ctr.of_body func109 J ntmps109 J (cZ (aZ (gZ J (fZ (bZ (cZ (aZ (kQ (sX underlying32 ti5 J) J ?_)))))))))
 rintro b4 -
 refine eZ J (zZ J (pZ fa220_0 J (dZ (iZ ti32 J) ?_)))
 refine kQ (by first | exact nV J J J underlying32 underlying32 ti5 (by decide) fC (by first | exact SlR.of_osl eX | exact SlR.of_osl_eq eX J J | exact SlR.of_osl_eq eX J (by simp [bytesV, byteV]) | assumption | exact SlAt.old (by assumption) eX | exact RdB.slR (by assumption)) (by omega) | exact eV J J J underlying32 underlying32 ti5 (by decide) fC (by first | exact SlR.of_osl eX | exact SlR.of_osl_eq eX J J | exact SlR.of_osl_eq eX J (by simp [bytesV, byteV]) | assumption | exact SlAt.old (by assumption) eX | exact RdB.slR (by assumption)) (by first | omega | (simp only [List.length_append, List.length_cons, List.length_nil, List.length_take, List.length_drop]; omega))) J ?_
 rintro ⟨a9, c9⟩ -
 refine gZ J (fZ (bZ (cZ (aZ (eZ J (zZ J (pZ fa220_0 J (sQ (uQ ti32 J J fC J (by first | (simp; done) | decide)) J ?_))))))))
 rintro ⟨⟩ -
 exact fZ (bZ (cZ (aZ (eZ J (gZ J (fZ (bZ (rZ (yZ J J (a9, c9) trivial J (Imp.trans (Imp.trans oby_nil iM) (Imp.cons (rc_close (out := []) ((none, 0), (a', c'))))))))))))))
theorem rread_spec {r : Nat} {out inn : List UInt8} (n : Int) (k : Nat) (hk : max 0 (min n (inn.length : Int)) = (k : Int)) (ho : inn.length ≤ 64) :
 Ctr prog W0 205 [.pointer (some ⟨r, 0, none⟩), .int .i64 n] (Rc r out inn :: Fr) (fun _ : Option Addr × Nat => True) (fun p => .slice p.1 (inn.take k).length p.2) (fun p => oby 5 p.1 p.2 (inn.take k) :: Rc r out (inn.drop k) :: Fr) := by
 have hkm : k ≤ inn.length := by omega
 refine Ctr.ex Ext.here rc_open ?_
 rintro ⟨⟨a, c⟩, a', c'⟩ -
 refine Ctr.imp star_open ?_
 dsimp only [RcO]
 refine Ctr.pure (fun w hw => osl_facts (a := a') (c := c') (xs := bytesV inn) (m := inn.length) eX w hw) ?_
 rintro ⟨_, hcap⟩
 have hs : SlR W0 (RcO r out inn ((a, c), (a', c')) ++ Fr) 1 a' inn.length (bytesV inn) := SlR.of_osl eX
 refine Ctr.of_body func205 J ntmps205 J (cZ (aZ (gZ J (fZ (bZ (cZ (aZ (eZ J (eZ J (zZ J (pZ fa220_1 J (dZ (iZ ti32 J) ?_))))))))))))
 refine dZ (sZ underlying32 J J) (dZ (mV J J) (dZ (Yield.max2 J J) (gZ J (fZ ?_))))
 rw [hk]
 refine bZ (cZ (aZ (kQ (sX underlying32 ti5 J) J ?_)))
 rintro b14 -
 refine eZ J (zZ J (pZ fa220_1 J (dZ (iZ ti32 J) ?_)))
 refine eZ J (dZ (oQ (sV underlying32 ti5 J (Bound.some J) (by omega) (by omega)) (v' := .slice a' (inn.take k).length c') (by rw [List.length_take, Nat.min_eq_left hkm]; rfl)) ?_)
 refine kQ (nV J J J underlying32 underlying32 ti5 (by decide) fC ((hs.imp iM).takeB _) (by simp; omega)) J ?_
 rintro ⟨a21, c21⟩ -
 refine gZ J (fZ (bZ (cZ (aZ (eZ J (kQ (sX underlying32 ti5 J) J ?_))))))
 rintro b23 -
 refine eZ J (zZ J (pZ fa220_1 J (dZ (iZ ti32 J) ?_)))
 refine eZ J (dZ (oQ (Yield.slice underlying32 ti5 J (Bound.some J) Bound.none (by omega) (by omega) (by omega)) (v' := .slice (a'.map fun x => cutAt x k c' 1) (inn.drop k).length (c' - k)) (by rw [List.length_drop]; rfl)) ?_)
 refine kQ (nV J J J underlying32 underlying32 ti5 (by decide) fC ((hs.imp iM).dropB hcap hkm) (by simp; omega)) J ?_
 rintro ⟨a30, c30⟩ -
 refine zZ J (pZ fa220_1 J (sQ (uQ ti32 J J fC J (by first | (simp; done) | decide)) J ?_))
 rintro ⟨⟩ -
 exact fZ (bZ (cZ (aZ (eZ J (gZ J (fZ (bZ (rZ (yZ J J (a21, c21) trivial J (Imp.trans iM (Imp.cons (rc_close ((a, c), (a30, c30))))))))))))))
end
end Go.Proofs.YtphljkplokjonaaGreat.Vc
namespace Go.Proofs.YtphljkplokjonaaGreat.Vd
open Go Go.Sl Go.RowKit Go.Proofs Go.Proofs.YtphljkplokjonaaGreat.T Go.Proofs.YtphljkplokjonaaGreat.Ms
end Go.Proofs.YtphljkplokjonaaGreat.Vd
namespace Go.Proofs.YtphljkplokjonaaGreat.Vd
open Go Go.Sl Go.RowKit Go.Proofs Go.Proofs.YtphljkplokjonaaGreat.T Go.Proofs.YtphljkplokjonaaGreat.Ms Tryz
structure RA where
 tag : Int
 write : Bool
 sector : Int
 addr : Int
 m : Msg
 major : Int
 iss : Bool
 com : Bool
def RA.cells (x : RA) : List Value := [.int .u32 x.tag, .bool x.write, .int .i64 x.sector, .int .u32 x.addr, x.m.cell, .int .i64 x.major, .bool x.iss, .bool x.com]
def RA.abs (lat : Int) (x : RA) : Ak := ⟨x.tag, x.write, x.sector, x.addr, x.m.b, x.major + lat, if x.com then 2 else if x.iss then 1 else 0⟩
theorem RA.len (x : RA) : x.cells.length = 8 := rfl
theorem RA.ones (x : RA) : ∀ v ∈ x.cells, one v = true := by simp [RA.cells, one, Msg.cell]
structure RX where
 ras : List RA
 pl : List Msg
 a : Option Addr
 c : Nat
 ta : Option Addr
 tc : Nat
abbrev RH (d : Nat) (s : Ds) (last : Int) (a : Option Addr) (m c : Nat) (ta : Option Addr) (tm tc : Nat) : HProp :=
 blk d [.int .i64 s.part, .int .i64 s.first, .int .i64 s.count, .int .i64 s.latency, .slice a m c, .int .u32 last, .slice ta tm tc] 267
abbrev oras (a : Option Addr) (c : Nat) (l : List RA) : HProp := osl 274 8 a c l.length ((l.map RA.cells).flatten)
abbrev RO (d : Nat) (s : Ds) (x : RX) : List HProp :=
 [RH d s s.last x.a x.ras.length x.c x.ta s.told.length x.tc, oras x.a x.c x.ras, onum 27 .u32 x.ta x.tc s.told, pool x.pl]
structure RAs.OK (s : Ds) (pl : List Msg) (a : RA) : Prop where
 mem : a.m ∈ pl
 com : a.com = true → a.iss = true
 maj : 0 ≤ a.major ∧ a.major ≤ 281474976710656
structure RX.OK (x : RX) (s : Ds) : Prop where
 abs : x.ras.map (RA.abs s.latency) = s.asks
 all : ∀ a ∈ x.ras, RAs.OK s x.pl a
 ok : s.OK
def Dd (d : Nat) (s : Ds) : HProp := fun h => ∃ x : RX, x.OK s ∧ Star (RO d s x) h
theorem rd_open {d : Nat} {s : Ds} (y : Heaplet) (h : Dd d s y) : ∃ x : RX, x.OK s ∧ Star (RO d s x) y := h
theorem rd_close {d : Nat} {s : Ds} {G : List HProp} (x : RX) (hx : x.OK s) : Imp (RO d s x ++ G) (Dd d s :: G) := Imp.trans star_close (Imp.head fun y hy => ⟨x, hx, hy⟩)
theorem RX.OK.len {x : RX} {s : Ds} (h : x.OK s) : x.ras.length = s.asks.length := by rw [← h.abs]; simp
theorem RX.OK.get {x : RX} {s : Ds} (h : x.OK s) {n : Nat} {c : RA} (hc : x.ras[n]? = some c) : s.asks[n]? = some (c.abs s.latency) := by
 rw [← h.abs, List.getElem?_map, hc]; rfl
theorem shape_rs {W0 : World} {G R : List HProp} {a : Option Addr} {c n : Nat} {l : List RA} (h : n < l.length) (e : Ext G (oras a c l) R) (w : World) (hw : Sat W0 G w) : ∃ b o, a = some ⟨b, o, none⟩ :=
 (SlR.of_osl e).elem_shape (i := n) RA.len (by decide) h w hw
section
variable (W0 : World) (Fr : List HProp)
theorem rwithin_spec (n lo hi : Int) : Ctr prog W0 150 [.int .i64 n, .int .i64 lo, .int .i64 hi] Fr (fun _ : Unit => True) (fun _ => .bool (decide (lo ≤ n ∧ n ≤ hi))) (fun _ => Fr) := by
 refine Ctr.of_body func150 J ntmps150 J (cZ (aZ (gZ J (fZ (bZ (cZ ?_))))))
 rcases (show n < lo ∨ lo ≤ n by omega) with hh | hh
 ·refine aZ (eZ J (eZ J (dZ cX ?_)))
  refine eZ J (gQ J J J J J (gQ J J J J J (gQ J J J J J (dZ mZ ?_))))
  exact gZ J (fZ (bZ (rZ (yZ J J () trivial (by rw [decide_eq_false (by omega)]) (Imp.refl _)))))
 ·refine aZ (eZ J (eZ J (dZ cX ?_)))
  refine eZ J (kZ J J (eZ J (kZ J J (eZ J (kZ J J (dZ (Yield.leq J J) (dZ mZ ?_)))))))
  exact gZ J (fZ (bZ (rZ (yZ J J () trivial (by rw [show decide (lo ≤ n ∧ n ≤ hi) = decide (n ≤ hi) by simp [hh]]) (Imp.refl _)))))
theorem rnew_ok {part first count latency : Int} (h : newBad part first count latency = false) : Ctr prog W0 101 [.int .i64 part, .int .i64 first, .int .i64 count, .int .i64 latency] Fr (fun _ : Nat => True) (fun d => .tuple #[.pointer (some ⟨d, 0, none⟩), .int .i64 0]) (fun d => Dd d ⟨part, first, count, latency, 0, [], []⟩ :: Fr) := by
 unfold newBad at h
 simp only [Bool.or_eq_false_iff, Bool.not_eq_false', decide_eq_false_iff_not, decide_eq_true_eq] at h
 obtain ⟨⟨⟨⟨h1, h2⟩, h3⟩, h4⟩, h5⟩ := h
 refine Ctr.of_body func101 J ntmps101 J (cZ (aZ (gZ J (gZ J (fZ (bZ (cZ (cZ (aZ (eZ J (oZ call150 J (Imp.refl _) (rwithin_spec W0 _ part 0 7) J ?_)))))))))))
 rintro ⟨⟩ -
 rw [decide_eq_true (p := 0 ≤ part ∧ part ≤ 7) (by omega)]
 refine dZ (iQ J) (eZ J (kZ J J (eZ J (kZ J J (oZ call150 J (Imp.refl _) (rwithin_spec W0 _ first 0 1024) J ?_)))))
 rintro ⟨⟩ -
 rw [decide_eq_true (p := 0 ≤ first ∧ first ≤ 1024) (by omega)]
 refine kZ J J (dZ (iQ J) (dZ mZ ?_))
 refine eZ J (kZ J J (eZ J (kZ J J (oZ call150 J (Imp.refl _) (rwithin_spec W0 _ count 0 1024) J ?_))))
 rintro ⟨⟩ -
 rw [decide_eq_true (p := 0 ≤ count ∧ count ≤ 1024) (by omega)]
 refine kZ J J (dZ (iQ J) (dZ mZ ?_))
 refine eZ J (kZ J J (eZ J (kZ J J (eZ J (kZ J J (dZ (hQ J J wO) (kZ J J (dZ kX ?_))))))))
 refine dZ mZ ?_
 refine eZ J (kZ J J (eZ J (kZ J J (oZ call150 J (Imp.refl _) (rwithin_spec W0 _ latency 1 8) J ?_))))
 rintro ⟨⟩ -
 rw [decide_eq_true (p := 1 ≤ latency ∧ latency ≤ 8) (by omega)]
 refine kZ J J (dZ (iQ J) (dZ mZ ?_))
 refine fZ (bZ (vZ J (uZ (bZ (cZ (aZ (eZ J (eZ J (eZ J (eZ J (dZ (aX (pvs := [(0, .int .i64 part), (1, .int .i64 first), (2, .int .i64 count), (3, .int .i64 latency)]) bu267 ti267 J (cells := [.int .i64 part, .int .i64 first, .int .i64 count, .int .i64 latency, .slice none 0 0, .int .u32 0, .slice none 0 0]) J) (kQ (uX J) J ?_))))))))))))
 rintro b39 -
 refine gZ J (gZ J (fZ (bZ (rZ ?_))))
 have hcl := rd_close (d := b39) (G := Fr) (s := ⟨part, first, count, latency, 0, [], []⟩) ⟨[], [], none, 0, none, 0⟩ ⟨rfl, fun a h => absurd h List.not_mem_nil, ⟨h1, h2, h3, h5, Nat.zero_le _, Nat.zero_le _, fun a h => absurd h List.not_mem_nil, fun a h => absurd h List.not_mem_nil⟩⟩
 exact oX J J J b39 trivial J (Imp.trans (Imp.trans pool_nil (Imp.trans (osl_nil (E := 27) (sz := 1)) (Imp.trans (osl_nil (E := 274) (sz := 8)) iM))) hcl)
theorem rsubmit_bad {d dm dc : Nat} {s : Ds} {write : Bool} {sector addr major : Int} {da : Option Addr} (he : subE s write sector dm major ≠ 0) :
 Ctr prog W0 207 [.pointer (some ⟨d, 0, none⟩), .bool write, .int .i64 sector, .int .u32 addr, .slice da dm dc, .int .i64 major] (Dd d s :: Fr) (fun _ : Unit => True) (fun _ => .tuple #[.int .u32 0, .int .i64 (subE s write sector dm major)]) (fun _ => Dd d s :: Fr) := by
 refine Ctr.ex Ext.here rd_open ?_
 intro x hx
 refine Ctr.imp star_open ?_
 have hln := hx.len
 have hcnt := hx.ok.count
 have hcl := rd_close (d := d) (G := Fr) x hx
 dsimp only [RO, List.cons_append, List.nil_append] at hcl ⊢
 refine Ctr.of_body func207 J ntmps207 J (cZ (aZ (gZ J (gZ J (fZ (bZ (cZ (cZ ?_))))))))
 rcases (show ¬(0 ≤ sector ∧ sector ≤ s.count - 1) ∨ ((0 ≤ sector ∧ sector ≤ s.count - 1) ∧ ¬(0 ≤ major ∧ major ≤ 281474976710656)) ∨ ((0 ≤ sector ∧ sector ≤ s.count - 1) ∧ (0 ≤ major ∧ major ≤ 281474976710656) ∧ write = true ∧ dm ≠ 64) ∨ ((0 ≤ sector ∧ sector ≤ s.count - 1) ∧ (0 ≤ major ∧ major ≤ 281474976710656) ∧ write = false ∧ 4 ≤ s.asks.length) ∨ ((0 ≤ sector ∧ sector ≤ s.count - 1) ∧ (0 ≤ major ∧ major ≤ 281474976710656) ∧ (write = true ∧ dm = 64) ∧ 4 ≤ s.asks.length) by unfold subE at he; cases write <;> (simp only [true_and, false_and, if_false, reduceCtorEq] at he ⊢; (repeat' split at he) <;> first | omega | exact absurd J he)) with hh | hh | ⟨hh1, hh2, rfl, hh⟩ | ⟨hh1, hh2, rfl, hh⟩ | ⟨hh1, hh2, ⟨rfl, hh3⟩, hh⟩
 ·refine aZ (eZ J (eZ J (zZ J (pZ fa267_2 J (dZ (iZ ti3 J) ?_)))))
  refine dZ (yX J J wO) (oZ call150 J (Imp.refl _) (rwithin_spec W0 _ sector 0 (s.count - 1)) J ?_)
  rintro ⟨⟩ -
  first | rw [decide_eq_true (p := 0 ≤ sector ∧ sector ≤ s.count - 1) (by omega)] | rw [decide_eq_false (p := 0 ≤ sector ∧ sector ≤ s.count - 1) (by omega)]
  refine dZ (iQ J) (eZ J (gQ J J J J J (gQ J J J J J (gQ J J J J J (dZ mZ ?_)))))
  exact fZ (bZ (fQ J (cZ (aZ (gZ J (gZ J (fZ (bZ (rZ (qZ (oX J J J () trivial (by unfold subE; rw [if_pos hh]) (Imp.trans iM hcl))))))))))))
 ·refine aZ (eZ J (eZ J (zZ J (pZ fa267_2 J (dZ (iZ ti3 J) ?_)))))
  refine dZ (yX J J wO) (oZ call150 J (Imp.refl _) (rwithin_spec W0 _ sector 0 (s.count - 1)) J ?_)
  rintro ⟨⟩ -
  first | rw [decide_eq_true (p := 0 ≤ sector ∧ sector ≤ s.count - 1) (by omega)] | rw [decide_eq_false (p := 0 ≤ sector ∧ sector ≤ s.count - 1) (by omega)]
  refine dZ (iQ J) (eZ J (kZ J J (eZ J (kZ J J (oZ call150 J (Imp.refl _) (rwithin_spec W0 _ major 0 281474976710656) J ?_)))))
  rintro ⟨⟩ -
  first | rw [decide_eq_true (p := 0 ≤ major ∧ major ≤ 281474976710656) (by omega)] | rw [decide_eq_false (p := 0 ≤ major ∧ major ≤ 281474976710656) (by omega)]
  refine kZ J J (dZ (iQ J) (dZ mZ ?_))
  exact fZ (bZ (fQ J (cZ (aZ (gZ J (gZ J (fZ (bZ (rZ (qZ (oX J J J () trivial (by unfold subE; rw [if_neg (not_not_intro hh.1), if_pos hh.2]) (Imp.trans iM hcl))))))))))))
 ·refine aZ (eZ J (eZ J (zZ J (pZ fa267_2 J (dZ (iZ ti3 J) ?_)))))
  refine dZ (yX J J wO) (oZ call150 J (Imp.refl _) (rwithin_spec W0 _ sector 0 (s.count - 1)) J ?_)
  rintro ⟨⟩ -
  first | rw [decide_eq_true (p := 0 ≤ sector ∧ sector ≤ s.count - 1) (by omega)] | rw [decide_eq_false (p := 0 ≤ sector ∧ sector ≤ s.count - 1) (by omega)]
  refine dZ (iQ J) (eZ J (kZ J J (eZ J (kZ J J (oZ call150 J (Imp.refl _) (rwithin_spec W0 _ major 0 281474976710656) J ?_)))))
  rintro ⟨⟩ -
  first | rw [decide_eq_true (p := 0 ≤ major ∧ major ≤ 281474976710656) (by omega)] | rw [decide_eq_false (p := 0 ≤ major ∧ major ≤ 281474976710656) (by omega)]
  refine kZ J J (dZ (iQ J) (dZ mZ ?_))
  refine fZ (bZ (vZ J (uZ (bZ (cZ (cZ (aZ (eZ J (eZ J (kZ J J (eZ J (kZ J J (dZ (sZ underlying32 J J) (kZ J J (dZ vQ ?_)))))))))))))))
  refine dZ mZ ?_
  exact fZ (bZ (fQ J (cZ (aZ (gZ J (gZ J (fZ (bZ (rZ (qZ (oX J J J () trivial (by unfold subE; rw [if_neg (not_not_intro hh1), if_neg (not_not_intro hh2), if_pos ⟨rfl, hh⟩]) (Imp.trans iM hcl))))))))))))
 ·refine aZ (eZ J (eZ J (zZ J (pZ fa267_2 J (dZ (iZ ti3 J) ?_)))))
  refine dZ (yX J J wO) (oZ call150 J (Imp.refl _) (rwithin_spec W0 _ sector 0 (s.count - 1)) J ?_)
  rintro ⟨⟩ -
  first | rw [decide_eq_true (p := 0 ≤ sector ∧ sector ≤ s.count - 1) (by omega)] | rw [decide_eq_false (p := 0 ≤ sector ∧ sector ≤ s.count - 1) (by omega)]
  refine dZ (iQ J) (eZ J (kZ J J (eZ J (kZ J J (oZ call150 J (Imp.refl _) (rwithin_spec W0 _ major 0 281474976710656) J ?_)))))
  rintro ⟨⟩ -
  first | rw [decide_eq_true (p := 0 ≤ major ∧ major ≤ 281474976710656) (by omega)] | rw [decide_eq_false (p := 0 ≤ major ∧ major ≤ 281474976710656) (by omega)]
  refine kZ J J (dZ (iQ J) (dZ mZ ?_))
  refine fZ (bZ (vZ J (uZ (bZ (cZ (cZ (aZ (eZ J (eZ J (gQ J J J J J (gQ J J J J J (gQ J J J J J (dZ mZ ?_)))))))))))))
  refine fZ (bZ (vZ J (uZ (bZ (cZ (cZ (aZ (eZ J (zZ J (pZ fa267_4 J (dZ (iZ ti265 J) ?_)))))))))))
  refine dZ (sZ underlying265 J J) (dZ cX ?_)
  exact fZ (bZ (fQ J (cZ (aZ (gZ J (gZ J (fZ (bZ (rZ (qZ (oX J J J () trivial (by unfold subE; rw [if_neg (not_not_intro hh1), if_neg (not_not_intro hh2), if_neg (by simp), if_pos hh]) (Imp.trans iM hcl))))))))))))
 ·refine aZ (eZ J (eZ J (zZ J (pZ fa267_2 J (dZ (iZ ti3 J) ?_)))))
  refine dZ (yX J J wO) (oZ call150 J (Imp.refl _) (rwithin_spec W0 _ sector 0 (s.count - 1)) J ?_)
  rintro ⟨⟩ -
  first | rw [decide_eq_true (p := 0 ≤ sector ∧ sector ≤ s.count - 1) (by omega)] | rw [decide_eq_false (p := 0 ≤ sector ∧ sector ≤ s.count - 1) (by omega)]
  refine dZ (iQ J) (eZ J (kZ J J (eZ J (kZ J J (oZ call150 J (Imp.refl _) (rwithin_spec W0 _ major 0 281474976710656) J ?_)))))
  rintro ⟨⟩ -
  first | rw [decide_eq_true (p := 0 ≤ major ∧ major ≤ 281474976710656) (by omega)] | rw [decide_eq_false (p := 0 ≤ major ∧ major ≤ 281474976710656) (by omega)]
  refine kZ J J (dZ (iQ J) (dZ mZ ?_))
  refine fZ (bZ (vZ J (uZ (bZ (cZ (cZ (aZ (eZ J (eZ J (kZ J J (eZ J (kZ J J (dZ (sZ underlying32 J J) (kZ J J (dZ vQ ?_)))))))))))))))
  refine dZ mZ ?_
  refine fZ (bZ (vZ J (uZ (bZ (cZ (cZ (aZ (eZ J (zZ J (pZ fa267_4 J (dZ (iZ ti265 J) ?_)))))))))))
  refine dZ (sZ underlying265 J J) (dZ cX ?_)
  exact fZ (bZ (fQ J (cZ (aZ (gZ J (gZ J (fZ (bZ (rZ (qZ (oX J J J () trivial (by unfold subE; rw [if_neg (not_not_intro hh1), if_neg (not_not_intro hh2), if_neg (by simp [hh3]), if_pos hh]) (Imp.trans iM hcl))))))))))))
theorem sub_parts {s : Ds} {write : Bool} {sector major : Int} {len : Nat} (he : subE s write sector len major = 0) : (0 ≤ sector ∧ sector ≤ s.count - 1) ∧ (0 ≤ major ∧ major ≤ 281474976710656) ∧ (write = true → len = 64) ∧ s.asks.length < 4 := by
 unfold subE at he
 cases write <;> (simp only [true_and, false_and, if_false, reduceCtorEq] at he; (repeat' split at he) <;> first | omega | (refine ⟨by omega, by omega, ?_, by omega⟩; intro _; first | omega | contradiction))
set_option maxHeartbeats 2000000 in
theorem rsubmit_ok {d dc : Nat} {s : Ds} {write : Bool} {sector addr major : Int} {da : Option Addr} {data : B} (hr : RdB W0 Fr da dc data) (hdl : data.length ≤ 2 ^ 47) (he : subE s write sector data.length major = 0) :
 Ctr prog W0 207 [.pointer (some ⟨d, 0, none⟩), .bool write, .int .i64 sector, .int .u32 addr, .slice da data.length dc, .int .i64 major] (Dd d s :: Fr) (fun _ : Unit => True) (fun _ => .tuple #[.int .u32 (w32 (s.last + 1)), .int .i64 0]) (fun _ => Dd d (subR s write sector addr data major) :: Fr) := by
 refine Ctr.ex Ext.here rd_open ?_
 intro x hx
 refine Ctr.imp star_open ?_
 have hln := hx.len
 have hok := hx.ok
 have hcnt := hx.ok.count
 have hlat := hx.ok.lat
 obtain ⟨h1, h2, h3, h4⟩ := sub_parts he
 have hclose : ∀ (m : Msg) (a' : Option Addr) (c' : Nat), m.b = (if write then data else []) → Imp (RO d (subR s write sector addr data major) ⟨x.ras ++ [⟨w32 (s.last + 1), write, sector, addr, m, major, false, false⟩], x.pl ++ [m], a', c', x.ta, x.tc⟩ ++ Fr) (Dd d (subR s write sector addr data major) :: Fr) := by
  intro m a' c' hm
  refine rd_close _ ⟨?_, ?_, ⟨hok.part, hok.first, hok.count, hok.lat, ?_, hok.told, ?_, ?_⟩⟩
  ·dsimp only [subR]; rw [List.map_append, hx.abs]; simp [RA.abs, hm]
  ·intro a ha
   rcases List.mem_append.1 ha with ha | ha
   ·exact ⟨List.mem_append.2 (.inl (hx.all a ha).mem), (hx.all a ha).com, (hx.all a ha).maj⟩
   ·simp only [List.mem_cons, List.not_mem_nil, or_false] at ha; subst ha; exact ⟨by simp, fun h => absurd (show false = true from h) (by decide), h2⟩
  ·dsimp only [subR]; rw [List.length_append]; simp only [List.length_cons, List.length_nil]; omega
  ·intro a ha
   rcases List.mem_append.1 ha with ha | ha
   ·exact hok.data a ha
   ·simp only [List.mem_cons, List.not_mem_nil, or_false] at ha; subst ha
    dsimp only
    split
    ·rename_i hw; rw [h3 hw]; exact Nat.le_refl _
    ·simp
  ·intro a ha
   rcases List.mem_append.1 ha with ha | ha
   ·exact hok.sec a ha
   ·simp only [List.mem_cons, List.not_mem_nil, or_false] at ha; subst ha; dsimp only [subR]; omega
 dsimp only [RO, subR, oras, List.cons_append, List.nil_append] at hclose ⊢
 refine Ctr.of_body func207 J ntmps207 J (cZ (aZ (gZ J (gZ J (fZ (bZ (cZ (cZ ?_))))))))
 cases write
 ·refine aZ (eZ J (eZ J (zZ J (pZ fa267_2 J (dZ (iZ ti3 J) ?_)))))
  refine dZ (yX J J wO) (oZ call150 J (Imp.refl _) (rwithin_spec W0 _ sector 0 (s.count - 1)) J ?_)
  rintro ⟨⟩ -
  rw [decide_eq_true (p := 0 ≤ sector ∧ sector ≤ s.count - 1) (by omega)]
  refine dZ (iQ J) (eZ J (kZ J J (eZ J (kZ J J (oZ call150 J (Imp.refl _) (rwithin_spec W0 _ major 0 281474976710656) J ?_)))))
  rintro ⟨⟩ -
  rw [decide_eq_true (p := 0 ≤ major ∧ major ≤ 281474976710656) (by omega)]
  refine kZ J J (dZ (iQ J) (dZ mZ ?_))
  refine fZ (bZ (vZ J (uZ (bZ (cZ (cZ (aZ (eZ J (eZ J (gQ J J J J J (gQ J J J J J (gQ J J J J J (dZ mZ ?_)))))))))))))
  refine fZ (bZ (vZ J (uZ (bZ (cZ (cZ (aZ (eZ J (zZ J (pZ fa267_4 J (dZ (iZ ti265 J) ?_)))))))))))
  refine dZ (sZ underlying265 J J) (dZ cX ?_)
  refine fZ (bZ (vZ J (uZ (bZ (cZ (aZ (eZ J (zZ J (pZ fa267_5 J (dZ (iZ ti27 J) ?_))))))))))
  refine dZ (hQ J J J) (zZ J (pZ fa267_5 J (sQ (uQ ti27 J J fC J (by first | (simp; done) | decide)) J ?_)))
  rintro ⟨⟩ -
  refine fZ (bZ (cZ (aZ (eZ J (zZ J (pZ fa267_5 J (dZ (iZ ti27 J) ?_)))))))
  refine eZ J (eZ J (eZ J (eZ J (dZ (aX (pvs := [(0, .int .u32 (w32 (s.last + 1))), (1, .bool false), (2, .int .i64 sector), (3, .int .u32 addr), (5, .int .i64 major)]) bu274 ti274 J (cells := RA.cells ⟨w32 (s.last + 1), false, sector, addr, Msg.nil, major, false, false⟩) J) (kQ (pX ti274) J ?_)))))
  rintro b14 -
  refine sQ (xQ ti274 J J fC (RA.len _) (RA.ones _) J) J ?_
  rintro ⟨⟩ -
  refine fZ (bZ (cZ (cZ (aZ (eZ J (fZ (bZ (vZ J (uZ (bZ (rX (Imp.trans own_nil (Imp.trans (Imp.pull (A := blk b14 (RA.cells ⟨w32 (s.last + 1), false, sector, addr, Msg.nil, major, false, false⟩) 274) eX (Imp.pull (A := Msg.nil.own) eX iM)) (Imp.refl _))) ?_)))))))))))
  have hmn : Msg.nil.b = (if false = true then data else []) := rfl
  generalize Msg.nil = m at hmn ⊢
  refine cZ (qQ (.lo 0 0 (.lo 2 0 (.lo 3 0 (.lo 4 0 (.lo 5 2 (.lo 7 0 (.eff2 1 false (.eff2 6 false (.eff1 8 false (.eff1 9 false (.lo 10 1 (.lo 11 1 (.eff1 12 true (.done)))))) 8 false (.eff1 6 false (.eff1 9 false (.lo 10 1 (.lo 11 1 (.eff1 12 true (.done))))))) 8 false (.eff1 1 false (.eff1 6 false (.eff1 9 false (.lo 10 1 (.lo 11 1 (.eff1 12 true (.done)))))))))))))) [1, 6, 8, 9, 12] [5] ([blk b14 (RA.cells ⟨w32 (s.last + 1), false, sector, addr, m, major, false, false⟩) 274]) ([RH d s (w32 (s.last + 1)) x.a x.ras.length x.c x.ta s.told.length x.tc]) mixed (by kernel_rfl) (iM) (iM) ?_)
  refine nZ J J (nZ J J (dQ J J (wZ J fa267_4 J (hZ J (jZ (v := .slice x.a x.ras.length x.c) ti265 J (Cel.of_blk (b := d) eX J)) ?_))))
  refine hZ J (zQ (vs := RA.cells ⟨w32 (s.last + 1), false, sector, addr, m, major, false, false⟩) ti274 J (RA.len _) (Row.of_blk (b := b14) eX J)) ?_
  refine DG.eff2 ?_ ?_
  ·refine wQ J J (sX underlying265 ti274 J) J (fun _ => iM) (fun _ => Imp.refl _) (fun _ => iM) ?_
   rintro b62 -
   refine DG.eff2 ?_ ?_
   ·refine wQ J J (fX (a := some ⟨b62, 0, none⟩) (c := 0) (m := 0) (xs := []) (a2 := x.a) (c2 := x.c) (k := x.ras.length) (ys := (x.ras.map RA.cells).flatten) J J J underlying265 underlying265 ti274 J (by decide) fC (SlR.of_osl (E := 274) eX) (flat_ones RA.ones _) (by omega)) J (fun _ => iM) (fun _ => Imp.refl _) (fun _ => iM) ?_
    rintro ⟨a67, c67⟩ -
    rw [Nat.zero_add x.ras.length, List.nil_append]
    refine aQ (wQ J J (aV [.tmp 68] (vs := [.agg (RA.cells ⟨w32 (s.last + 1), false, sector, addr, m, major, false, false⟩).toArray]) (cells := RA.cells ⟨w32 (s.last + 1), false, sector, addr, m, major, false, false⟩) underlying265 ti274 J J J J (by decide) (by simp [Value.cells, RA.cells]) (by simp [Value.cells])) J (fun _ => iM) (fun _ => Imp.refl _) (fun _ => iM) ?_)
    rintro b69 -
    refine aQ (wQ J J (fX (a := a67) (c := c67) (m := x.ras.length) (xs := (x.ras.map RA.cells).flatten) (k := 1) (ys := RA.cells ⟨w32 (s.last + 1), false, sector, addr, m, major, false, false⟩) J J J underlying265 underlying265 ti274 J (by decide) fC (SlR.of_osl (a := some ⟨b69, 0, none⟩) eX) (RA.ones _) (by omega)) J (fun _ => iM) (fun _ => Imp.refl _) (fun _ => iM) ?_)
    rintro ⟨a70, c70⟩ -
    refine dQ J J (wZ J fa267_4 J (aQ (wQ J J (uQ ti265 J J fC J (by simp)) J (fun _ => iM) (fun _ => Imp.refl _) (fun _ => iM) ?_)))
    rintro ⟨⟩ -
    refine pQ (bZ (cZ (aZ (eZ J (zZ J (pZ fa267_5 J (dZ (iZ ti27 J) ?_)))))))
    refine gZ J (gZ J (fZ (bZ (rZ (oX J J J () trivial J (Imp.trans ?_ (hclose m a70 c70 hmn)))))))
    rw [List.length_append, flat_app]
    exact Imp.trans (Imp.trans (Imp.pull (A := m.own) eX (Imp.pull (A := pool x.pl) eX (Imp.refl _))) pool_add) iM
   ·refine wQ J J (aV [.tmp 68] (vs := [.agg (RA.cells ⟨w32 (s.last + 1), false, sector, addr, m, major, false, false⟩).toArray]) (cells := RA.cells ⟨w32 (s.last + 1), false, sector, addr, m, major, false, false⟩) underlying265 ti274 J J J J (by decide) (by simp [Value.cells, RA.cells]) (by simp [Value.cells])) J (fun _ => iM) (fun _ => Imp.refl _) (fun _ => iM) ?_
    rintro b69 -
    refine aQ (wQ J J (fX (a := some ⟨b62, 0, none⟩) (c := 0) (m := 0) (xs := []) (a2 := x.a) (c2 := x.c) (k := x.ras.length) (ys := (x.ras.map RA.cells).flatten) J J J underlying265 underlying265 ti274 J (by decide) fC (SlR.of_osl (E := 274) eX) (flat_ones RA.ones _) (by omega)) J (fun _ => iM) (fun _ => Imp.refl _) (fun _ => iM) ?_)
    rintro ⟨a67, c67⟩ -
    rw [Nat.zero_add x.ras.length, List.nil_append]
    refine aQ (wQ J J (fX (a := a67) (c := c67) (m := x.ras.length) (xs := (x.ras.map RA.cells).flatten) (k := 1) (ys := RA.cells ⟨w32 (s.last + 1), false, sector, addr, m, major, false, false⟩) J J J underlying265 underlying265 ti274 J (by decide) fC (SlR.of_osl (a := some ⟨b69, 0, none⟩) eX) (RA.ones _) (by omega)) J (fun _ => iM) (fun _ => Imp.refl _) (fun _ => iM) ?_)
    rintro ⟨a70, c70⟩ -
    refine dQ J J (wZ J fa267_4 J (aQ (wQ J J (uQ ti265 J J fC J (by simp)) J (fun _ => iM) (fun _ => Imp.refl _) (fun _ => iM) ?_)))
    rintro ⟨⟩ -
    refine pQ (bZ (cZ (aZ (eZ J (zZ J (pZ fa267_5 J (dZ (iZ ti27 J) ?_)))))))
    refine gZ J (gZ J (fZ (bZ (rZ (oX J J J () trivial J (Imp.trans ?_ (hclose m a70 c70 hmn)))))))
    rw [List.length_append, flat_app]
    exact Imp.trans (Imp.trans (Imp.pull (A := m.own) eX (Imp.pull (A := pool x.pl) eX (Imp.refl _))) pool_add) iM
  ·refine wQ J J (aV [.tmp 68] (vs := [.agg (RA.cells ⟨w32 (s.last + 1), false, sector, addr, m, major, false, false⟩).toArray]) (cells := RA.cells ⟨w32 (s.last + 1), false, sector, addr, m, major, false, false⟩) underlying265 ti274 J J J J (by decide) (by simp [Value.cells, RA.cells]) (by simp [Value.cells])) J (fun _ => iM) (fun _ => Imp.refl _) (fun _ => iM) ?_
   rintro b69 -
   refine aQ (wQ J J (sX underlying265 ti274 J) J (fun _ => iM) (fun _ => Imp.refl _) (fun _ => iM) ?_)
   rintro b62 -
   refine aQ (wQ J J (fX (a := some ⟨b62, 0, none⟩) (c := 0) (m := 0) (xs := []) (a2 := x.a) (c2 := x.c) (k := x.ras.length) (ys := (x.ras.map RA.cells).flatten) J J J underlying265 underlying265 ti274 J (by decide) fC (SlR.of_osl (E := 274) eX) (flat_ones RA.ones _) (by omega)) J (fun _ => iM) (fun _ => Imp.refl _) (fun _ => iM) ?_)
   rintro ⟨a67, c67⟩ -
   rw [Nat.zero_add x.ras.length, List.nil_append]
   refine aQ (wQ J J (fX (a := a67) (c := c67) (m := x.ras.length) (xs := (x.ras.map RA.cells).flatten) (k := 1) (ys := RA.cells ⟨w32 (s.last + 1), false, sector, addr, m, major, false, false⟩) J J J underlying265 underlying265 ti274 J (by decide) fC (SlR.of_osl (a := some ⟨b69, 0, none⟩) eX) (RA.ones _) (by omega)) J (fun _ => iM) (fun _ => Imp.refl _) (fun _ => iM) ?_)
   rintro ⟨a70, c70⟩ -
   refine dQ J J (wZ J fa267_4 J (aQ (wQ J J (uQ ti265 J J fC J (by simp)) J (fun _ => iM) (fun _ => Imp.refl _) (fun _ => iM) ?_)))
   rintro ⟨⟩ -
   refine pQ (bZ (cZ (aZ (eZ J (zZ J (pZ fa267_5 J (dZ (iZ ti27 J) ?_)))))))
   refine gZ J (gZ J (fZ (bZ (rZ (oX J J J () trivial J (Imp.trans ?_ (hclose m a70 c70 hmn)))))))
   rw [List.length_append, flat_app]
   exact Imp.trans (Imp.trans (Imp.pull (A := m.own) eX (Imp.pull (A := pool x.pl) eX (Imp.refl _))) pool_add) iM
 ·refine aZ (eZ J (eZ J (zZ J (pZ fa267_2 J (dZ (iZ ti3 J) ?_)))))
  refine dZ (yX J J wO) (oZ call150 J (Imp.refl _) (rwithin_spec W0 _ sector 0 (s.count - 1)) J ?_)
  rintro ⟨⟩ -
  rw [decide_eq_true (p := 0 ≤ sector ∧ sector ≤ s.count - 1) (by omega)]
  refine dZ (iQ J) (eZ J (kZ J J (eZ J (kZ J J (oZ call150 J (Imp.refl _) (rwithin_spec W0 _ major 0 281474976710656) J ?_)))))
  rintro ⟨⟩ -
  rw [decide_eq_true (p := 0 ≤ major ∧ major ≤ 281474976710656) (by omega)]
  refine kZ J J (dZ (iQ J) (dZ mZ ?_))
  refine fZ (bZ (vZ J (uZ (bZ (cZ (cZ (aZ (eZ J (eZ J (kZ J J (eZ J (kZ J J (dZ (sZ underlying32 J J) (kZ J J (dZ (oQ (nX J J) (bF (by have := h3 rfl; omega))) ?_)))))))))))))))
  refine dZ mZ ?_
  refine fZ (bZ (vZ J (uZ (bZ (cZ (cZ (aZ (eZ J (zZ J (pZ fa267_4 J (dZ (iZ ti265 J) ?_)))))))))))
  refine dZ (sZ underlying265 J J) (dZ cX ?_)
  refine fZ (bZ (vZ J (uZ (bZ (cZ (aZ (eZ J (zZ J (pZ fa267_5 J (dZ (iZ ti27 J) ?_))))))))))
  refine dZ (hQ J J J) (zZ J (pZ fa267_5 J (sQ (uQ ti27 J J fC J (by first | (simp; done) | decide)) J ?_)))
  rintro ⟨⟩ -
  refine fZ (bZ (cZ (aZ (eZ J (zZ J (pZ fa267_5 J (dZ (iZ ti27 J) ?_)))))))
  refine eZ J (eZ J (eZ J (eZ J (dZ (aX (pvs := [(0, .int .u32 (w32 (s.last + 1))), (1, .bool true), (2, .int .i64 sector), (3, .int .u32 addr), (5, .int .i64 major)]) bu274 ti274 J (cells := RA.cells ⟨w32 (s.last + 1), true, sector, addr, Msg.nil, major, false, false⟩) J) (kQ (pX ti274) J ?_)))))
  rintro b14 -
  refine sQ (xQ ti274 J J fC (RA.len _) (RA.ones _) J) J ?_
  rintro ⟨⟩ -
  refine fZ (bZ (cZ (cZ (aZ (eZ J (fZ (bZ (fQ J (aZ (kQ (sX underlying32 ti5 J) J ?_))))))))))
  rintro b57 -
  refine eZ J (kQ (eV (a := some ⟨b57, 0, none⟩) (c := 0) (bs := []) (ys := data) J J J underlying32 underlying32 ti5 (by decide) fC (hr.imp iM).slR (by have := h3 rfl; simp only [List.length_nil]; omega)) J ?_)
  rintro ⟨am, cm⟩ -
  rw [List.nil_append]
  refine pZ fa274_4 J (sQ (uQ ti32 J J fC J (by rw [RA.len]; decide)) J ?_)
  rintro ⟨⟩ -
  refine fZ (bZ (rX (G' := blk b14 (RA.cells ⟨w32 (s.last + 1), true, sector, addr, ⟨am, cm, data⟩, major, false, false⟩) 274 :: Msg.own ⟨am, cm, data⟩ :: RH d s (w32 (s.last + 1)) x.a x.ras.length x.c x.ta s.told.length x.tc :: osl 274 8 x.a x.c x.ras.length ((x.ras.map RA.cells).flatten) :: onum 27 .u32 x.ta x.tc s.told :: pool x.pl :: Fr) iM ?_))
  have hmn : Msg.b ⟨am, cm, data⟩ = (if true = true then data else []) := rfl
  generalize (⟨am, cm, data⟩ : Msg) = m at hmn ⊢
  refine cZ (qQ (.lo 0 0 (.lo 2 0 (.lo 3 0 (.lo 4 0 (.lo 5 2 (.lo 7 0 (.eff2 1 false (.eff2 6 false (.eff1 8 false (.eff1 9 false (.lo 10 1 (.lo 11 1 (.eff1 12 true (.done)))))) 8 false (.eff1 6 false (.eff1 9 false (.lo 10 1 (.lo 11 1 (.eff1 12 true (.done))))))) 8 false (.eff1 1 false (.eff1 6 false (.eff1 9 false (.lo 10 1 (.lo 11 1 (.eff1 12 true (.done)))))))))))))) [1, 6, 8, 9, 12] [5] ([blk b14 (RA.cells ⟨w32 (s.last + 1), true, sector, addr, m, major, false, false⟩) 274]) ([RH d s (w32 (s.last + 1)) x.a x.ras.length x.c x.ta s.told.length x.tc]) mixed (by kernel_rfl) (iM) (iM) ?_)
  refine nZ J J (nZ J J (dQ J J (wZ J fa267_4 J (hZ J (jZ (v := .slice x.a x.ras.length x.c) ti265 J (Cel.of_blk (b := d) eX J)) ?_))))
  refine hZ J (zQ (vs := RA.cells ⟨w32 (s.last + 1), true, sector, addr, m, major, false, false⟩) ti274 J (RA.len _) (Row.of_blk (b := b14) eX J)) ?_
  refine DG.eff2 ?_ ?_
  ·refine wQ J J (sX underlying265 ti274 J) J (fun _ => iM) (fun _ => Imp.refl _) (fun _ => iM) ?_
   rintro b62 -
   refine DG.eff2 ?_ ?_
   ·refine wQ J J (fX (a := some ⟨b62, 0, none⟩) (c := 0) (m := 0) (xs := []) (a2 := x.a) (c2 := x.c) (k := x.ras.length) (ys := (x.ras.map RA.cells).flatten) J J J underlying265 underlying265 ti274 J (by decide) fC (SlR.of_osl (E := 274) eX) (flat_ones RA.ones _) (by omega)) J (fun _ => iM) (fun _ => Imp.refl _) (fun _ => iM) ?_
    rintro ⟨a67, c67⟩ -
    rw [Nat.zero_add x.ras.length, List.nil_append]
    refine aQ (wQ J J (aV [.tmp 68] (vs := [.agg (RA.cells ⟨w32 (s.last + 1), true, sector, addr, m, major, false, false⟩).toArray]) (cells := RA.cells ⟨w32 (s.last + 1), true, sector, addr, m, major, false, false⟩) underlying265 ti274 J J J J (by decide) (by simp [Value.cells, RA.cells]) (by simp [Value.cells])) J (fun _ => iM) (fun _ => Imp.refl _) (fun _ => iM) ?_)
    rintro b69 -
    refine aQ (wQ J J (fX (a := a67) (c := c67) (m := x.ras.length) (xs := (x.ras.map RA.cells).flatten) (k := 1) (ys := RA.cells ⟨w32 (s.last + 1), true, sector, addr, m, major, false, false⟩) J J J underlying265 underlying265 ti274 J (by decide) fC (SlR.of_osl (a := some ⟨b69, 0, none⟩) eX) (RA.ones _) (by omega)) J (fun _ => iM) (fun _ => Imp.refl _) (fun _ => iM) ?_)
    rintro ⟨a70, c70⟩ -
    refine dQ J J (wZ J fa267_4 J (aQ (wQ J J (uQ ti265 J J fC J (by simp)) J (fun _ => iM) (fun _ => Imp.refl _) (fun _ => iM) ?_)))
    rintro ⟨⟩ -
    refine pQ (bZ (cZ (aZ (eZ J (zZ J (pZ fa267_5 J (dZ (iZ ti27 J) ?_)))))))
    refine gZ J (gZ J (fZ (bZ (rZ (oX J J J () trivial J (Imp.trans ?_ (hclose m a70 c70 hmn)))))))
    rw [List.length_append, flat_app]
    exact Imp.trans (Imp.trans (Imp.pull (A := m.own) eX (Imp.pull (A := pool x.pl) eX (Imp.refl _))) pool_add) iM
   ·refine wQ J J (aV [.tmp 68] (vs := [.agg (RA.cells ⟨w32 (s.last + 1), true, sector, addr, m, major, false, false⟩).toArray]) (cells := RA.cells ⟨w32 (s.last + 1), true, sector, addr, m, major, false, false⟩) underlying265 ti274 J J J J (by decide) (by simp [Value.cells, RA.cells]) (by simp [Value.cells])) J (fun _ => iM) (fun _ => Imp.refl _) (fun _ => iM) ?_
    rintro b69 -
    refine aQ (wQ J J (fX (a := some ⟨b62, 0, none⟩) (c := 0) (m := 0) (xs := []) (a2 := x.a) (c2 := x.c) (k := x.ras.length) (ys := (x.ras.map RA.cells).flatten) J J J underlying265 underlying265 ti274 J (by decide) fC (SlR.of_osl (E := 274) eX) (flat_ones RA.ones _) (by omega)) J (fun _ => iM) (fun _ => Imp.refl _) (fun _ => iM) ?_)
    rintro ⟨a67, c67⟩ -
    rw [Nat.zero_add x.ras.length, List.nil_append]
    refine aQ (wQ J J (fX (a := a67) (c := c67) (m := x.ras.length) (xs := (x.ras.map RA.cells).flatten) (k := 1) (ys := RA.cells ⟨w32 (s.last + 1), true, sector, addr, m, major, false, false⟩) J J J underlying265 underlying265 ti274 J (by decide) fC (SlR.of_osl (a := some ⟨b69, 0, none⟩) eX) (RA.ones _) (by omega)) J (fun _ => iM) (fun _ => Imp.refl _) (fun _ => iM) ?_)
    rintro ⟨a70, c70⟩ -
    refine dQ J J (wZ J fa267_4 J (aQ (wQ J J (uQ ti265 J J fC J (by simp)) J (fun _ => iM) (fun _ => Imp.refl _) (fun _ => iM) ?_)))
    rintro ⟨⟩ -
    refine pQ (bZ (cZ (aZ (eZ J (zZ J (pZ fa267_5 J (dZ (iZ ti27 J) ?_)))))))
    refine gZ J (gZ J (fZ (bZ (rZ (oX J J J () trivial J (Imp.trans ?_ (hclose m a70 c70 hmn)))))))
    rw [List.length_append, flat_app]
    exact Imp.trans (Imp.trans (Imp.pull (A := m.own) eX (Imp.pull (A := pool x.pl) eX (Imp.refl _))) pool_add) iM
  ·refine wQ J J (aV [.tmp 68] (vs := [.agg (RA.cells ⟨w32 (s.last + 1), true, sector, addr, m, major, false, false⟩).toArray]) (cells := RA.cells ⟨w32 (s.last + 1), true, sector, addr, m, major, false, false⟩) underlying265 ti274 J J J J (by decide) (by simp [Value.cells, RA.cells]) (by simp [Value.cells])) J (fun _ => iM) (fun _ => Imp.refl _) (fun _ => iM) ?_
   rintro b69 -
   refine aQ (wQ J J (sX underlying265 ti274 J) J (fun _ => iM) (fun _ => Imp.refl _) (fun _ => iM) ?_)
   rintro b62 -
   refine aQ (wQ J J (fX (a := some ⟨b62, 0, none⟩) (c := 0) (m := 0) (xs := []) (a2 := x.a) (c2 := x.c) (k := x.ras.length) (ys := (x.ras.map RA.cells).flatten) J J J underlying265 underlying265 ti274 J (by decide) fC (SlR.of_osl (E := 274) eX) (flat_ones RA.ones _) (by omega)) J (fun _ => iM) (fun _ => Imp.refl _) (fun _ => iM) ?_)
   rintro ⟨a67, c67⟩ -
   rw [Nat.zero_add x.ras.length, List.nil_append]
   refine aQ (wQ J J (fX (a := a67) (c := c67) (m := x.ras.length) (xs := (x.ras.map RA.cells).flatten) (k := 1) (ys := RA.cells ⟨w32 (s.last + 1), true, sector, addr, m, major, false, false⟩) J J J underlying265 underlying265 ti274 J (by decide) fC (SlR.of_osl (a := some ⟨b69, 0, none⟩) eX) (RA.ones _) (by omega)) J (fun _ => iM) (fun _ => Imp.refl _) (fun _ => iM) ?_)
   rintro ⟨a70, c70⟩ -
   refine dQ J J (wZ J fa267_4 J (aQ (wQ J J (uQ ti265 J J fC J (by simp)) J (fun _ => iM) (fun _ => Imp.refl _) (fun _ => iM) ?_)))
   rintro ⟨⟩ -
   refine pQ (bZ (cZ (aZ (eZ J (zZ J (pZ fa267_5 J (dZ (iZ ti27 J) ?_)))))))
   refine gZ J (gZ J (fZ (bZ (rZ (oX J J J () trivial J (Imp.trans ?_ (hclose m a70 c70 hmn)))))))
   rw [List.length_append, flat_app]
   exact Imp.trans (Imp.trans (Imp.pull (A := m.own) eX (Imp.pull (A := pool x.pl) eX (Imp.refl _))) pool_add) iM
end
structure Jt where
 i : Nat
 ras : List RA
 out : Rqs
structure Jt.OK (s : Ds) (pl : List Msg) (t : Jt) : Prop where
 le : t.i ≤ s.asks.length
 abs : t.ras.map (RA.abs s.latency) = (s.asks.take t.i).map iss ++ s.asks.drop t.i
 all : ∀ a ∈ t.ras, RAs.OK s pl a
 out : t.out.l.map CR.abs = ((s.asks.take t.i).filter fun a => a.st == 0).map (req s)
 outl : t.out.l.length ≤ t.i
theorem take_snoc {α : Type} {l : List α} {i : Nat} {x : α} (h : l[i]? = some x) : l.take (i + 1) = l.take i ++ [x] := by
 obtain ⟨hlt, rfl⟩ := List.getElem?_eq_some_iff.1 h
 exact List.take_succ_eq_append_getElem hlt
section
variable (W0 : World) (Fr : List HProp)
set_option maxHeartbeats 2000000 in
theorem rissue_spec {d : Nat} {s : Ds} : Ctr prog W0 112 [.pointer (some ⟨d, 0, none⟩)] (Dd d s :: Fr) (fun r : Rqs => r.l.map CR.abs = issR s) (fun r => r.cell) (fun r => r.G ++ (Dd d (issS s) :: Fr)) := by
 refine Ctr.ex Ext.here rd_open ?_
 intro x hx
 refine Ctr.imp star_open ?_
 have hln := hx.len
 have hok := hx.ok
 have hal := hx.ok.asks
 have hfst := hx.ok.first
 have hcnt := hx.ok.count
 dsimp only [RO, List.cons_append, List.nil_append]
 refine Ctr.of_body func112 J ntmps112 J (cZ (aZ (gZ J (fZ (bZ (cZ (aZ (gZ J (fZ (bZ (cZ (aZ (kQ (sX underlying265 ti274 J) J ?_)))))))))))))
 rintro b6 -
 refine eZ J (zZ J (pZ fa267_4 J (dZ (iZ ti265 J) ?_)))
 refine kQ (fX (a := some ⟨b6, 0, none⟩) (c := 0) (m := 0) (xs := []) (a2 := x.a) (c2 := x.c) (k := x.ras.length) (ys := (x.ras.map RA.cells).flatten) J J J underlying265 underlying265 ti274 J (by decide) fC (SlR.of_osl (E := 274) eX) (flat_ones RA.ones _) (by omega)) J ?_
 rintro ⟨qa, qc⟩ -
 rw [Nat.zero_add x.ras.length, List.nil_append]
 refine gZ J (fZ (bZ (cZ (cZ (aZ (gZ J (fZ (bZ (mQ (mX (fun t : Jt => t.OK s x.pl) (fun t => [(0, .pointer (some ⟨d, 0, none⟩)), (3, t.out.cell), (4, .slice qa s.asks.length qc), (5, .int .i64 t.i)]) (fun t => oras qa qc t.ras :: RH d s s.last x.a s.asks.length x.c x.ta s.told.length x.tc :: oras x.a x.c x.ras :: oreqs t.out.a t.out.c t.out.l :: pool t.out.ms :: onum 27 .u32 x.ta x.tc s.told :: pool x.pl :: Fr) (fun t => s.asks.length - t.i) ⟨0, x.ras, ⟨[], none, 0⟩⟩ ⟨Nat.zero_le _, by rw [List.take_zero, List.drop_zero, hx.abs]; rfl, hx.all, rfl, Nat.le_refl _⟩ (by rw [← hln]; exact eS) (by rw [← hln]; exact Imp.trans pool_nil (Imp.trans (osl_nil (E := 101) (sz := 5)) (Imp.pull (A := oras qa qc x.ras) eX (Imp.pull eX (Imp.pull (A := oras x.a x.c x.ras) eX (Imp.pull (A := oreqs none 0 []) eX (Imp.pull (A := pool []) eX (Imp.pull eX (Imp.pull (A := pool x.pl) eX iM))))))))) ?_))))))))))
 rintro ⟨i, ras, ⟨l, la, lc⟩⟩ ⟨hi, habs, hall, hout, hol⟩
 dsimp only at hi habs hall hout hol ⊢
 have hcl : ras.length = s.asks.length := by have := congrArg List.length habs; rw [mapto_len hi, List.length_map] at this; exact this
 refine cZ (cZ (aZ (eZ J (eZ J (dZ (sZ underlying265 J J) (dZ eQ ?_))))))
 refine fZ (bZ (lQ J (fun hc => ?_) (fun hc => ?_)))
 ·try replace hc := odT hc
  have hi' : i < s.asks.length := by omega
  have hget : s.asks[i]? = some s.asks[i] := by simp [hi']
  generalize s.asks[i] = ak at hget
  have hgm := mapto_get (f := iss) hget
  have hst := mapto_step (f := iss) hget
  have hsec := hok.sec ak (List.mem_of_getElem? hget)
  have hdat := hok.data ak (List.mem_of_getElem? hget)
  have htk := take_snoc hget
  obtain ⟨ra, hgc, hca⟩ : ∃ ra, ras[i]? = some ra ∧ ra.abs s.latency = ak := by
   rw [← habs, List.getElem?_map] at hgm
   cases hc : ras[i]? with
   | none => rw [hc] at hgm; cases hgm
   | some c => rw [hc] at hgm; exact ⟨c, rfl, by simpa using hgm⟩
  have hro := hall ra (List.mem_of_getElem? hgc)
  subst hca
  refine lX (fun w hw => shape_rs (a := qa) (c := qc) (n := i) (l := ras) (by omega) eX w hw) ?_
  rintro ⟨b, o, rfl⟩
  refine uZ (bZ (cZ (mQ (cZ ?_))))
  cases hiss : ra.iss
  ·have hst0 : (ra.abs s.latency).st = 0 := by
    have hcf : ra.com = false := by cases hcm : ra.com; rfl; exact absurd (hro.com hcm) (by rw [hiss]; decide)
    unfold RA.abs; dsimp only; rw [hcf, hiss]; rfl
   refine aZ (eZ J (eZ J (dZ (lZ underlying265 ti274 J J (by omega) (by omega)) ?_)))
   refine pZ fa274_6 J (dZ (jZ (v := .bool ra.iss) ti4 J (by rw [show o + (i : Int).toNat * 8 = o + i * 8 by omega]; exact ((SlR.of_osl (E := 274) (a := some ⟨b, o, none⟩) eX).elem RA.len hgc) 6 _ J)) ?_)
   refine dZ (oQ (iQ J) (v' := .bool true) (by rw [hiss]; rfl)) ?_
   refine fZ (bZ (fQ J (cZ (qQ (.lo 0 0 (.lo 1 0 (.lo 2 0 (.lo 3 0 (.lo 4 0 (.lo 5 0 (.lo 6 0 (.lo 7 0 (.lo 8 0 (.lo 9 0 (.lo 10 0 (.lo 11 0 (.lo 12 0 (.lo 13 0 (.lo 14 0 (.lo 15 0 (.lo 16 0 (.lo 17 0 (.lo 18 0 (.lo 19 0 (.lo 20 0 (.lo 21 0 (.lo 22 0 (.lo 23 0 (.lo 24 0 (.lo 26 0 (.lo 27 0 (.lo 28 0 (.lo 29 0 (.lo 30 0 (.eff1 25 false (.eff1 31 false (.lo 32 1 (.eff1 33 false (.eff1 34 false (.lo 35 1 (.done))))))))))))))))))))))))))))))))))))) [25, 31, 33, 34] [] ([RH d s s.last x.a s.asks.length x.c x.ta s.told.length x.tc, oras (some ⟨b, o, none⟩) qc ras]) ([]) mixed (by kernel_rfl) (iM) (Imp.none _) ?_))))
   refine nZ J J (nZ J J (dQ J J (wZ J fa267_0 J (hZ J (jZ (v := .int .i64 s.part) ti3 J (Cel.of_blk (b := d) eX J)) ?_))))
   refine nZ J J (nZ J J (hZ J (lZ underlying265 ti274 J J (by omega) (by omega)) ?_))
   refine wZ J fa274_0 J (hZ J (jZ (v := .int .u32 ra.tag) ti27 J (by rw [show o + (i : Int).toNat * 8 = o + i * 8 by omega]; exact ((SlR.of_osl (E := 274) (a := some ⟨b, o, none⟩) eX).elem RA.len hgc) 0 _ J)) ?_)
   refine nZ J J (nZ J J (hZ J (lZ underlying265 ti274 J J (by omega) (by omega)) ?_))
   refine wZ J fa274_1 J (hZ J (jZ (v := .bool ra.write) ti4 J (by rw [show o + (i : Int).toNat * 8 = o + i * 8 by omega]; exact ((SlR.of_osl (E := 274) (a := some ⟨b, o, none⟩) eX).elem RA.len hgc) 1 _ J)) ?_)
   refine nZ J J (dQ J J (wZ J fa267_1 J (hZ J (jZ (v := .int .i64 s.first) ti3 J (Cel.of_blk (b := d) eX J)) ?_)))
   refine nZ J J (nZ J J (hZ J (lZ underlying265 ti274 J J (by omega) (by omega)) ?_))
   refine wZ J fa274_2 J (hZ J (jZ (v := .int .i64 ra.sector) ti3 J (by rw [show o + (i : Int).toNat * 8 = o + i * 8 by omega]; exact ((SlR.of_osl (E := 274) (a := some ⟨b, o, none⟩) eX).elem RA.len hgc) 2 _ J)) ?_)
   refine hZ J (hQ J J (w64 (by have := hsec.1; have h9 : (RA.abs s.latency ra).sector = ra.sector := rfl; omega) (by have := hsec.2; have h9 : (RA.abs s.latency ra).sector = ra.sector := rfl; omega))) ?_
   refine nZ J J (nZ J J (hZ J (lZ underlying265 ti274 J J (by omega) (by omega)) ?_))
   refine wZ J fa274_4 J (hZ J (jZ (v := ra.m.cell) ti32 J (by rw [show o + (i : Int).toNat * 8 = o + i * 8 by omega]; exact ((SlR.of_osl (E := 274) (a := some ⟨b, o, none⟩) eX).elem RA.len hgc) 4 _ J)) ?_)
   refine aQ (wQ J J (sX underlying32 ti5 J) J (fun _ => iM) (fun _ => Imp.refl _) (fun _ => iM) ?_)
   rintro b49 -
   refine aQ (wQ J J (eV (a := some ⟨b49, 0, none⟩) (c := 0) (bs := []) (ys := ra.m.b) J J J underlying32 underlying32 ti5 (by decide) fC (by exact (pool_rd (ms := x.pl) eX hro.mem).slR) (by have h9 : (RA.abs s.latency ra).data = ra.m.b := rfl; rw [h9] at hdat; simp only [List.length_nil]; omega)) J (fun _ => iM) (fun _ => Imp.refl _) (fun _ => iM) ?_)
   rintro ⟨am, cm⟩ -
   rw [List.nil_append]
   refine hZ J (aX (pvs := [(0, .int .i64 s.part), (1, .int .u32 ra.tag), (2, .bool ra.write), (3, .int .i64 (s.first + ra.sector)), (4, Msg.cell ⟨am, cm, ra.m.b⟩)]) bu101 ti101 J (cells := CR.cells ⟨s.part, ra.tag, ra.write, s.first + ra.sector, ⟨am, cm, ra.m.b⟩⟩) J) (aQ (wQ J J (aV [.tmp 56] (vs := [.agg (CR.cells ⟨s.part, ra.tag, ra.write, s.first + ra.sector, ⟨am, cm, ra.m.b⟩⟩).toArray]) (cells := CR.cells ⟨s.part, ra.tag, ra.write, s.first + ra.sector, ⟨am, cm, ra.m.b⟩⟩) underlying98 ti101 J J J J (by decide) (by simp [Value.cells, CR.cells]) (by simp [Value.cells])) J (fun _ => iM) (fun _ => Imp.refl _) (fun _ => iM) ?_))
   rintro b57 -
   refine aQ (wQ J J (fX (a := la) (c := lc) (k := 1) (m := l.length) (xs := (l.map CR.cells).flatten) (ys := CR.cells ⟨s.part, ra.tag, ra.write, s.first + ra.sector, ⟨am, cm, ra.m.b⟩⟩) J J J underlying98 underlying98 ti101 J (by decide) fC (SlR.of_osl (a := some ⟨b57, 0, none⟩) eX) (CR.ones _) (by omega)) J (fun _ => iM) (fun _ => Imp.refl _) (fun _ => iM) ?_)
   rintro ⟨a58, c58⟩ -
   refine hZ J (jQ J) (pQ (bZ (aZ (eZ J (eZ J (dZ (lZ underlying265 ti274 J J (by omega) (by omega)) ?_))))))
   refine pZ fa274_6 J (sQ (fV (i := i) 6 (r := ra) (r' := { ra with iss := true }) (rs := ras) RA.len hgc J (by decide) ti4 (by rw [show o + (i : Int).toNat * 8 = o + i * 8 by omega]; rfl) J fC J (by omega)) J ?_)
   rintro ⟨⟩ -
   refine fZ (tZ (bZ (aZ (eZ J (dZ (hQ J J wO) (gZ J (fZ (gX ⟨i + 1, ras.set i { ra with iss := true }, ⟨l ++ [⟨s.part, ra.tag, ra.write, s.first + ra.sector, ⟨am, cm, ra.m.b⟩⟩], a58, c58⟩⟩ ⟨by simp only; omega, ?_, ?_, ?_, ?_⟩ (by simp only; omega) ?_ ?_))))))))
   ·dsimp only; rw [hst, List.map_set, habs, iss_one hst0]; congr 1
    have hcf : ra.com = false := by cases hcm : ra.com; rfl; exact absurd (hro.com hcm) (by rw [hiss]; decide)
    simp [RA.abs, hcf]
   ·dsimp only; intro a ha; rcases List.mem_or_eq_of_mem_set ha with ha | rfl; exact hall a ha; exact ⟨hro.mem, fun _ => rfl, hro.maj⟩
   ·dsimp only; rw [htk, List.filter_append, List.map_append, List.map_append, hout, show [ra.abs s.latency].filter (fun a => a.st == 0) = [ra.abs s.latency] by simp [hst0]]; rfl
   ·simp only [List.length_append, List.length_cons, List.length_nil]; omega
   ·dsimp only [Rqs.cell]; rw [List.length_append]; exact eS
   ·dsimp only [Rqs.ms, oras, oreqs]
    rw [List.length_append, flat_app, List.length_set, List.map_append]
    exact Imp.trans (Imp.trans (Imp.pull (A := Msg.own ⟨am, cm, ra.m.b⟩) eX (Imp.pull (A := pool (l.map CR.m)) eX (Imp.refl _))) pool_add) iM
  ·have hst1 : (ra.abs s.latency).st ≠ 0 := by
    unfold RA.abs; dsimp only; rw [hiss]; cases ra.com <;> decide
   refine aZ (eZ J (eZ J (dZ (lZ underlying265 ti274 J J (by omega) (by omega)) ?_)))
   refine pZ fa274_6 J (dZ (jZ (v := .bool ra.iss) ti4 J (by rw [show o + (i : Int).toNat * 8 = o + i * 8 by omega]; exact ((SlR.of_osl (E := 274) (a := some ⟨b, o, none⟩) eX).elem RA.len hgc) 6 _ J)) ?_)
   refine dZ (oQ (iQ J) (v' := .bool false) (by rw [hiss]; rfl)) ?_
   refine fZ (bZ (vZ J (uZ (tZ (bZ (aZ (eZ J (dZ (hQ J J wO) (gZ J (fZ (gX ⟨i + 1, ras, ⟨l, la, lc⟩⟩ ⟨by simp only; omega, ?_, hall, ?_, by simp only; omega⟩ (by simp only; omega) eS iM)))))))))))
   ·dsimp only; rw [hst, habs]; symm; refine set_self ?_; rw [iss_no hst1]; exact hgm
   ·dsimp only; rw [htk, List.filter_append, hout, show [ra.abs s.latency].filter (fun a => a.st == 0) = [] by simp [hst1], List.append_nil]
 ·try replace hc := odF hc
  refine iX (bQ (bQ (tQ (bZ (cZ (aZ (eZ J (eZ J (zZ J (pZ fa267_4 J (sQ (uQ ti265 J J fC J (by first | (simp; done) | decide)) J ?_)))))))))))
  rintro ⟨⟩ -
  refine fZ (bZ (cZ (aZ (eZ J (gZ J (fZ (bZ (rZ ?_))))))))
  have hie : i = s.asks.length := by omega
  subst hie
  rw [List.take_length, List.drop_length, List.append_nil] at habs
  rw [List.take_length] at hout
  have hcl2 := rd_close (d := d) (G := Fr) (s := issS s) ⟨ras, x.pl, qa, qc, x.ta, x.tc⟩ ⟨habs, fun a ha => ⟨(hall a ha).mem, (hall a ha).com, (hall a ha).maj⟩, ⟨hok.part, hok.first, hok.count, hok.lat, by simp only [issS, List.length_map]; exact hok.asks, hok.told, fun a ha => by simp only [issS, List.mem_map] at ha; obtain ⟨q, hq, rfl⟩ := ha; exact hok.data q hq, fun a ha => by simp only [issS, List.mem_map] at ha; obtain ⟨q, hq, rfl⟩ := ha; exact hok.sec q hq⟩⟩
  dsimp only [RO, issS, List.cons_append, List.nil_append] at hcl2
  rw [hcl] at hcl2
  exact yZ J J ⟨l, la, lc⟩ hout J (Imp.pull eX (Imp.pull eX (Imp.trans (Imp.pull (A := RH d s s.last qa s.asks.length qc x.ta s.told.length x.tc) eX (Imp.pull (A := oras qa qc ras) eX (Imp.pull eX (Imp.pull (A := pool x.pl) eX iM)))) hcl2)))
end
theorem isB_no1 {tag : Int} {a : Ak} (h : a.tag ≠ tag) : isB tag a = false := by unfold isB; rw [decide_eq_false h]; rfl
theorem isB_no2 {tag : Int} {a : Ak} (h : a.st ≠ 1) : isB tag a = false := by unfold isB; rw [decide_eq_false h, Bool.and_false]
theorem isB_yes {tag : Int} {a : Ak} (h : a.tag = tag) (h2 : a.st = 1) : isB tag a = true := by unfold isB; rw [decide_eq_true h, decide_eq_true h2]; rfl
theorem cel_b {W0 : World} {G : List HProp} {a : Addr} {x y : Bool} (e : x = y) (h : Cel W0 G a (.bool x)) : Cel W0 G a (.bool y) := e ▸ h
abbrev odn (a : Option Addr) (c : Nat) (l : List CD) : HProp := osl 275 4 a c l.length ((l.map CD.cells).flatten)
abbrev Dns.RG (r : Dns) : List HProp := [odn r.a r.c r.l, pool r.ms]
structure Ru where
 i : Nat
 out : Dns
 rest : List RA
 ra : Option Addr
 rc : Nat
 told : List Int
 ta : Option Addr
 tc : Nat
structure Ru.OK (s : Ds) (major : Int) (pl : List Msg) (t : Ru) : Prop where
 le : t.i ≤ s.asks.length
 out : t.out.l.map CD.abs = ((s.asks.take t.i).filter (over major)).map done
 outl : t.out.l.length ≤ t.i
 rest : t.rest.map (RA.abs s.latency) = (s.asks.take t.i).filter (fun a => !over major a)
 restl : t.rest.length ≤ t.i
 all : ∀ a ∈ t.rest, RAs.OK s pl a
 told : t.told = ((s.asks.take t.i).filter (over major)).map Ak.tag
 toldl : t.told.length ≤ t.i
section
variable (W0 : World) (Fr : List HProp)
set_option maxHeartbeats 2000000 in
theorem rcomplete_spec {d : Nat} {s : Ds} {r : CR} (hr : RdB W0 Fr r.m.a r.m.c r.m.b) (hrl : r.m.b.length ≤ 2 ^ 47) : Ctr prog W0 113 [.pointer (some ⟨d, 0, none⟩), .agg r.cells.toArray] (Dd d s :: Fr) (fun _ : Unit => True) (fun _ => .int .i64 (comR s r.tag r.m.b).1) (fun _ => Dd d (comR s r.tag r.m.b).2 :: Fr) := by
 refine Ctr.ex Ext.here rd_open ?_
 intro x hx
 refine Ctr.imp star_open ?_
 have hln := hx.len
 have hok := hx.ok
 have hal := hx.ok.asks
 have hab := hx.abs
 have hcl := rd_close (d := d) (G := Fr) x hx
 dsimp only [RO, List.cons_append, List.nil_append] at hcl ⊢
 refine Ctr.of_body func113 J ntmps113 J (cZ (aZ (kQ (uX J) J ?_)))
 rintro b3 -
 refine gZ J (fZ (bZ (cZ (aZ (kQ (sX underlying265 ti274 J) J ?_)))))
 rintro b7 -
 refine eZ J (zZ J (pZ fa267_4 J (dZ (jZ ti265 J (by first | exact Cel.of_blk eX J | exact (hrow eX) _ _ J)) ?_)))
 refine kQ (fX (a := some ⟨b7, 0, none⟩) (c := 0) (m := 0) (xs := []) (a2 := x.a) (c2 := x.c) (k := x.ras.length) (ys := (x.ras.map RA.cells).flatten) J J J underlying265 underlying265 ti274 J (by decide) fC (SlR.of_osl (E := 274) eX) (flat_ones RA.ones _) (by omega)) J ?_
 rintro ⟨qa, qc⟩ -
 rw [Nat.zero_add x.ras.length, List.nil_append]
 refine gZ J (fZ (bZ (cZ (cZ (aZ (gZ J (fZ (bZ (mQ (mX (fun i : Nat => i ≤ x.ras.length ∧ ∀ y ∈ s.asks.take i, isB r.tag y = false) (fun i => [(0, .pointer (some ⟨d, 0, none⟩)), (3, .pointer (some ⟨b3, 0, none⟩)), (5, .slice qa x.ras.length qc), (6, .int .i64 i)]) (fun _ => oras qa qc x.ras :: blk b3 r.cells 101 :: RH d s s.last x.a x.ras.length x.c x.ta s.told.length x.tc :: oras x.a x.c x.ras :: onum 27 .u32 x.ta x.tc s.told :: pool x.pl :: Fr) (fun i => x.ras.length - i) 0 ⟨Nat.zero_le _, fun y h => absurd h (by simp)⟩ eS iM ?_))))))))))
 rintro i ⟨hi, hno⟩
 refine cZ (cZ (aZ (eZ J (eZ J (dZ (sZ underlying265 J J) (dZ eQ ?_))))))
 refine fZ (bZ (lQ J (fun hc => ?_) (fun hc => ?_)))
 ·try replace hc := odT hc
  have hi' : i < x.ras.length := by omega
  have hgc : x.ras[i]? = some x.ras[i] := by simp [hi']
  generalize x.ras[i] = ra at hgc
  have hget := hx.get hgc
  have hro := hx.all ra (List.mem_of_getElem? hgc)
  have htk := take_snoc hget
  have hnx : isB r.tag (ra.abs s.latency) = false → ∀ y ∈ s.asks.take (i + 1), isB r.tag y = false := fun h y hy => by
   rw [htk] at hy
   rcases List.mem_append.1 hy with hy | hy
   ·exact hno y hy
   ·simp only [List.mem_cons, List.not_mem_nil, or_false] at hy; subst hy; exact h
  refine lX (fun w hw => shape_rs (a := qa) (c := qc) (n := i) (l := x.ras) (by omega) eX w hw) ?_
  rintro ⟨b, o, rfl⟩
  have hrow : ∀ {G R : List HProp}, Ext G (oras (some ⟨b, o, none⟩) qc x.ras) R → Row W0 G b (o + (i : Int).toNat * 8) ra.cells := fun e => by rw [show o + (i : Int).toNat * 8 = o + i * 8 by omega]; exact (SlR.of_osl (E := 274) e).elem RA.len hgc
  refine uZ (bZ (cZ (mQ (cZ (cZ ?_)))))
  rcases (show ra.tag ≠ r.tag ∨ (ra.tag = r.tag ∧ ra.iss = false) ∨ (ra.tag = r.tag ∧ ra.iss = true ∧ ra.com = true) ∨ (ra.tag = r.tag ∧ ra.iss = true ∧ ra.com = false) by cases ra.iss <;> cases ra.com <;> simp <;> omega) with hh | hh | hh | hh
  ·refine qQ (.lo 0 1 (.lo 1 1 (.lo 2 1 (.lo 3 1 (.lo 4 1 (.lo 5 1 (.lo 6 1 (.lo 7 1 (.lo 8 1 (.lo 9 1 (.lo 10 1 (.lo 11 1 (.lo 12 1 (.lo 13 1 (.lo 14 1 (.lo 15 1 (.lo 16 1 (.lo 17 1 (.lo 18 1 (.lo 19 1 (.lo 20 1 (.lo 21 1 (.lo 22 1 (.done)))))))))))))))))))))))) [] [] ([]) ([]) mixed (by kernel_rfl) (Imp.none _) (Imp.none _) (nZ J J (nZ J J (hZ J (lZ underlying265 ti274 J J (by omega) (by omega)) ?_)))
   refine wZ J fa274_0 J (hZ J (jZ (v := .int .u32 ra.tag) ti27 J (hrow eX 0 _ J)) ?_)
   refine wZ J fa101_1 J (hZ J (jZ (v := .int .u32 r.tag) ti27 J (Cel.of_blk (b := b3) eX J)) ?_)
   refine hZ J (oQ (nX J J) (bT hh)) (nZ J J (dX J J J (dX J J J (dX J J J (dX J J J (dX J J J (dX J J J (hZ J mZ ?_))))))))
   refine nZ J J (dX J J J (dX J J J (dX J J J (dX J J J (dX J J J (hZ J mZ ?_))))))
   exact pQ (bZ (fQ J (iX (bQ (tQ (bZ (aZ (eZ J (dZ (hQ J J wO) (gZ J (fZ (gX (i + 1) ⟨by omega, hnx (isB_no1 hh)⟩ (by omega) eS iM))))))))))))
  ·refine qQ (.lo 0 1 (.lo 1 1 (.lo 2 1 (.lo 3 1 (.lo 4 1 (.lo 5 1 (.lo 6 1 (.lo 7 1 (.lo 8 1 (.lo 9 1 (.lo 10 1 (.lo 11 1 (.lo 12 1 (.lo 13 1 (.lo 14 1 (.lo 15 1 (.lo 16 1 (.lo 17 1 (.lo 18 1 (.lo 19 1 (.lo 20 1 (.lo 21 1 (.lo 22 1 (.done)))))))))))))))))))))))) [] [] ([]) ([]) mixed (by kernel_rfl) (Imp.none _) (Imp.none _) (nZ J J (nZ J J (hZ J (lZ underlying265 ti274 J J (by omega) (by omega)) ?_)))
   refine wZ J fa274_0 J (hZ J (jZ (v := .int .u32 ra.tag) ti27 J (hrow eX 0 _ J)) ?_)
   refine wZ J fa101_1 J (hZ J (jZ (v := .int .u32 r.tag) ti27 J (Cel.of_blk (b := b3) eX J)) ?_)
   refine hZ J (oQ (nX J J) (bF (not_not_intro hh.1))) (nZ J J (nZ J J (nZ J J (hZ J (lZ underlying265 ti274 J J (by omega) (by omega)) ?_))))
   refine wZ J fa274_6 J (hZ J (jZ (v := .bool ra.iss) ti4 J (hrow eX 6 _ J)) ?_)
   refine hZ J (oQ (iQ J) (v' := .bool true) (by rw [hh.2]; rfl)) ?_
   refine hZ J mZ ?_
   refine nZ J J (dX J J J (dX J J J (dX J J J (dX J J J (dX J J J (hZ J mZ ?_))))))
   refine pQ (bZ (fQ J (iX (bQ (tQ (bZ (aZ (eZ J (dZ (hQ J J wO) (gZ J (fZ ?_)))))))))))
   exact gX (i + 1) ⟨by omega, hnx (isB_no2 (by unfold RA.abs; dsimp only; rw [hh.2]; cases ra.com <;> decide))⟩ (by omega) eS iM
  ·refine qQ (.lo 0 1 (.lo 1 1 (.lo 2 1 (.lo 3 1 (.lo 4 1 (.lo 5 1 (.lo 6 1 (.lo 7 1 (.lo 8 1 (.lo 9 1 (.lo 10 1 (.lo 11 1 (.lo 12 1 (.lo 13 1 (.lo 14 1 (.lo 15 1 (.lo 16 1 (.lo 17 1 (.lo 18 1 (.lo 19 1 (.lo 20 1 (.lo 21 1 (.lo 22 1 (.done)))))))))))))))))))))))) [] [] ([]) ([]) mixed (by kernel_rfl) (Imp.none _) (Imp.none _) (nZ J J (nZ J J (hZ J (lZ underlying265 ti274 J J (by omega) (by omega)) ?_)))
   refine wZ J fa274_0 J (hZ J (jZ (v := .int .u32 ra.tag) ti27 J (hrow eX 0 _ J)) ?_)
   refine wZ J fa101_1 J (hZ J (jZ (v := .int .u32 r.tag) ti27 J (Cel.of_blk (b := b3) eX J)) ?_)
   refine hZ J (oQ (nX J J) (bF (not_not_intro hh.1))) (nZ J J (nZ J J (nZ J J (hZ J (lZ underlying265 ti274 J J (by omega) (by omega)) ?_))))
   refine wZ J fa274_6 J (hZ J (jZ (v := .bool ra.iss) ti4 J (hrow eX 6 _ J)) ?_)
   refine hZ J (oQ (iQ J) (v' := .bool false) (by rw [hh.2.1]; rfl)) ?_
   refine hZ J mZ ?_
   refine nZ J J (nZ J J (nZ J J (hZ J (lZ underlying265 ti274 J J (by omega) (by omega)) ?_)))
   refine wZ J fa274_7 J (hZ J (jZ (v := .bool true) ti4 J (cel_b hh.2.2 (hrow eX 7 _ J))) ?_)
   refine hZ J mZ ?_
   exact pQ (bZ (fQ J (iX (bQ (tQ (bZ (aZ (eZ J (dZ (hQ J J wO) (gZ J (fZ (gX (i + 1) ⟨by omega, hnx (isB_no2 (by unfold RA.abs; dsimp only; rw [hh.2.2]; simp))⟩ (by omega) eS iM))))))))))))
  ·refine qQ (.lo 0 1 (.lo 1 1 (.lo 2 1 (.lo 3 1 (.lo 4 1 (.lo 5 1 (.lo 6 1 (.lo 7 1 (.lo 8 1 (.lo 9 1 (.lo 10 1 (.lo 11 1 (.lo 12 1 (.lo 13 1 (.lo 14 1 (.lo 15 1 (.lo 16 1 (.lo 17 1 (.lo 18 1 (.lo 19 1 (.lo 20 1 (.lo 21 1 (.lo 22 1 (.done)))))))))))))))))))))))) [] [] ([]) ([]) mixed (by kernel_rfl) (Imp.none _) (Imp.none _) (nZ J J (nZ J J (hZ J (lZ underlying265 ti274 J J (by omega) (by omega)) ?_)))
   refine wZ J fa274_0 J (hZ J (jZ (v := .int .u32 ra.tag) ti27 J (hrow eX 0 _ J)) ?_)
   refine wZ J fa101_1 J (hZ J (jZ (v := .int .u32 r.tag) ti27 J (Cel.of_blk (b := b3) eX J)) ?_)
   refine hZ J (oQ (nX J J) (bF (not_not_intro hh.1))) (nZ J J (nZ J J (nZ J J (hZ J (lZ underlying265 ti274 J J (by omega) (by omega)) ?_))))
   refine wZ J fa274_6 J (hZ J (jZ (v := .bool ra.iss) ti4 J (hrow eX 6 _ J)) ?_)
   refine hZ J (oQ (iQ J) (v' := .bool false) (by rw [hh.2.1]; rfl)) ?_
   refine hZ J mZ ?_
   refine nZ J J (nZ J J (nZ J J (hZ J (lZ underlying265 ti274 J J (by omega) (by omega)) ?_)))
   refine wZ J fa274_7 J (hZ J (jZ (v := .bool false) ti4 J (cel_b hh.2.2 (hrow eX 7 _ J))) ?_)
   refine hZ J mZ ?_
   refine pQ (bZ (vZ J (uZ (bZ (cZ (cZ ?_))))))
   rcases (show (ra.write = false ∧ r.m.b.length ≠ 64) ∨ (ra.write = false ∧ r.m.b.length = 64) ∨ ra.write = true by cases ra.write <;> simp <;> omega) with hw | hw | hw
   ·have hst : (ra.abs s.latency).st = 1 := by unfold RA.abs; dsimp only; rw [hh.2.1, hh.2.2]; rfl
    have hfi : s.asks.findIdx? (isB r.tag) = some i := find_take hno hget (isB_yes (a := ra.abs s.latency) hh.1 hst)
    have hcr : comR s r.tag r.m.b = if ra.write = false ∧ r.m.b.length ≠ 64 then (6, s) else (0, { s with asks := s.asks.set i { ra.abs s.latency with st := 2, data := if ra.write then ra.m.b else r.m.b } }) := by unfold comR; rw [hfi]; dsimp only; rw [hget]; rfl
    refine aZ (eZ J (eZ J (dZ (lZ underlying265 ti274 J J (by omega) (by omega)) ?_)))
    refine pZ fa274_1 J (dZ (jZ (v := .bool false) ti4 J (cel_b hw.1 (hrow eX 1 _ J))) ?_)
    refine dZ (iQ J) (eZ J (kZ J J (pZ fa101_4 J (kZ J J (dZ (jZ (v := r.m.cell) ti32 J (Cel.of_blk (b := b3) eX J)) ?_)))))
    refine kZ J J (dZ (sZ (a := r.m.a) (m := r.m.b.length) (c := r.m.c) underlying32 J J) (kZ J J (dZ vQ ?_)))
    refine dZ mZ ?_
    refine fZ (bZ (fQ J (cZ (aZ (gZ J (fZ (bZ (rZ (qZ (nQ (qZ (qZ (nQ (qZ ?_))))))))))))))
    rw [hcr, if_pos hw]
    exact yZ J J () trivial J (Imp.trans (Imp.pull (A := RH d s s.last x.a x.ras.length x.c x.ta s.told.length x.tc) eX (Imp.pull (A := oras x.a x.c x.ras) eX iM)) hcl)
   ·have hst : (ra.abs s.latency).st = 1 := by unfold RA.abs; dsimp only; rw [hh.2.1, hh.2.2]; rfl
    have hfi : s.asks.findIdx? (isB r.tag) = some i := find_take hno hget (isB_yes (a := ra.abs s.latency) hh.1 hst)
    have hcr : comR s r.tag r.m.b = if ra.write = false ∧ r.m.b.length ≠ 64 then (6, s) else (0, { s with asks := s.asks.set i { ra.abs s.latency with st := 2, data := if ra.write then ra.m.b else r.m.b } }) := by unfold comR; rw [hfi]; dsimp only; rw [hget]; rfl
    refine aZ (eZ J (eZ J (dZ (lZ underlying265 ti274 J J (by omega) (by omega)) ?_)))
    refine pZ fa274_1 J (dZ (jZ (v := .bool false) ti4 J (cel_b hw.1 (hrow eX 1 _ J))) ?_)
    refine dZ (iQ J) (eZ J (kZ J J (pZ fa101_4 J (kZ J J (dZ (jZ (v := r.m.cell) ti32 J (Cel.of_blk (b := b3) eX J)) ?_)))))
    refine kZ J J (dZ (sZ (a := r.m.a) (m := r.m.b.length) (c := r.m.c) underlying32 J J) (kZ J J (dZ vQ ?_)))
    refine dZ mZ ?_
    refine fZ (bZ (vZ J (uZ (bZ (cZ (aZ (eZ J (eZ J (dZ (lZ underlying265 ti274 J J (by omega) (by omega)) ?_)))))))))
    refine pZ fa274_7 J (sQ (fV (i := i) 7 (r := ra) (r' := { ra with com := true }) (rs := x.ras) RA.len hgc J (by decide) ti4 (by rw [show o + (i : Int).toNat * 8 = o + i * 8 by omega]; rfl) J (Foc.here) J J) J ?_)
    rintro ⟨⟩ -
    have hgc2 : (x.ras.set i { ra with com := true })[i]? = some { ra with com := true } := by rw [List.getElem?_set_self (by omega)]
    refine fZ (bZ (cZ (cZ (aZ (eZ J (eZ J (dZ (lZ underlying265 ti274 J J (by omega) (by omega)) ?_)))))))
    refine pZ fa274_1 J (dZ (jZ (v := .bool false) ti4 J (cel_b hw.1 (by rw [show o + (i : Int).toNat * 8 = o + i * 8 by omega]; exact (SlR.of_osl (E := 274) (a := some ⟨b, o, none⟩) (c := qc) eX).elem RA.len hgc2 1 _ J))) ?_)
    refine dZ (iQ J) (fZ (bZ (fQ J (aZ (eZ J (eZ J (kQ (sX underlying32 ti5 J) J ?_)))))))
    rintro b66 -
    refine pZ fa101_4 J (dZ (jZ (v := r.m.cell) ti32 J (Cel.of_blk (b := b3) eX J)) ?_)
    refine kQ (eV (a := some ⟨b66, 0, none⟩) (c := 0) (bs := []) (ys := r.m.b) J J J underlying32 underlying32 ti5 (by decide) fC (hr.imp iM).slR (by simp only [List.length_nil]; omega)) J ?_
    rintro ⟨am, cm⟩ -
    rw [List.nil_append]
    refine dZ (lZ underlying265 ti274 J J (by omega) (by omega)) ?_
    refine pZ fa274_4 J (sQ (fV (i := i) 4 (r := { ra with com := true }) (r' := { ra with com := true, m := ⟨am, cm, r.m.b⟩ }) (rs := x.ras.set i { ra with com := true }) RA.len hgc2 J (by decide) ti32 (by rw [show o + (i : Int).toNat * 8 = o + i * 8 by omega]; rfl) J (Foc.there Foc.here) J (by rw [List.length_set])) J ?_)
    rintro ⟨⟩ -
    refine fZ (bZ (cZ (aZ (eZ J (eZ J (zZ J (pZ fa267_4 J (sQ (uQ ti265 J J fC J (by simp)) J ?_))))))))
    rintro ⟨⟩ -
    refine fZ (bZ (cZ (aZ (gZ J (fZ (bZ (rZ (nQ (qZ (qZ (nQ (qZ ?_))))))))))))
    rw [hcr, if_neg (by rw [hw.2]; simp), if_neg (by rw [hw.1]; decide)]
    have hcl2 := rd_close (d := d) (G := Fr) (s := { s with asks := s.asks.set i { ra.abs s.latency with st := 2, data := r.m.b } }) ⟨x.ras.set i { ra with com := true, m := ⟨am, cm, r.m.b⟩ }, x.pl ++ [⟨am, cm, r.m.b⟩], some ⟨b, o, none⟩, qc, x.ta, x.tc⟩ ⟨by dsimp only; rw [List.map_set, hab]; rfl, fun a ha => by rcases List.mem_or_eq_of_mem_set ha with ha | rfl; exact ⟨List.mem_append.2 (.inl (hx.all a ha).mem), (hx.all a ha).com, (hx.all a ha).maj⟩; exact ⟨by simp, fun _ => hh.2.1, hro.maj⟩, ⟨hok.part, hok.first, hok.count, hok.lat, by dsimp only; rw [List.length_set]; exact hok.asks, hok.told, fun a ha => by rcases List.mem_or_eq_of_mem_set ha with ha | rfl; exact hok.data a ha; dsimp only; omega, fun a ha => by rcases List.mem_or_eq_of_mem_set ha with ha | rfl; exact hok.sec a ha; exact hok.sec (ra.abs s.latency) (List.mem_of_getElem? hget)⟩⟩
    dsimp only [RO, oras, List.cons_append, List.nil_append] at hcl2
    rw [List.length_set] at hcl2
    refine yZ J J () trivial J (Imp.trans ?_ hcl2)
    rw [List.set_set]
    exact Imp.trans (Imp.trans (Imp.pull (A := Msg.own ⟨am, cm, r.m.b⟩) eX (Imp.pull (A := pool x.pl) eX (Imp.refl _))) pool_add) (Imp.pull (A := RH d s s.last (some ⟨b, o, none⟩) x.ras.length qc x.ta s.told.length x.tc) eX (Imp.pull eX (Imp.pull eX (Imp.pull eX iM))))
   ·have hst : (ra.abs s.latency).st = 1 := by unfold RA.abs; dsimp only; rw [hh.2.1, hh.2.2]; rfl
    have hfi : s.asks.findIdx? (isB r.tag) = some i := find_take hno hget (isB_yes (a := ra.abs s.latency) hh.1 hst)
    have hcr : comR s r.tag r.m.b = if ra.write = false ∧ r.m.b.length ≠ 64 then (6, s) else (0, { s with asks := s.asks.set i { ra.abs s.latency with st := 2, data := if ra.write then ra.m.b else r.m.b } }) := by unfold comR; rw [hfi]; dsimp only; rw [hget]; rfl
    refine aZ (eZ J (eZ J (dZ (lZ underlying265 ti274 J J (by omega) (by omega)) ?_)))
    refine pZ fa274_1 J (dZ (jZ (v := .bool true) ti4 J (cel_b hw (hrow eX 1 _ J))) ?_)
    refine dZ (iQ J) (eZ J (gQ J J J J J (gQ J J J J J (gQ J J J J J (gQ J J J J J (dZ mZ ?_))))))
    refine fZ (bZ (vZ J (uZ (bZ (cZ (aZ (eZ J (eZ J (dZ (lZ underlying265 ti274 J J (by omega) (by omega)) ?_)))))))))
    refine pZ fa274_7 J (sQ (fV (i := i) 7 (r := ra) (r' := { ra with com := true }) (rs := x.ras) RA.len hgc J (by decide) ti4 (by rw [show o + (i : Int).toNat * 8 = o + i * 8 by omega]; rfl) J (Foc.here) J J) J ?_)
    rintro ⟨⟩ -
    have hgc2 : (x.ras.set i { ra with com := true })[i]? = some { ra with com := true } := by rw [List.getElem?_set_self (by omega)]
    refine fZ (bZ (cZ (cZ (aZ (eZ J (eZ J (dZ (lZ underlying265 ti274 J J (by omega) (by omega)) ?_)))))))
    refine pZ fa274_1 J (dZ (jZ (v := .bool true) ti4 J (cel_b hw (by rw [show o + (i : Int).toNat * 8 = o + i * 8 by omega]; exact (SlR.of_osl (E := 274) (a := some ⟨b, o, none⟩) (c := qc) eX).elem RA.len hgc2 1 _ J))) ?_)
    refine dZ (iQ J) (fZ (bZ (vZ J (uZ (bZ (cZ (aZ (eZ J (eZ J (zZ J (pZ fa267_4 J (sQ (uQ ti265 J J fC J (by simp)) J ?_))))))))))))
    rintro ⟨⟩ -
    refine fZ (bZ (cZ (aZ (gZ J (fZ (bZ (rZ (nQ (qZ (qZ (nQ (qZ ?_))))))))))))
    rw [hcr, if_neg (by rw [hw]; simp), if_pos hw]
    have hcl2 := rd_close (d := d) (G := Fr) (s := { s with asks := s.asks.set i { ra.abs s.latency with st := 2, data := ra.m.b } }) ⟨x.ras.set i { ra with com := true }, x.pl, some ⟨b, o, none⟩, qc, x.ta, x.tc⟩ ⟨by dsimp only; rw [List.map_set, hab]; rfl, fun a ha => by rcases List.mem_or_eq_of_mem_set ha with ha | rfl; exact ⟨(hx.all a ha).mem, (hx.all a ha).com, (hx.all a ha).maj⟩; exact ⟨hro.mem, fun _ => hh.2.1, hro.maj⟩, ⟨hok.part, hok.first, hok.count, hok.lat, by dsimp only; rw [List.length_set]; exact hok.asks, hok.told, fun a ha => by rcases List.mem_or_eq_of_mem_set ha with ha | rfl; exact hok.data a ha; exact hok.data (ra.abs s.latency) (List.mem_of_getElem? hget), fun a ha => by rcases List.mem_or_eq_of_mem_set ha with ha | rfl; exact hok.sec a ha; exact hok.sec (ra.abs s.latency) (List.mem_of_getElem? hget)⟩⟩
    dsimp only [RO, oras, List.cons_append, List.nil_append] at hcl2
    rw [List.length_set] at hcl2
    exact yZ J J () trivial J (Imp.trans (Imp.pull (A := RH d s s.last (some ⟨b, o, none⟩) x.ras.length qc x.ta s.told.length x.tc) eX (Imp.pull eX (Imp.pull eX (Imp.pull eX iM)))) hcl2)
 ·try replace hc := odF hc
  refine iX (bQ (bQ (tQ (bZ (cZ (aZ (gZ J (fZ (bZ (rZ ?_))))))))))
  have hie : i = s.asks.length := by omega
  have hcr : comR s r.tag r.m.b = (302, s) := by
   have h1 : s.asks.findIdx? (isB r.tag) = none := by rw [List.findIdx?_eq_none_iff]; intro y hy; exact hno y (by rw [hie, List.take_length]; exact hy)
   unfold comR; rw [h1]
  rw [hcr]
  exact yZ J J () trivial J (Imp.trans (Imp.pull (A := RH d s s.last x.a x.ras.length x.c x.ta s.told.length x.tc) eX (Imp.pull (A := oras x.a x.c x.ras) eX iM)) hcl)
end
section
variable (W0 : World) (Fr : List HProp)
set_option maxHeartbeats 2000000 in
theorem rready_spec {d : Nat} {s : Ds} (major : Int) : Ctr prog W0 114 [.pointer (some ⟨d, 0, none⟩), .int .i64 major] (Dd d s :: Fr) (fun r : Dns => r.l.map CD.abs = rdyL s major) (fun r => r.cell) (fun r => r.RG ++ (Dd d (rdyS s major) :: Fr)) := by
 refine Ctr.ex Ext.here rd_open ?_
 intro x hx
 refine Ctr.imp star_open ?_
 have hln := hx.len
 have hok := hx.ok
 have hal := hx.ok.asks
 have hab := hx.abs
 have hlat := hok.lat
 dsimp only [RO, List.cons_append, List.nil_append]
 refine Ctr.of_body func114 J ntmps114 J (cZ (aZ (gZ J (fZ (bZ (cZ (aZ (gZ J (fZ (bZ (cZ (aZ (gZ J (fZ (bZ (cZ (aZ (gZ J (fZ (bZ (cZ (cZ (aZ ?_)))))))))))))))))))))))
 refine gZ J (fZ (bZ (mQ (mX (fun t : Ru => t.OK s major x.pl) (fun t => [(0, .pointer (some ⟨d, 0, none⟩)), (1, .int .i64 major), (5, t.out.cell), (6, .slice t.ra t.rest.length t.rc), (7, .slice t.ta t.told.length t.tc), (8, .int .i64 t.i)]) (fun t => RH d s s.last x.a x.ras.length x.c x.ta s.told.length x.tc :: oras x.a x.c x.ras :: odn t.out.a t.out.c t.out.l :: pool t.out.ms :: oras t.ra t.rc t.rest :: onum 27 .u32 t.ta t.tc t.told :: pool x.pl :: Fr) (fun t => x.ras.length - t.i) ⟨0, ⟨[], none, 0⟩, [], none, 0, [], none, 0⟩ ⟨Nat.zero_le _, rfl, Nat.le_refl _, rfl, Nat.le_refl _, fun a h => absurd h List.not_mem_nil, rfl, Nat.le_refl _⟩ eS (Imp.trans pool_nil (Imp.trans (osl_nil (E := 27) (sz := 1)) (Imp.trans (osl_nil (E := 274) (sz := 8)) (Imp.trans (osl_nil (E := 275) (sz := 4)) (Imp.pull eX (Imp.pull (A := oras x.a x.c x.ras) eX (Imp.pull (A := odn none 0 []) eX (Imp.pull (A := pool []) eX (Imp.pull (A := oras none 0 []) eX (Imp.pull (A := onum 27 .u32 none 0 []) eX (Imp.pull (A := pool x.pl) eX iM))))))))))) ?_))))
 rintro ⟨i, ⟨l, la, lc⟩, rest, ra, rc, told, ta, tc⟩ ⟨hi, hout, hol, hrest, hrl, hall, htold, htl⟩
 dsimp only at hi hout hol hrest hrl hall htold htl ⊢
 refine cZ (cZ (aZ (eZ J (eZ J (zZ J (pZ fa267_4 J (dZ (jZ (v := .slice x.a x.ras.length x.c) ti265 J (Cel.of_blk (b := d) eX J)) ?_)))))))
 refine dZ (sZ underlying265 J J) (dZ eQ ?_)
 refine fZ (bZ (lQ J (fun hc => ?_) (fun hc => ?_)))
 ·try replace hc := odT hc
  have hi' : i < x.ras.length := by omega
  have hgc : x.ras[i]? = some x.ras[i] := by simp [hi']
  generalize x.ras[i] = ca at hgc
  have hget := hx.get hgc
  have hdat := hok.data _ (List.mem_of_getElem? hget)
  have hro := hx.all ca (List.mem_of_getElem? hgc)
  have hmaj := hro.maj
  have htk := take_snoc hget
  refine lX (fun w hw => shape_rs (a := x.a) (c := x.c) (n := i) (l := x.ras) (by omega) (Ext.there Ext.here) w hw) ?_
  rintro ⟨b, o, hxa⟩
  rw [hxa]
  refine uZ (bZ (cZ (mQ (cZ (aZ (eZ J (zZ J (pZ fa267_4 J (dZ (jZ (v := .slice (some ⟨b, o, none⟩) x.ras.length x.c) ti265 J (Cel.of_blk (b := d) eX J)) ?_)))))))))
  refine eZ J (dZ (lZ underlying265 ti274 J J (by omega) (by omega)) ?_)
  refine dZ (zQ (vs := ca.cells) ti274 J (RA.len ca) (by rw [show o + (i : Int).toNat * 8 = o + i * 8 by omega]; exact (SlR.of_osl (E := 274) (a := some ⟨b, o, none⟩) (c := x.c) eX).elem RA.len hgc)) ?_
  refine kQ (pX ti274) J ?_
  rintro b9 -
  refine sQ (xQ ti274 J J fC (RA.len ca) (RA.ones ca) J) J ?_
  rintro ⟨⟩ -
  refine fZ (bZ (cZ (cZ ?_)))
  rcases (show ca.com = false ∨ (ca.com = true ∧ major < ca.major + s.latency) ∨ (ca.com = true ∧ ca.major + s.latency ≤ major) by cases ca.com <;> simp <;> omega) with hh | hh | hh
  ·have hov : over major (ca.abs s.latency) = false := over_no1 (by unfold RA.abs; dsimp only; rw [hh]; cases ca.iss <;> simp)
   refine qQ (.lo 0 1 (.lo 1 1 (.lo 2 1 (.lo 3 1 (.lo 4 1 (.lo 5 1 (.lo 6 1 (.lo 7 1 (.lo 8 1 (.lo 9 1 (.lo 10 1 (.lo 11 1 (.lo 12 1 (.lo 13 1 (.done))))))))))))))) [] [] ([]) ([]) mixed (by kernel_rfl) (Imp.none _) (Imp.none _) (wZ J fa274_7 J (hZ J (jZ (v := .bool false) ti4 J (cel_b hh (Cel.of_blk (b := b9) eX J))) ?_))
   refine hZ J (iQ J) (nZ J J (dX J J J (dX J J J (dX J J J (dX J J J (dX J J J (dX J J J (dX J J J (dX J J J (dX J J J (hZ J mZ ?_)))))))))))
   refine pQ (bZ (fQ J (cZ (aZ (eZ J (dZ (zQ (vs := ca.cells) ti274 J (RA.len ca) (Row.of_blk (b := b9) eX J)) ?_))))))
   refine kQ (aV [.tmp 42] (vs := [.agg ca.cells.toArray]) (cells := ca.cells) underlying265 ti274 J J J J (by decide) (by simp [Value.cells, RA.cells]) (by simp [Value.cells])) J ?_
   rintro b43 -
   refine kQ (fX (a := ra) (c := rc) (m := rest.length) (xs := (rest.map RA.cells).flatten) (k := 1) (ys := ca.cells) J J J underlying265 underlying265 ti274 J (by decide) fC (SlR.of_osl (a := some ⟨b43, 0, none⟩) eX) (RA.ones _) (by omega)) J ?_
   rintro ⟨a44, c44⟩ -
   refine gZ J (fZ (bZ (iX (bQ (tQ (bZ (aZ (eZ J (dZ (hQ J J wO) (gZ J (fZ (gX ⟨i + 1, ⟨l, la, lc⟩, rest ++ [ca], a44, c44, told, ta, tc⟩ ⟨by simp only; omega, by dsimp only; rw [htk, List.filter_append, List.map_append, hout]; simp [hov], by simp only; omega, by dsimp only; rw [htk, List.filter_append, List.map_append, hrest]; simp [hov], by simp only [List.length_append, List.length_cons, List.length_nil]; omega, fun a ha => by rcases List.mem_append.1 ha with ha | ha; exact hall a ha; (simp only [List.mem_cons, List.not_mem_nil, or_false] at ha; subst ha; exact hro), by dsimp only; rw [htk, List.filter_append, List.map_append, htold]; simp [hov], by simp only; omega⟩ (show x.ras.length - (i + 1) < x.ras.length - i by omega) (by dsimp only; rw [List.length_append]; exact eS) (by dsimp only [oras]; rw [List.length_append, flat_app]; exact iM)))))))))))))
  ·have hov : over major (ca.abs s.latency) = false := over_no2 (a := ca.abs s.latency) hh.2
   refine qQ (.lo 0 1 (.lo 1 1 (.lo 2 1 (.lo 3 1 (.lo 4 1 (.lo 5 1 (.lo 6 1 (.lo 7 1 (.lo 8 1 (.lo 9 1 (.lo 10 1 (.lo 11 1 (.lo 12 1 (.lo 13 1 (.done))))))))))))))) [] [] ([]) ([]) mixed (by kernel_rfl) (Imp.none _) (Imp.none _) (wZ J fa274_7 J (hZ J (jZ (v := .bool true) ti4 J (cel_b hh.1 (Cel.of_blk (b := b9) eX J))) ?_))
   refine hZ J (iQ J) (nZ J J (wZ J fa274_5 J (hZ J (jZ (v := .int .i64 ca.major) ti3 J (Cel.of_blk (b := b9) eX J)) ?_)))
   refine nZ J J (dQ J J (wZ J fa267_3 J (hZ J (jZ (v := .int .i64 s.latency) ti3 J (Cel.of_blk (b := d) eX J)) ?_)))
   refine hZ J (hQ J J wO) (nZ J J (hZ J kX ?_))
   refine hZ J mZ ?_
   refine pQ (bZ (fQ J (cZ (aZ (eZ J (dZ (zQ (vs := ca.cells) ti274 J (RA.len ca) (Row.of_blk (b := b9) eX J)) ?_))))))
   refine kQ (aV [.tmp 42] (vs := [.agg ca.cells.toArray]) (cells := ca.cells) underlying265 ti274 J J J J (by decide) (by simp [Value.cells, RA.cells]) (by simp [Value.cells])) J ?_
   rintro b43 -
   refine kQ (fX (a := ra) (c := rc) (m := rest.length) (xs := (rest.map RA.cells).flatten) (k := 1) (ys := ca.cells) J J J underlying265 underlying265 ti274 J (by decide) fC (SlR.of_osl (a := some ⟨b43, 0, none⟩) eX) (RA.ones _) (by omega)) J ?_
   rintro ⟨a44, c44⟩ -
   refine gZ J (fZ (bZ (iX (bQ (tQ (bZ (aZ (eZ J (dZ (hQ J J wO) (gZ J (fZ (gX ⟨i + 1, ⟨l, la, lc⟩, rest ++ [ca], a44, c44, told, ta, tc⟩ ⟨by simp only; omega, by dsimp only; rw [htk, List.filter_append, List.map_append, hout]; simp [hov], by simp only; omega, by dsimp only; rw [htk, List.filter_append, List.map_append, hrest]; simp [hov], by simp only [List.length_append, List.length_cons, List.length_nil]; omega, fun a ha => by rcases List.mem_append.1 ha with ha | ha; exact hall a ha; (simp only [List.mem_cons, List.not_mem_nil, or_false] at ha; subst ha; exact hro), by dsimp only; rw [htk, List.filter_append, List.map_append, htold]; simp [hov], by simp only; omega⟩ (show x.ras.length - (i + 1) < x.ras.length - i by omega) (by dsimp only; rw [List.length_append]; exact eS) (by dsimp only [oras]; rw [List.length_append, flat_app]; exact iM)))))))))))))
  ·have hov : over major (ca.abs s.latency) = true := over_yes (a := ca.abs s.latency) (by unfold RA.abs; dsimp only; rw [hh.1]; rfl) hh.2
   refine qQ (.lo 0 1 (.lo 1 1 (.lo 2 1 (.lo 3 1 (.lo 4 1 (.lo 5 1 (.lo 6 1 (.lo 7 1 (.lo 8 1 (.lo 9 1 (.lo 10 1 (.lo 11 1 (.lo 12 1 (.lo 13 1 (.done))))))))))))))) [] [] ([]) ([]) mixed (by kernel_rfl) (Imp.none _) (Imp.none _) (wZ J fa274_7 J (hZ J (jZ (v := .bool true) ti4 J (cel_b hh.1 (Cel.of_blk (b := b9) eX J))) ?_))
   refine hZ J (iQ J) (nZ J J (wZ J fa274_5 J (hZ J (jZ (v := .int .i64 ca.major) ti3 J (Cel.of_blk (b := b9) eX J)) ?_)))
   refine nZ J J (dQ J J (wZ J fa267_3 J (hZ J (jZ (v := .int .i64 s.latency) ti3 J (Cel.of_blk (b := d) eX J)) ?_)))
   refine hZ J (hQ J J wO) (nZ J J (hZ J kX ?_))
   refine hZ J mZ ?_
   refine pQ (bZ (vZ J (uZ (bZ (cZ (aZ (pZ fa274_0 J (dZ (jZ (v := .int .u32 ca.tag) ti27 J (Cel.of_blk (b := b9) eX J)) ?_))))))))
   refine pZ fa274_1 J (dZ (jZ (v := .bool ca.write) ti4 J (Cel.of_blk (b := b9) eX J)) ?_)
   refine pZ fa274_3 J (dZ (jZ (v := .int .u32 ca.addr) ti27 J (Cel.of_blk (b := b9) eX J)) ?_)
   refine dZ (aX (pvs := [(0, .int .u32 ca.tag), (1, .bool ca.write), (2, .int .u32 ca.addr)]) bu275 ti275 J (cells := CD.cells ⟨ca.tag, ca.write, ca.addr, Msg.nil⟩) J) (kQ (pX ti275) J ?_)
   rintro b10 -
   refine sQ (xQ ti275 J J fC (CD.len ⟨ca.tag, ca.write, ca.addr, Msg.nil⟩) (CD.ones ⟨ca.tag, ca.write, ca.addr, Msg.nil⟩) J) J ?_
   rintro ⟨⟩ -
   refine fZ (bZ (CG.cut (fun m : Msg => m.b = if ca.write then [] else ca.m.b) (fun _ => [(0, .pointer (some ⟨d, 0, none⟩)), (1, .int .i64 major), (5, .slice la l.length lc), (6, .slice ra rest.length rc), (7, .slice ta told.length tc), (8, .int .i64 i), (9, .pointer (some ⟨b9, 0, none⟩)), (10, .pointer (some ⟨b10, 0, none⟩))]) (fun m => blk b10 (CD.cells ⟨ca.tag, ca.write, ca.addr, m⟩) 275 :: m.own :: blk b9 ca.cells 274 :: RH d s s.last (some ⟨b, o, none⟩) x.ras.length x.c x.ta s.told.length x.tc :: oras (some ⟨b, o, none⟩) x.c x.ras :: odn la lc l :: pool (l.map CD.m) :: oras ra rc rest :: onum 27 .u32 ta tc told :: pool x.pl :: Fr) ?_ ?_))
   ·refine cZ (aZ (pZ fa274_1 J (dZ (jZ (v := .bool ca.write) ti4 J (Cel.of_blk (b := b9) eX J)) ?_)))
    refine dZ (iQ J) (fZ (bZ (lQ J (fun hc => ?_) (fun hc => ?_))))
    ·try replace hc := odT hc
     have hwf : ca.write = false := by simpa using hc
     refine aZ (kQ (sX underlying32 ti5 J) J ?_)
     rintro b55 -
     refine pZ fa274_4 J (dZ (jZ (v := ca.m.cell) ti32 J (Cel.of_blk (b := b9) eX J)) ?_)
     refine kQ (eV (a := some ⟨b55, 0, none⟩) (c := 0) (bs := []) (ys := ca.m.b) J J J underlying32 underlying32 ti5 (by decide) fC (by exact (pool_rd (ms := x.pl) eX hro.mem).slR) (by have h9 : (RA.abs s.latency ca).data = ca.m.b := rfl; rw [h9] at hdat; simp only [List.length_nil]; omega)) J ?_
     rintro ⟨am, cm⟩ -
     rw [List.nil_append]
     refine pZ fa275_3 J (sQ (uQ ti32 J J fC J (by rw [CD.len]; decide)) J ?_)
     rintro ⟨⟩ -
     exact fZ (pV ⟨am, cm, ca.m.b⟩ (by rw [hwf]; rfl) eS iM)
    ·try replace hc := odF hc
     have hwt : ca.write = true := by simpa using hc
     exact uZ (pV Msg.nil (by rw [hwt]; rfl) eS (Imp.trans own_nil iM))
   rintro m hm
   refine cZ (aZ (eZ J (dZ (zQ (vs := CD.cells ⟨ca.tag, ca.write, ca.addr, m⟩) ti275 J (CD.len _) (Row.of_blk (b := b10) eX J)) ?_)))
   refine kQ (aV [.tmp 61] (vs := [.agg (CD.cells ⟨ca.tag, ca.write, ca.addr, m⟩).toArray]) (cells := CD.cells ⟨ca.tag, ca.write, ca.addr, m⟩) underlying214 ti275 J J J J (by decide) (by simp [Value.cells, CD.cells]) (by simp [Value.cells])) J ?_
   rintro b62 -
   refine kQ (fX (a := la) (c := lc) (m := l.length) (xs := (l.map CD.cells).flatten) (k := 1) (ys := CD.cells ⟨ca.tag, ca.write, ca.addr, m⟩) J J J underlying214 underlying214 ti275 J (by decide) fC (SlR.of_osl (a := some ⟨b62, 0, none⟩) eX) (CD.ones _) (by omega)) J ?_
   rintro ⟨a63, c63⟩ -
   refine gZ J (fZ (bZ (aZ (eZ J (pZ fa274_0 J (dZ (jZ (v := .int .u32 ca.tag) ti27 J (Cel.of_blk (b := b9) eX J)) ?_))))))
   refine kQ (gV underlying37 ti27 J J J) J ?_
   rintro b67 -
   refine kQ (fX (a := ta) (c := tc) (m := told.length) (xs := intsV .u32 told) (k := 1) (ys := [.int .u32 ca.tag]) J J J underlying37 underlying37 ti27 J (by decide) fC (SlR.of_osl (a := some ⟨b67, 0, none⟩) eX) (by simp [one]) (by omega)) J ?_
   rintro ⟨a68, c68⟩ -
   refine gZ J (fZ (tZ (bZ (aZ (eZ J (dZ (hQ J J wO) (gZ J (fZ (gX ⟨i + 1, ⟨l ++ [⟨ca.tag, ca.write, ca.addr, m⟩], a63, c63⟩, rest, ra, rc, told ++ [ca.tag], a68, c68⟩ ⟨?_, ?_, ?_, ?_, ?_, hall, ?_, ?_⟩ (show x.ras.length - (i + 1) < x.ras.length - i by omega) (by dsimp only [Dns.cell]; rw [show (l ++ [(⟨ca.tag, ca.write, ca.addr, m⟩ : CD)]).length = l.length + 1 by simp, show (told ++ [ca.tag]).length = told.length + 1 by simp]; exact eS) ?_)))))))))
   ·simp only; omega
   ·dsimp only; rw [htk, List.filter_append, List.map_append, List.map_append, hout, show [ca.abs s.latency].filter (over major) = [ca.abs s.latency] by simp [hov]]; simp [CD.abs, done, RA.abs, hm]
   ·simp only [List.length_append, List.length_cons, List.length_nil]; omega
   ·dsimp only; rw [htk, List.filter_append, hrest]; simp [hov]
   ·simp only; omega
   ·dsimp only; rw [htk, List.filter_append, List.map_append, htold, show [ca.abs s.latency].filter (over major) = [ca.abs s.latency] by simp [hov]]; rfl
   ·simp only [List.length_append, List.length_cons, List.length_nil]; omega
   ·dsimp only [Dns.ms, odn]
    rw [show (l ++ [(⟨ca.tag, ca.write, ca.addr, m⟩ : CD)]).length = l.length + 1 by simp, flat_app, List.map_append, onum_app]
    exact Imp.trans (Imp.trans (Imp.pull (A := m.own) eX (Imp.pull (A := pool (l.map CD.m)) eX (Imp.refl _))) pool_add) (Imp.pull eX (Imp.pull (A := oras (some ⟨b, o, none⟩) x.c x.ras) eX (Imp.pull eX iM)))
 ·try replace hc := odF hc
  refine iX (bQ (bQ (tQ (bZ (cZ (aZ (eZ J (eZ J (zZ J (pZ fa267_4 J (sQ (uQ ti265 J J fC J (by first | (simp; done) | decide)) J ?_)))))))))))
  rintro ⟨⟩ -
  refine fZ (bZ (cZ (aZ (eZ J (eZ J (zZ J (pZ fa267_6 J (sQ (uQ ti37 J J fC J (by first | (simp; done) | decide)) J ?_))))))))
  rintro ⟨⟩ -
  refine fZ (bZ (cZ (aZ (eZ J (gZ J (fZ (bZ (rZ ?_))))))))
  have hie : i = s.asks.length := by omega
  subst hie
  rw [List.take_length] at hout hrest htold
  subst htold
  have hcl2 := rd_close (d := d) (G := Fr) (s := rdyS s major) ⟨rest, x.pl, ra, rc, ta, tc⟩ ⟨hrest, fun a ha => ⟨(hall a ha).mem, (hall a ha).com, (hall a ha).maj⟩, ⟨hok.part, hok.first, hok.count, hok.lat, Nat.le_trans (List.length_filter_le _ _) hok.asks, by dsimp only [rdyS]; omega, fun a ha => hok.data a (List.mem_filter.1 ha).1, fun a ha => hok.sec a (List.mem_filter.1 ha).1⟩⟩
  dsimp only [RO, List.cons_append, List.nil_append] at hcl2
  exact yZ J J ⟨l, la, lc⟩ hout J (Imp.pull eX (Imp.pull eX (Imp.trans (Imp.pull eX (Imp.pull (A := oras ra rc rest) eX (Imp.pull eX (Imp.pull (A := pool x.pl) eX iM)))) hcl2)))
theorem rwaiting_spec {d : Nat} {s : Ds} : Ctr prog W0 119 [.pointer (some ⟨d, 0, none⟩)] (Dd d s :: Fr) (fun _ : Option Addr × Nat => True) (fun q => .slice q.1 (s.asks.map Ak.tag).length q.2) (fun q => onum 27 .u32 q.1 q.2 (s.asks.map Ak.tag) :: Dd d s :: Fr) := by
 refine Ctr.ex Ext.here rd_open ?_
 intro x hx
 refine Ctr.imp star_open ?_
 have hln := hx.len
 have hok := hx.ok
 have hal := hx.ok.asks
 have hcl := rd_close (d := d) (G := Fr) x hx
 dsimp only [RO, List.cons_append, List.nil_append] at hcl ⊢
 refine Ctr.of_body func119 J ntmps119 J (cZ (aZ (gZ J (fZ (bZ (cZ (aZ (gZ J (fZ (bZ (cZ (cZ (aZ (gZ J (fZ (bZ (mQ (mX (fun t : Nat × List Int × Option Addr × Nat => t.1 ≤ s.asks.length ∧ t.2.1 = (s.asks.take t.1).map Ak.tag) (fun t => [(0, .pointer (some ⟨d, 0, none⟩)), (3, .slice t.2.2.1 t.2.1.length t.2.2.2), (4, .int .i64 t.1)]) (fun t => onum 27 .u32 t.2.2.1 t.2.2.2 t.2.1 :: RH d s s.last x.a x.ras.length x.c x.ta s.told.length x.tc :: oras x.a x.c x.ras :: onum 27 .u32 x.ta x.tc s.told :: pool x.pl :: Fr) (fun t => x.ras.length - t.1) (0, [], none, 0) ⟨Nat.zero_le _, rfl⟩ eS (osl_nil (E := 27) (sz := 1)) ?_))))))))))))))))))
 rintro ⟨i, l, la, lc⟩ ⟨hi, hl⟩
 dsimp only at hi hl ⊢
 have hll : l.length = i := by rw [hl, List.length_map, List.length_take]; omega
 refine cZ (cZ (aZ (eZ J (eZ J (zZ J (pZ fa267_4 J (dZ (jZ (v := .slice x.a x.ras.length x.c) ti265 J (Cel.of_blk (b := d) eX J)) ?_)))))))
 refine dZ (sZ underlying265 J J) (dZ eQ ?_)
 refine fZ (bZ (lQ J (fun hc => ?_) (fun hc => ?_)))
 ·try replace hc := odT hc
  have hi' : i < x.ras.length := by omega
  have hgc : x.ras[i]? = some x.ras[i] := by simp [hi']
  generalize x.ras[i] = ca at hgc
  have hget := hx.get hgc
  have htk := take_snoc hget
  refine lX (fun w hw => shape_rs (n := i) (l := x.ras) (by omega) eX w hw) ?_
  rintro ⟨b, o, hxa⟩
  rw [hxa]
  refine uZ (bZ (cZ (mQ (aZ (eZ J (eZ J (zZ J (pZ fa267_4 J (dZ (jZ (v := .slice (some ⟨b, o, none⟩) x.ras.length x.c) ti265 J (Cel.of_blk (b := d) eX J)) ?_)))))))))
  refine eZ J (dZ (lZ underlying265 ti274 J J (by omega) (by omega)) ?_)
  refine pZ fa274_0 J (dZ (jZ (v := .int .u32 ca.tag) ti27 J (by rw [show o + (i : Int).toNat * 8 = o + i * 8 by omega]; exact (SlR.of_osl (E := 274) (a := some ⟨b, o, none⟩) (c := x.c) eX).elem RA.len hgc 0 _ J)) ?_)
  refine kQ (gV underlying37 ti27 J J J) J ?_
  rintro b23 -
  refine kQ (fX (a := la) (c := lc) (m := l.length) (xs := intsV .u32 l) (k := 1) (ys := [.int .u32 ca.tag]) J J J underlying37 underlying37 ti27 J (by decide) fC (SlR.of_osl (a := some ⟨b23, 0, none⟩) eX) (by simp [one]) (by omega)) J ?_
  rintro ⟨a24, c24⟩ -
  refine gZ J (fZ (tZ (bZ (aZ (eZ J (dZ (hQ J J wO) (gZ J (fZ (gX (i + 1, l ++ [ca.tag], a24, c24) ⟨by simp only; omega, ?_⟩ (show x.ras.length - (i + 1) < x.ras.length - i by omega) (by dsimp only; rw [List.length_append]; exact eS) (by dsimp only; rw [onum_app]; exact iM))))))))))
  dsimp only; rw [htk, List.map_append, hl]; rfl
 ·try replace hc := odF hc
  refine iX (bQ (bQ (tQ (bZ (cZ (aZ (eZ J (gZ J (fZ (bZ (rZ ?_)))))))))))
  have hie : i = s.asks.length := by omega
  subst hie
  rw [List.take_length] at hl
  subst hl
  exact yZ J J (la, lc) trivial J (Imp.pull eX (Imp.trans iM hcl))
end
end Go.Proofs.YtphljkplokjonaaGreat.Vd
namespace Go.Proofs.YtphljkplokjonaaGreat.Hc
open Go Go.Sl Go.RowKit Go.Proofs Go.Proofs.YtphljkplokjonaaGreat.T Go.Proofs.YtphljkplokjonaaGreat.Sp Tryz
structure DP where
 e : Nat
 s : Nat
 v : Nat
 c : Nat
 d : Nat
 p : Nat
 w : Nat
abbrev deB (z : DP) (S : HS) : HProp := blk z.e [.int .i64 0, .pointer (some ⟨z.s, 0, none⟩), .pointer (some ⟨z.v, 0, none⟩), .pointer (some ⟨z.c, 0, none⟩), .pointer (some ⟨z.d, 0, none⟩), .pointer (some ⟨z.p, 0, none⟩), .int .i64 S.time, .int .i64 S.major] 213
abbrev dG (z : DP) (S : HS) (q0 : Int) (ts : List Int) (G : List HProp) : List HProp :=
 deB z S :: RS z.s z.w 0 (pvs S.o 0) ts :: RW z.w (64 - (used S.o 0 : Int)) [q0 - (used S.o 0 : Int), 8] :: Vi.R z.v S.q S.p (Vi.atOf S.set S.at') :: Vc.Rc z.c S.out S.inn :: Vd.Dd z.d S.d :: Po.Rp z.p S.acs :: G
def aA (ans cp : Int) : List Value := [.int .u32 ans, .int .u32 0, .bool false, .int .i64 cp]
theorem aA_one (ans cp : Int) : ∀ v ∈ aA ans cp, one v = true := by simp [aA, one]
def erA (e : Int) : Int := IntKind.u32.wrap (0 - (errC e : Int))
def sA (e : Int) : List Value := if e = 0 then aA 0 0 else aA (erA e) 0
theorem sA_ne {e : Int} (h : e ≠ 0) : sA e = aA (erA e) 0 := if_neg h
theorem sA_eq {e : Int} (h : e = 0) : sA e = aA 0 0 := if_pos h
theorem erA_wrap (e : Int) : IntKind.u32.wrap (0 - IntKind.u32.wrap ((errC e : Nat) : Int)) = erA e := by
 have := errC_rng e
 rw [wu32 (x := ((errC e : Nat) : Int)) (by omega) (by omega)]; rfl
section
variable (W0 : World) (Fr : List HProp)
theorem rsnd_spec {p c : Nat} {acs : List Po.AC} (part n : Int) {a : Option Addr} {bs : B} (hr : SlR W0 Fr 1 a bs.length (bytesV bs)) (hb : bs.length ≤ 2 ^ 47) :
 Ctr prog W0 105 [.pointer (some ⟨p, 0, none⟩), .int .i64 part, .int .i64 n, .slice a bs.length c] (Po.Rp p acs :: Fr) (fun _ : Unit => True) (fun _ => .int .i64 (sndP acs part n bs).1) (fun _ => Po.Rp p (sndP acs part n bs).2 :: Fr) := by
 unfold sndP
 by_cases h0 : 0 ≤ n
 ·rw [if_pos h0]
  obtain ⟨k, rfl⟩ := Int.eq_ofNat_of_zero_le h0
  cases hac : acs[(k : Int).toNat]? with
  | none =>
   rw [Int.toNat_natCast] at hac
   exact Po.rsend_out W0 Fr (r := p) part (k : Int) (.inr (by have := List.getElem?_eq_none_iff.1 hac; omega))
  | some ac =>
   rw [Int.toNat_natCast] at hac ⊢
   exact Po.rsend_in W0 Fr (r := p) part hr hb hac
 ·rw [if_neg h0]; exact Po.rsend_out W0 Fr (r := p) part n (.inl (by omega))
theorem rrcv_spec {p : Nat} {acs : List Po.AC} (part n : Int) :
 Ctr prog W0 106 [.pointer (some ⟨p, 0, none⟩), .int .i64 part, .int .i64 n] (Po.Rp p acs :: Fr) (fun z : BZ => z.b = (rcvP acs part n).2.1) (fun z => .tuple #[.slice z.a z.b.length z.c, .int .i64 (rcvP acs part n).1]) (fun z => oby 5 z.a z.c z.b :: Po.Rp p (rcvP acs part n).2.2 :: Fr) := by
 have out : (n < 0 ∨ (acs.length : Int) ≤ n) → rcvP acs part n = (210, [], acs) → Ctr prog W0 106 [.pointer (some ⟨p, 0, none⟩), .int .i64 part, .int .i64 n] (Po.Rp p acs :: Fr) (fun z : BZ => z.b = (rcvP acs part n).2.1) (fun z => .tuple #[.slice z.a z.b.length z.c, .int .i64 (rcvP acs part n).1]) (fun z => oby 5 z.a z.c z.b :: Po.Rp p (rcvP acs part n).2.2 :: Fr) := fun hn e => by
  rw [e]
  exact Ctr.re (Po.rrecv_out W0 Fr (r := p) part n hn) (fun _ => (⟨none, 0, []⟩ : BZ)) (fun _ _ => rfl) (fun _ _ => rfl) (fun _ _ => oby_nil)
 by_cases h0 : 0 ≤ n
 ·obtain ⟨k, rfl⟩ := Int.eq_ofNat_of_zero_le h0
  cases hac : acs[k]? with
  | none => exact out (.inr (by have := List.getElem?_eq_none_iff.1 hac; omega)) (by unfold rcvP; rw [if_pos h0, Int.toNat_natCast, hac])
  | some ac =>
   by_cases hto : ac.to = part
   ·cases hr : ac.r with
    | nil =>
     have e : rcvP acs part (k : Int) = (110, [], acs) := by unfold rcvP; rw [if_pos h0, Int.toNat_natCast, hac]; simp [hto, hr]
     have he : Po.recvE ac part = 110 := by unfold Po.recvE; rw [if_neg (not_not_intro hto), if_pos hr]
     have hs := Po.rrecv_bad W0 Fr (r := p) part hac (by rw [he]; decide)
     rw [he] at hs
     rw [e]
     exact Ctr.re hs (fun _ => (⟨none, 0, []⟩ : BZ)) (fun _ _ => rfl) (fun _ _ => rfl) (fun _ _ => oby_nil)
    | cons m rest =>
     have e : rcvP acs part (k : Int) = (0, m, acs.set k (if ac.kind = 2 then { ac with r := rest } else ac)) := by unfold rcvP; rw [if_pos h0, Int.toNat_natCast, hac]; simp [hto, hr]
     rw [e]
     exact Ctr.re (Po.rrecv_ok W0 Fr (r := p) part hac hto hr) (fun q => (⟨q.1, q.2, m⟩ : BZ)) (fun _ _ => rfl) (fun _ _ => rfl) (fun _ _ => Imp.refl _)
   ·have e : rcvP acs part (k : Int) = (210, [], acs) := by unfold rcvP; rw [if_pos h0, Int.toNat_natCast, hac]; simp [hto]
    have he : Po.recvE ac part = 210 := by unfold Po.recvE; rw [if_pos hto]
    have hs := Po.rrecv_bad W0 Fr (r := p) part hac (by rw [he]; decide)
    rw [he] at hs
    rw [e]
    exact Ctr.re hs (fun _ => (⟨none, 0, []⟩ : BZ)) (fun _ _ => rfl) (fun _ _ => rfl) (fun _ _ => oby_nil)
 ·exact out (.inl (by omega)) (by unfold rcvP; rw [if_neg h0])
theorem rsub_spec {d dc : Nat} {s : Vd.Ds} {write : Bool} {sector addr major : Int} {da : Option Addr} {data : B} (hr : RdB W0 Fr da dc data) (hdl : data.length ≤ 2 ^ 47) :
 Ctr prog W0 207 [.pointer (some ⟨d, 0, none⟩), .bool write, .int .i64 sector, .int .u32 addr, .slice da data.length dc, .int .i64 major] (Vd.Dd d s :: Fr) (fun _ : Unit => True) (fun _ => .tuple #[.int .u32 (subP s write sector addr data major).1, .int .i64 (subP s write sector addr data major).2.1]) (fun _ => Vd.Dd d (subP s write sector addr data major).2.2 :: Fr) := by
 unfold subP
 by_cases he : Vd.subE s write sector data.length major = 0
 ·rw [if_pos he]; exact Vd.rsubmit_ok W0 Fr hr hdl he
 ·rw [if_neg he]; exact Vd.rsubmit_bad W0 Fr he
theorem rerr_spec (e : Int) : Ctr prog W0 199 [.int .i64 e] Fr (fun _ : Unit => True) (fun _ => .int .u32 (erA e)) (fun _ => Fr) := by
 refine Ctr.of_body func199 J ntmps199 J (cZ (aZ (gZ J (fZ (bZ (cZ (aZ (gZ J (fZ (bZ (cZ (cZ (aZ (eZ J (fZ (bZ (mQ (cZ (aZ (dZ (yQ J J) (gZ J (fZ (bZ ?_)))))))))))))))))))))))
 refine lQ J (fun hc => ?_) (fun hc => ?_)
 ·try replace hc := odT hc
  subst hc
  exact aZ (gZ J (fZ (tZ (bZ (cZ (aZ (eZ J (dZ (cQ underlying27 J J J) (dZ (Yield.neg J J) (gZ J (fZ (bZ (rZ (yZ J J () trivial J iM))))))))))))))
 ·try replace hc := odF hc
  have k1 := hc
  refine cZ (aZ (dZ (yQ J J) (gZ J (fZ (bZ (lQ J (fun hc => ?_) (fun hc => ?_)))))))
  ·try replace hc := odT hc
   subst hc
   exact aZ (gZ J (fZ (tZ (bZ (cZ (aZ (eZ J (dZ (cQ underlying27 J J J) (dZ (Yield.neg J J) (gZ J (fZ (bZ (rZ (yZ J J () trivial J iM))))))))))))))
  ·try replace hc := odF hc
   have k2 := hc
   refine cZ (aZ (dZ (yQ J J) (gZ J (fZ (bZ (lQ J (fun hc => ?_) (fun hc => ?_)))))))
   ·try replace hc := odT hc
    subst hc
    exact aZ (gZ J (fZ (tZ (bZ (cZ (aZ (eZ J (dZ (cQ underlying27 J J J) (dZ (Yield.neg J J) (gZ J (fZ (bZ (rZ (yZ J J () trivial J iM))))))))))))))
   ·try replace hc := odF hc
    have k3 := hc
    refine cZ (aZ (dZ (yQ J J) (gZ J (fZ (bZ (lQ J (fun hc => ?_) (fun hc => ?_)))))))
    ·try replace hc := odT hc
     subst hc
     exact aZ (gZ J (fZ (tZ (bZ (cZ (aZ (eZ J (dZ (cQ underlying27 J J J) (dZ (Yield.neg J J) (gZ J (fZ (bZ (rZ (yZ J J () trivial J iM))))))))))))))
    ·try replace hc := odF hc
     have k4 := hc
     refine cZ (aZ (dZ (yQ J J) (gZ J (fZ (bZ (lQ J (fun hc => ?_) (fun hc => ?_)))))))
     ·try replace hc := odT hc
      subst hc
      exact aZ (gZ J (fZ (tZ (bZ (cZ (aZ (eZ J (dZ (cQ underlying27 J J J) (dZ (Yield.neg J J) (gZ J (fZ (bZ (rZ (yZ J J () trivial J iM))))))))))))))
     ·try replace hc := odF hc
      have k5 := hc
      refine cZ (aZ (dZ (yQ J J) (gZ J (fZ (bZ (lQ J (fun hc => ?_) (fun hc => ?_)))))))
      ·try replace hc := odT hc
       subst hc
       exact aZ (gZ J (fZ (tZ (bZ (cZ (aZ (eZ J (dZ (cQ underlying27 J J J) (dZ (Yield.neg J J) (gZ J (fZ (bZ (rZ (yZ J J () trivial J iM))))))))))))))
      ·try replace hc := odF hc
       have k6 := hc
       exact uZ (tZ (bZ (cZ (aZ (eZ J (dZ (cQ underlying27 J J J) (dZ (Yield.neg J J) (gZ J (fZ (bZ (rZ (yZ J J () trivial (by rw [← erA_wrap, show errC e = 3 by unfold errC; rw [if_neg k1, if_neg k2, if_neg k3, if_neg k4, if_neg k5, if_neg k6]]; rfl) iM))))))))))))
theorem said_spec (e : Int) : Ctr prog W0 157 [.int .i64 e] Fr (fun _ : Unit => True) (fun _ => .agg (sA e).toArray) (fun _ => Fr) := by
 refine Ctr.of_body func157 J ntmps157 J (cZ (aZ (kQ (pX ti217) J ?_)))
 rintro b2 -
 refine fZ (bZ (cZ (cZ (aZ (eZ J (dZ (nX J J) (fZ (bZ (lQ J (fun hc => ?_) (fun hc => ?_))))))))))
 ·try replace hc := odT hc
  rw [sA_ne hc]
  refine cZ (aZ (eZ J (oZ call199 J (Imp.refl _) (rerr_spec W0 _ e) J ?_)))
  rintro ⟨⟩ -
  refine dZ (aX bu217 ti217 J (cells := aA (erA e) 0) J) (sQ (xQ ti217 J J fC J (aA_one _ _) J) J ?_)
  rintro ⟨⟩ -
  exact fZ (bZ (rZ (qZ (hX [.agg (aA _ _).toArray] J ⟨ResP.agg ti217 J J (fun j v hj => Cel.of_blk (b := b2) eX (by rw [Nat.zero_add j]; exact hj)), trivial⟩ () trivial J iM))))
 ·try replace hc := odF hc
  rw [sA_eq (Decidable.not_not.1 hc)]
  refine uZ (bZ (cZ (aZ (dZ (aX bu217 ti217 J (cells := aA 0 0) J) (sQ (xQ ti217 J J fC J (aA_one _ _) J) J ?_)))))
  rintro ⟨⟩ -
  exact fZ (bZ (rZ (hX [.agg (aA _ _).toArray] J ⟨ResP.agg ti217 J J (fun j v hj => Cel.of_blk (b := b2) eX (by rw [Nat.zero_add j]; exact hj)), trivial⟩ () trivial J iM)))
variable {z : DP} {S : HS} {q0 : Int} {ts : List Int} {a b c : Nat} {R : List Value}
theorem rwrites_spec (hK : ObK S.o 0) (ha : a < 4294967296) (hb : b < 4294967296) (ho : S.out.length ≤ 64) : Ctr prog W0 161 [.pointer (some ⟨z.e, 0, none⟩), .int .u32 a, .int .u32 b] (dG z S q0 ts Fr) (fun _ : Unit => True)
 (fun _ => .agg (aA (fin S R (ocWrite S R a b)).ans (fin S R (ocWrite S R a b)).cp).toArray) (fun _ => dG z (fin S R (ocWrite S R a b)).S q0 ts Fr) := by
 generalize hm : fin S R (ocWrite S R a b) = m
 refine Ctr.of_body func161 J ntmps161 J (cZ (aZ (kQ (pX ti217) J ?_)))
 rintro b6 -
 refine fZ (bZ (cZ (cZ (aZ (eZ J (dZ (qV J J) (fZ (bZ (lQ J (fun hc => ?_) (fun hc => ?_))))))))))
 ·try replace hc := odT hc
  obtain rfl : (⟨4294967293, 0, 0, S, R⟩ : MO) = m := by rw [← hm]; unfold ocWrite; rw [if_pos (by omega)]; rfl
  refine cZ (aZ (oZ call157 J (Imp.refl _) (said_spec W0 _ 2) J ?_))
  rintro ⟨⟩ -
  rw [show sA 2 = aA 4294967293 0 from J]
  refine sQ (xQ ti217 J J fC J (aA_one _ _) J) J ?_
  rintro ⟨⟩ -
  exact fZ (bZ (rZ (qZ (hX [.agg (aA _ _).toArray] J ⟨ResP.agg ti217 J J (fun j v hj => Cel.of_blk (b := b6) eX (by rw [Nat.zero_add j]; exact hj)), trivial⟩ () trivial J iM))))
 ·try replace hc := odF hc
  have hb64 : b ≤ 64 := by omega
  refine uZ (bZ (cZ (aZ (eZ J (zZ J (pZ fa213_1 J (dZ (iZ ti200 J) ?_)))))))
  refine eZ J (eZ J (dZ (cQ (c := (b : Int)) underlying3 J J wO) (oZ call203 J (iM) (rin_spec W0 _ (b := z.s) (w := z.w) (k := 0) (o := S.o) (ts := ts) hK ha (b : Int)) J ?_)))
  rintro ⟨ia, ic, ib⟩ hib
  dsimp only at hib ⊢
  subst hib
  have hil := inO_le S.o 0 a b
  refine eZ J (dZ (xZ J J) (dZ (xZ J J) (gZ J (gZ J (fZ (bZ (cZ (cZ (aZ (eZ J (dZ (nX J J) (fZ (bZ (lQ J (fun hc => ?_) (fun hc => ?_)))))))))))))))
  ·try replace hc := odT hc
   obtain rfl : (⟨erA (inO S.o 0 a (b : Int)).2, 0, 0, S, R⟩ : MO) = m := by rw [← hm]; unfold ocWrite; rw [if_neg (by omega)]; dsimp only; rw [if_neg hc]; rfl
   refine cZ (aZ (eZ J (oZ call157 J (Imp.refl _) (said_spec W0 _ (inO S.o 0 a (b : Int)).2) J ?_)))
   rintro ⟨⟩ -
   rw [sA_ne hc]
   refine sQ (xQ ti217 J J fC J (aA_one _ _) J) J ?_
   rintro ⟨⟩ -
   exact fZ (bZ (rZ (qZ (hX [.agg (aA _ _).toArray] J ⟨ResP.agg ti217 J J (fun j v hj => Cel.of_blk (b := b6) eX (by rw [Nat.zero_add j]; exact hj)), trivial⟩ () trivial J iM))))
  ·try replace hc := odF hc
   have h0 : (inO S.o 0 a (b : Int)).2 = 0 := Decidable.not_not.1 hc
   obtain rfl : (⟨((min (inO S.o 0 a (b : Int)).1.length (64 - S.out.length) : Nat) : Int), ((min (inO S.o 0 a (b : Int)).1.length (64 - S.out.length) : Nat) : Int), 0, wrO S (inO S.o 0 a (b : Int)).1, R⟩ : MO) = m := by rw [← hm]; unfold ocWrite; rw [if_neg (by omega)]; dsimp only; rw [if_pos h0]; rfl
   refine uZ (bZ (cZ (aZ (eZ J (zZ J (pZ fa213_3 J (dZ (iZ ti208 J) ?_)))))))
   refine eZ J (oZ call204 J (iM) (Vc.rwrite_spec W0 _ (r := z.c) (out := S.out) (inn := S.inn) (ds := (inO S.o 0 a (b : Int)).1) (a2 := ia) (c2 := ic) (by exact RdB.of_osl (E := 5) eX J J) (by omega) ho) J ?_)
   rintro ⟨⟩ -
   refine gZ J (fZ (bZ (cZ (aZ (eZ J (dZ (cQ (c := ((min (inO S.o 0 a (b : Int)).1.length (64 - S.out.length) : Nat) : Int)) underlying27 J J (wu32 (by omega) (by omega))) ?_))))))
   refine eZ J (dZ (aX bu217 ti217 J (cells := aA ((min (inO S.o 0 a (b : Int)).1.length (64 - S.out.length) : Nat) : Int) ((min (inO S.o 0 a (b : Int)).1.length (64 - S.out.length) : Nat) : Int)) J) (sQ (xQ ti217 J J fC J (aA_one _ _) J) J ?_))
   rintro ⟨⟩ -
   exact fZ (bZ (rZ (hX [.agg (aA _ _).toArray] J ⟨ResP.agg ti217 J J (fun j v hj => Cel.of_blk (b := b6) eX (by rw [Nat.zero_add j]; exact hj)), trivial⟩ () trivial J iM)))
theorem rroom_spec (ha : a < 4294967296) : Ctr prog W0 206 [.pointer (some ⟨z.e, 0, none⟩), .int .u32 a] (dG z S q0 ts Fr) (fun _ : Unit => True) (fun _ => .bool (roomO S.o a 64)) (fun _ => dG z S q0 ts Fr) := by
 refine Ctr.of_body func206 J ntmps206 J (cZ (aZ (gZ J (fZ (bZ (cZ (cZ (aZ (gZ J (fZ (bZ (mQ (mX (fun i : Nat => i ≤ 64 ∧ roomO S.o a i = true) (fun i => [(0, .pointer (some ⟨z.e, 0, none⟩)), (1, .int .u32 a), (5, .int .i64 i)]) (fun _ => dG z S q0 ts Fr) (fun i => 64 - i) 0 ⟨Nat.zero_le _, rfl⟩ eS iM ?_)))))))))))))
 rintro i ⟨hi, hro⟩
 have hrs := roomO_succ (o := S.o) (ad := a) (n := i)
 rw [hro, Bool.true_and] at hrs
 refine cZ (cZ (aZ (eZ J (dZ eQ ?_))))
 refine fZ (bZ (lQ J (fun hc => ?_) (fun hc => ?_)))
 ·try replace hc := odT hc
  have hi' : i < 64 := by omega
  refine uZ (bZ (cZ (mQ (cZ (aZ (eZ J (dZ (cQ (c := (a : Int)) underlying3 J J wO) (eZ J (dZ (hQ (c := ((a + i : Nat) : Int)) J J (by rw [w64 (by omega) (by omega)]; omega)) ?_)))))))))
  refine gZ J (fZ (bZ (cZ ?_)))
  rcases (show 1048576 ≤ a + i ∨ (a + i < 1048576 ∧ Go.bits .and .i64 (prmO S.o 0 (((a + i) / 256 : Nat) : Int)) 2 = 0) ∨ (a + i < 1048576 ∧ Go.bits .and .i64 (prmO S.o 0 (((a + i) / 256 : Nat) : Int)) 2 ≠ 0) by by_cases q1 : 1048576 ≤ a + i <;> by_cases q2 : Go.bits .and .i64 (prmO S.o 0 (((a + i) / 256 : Nat) : Int)) 2 = 0 <;> simp [q1, q2] <;> omega) with q | q | q
  ·refine aZ (eZ J (dZ (oQ (oV J J) (v' := .bool true) (bT (by omega))) ?_))
   refine eZ J (gQ J J J J J (gQ J J J J J (gQ J J J J J (gQ J J J J J (gQ J J J J J (gQ J J J J J (gQ J J J J J (gQ J J J J J (gQ J J J J J (dZ mZ ?_))))))))))
   refine fZ (bZ (fQ J (cZ (aZ (gZ J (fZ (bZ (rZ (nQ (qZ (qZ (nQ (qZ ?_)))))))))))))
   rw [roomO_no (n := i + 1) (m := 64) (by omega) (by rw [hrs, decide_eq_false (by omega)]; rfl)]
   exact yZ J J () trivial J iM
  ·refine aZ (eZ J (dZ (oQ (oV J J) (v' := .bool false) (bF (by omega))) ?_))
   refine eZ J (kZ J J (eZ J (kZ J J (zZ J (kZ J J (pZ fa213_1 J (kZ J J (dZ (iZ ti200 J) ?_))))))))
   refine kZ J J (eZ J (kZ J J (dZ (oQ (dV J J (by omega) (tdiv_pos (by omega) (by omega) (by omega))) (v' := .int .i64 (((a + i) / 256 : Nat) : Int)) (by congr 1)) ?_)))
   refine kZ J J (oZ call197 J (iM) (rperm_spec W0 _ (b := z.s) (w := z.w) (k := 0) (o := S.o) (ts := ts) (((a + i) / 256 : Nat) : Int)) J ?_)
   rintro ⟨⟩ -
   refine kZ J J (dZ (cV J J J J) (kZ J J (dZ (oQ (yQ J J) (v' := .bool true) (bT q.2)) (dZ mZ ?_))))
   refine fZ (bZ (fQ J (cZ (aZ (gZ J (fZ (bZ (rZ (nQ (qZ (qZ (nQ (qZ ?_)))))))))))))
   rw [roomO_no (n := i + 1) (m := 64) (by omega) (by rw [hrs, decide_eq_true q.1, decide_eq_false (not_not_intro q.2)]; rfl)]
   exact yZ J J () trivial J iM
  ·refine aZ (eZ J (dZ (oQ (oV J J) (v' := .bool false) (bF (by omega))) ?_))
   refine eZ J (kZ J J (eZ J (kZ J J (zZ J (kZ J J (pZ fa213_1 J (kZ J J (dZ (iZ ti200 J) ?_))))))))
   refine kZ J J (eZ J (kZ J J (dZ (oQ (dV J J (by omega) (tdiv_pos (by omega) (by omega) (by omega))) (v' := .int .i64 (((a + i) / 256 : Nat) : Int)) (by congr 1)) ?_)))
   refine kZ J J (oZ call197 J (iM) (rperm_spec W0 _ (b := z.s) (w := z.w) (k := 0) (o := S.o) (ts := ts) (((a + i) / 256 : Nat) : Int)) J ?_)
   rintro ⟨⟩ -
   refine kZ J J (dZ (cV J J J J) (kZ J J (dZ (oQ (yQ J J) (v' := .bool false) (bF q.2)) (dZ mZ ?_))))
   exact fZ (bZ (vZ J (uZ (tZ (bZ (aZ (eZ J (dZ (hQ J J wO) (gZ J (fZ (gX (i + 1) ⟨by omega, by rw [hrs, decide_eq_true q.1, decide_eq_true q.2]; rfl⟩ (by omega) eS iM)))))))))))
 ·try replace hc := odF hc
  refine iX (bQ (bQ (tQ (bZ (cZ (aZ (gZ J (fZ (bZ (rZ ?_))))))))))
  obtain rfl : i = 64 := by omega
  rw [hro]
  exact yZ J J () trivial J iM
end
theorem rc_shut {r : Nat} {out inn : B} {a a' : Option Addr} {c c' : Nat} {G : List HProp} : Imp (blk r [.slice a out.length c, .slice a' inn.length c'] 220 :: oby 5 a c out :: oby 5 a' c' inn :: G) (Vc.Rc r out inn :: G) := Vc.rc_close ((a, c), (a', c'))
theorem rd_shut {d : Nat} {s : Vd.Ds} {G : List HProp} (x : Vd.RX) (hx : x.OK s) : Imp (Vd.RH d s s.last x.a x.ras.length x.c x.ta s.told.length x.tc :: Vd.oras x.a x.c x.ras :: Ms.onum 27 .u32 x.ta x.tc s.told :: Ms.pool x.pl :: G) (Vd.Dd d s :: G) := Vd.rd_close x hx
theorem used_out {o : Ob} {k k' ad : Nat} {b : B} : used (outR o k ad b).2 k' = used o k' := by
 unfold outR
 split
 ·rfl
 ·split
  ·unfold used
   have e : (fun p => ((outO o k ad b b.length).vw k' p).isSome) = fun p => (o.vw k' p).isSome := by
    funext p; show ((o.vw k' p).map _).isSome = _; cases o.vw k' p <;> rfl
   show 1 + cN (o.ts k') 64 + cN (fun p => ((outO o k ad b b.length).vw k' p).isSome) 4096 = _
   rw [e]
  ·rfl
theorem drop_tk {l : B} {b : Nat} : l.drop (l.take b).length = l.drop b := by
 rw [List.length_take]
 by_cases q : b ≤ l.length
 ·rw [Nat.min_eq_left q]
 ·rw [Nat.min_eq_right (by omega), List.drop_length, List.drop_eq_nil_of_le (by omega)]
section
variable (W0 : World) (Fr : List HProp)
variable {z : DP} {S : HS} {q0 : Int} {ts : List Int} {a b c : Nat} {R : List Value}
set_option maxHeartbeats 2000000 in
theorem rreads_spec (hK : ObK S.o 0) (ha : a < 4294967296) (hb : b < 4294967296) (hi : S.inn.length ≤ 64) : Ctr prog W0 162 [.pointer (some ⟨z.e, 0, none⟩), .int .u32 a, .int .u32 b] (dG z S q0 ts Fr) (fun _ : Unit => True)
 (fun _ => .agg (aA (fin S R (ocRead S R a b)).ans (fin S R (ocRead S R a b)).cp).toArray) (fun _ => dG z (fin S R (ocRead S R a b)).S q0 ts Fr) := by
 generalize hm : fin S R (ocRead S R a b) = m
 refine Ctr.of_body func162 J ntmps162 J (cZ (aZ (kQ (pX ti217) J ?_)))
 rintro b6 -
 refine fZ (bZ (cZ (cZ (aZ (eZ J (dZ (qV J J) (fZ (bZ (lQ J (fun hc => ?_) (fun hc => ?_))))))))))
 ·try replace hc := odT hc
  obtain rfl : (⟨4294967293, 0, 0, S, R⟩ : MO) = m := by rw [← hm]; unfold ocRead; rw [if_pos (by omega)]; rfl
  refine cZ (aZ (oZ call157 J (Imp.refl _) (said_spec W0 _ 2) J ?_))
  rintro ⟨⟩ -
  rw [show sA 2 = aA 4294967293 0 from J]
  refine sQ (xQ ti217 J J fC J (aA_one _ _) J) J ?_
  rintro ⟨⟩ -
  exact fZ (bZ (rZ (qZ (hX [.agg (aA _ _).toArray] J ⟨ResP.agg ti217 J J (fun j v hj => Cel.of_blk (b := b6) eX (by rw [Nat.zero_add j]; exact hj)), trivial⟩ () trivial J iM))))
 ·try replace hc := odF hc
  have hb64 : b ≤ 64 := by omega
  have hbl : (S.inn.take b).length ≤ 64 := by rw [List.length_take]; omega
  refine uZ (bZ (cZ (kV (A := Vc.Rc z.c S.out S.inn) eX Vc.rc_open ?_)))
  rintro ⟨⟨oa, oc⟩, na, nc⟩ -
  refine rX star_open ?_
  dsimp only [Vc.RcO, List.cons_append, List.nil_append]
  refine lX (fun w hw => (osl_facts (W0 := W0) (E := 5) (sz := 1) (a := na) (c := nc) (m := S.inn.length) (xs := bytesV S.inn) eX w hw).2) ?_
  intro hcap
  refine aZ (eZ J (dZ (cQ (c := (b : Int)) underlying3 J J wO) (eZ J (zZ J (pZ fa213_3 J (dZ (jZ (v := .pointer (some ⟨z.c, 0, none⟩)) ti208 J (Cel.of_blk (b := z.e) eX J)) ?_))))))
  refine zZ J (pZ fa220_1 J (dZ (jZ (v := .slice na S.inn.length nc) ti32 J (Cel.of_blk (b := z.c) eX J)) ?_))
  refine dZ (sZ underlying32 J J) (dZ (oQ (mV J J) (v' := .int .i64 ((S.inn.take b).length : Nat)) (by rw [List.length_take]; congr 1; omega)) ?_)
  refine gZ J (fZ (bZ (cZ (qQ (.lo 0 0 (.lo 1 0 (.lo 2 0 (.lo 3 0 (.lo 4 0 (.lo 6 0 (.lo 7 0 (.lo 8 0 (.lo 9 0 (.lo 10 0 (.lo 11 0 (.lo 12 0 (.lo 13 0 (.lo 14 0 (.eff1 5 false (.eff1 15 false (.eff1 16 false (.lo 17 1 (.done))))))))))))))))))) [5, 15, 16] [] ([deB z S, blk z.c [.slice oa S.out.length oc, .slice na S.inn.length nc] 220]) ([]) mixed (by kernel_rfl) iM (Imp.none _) ?_))))
  refine nZ J J (dQ J J (wZ J fa213_1 J (hZ J (jZ (v := .pointer (some ⟨z.s, 0, none⟩)) ti200 J (Cel.of_blk (b := z.e) eX J)) ?_)))
  refine nZ J J (nZ J J (dQ J J (wZ J fa213_3 J (hZ J (jZ (v := .pointer (some ⟨z.c, 0, none⟩)) ti208 J (Cel.of_blk (b := z.e) eX J)) ?_))))
  refine dQ J J (wZ J fa220_1 J (hZ J (jZ (v := .slice na S.inn.length nc) ti32 J (Cel.of_blk (b := z.c) eX J)) ?_))
  refine nZ J J (hZ J (oQ (sV underlying32 ti5 J (Bound.some J) (by omega) (by rw [List.length_take]; omega)) (v' := .slice na (S.inn.take b).length nc) (by rw [Int.toNat_natCast])) ?_)
  refine aQ (wQ J J (sX underlying32 ti5 J) J (fun _ => iM) (fun _ => Imp.refl _) (fun _ => iM) ?_)
  rintro b28 -
  refine aQ (wQ J J (nV J J J underlying32 underlying32 ti5 (by decide) fC ((SlR.of_osl (E := 5) (a := na) (c := nc) eX).takeB b) (by omega)) J (fun _ => iM) (fun _ => Imp.refl _) (fun _ => iM) ?_)
  rintro ⟨a38, c38⟩ -
  refine aQ (rQ J J call115 J (iM) (rout_spec W0 _ (b := z.s) (w := z.w) (k := 0) (o := S.o) (ts := ts) hK ha (ba := a38) (bc := c38) (bs := S.inn.take b) (by exact RdB.of_osl (E := 5) eX J J)) J (fun _ => iM) (fun _ => Imp.refl _) (fun _ => iM) ?_)
  rintro ⟨⟩ -
  refine hZ J (jQ J) (pQ (bZ (cZ (cZ (aZ (eZ J (dZ (nX J J) (fZ (bZ (lQ J (fun hc => ?_) (fun hc => ?_)))))))))))
  ·try replace hc := odT hc
   obtain rfl : (⟨erA (outR S.o 0 a (S.inn.take b)).1, 0, 0, S, R⟩ : MO) = m := by rw [← hm]; unfold ocRead; rw [if_neg (by omega)]; dsimp only; rw [if_neg hc]; rfl
   rw [out_same hc]
   refine rX (Imp.trans iM (rc_shut (r := z.c) (out := S.out) (inn := S.inn) (a := oa) (c := oc) (a' := na) (c' := nc))) ?_
   refine cZ (aZ (eZ J (oZ call157 J (Imp.refl _) (said_spec W0 _ (outR S.o 0 a (S.inn.take b)).1) J ?_)))
   rintro ⟨⟩ -
   rw [sA_ne hc]
   refine sQ (xQ ti217 J J fC J (aA_one _ _) J) J ?_
   rintro ⟨⟩ -
   exact fZ (bZ (rZ (qZ (hX [.agg (aA _ _).toArray] J ⟨ResP.agg ti217 J J (fun j v hj => Cel.of_blk (b := b6) eX (by rw [Nat.zero_add j]; exact hj)), trivial⟩ () trivial J iM))))
  ·try replace hc := odF hc
   have h0 : (outR S.o 0 a (S.inn.take b)).1 = 0 := Decidable.not_not.1 hc
   obtain rfl : (⟨((S.inn.take b).length : Nat), ((S.inn.take b).length : Nat), 0, { S with o := (outR S.o 0 a (S.inn.take b)).2, inn := S.inn.drop b }, R⟩ : MO) = m := by rw [← hm]; unfold ocRead; rw [if_neg (by omega)]; dsimp only; rw [if_pos h0]; rfl
   refine rX (Imp.trans iM (rc_shut (r := z.c) (out := S.out) (inn := S.inn) (a := oa) (c := oc) (a' := na) (c' := nc))) ?_
   refine uZ (bZ (cZ (aZ (eZ J (zZ J (pZ fa213_3 J (dZ (iZ ti208 J) ?_)))))))
   refine eZ J (oZ call205 J (iM) (Vc.rread_spec W0 _ (r := z.c) (out := S.out) (inn := S.inn) ((S.inn.take b).length : Nat) (S.inn.take b).length (by rw [List.length_take]; omega) hi) J ?_)
   rintro ⟨ja, jc⟩ -
   rw [drop_tk]
   refine fZ (bZ (cZ (aZ (eZ J (dZ (cQ (c := ((S.inn.take b).length : Nat)) underlying27 J J (wu32 (by omega) (by omega))) ?_)))))
   refine eZ J (dZ (aX bu217 ti217 J (cells := aA ((S.inn.take b).length : Nat) ((S.inn.take b).length : Nat)) J) (sQ (xQ ti217 J J fC J (aA_one _ _) J) J ?_))
   rintro ⟨⟩ -
   exact fZ (bZ (rZ (hX [.agg (aA _ _).toArray] J ⟨ResP.agg ti217 J J (fun j v hj => Cel.of_blk (b := b6) eX (by rw [Nat.zero_add j]; exact hj)), trivial⟩ () trivial J (by dsimp only [dG, deB]; rw [used_out]; exact iM))))
set_option maxHeartbeats 2000000 in
theorem rdiskW_spec (hK : ObK S.o 0) (ha : a < 4294967296) (hb : b < 4294967296) : Ctr prog W0 163 [.pointer (some ⟨z.e, 0, none⟩), .bool true, .int .u32 a, .int .u32 b] (dG z S q0 ts Fr) (fun _ : Unit => True)
 (fun _ => .agg (aA (fin S R (ocDiskW S R a b)).ans (fin S R (ocDiskW S R a b)).cp).toArray) (fun _ => dG z (fin S R (ocDiskW S R a b)).S q0 ts Fr) := by
 generalize hm : fin S R (ocDiskW S R a b) = m
 refine Ctr.of_body func163 J ntmps163 J (cZ (aZ (kQ (pX ti217) J ?_)))
 rintro b8 -
 refine fZ (bZ (cZ (aZ (gZ J (fZ (bZ (cZ (aZ (gZ J (fZ (bZ (cZ (cZ (aZ (eZ J (fZ (bZ (fQ J (cZ (aZ (eZ J (zZ J (pZ fa213_1 J ?_)))))))))))))))))))))))
 refine dZ (iZ ti200 J) ?_
 refine eZ J (oZ call203 J (iM) (rin_spec W0 _ (b := z.s) (w := z.w) (k := 0) (o := S.o) (ts := ts) hK hb ((64 : Nat) : Int)) J ?_)
 rintro ⟨ia, ic, ib⟩ hib
 dsimp only at hib ⊢
 subst hib
 have hil := inO_le S.o 0 b 64
 refine eZ J (dZ (xZ J J) (dZ (xZ J J) (gZ J (gZ J (fZ (bZ (cZ (cZ (aZ (eZ J (dZ (nX J J) (fZ (bZ (lQ J (fun hc => ?_) (fun hc => ?_)))))))))))))))
 ·try replace hc := odT hc
  obtain rfl : (⟨erA (inO S.o 0 b ((64 : Nat) : Int)).2, 0, 0, S, R⟩ : MO) = m := by rw [← hm]; unfold ocDiskW; dsimp only; rw [if_neg hc]; rfl
  refine cZ (aZ (eZ J (oZ call157 J (Imp.refl _) (said_spec W0 _ (inO S.o 0 b ((64 : Nat) : Int)).2) J ?_)))
  rintro ⟨⟩ -
  rw [sA_ne hc]
  refine sQ (xQ ti217 J J fC J (aA_one _ _) J) J ?_
  rintro ⟨⟩ -
  exact fZ (bZ (rZ (qZ (qZ (hX [.agg (aA _ _).toArray] J ⟨ResP.agg ti217 J J (fun j v hj => Cel.of_blk (b := b8) eX (by rw [Nat.zero_add j]; exact hj)), trivial⟩ () trivial J iM)))))
 ·try replace hc := odF hc
  have h0 : (inO S.o 0 b ((64 : Nat) : Int)).2 = 0 := Decidable.not_not.1 hc
  have hl64 := inO_len h0
  refine uZ (bZ (cZ (aZ (eZ J (gZ J (fZ (bZ (aZ (gZ J (fZ (bZ (cZ (qQ (.lo 0 1 (.lo 1 1 (.lo 2 1 (.lo 3 1 (.lo 4 1 (.lo 5 1 (.lo 6 1 (.lo 7 1 (.lo 8 1 (.lo 9 1 (.lo 10 1 (.lo 11 1 (.lo 12 1 (.eff1 13 false (.lo 14 1 (.lo 15 1 (.lo 16 1 (.lo 17 1 (.lo 18 1 (.done)))))))))))))))))))) [13] [] ([]) ([]) mixed (by kernel_rfl) (Imp.none _) (Imp.none _) (nZ J J (dQ J J (wZ J fa213_4 J (hZ J (jZ (v := .pointer (some ⟨z.d, 0, none⟩)) ti203 J (Cel.of_blk (b := z.e) eX J)) ?_)))))))))))))))))
  refine nZ J J (nZ J J (hZ J (cQ (c := (a : Int)) underlying3 J J wO) (nZ J J (nZ J J (nZ J J (dQ J J (wZ J fa213_7 J (hZ J (jZ (v := .int .i64 S.major) ti3 J (Cel.of_blk (b := z.e) eX J)) ?_))))))))
  refine aQ (rQ J J call207 J (iM) (rsub_spec W0 _ (d := z.d) (s := S.d) (write := true) (sector := a) (addr := b) (major := S.major) (da := ia) (dc := ic) (data := (inO S.o 0 b ((64 : Nat) : Int)).1) (by exact RdB.of_osl (E := 5) eX J J) (by omega)) J (fun _ => iM) (fun _ => Imp.refl _) (fun _ => iM) ?_)
  rintro ⟨⟩ -
  refine nZ J J (hZ J (xZ J J) (hZ J (xZ J J) (hZ J (jQ J) (hZ J (jQ J) (pQ (bZ (cZ (cZ (aZ (eZ J (dZ (nX J J) (fZ (bZ (lQ J (fun hc => ?_) (fun hc => ?_)))))))))))))))
  ·try replace hc := odT hc
   obtain rfl : (⟨erA (subP S.d true a b (inO S.o 0 b ((64 : Nat) : Int)).1 S.major).2.1, 0, 0, S, R⟩ : MO) = m := by rw [← hm]; unfold ocDiskW; dsimp only; rw [if_pos h0, if_neg hc]; rfl
   rw [sub_same hc]
   refine cZ (aZ (eZ J (oZ call157 J (Imp.refl _) (said_spec W0 _ (subP S.d true a b (inO S.o 0 b ((64 : Nat) : Int)).1 S.major).2.1) J ?_)))
   rintro ⟨⟩ -
   rw [sA_ne hc]
   refine sQ (xQ ti217 J J fC J (aA_one _ _) J) J ?_
   rintro ⟨⟩ -
   exact fZ (bZ (rZ (qZ (hX [.agg (aA _ _).toArray] J ⟨ResP.agg ti217 J J (fun j v hj => Cel.of_blk (b := b8) eX (by rw [Nat.zero_add j]; exact hj)), trivial⟩ () trivial J iM))))
  ·try replace hc := odF hc
   have h1 : (subP S.d true a b (inO S.o 0 b ((64 : Nat) : Int)).1 S.major).2.1 = 0 := Decidable.not_not.1 hc
   obtain rfl : (⟨(subP S.d true a b (inO S.o 0 b ((64 : Nat) : Int)).1 S.major).1, 64, 0, { S with d := (subP S.d true a b (inO S.o 0 b ((64 : Nat) : Int)).1 S.major).2.2 }, R⟩ : MO) = m := by rw [← hm]; unfold ocDiskW; dsimp only; rw [if_pos h0, if_pos h1, hl64]; rfl
   refine uZ (bZ (cZ (aZ (eZ J (eZ J (dZ (aX bu217 ti217 J (cells := aA (subP S.d true a b (inO S.o 0 b ((64 : Nat) : Int)).1 S.major).1 64) J) (sQ (xQ ti217 J J fC J (aA_one _ _) J) J ?_)))))))
   rintro ⟨⟩ -
   exact fZ (bZ (rZ (hX [.agg (aA _ _).toArray] J ⟨ResP.agg ti217 J J (fun j v hj => Cel.of_blk (b := b8) eX (by rw [Nat.zero_add j]; exact hj)), trivial⟩ () trivial J iM)))
set_option maxHeartbeats 2000000 in
theorem rdiskR_spec (ha : a < 4294967296) (hb : b < 4294967296) : Ctr prog W0 163 [.pointer (some ⟨z.e, 0, none⟩), .bool false, .int .u32 a, .int .u32 b] (dG z S q0 ts Fr) (fun _ : Unit => True)
 (fun _ => .agg (aA (fin S R (ocDiskR S R a b)).ans (fin S R (ocDiskR S R a b)).cp).toArray) (fun _ => dG z (fin S R (ocDiskR S R a b)).S q0 ts Fr) := by
 generalize hm : fin S R (ocDiskR S R a b) = m
 refine Ctr.of_body func163 J ntmps163 J (cZ (aZ (kQ (pX ti217) J ?_)))
 rintro b8 -
 refine fZ (bZ (cZ (aZ (gZ J (fZ (bZ (cZ (aZ (gZ J (fZ (bZ (cZ (cZ (aZ (eZ J (fZ (bZ (vZ J (cZ (aZ (eZ J (eZ J (oZ call206 J (iM) (rroom_spec W0 _ (z := z) (S := S) (q0 := q0) (ts := ts) (a := b) hb) J ?_)))))))))))))))))))))))
 rintro ⟨⟩ -
 refine dZ (iQ J) (fZ (bZ (lQ J (fun hc => ?_) (fun hc => ?_))))
 ·try replace hc := odT hc
  have hr : roomO S.o b 64 = false := by simpa using hc
  obtain rfl : (⟨4294967294, 0, 0, S, R⟩ : MO) = m := by rw [← hm]; unfold ocDiskR; rw [hr]; rfl
  refine cZ (aZ (oZ call157 J (Imp.refl _) (said_spec W0 _ 90) J ?_))
  rintro ⟨⟩ -
  rw [show sA 90 = aA 4294967294 0 from J]
  refine sQ (xQ ti217 J J fC J (aA_one _ _) J) J ?_
  rintro ⟨⟩ -
  exact fZ (bZ (rZ (qZ (hX [.agg (aA _ _).toArray] J ⟨ResP.agg ti217 J J (fun j v hj => Cel.of_blk (b := b8) eX (by rw [Nat.zero_add j]; exact hj)), trivial⟩ () trivial J iM))))
 ·try replace hc := odF hc
  have hr : roomO S.o b 64 = true := by simpa using hc
  refine uZ (bZ (cZ (qQ (.lo 0 1 (.lo 1 1 (.lo 2 1 (.lo 3 1 (.lo 4 1 (.lo 5 1 (.lo 6 1 (.lo 7 1 (.lo 8 1 (.lo 9 1 (.lo 10 1 (.lo 11 1 (.lo 12 1 (.eff1 13 false (.lo 14 1 (.lo 15 1 (.lo 16 1 (.lo 17 1 (.lo 18 1 (.done)))))))))))))))))))) [13] [] ([]) ([]) mixed (by kernel_rfl) (Imp.none _) (Imp.none _) (nZ J J (dQ J J (wZ J fa213_4 J (hZ J (jZ (v := .pointer (some ⟨z.d, 0, none⟩)) ti203 J (Cel.of_blk (b := z.e) eX J)) ?_)))))))
  refine nZ J J (nZ J J (hZ J (cQ (c := (a : Int)) underlying3 J J wO) (nZ J J (nZ J J (nZ J J (dQ J J (wZ J fa213_7 J (hZ J (jZ (v := .int .i64 S.major) ti3 J (Cel.of_blk (b := z.e) eX J)) ?_))))))))
  refine aQ (rQ J J call207 J (iM) (rsub_spec W0 _ (d := z.d) (s := S.d) (write := false) (sector := a) (addr := b) (major := S.major) (da := none) (dc := 0) (data := []) (RdB.of_slR SlR.nil (Nat.le_refl _)) (by decide)) J (fun _ => iM) (fun _ => Imp.refl _) (fun _ => iM) ?_)
  rintro ⟨⟩ -
  refine nZ J J (hZ J (xZ J J) (hZ J (xZ J J) (hZ J (jQ J) (hZ J (jQ J) (pQ (bZ (cZ (cZ (aZ (eZ J (dZ (nX J J) (fZ (bZ (lQ J (fun hc => ?_) (fun hc => ?_)))))))))))))))
  ·try replace hc := odT hc
   obtain rfl : (⟨erA (subP S.d false a b [] S.major).2.1, 0, 0, S, R⟩ : MO) = m := by rw [← hm]; unfold ocDiskR; dsimp only; rw [if_pos hr, if_neg hc]; rfl
   rw [sub_same hc]
   refine cZ (aZ (eZ J (oZ call157 J (Imp.refl _) (said_spec W0 _ (subP S.d false a b [] S.major).2.1) J ?_)))
   rintro ⟨⟩ -
   rw [sA_ne hc]
   refine sQ (xQ ti217 J J fC J (aA_one _ _) J) J ?_
   rintro ⟨⟩ -
   exact fZ (bZ (rZ (qZ (hX [.agg (aA _ _).toArray] J ⟨ResP.agg ti217 J J (fun j v hj => Cel.of_blk (b := b8) eX (by rw [Nat.zero_add j]; exact hj)), trivial⟩ () trivial J iM))))
  ·try replace hc := odF hc
   have h1 : (subP S.d false a b [] S.major).2.1 = 0 := Decidable.not_not.1 hc
   obtain rfl : (⟨(subP S.d false a b [] S.major).1, 0, 0, { S with d := (subP S.d false a b [] S.major).2.2 }, R⟩ : MO) = m := by rw [← hm]; unfold ocDiskR; dsimp only; rw [if_pos hr, if_pos h1]; rfl
   refine uZ (bZ (cZ (aZ (eZ J (eZ J (dZ (aX bu217 ti217 J (cells := aA (subP S.d false a b [] S.major).1 0) J) (sQ (xQ ti217 J J fC J (aA_one _ _) J) J ?_)))))))
   rintro ⟨⟩ -
   exact fZ (bZ (rZ (hX [.agg (aA _ _).toArray] J ⟨ResP.agg ti217 J J (fun j v hj => Cel.of_blk (b := b8) eX (by rw [Nat.zero_add j]; exact hj)), trivial⟩ () trivial J iM)))
set_option maxHeartbeats 2000000 in
theorem rsendc_spec (hK : ObK S.o 0) (ha : a < 4294967296) (hb : b < 4294967296) (hcc : c < 4294967296) : Ctr prog W0 164 [.pointer (some ⟨z.e, 0, none⟩), .int .u32 a, .int .u32 b, .int .u32 c] (dG z S q0 ts Fr) (fun _ : Unit => True)
 (fun _ => .agg (aA (fin S R (ocSend S R a b c)).ans (fin S R (ocSend S R a b c)).cp).toArray) (fun _ => dG z (fin S R (ocSend S R a b c)).S q0 ts Fr) := by
 generalize hm : fin S R (ocSend S R a b c) = m
 refine Ctr.of_body func164 J ntmps164 J (cZ (aZ (kQ (pX ti217) J ?_)))
 rintro b8 -
 refine fZ (bZ (cZ (cZ (aZ (eZ J (dZ (qV J J) (fZ (bZ (lQ J (fun hc => ?_) (fun hc => ?_))))))))))
 ·try replace hc := odT hc
  obtain rfl : (⟨4294967293, 0, 0, S, R⟩ : MO) = m := by rw [← hm]; unfold ocSend; rw [if_pos (by omega)]; rfl
  refine cZ (aZ (oZ call157 J (Imp.refl _) (said_spec W0 _ 2) J ?_))
  rintro ⟨⟩ -
  rw [show sA 2 = aA 4294967293 0 from J]
  refine sQ (xQ ti217 J J fC J (aA_one _ _) J) J ?_
  rintro ⟨⟩ -
  exact fZ (bZ (rZ (qZ (hX [.agg (aA _ _).toArray] J ⟨ResP.agg ti217 J J (fun j v hj => Cel.of_blk (b := b8) eX (by rw [Nat.zero_add j]; exact hj)), trivial⟩ () trivial J iM))))
 ·try replace hc := odF hc
  have hc64 : c ≤ 64 := by omega
  refine uZ (bZ (cZ (aZ (eZ J (zZ J (pZ fa213_1 J (dZ (iZ ti200 J) ?_)))))))
  refine eZ J (eZ J (dZ (cQ (c := (c : Int)) underlying3 J J wO) (oZ call203 J (iM) (rin_spec W0 _ (b := z.s) (w := z.w) (k := 0) (o := S.o) (ts := ts) hK hb (c : Int)) J ?_)))
  rintro ⟨ia, ic, ib⟩ hib
  dsimp only at hib ⊢
  subst hib
  have hil := inO_le S.o 0 b c
  refine eZ J (dZ (xZ J J) (dZ (xZ J J) (gZ J (gZ J (fZ (bZ (cZ (cZ (aZ (eZ J (dZ (yQ J J) (fZ (bZ (lQ J (fun hc => ?_) (fun hc => ?_)))))))))))))))
  ·try replace hc := odT hc
   have h0 : (inO S.o 0 b (c : Int)).2 = 0 := hc
   have hl64 := inO_len h0
   refine qQ (.lo 0 1 (.lo 1 1 (.lo 2 1 (.lo 3 1 (.lo 4 1 (.lo 5 1 (.lo 6 1 (.lo 7 1 (.lo 8 1 (.lo 9 1 (.lo 10 1 (.eff1 11 false (.lo 12 1 (.done)))))))))))))) [11] [] ([]) ([]) mixed (by kernel_rfl) (Imp.none _) (Imp.none _) (nZ J J (dQ J J (wZ J fa213_5 J (hZ J (jZ (v := .pointer (some ⟨z.p, 0, none⟩)) ti210 J (Cel.of_blk (b := z.e) eX J)) ?_))))
   refine nZ J J (dQ J J (wZ J fa213_0 J (hZ J (jZ (v := .int .i64 0) ti3 J (Cel.of_blk (b := z.e) eX J)) ?_)))
   refine nZ J J (hZ J (cQ (c := (a : Int)) underlying3 J J wO) (nZ J J (aQ (rQ J J call105 J (iM) (rsnd_spec W0 _ (p := z.p) (acs := S.acs) 0 (a : Int) (a := ia) (c := ic) (bs := (inO S.o 0 b (c : Int)).1) (SlR.of_osl (E := 5) (a := ia) eX) (by omega)) J (fun _ => iM) (fun _ => Imp.refl _) (fun _ => iM) ?_))))
   rintro ⟨⟩ -
   refine hZ J (jQ J) (pQ (bZ (cZ (cZ (aZ (eZ J (dZ (by first | exact oQ (nX J J) (v' := .bool true) (bT h0) | exact nX J J) ?_)))))))
   refine fZ (bZ (lQ J (fun hc => ?_) (fun hc => ?_)))
   ·try replace hc := odT hc
    obtain rfl : (⟨erA (sndP S.acs 0 (a : Int) (inO S.o 0 b (c : Int)).1).1, 0, 0, S, R⟩ : MO) = m := by rw [← hm]; unfold ocSend; rw [if_neg (by omega)]; dsimp only; rw [if_pos h0, if_neg hc]; rfl
    rw [snd_same hc]
    refine cZ (aZ (eZ J (oZ call157 J (Imp.refl _) (said_spec W0 _ _) J ?_)))
    rintro ⟨⟩ -
    rw [sA_ne hc]
    refine sQ (xQ ti217 J J fC J (aA_one _ _) J) J ?_
    rintro ⟨⟩ -
    exact fZ (bZ (rZ (qZ (hX [.agg (aA _ _).toArray] J ⟨ResP.agg ti217 J J (fun j v hj => Cel.of_blk (b := b8) eX (by rw [Nat.zero_add j]; exact hj)), trivial⟩ () trivial J iM))))
   ·try replace hc := odF hc
    have h1 : (sndP S.acs 0 (a : Int) (inO S.o 0 b (c : Int)).1).1 = 0 := Decidable.not_not.1 hc
    obtain rfl : (⟨0, c, 0, { S with acs := (sndP S.acs 0 (a : Int) (inO S.o 0 b (c : Int)).1).2 }, R⟩ : MO) = m := by rw [← hm]; unfold ocSend; rw [if_neg (by omega)]; dsimp only; rw [if_pos h0, if_pos h1, hl64]; rfl
    refine uZ (bZ (cZ (aZ (eZ J (dZ (cQ (c := (c : Int)) underlying3 J J wO) (dZ (aX bu217 ti217 J (cells := aA 0 (c : Int)) J) (sQ (xQ ti217 J J fC J (aA_one _ _) J) J ?_)))))))
    rintro ⟨⟩ -
    exact fZ (bZ (rZ (hX [.agg (aA _ _).toArray] J ⟨ResP.agg ti217 J J (fun j v hj => Cel.of_blk (b := b8) eX (by rw [Nat.zero_add j]; exact hj)), trivial⟩ () trivial J iM)))
  ·try replace hc := odF hc
   have h0 : (inO S.o 0 b (c : Int)).2 ≠ 0 := hc
   obtain rfl : (⟨erA (inO S.o 0 b (c : Int)).2, 0, 0, S, R⟩ : MO) = m := by rw [← hm]; unfold ocSend; rw [if_neg (by omega)]; dsimp only; rw [if_neg h0]; rfl
   refine uZ (bZ (cZ (cZ (aZ (eZ J (dZ (by first | exact oQ (nX J J) (v' := .bool true) (bT h0) | exact nX J J) ?_))))))
   refine fZ (bZ (fQ J (cZ (aZ (eZ J (oZ call157 J (Imp.refl _) (said_spec W0 _ _) J ?_))))))
   rintro ⟨⟩ -
   rw [sA_ne hc]
   refine sQ (xQ ti217 J J fC J (aA_one _ _) J) J ?_
   rintro ⟨⟩ -
   exact fZ (bZ (rZ (qZ (hX [.agg (aA _ _).toArray] J ⟨ResP.agg ti217 J J (fun j v hj => Cel.of_blk (b := b8) eX (by rw [Nat.zero_add j]; exact hj)), trivial⟩ () trivial J iM))))
end
theorem slR_at {W0 : World} {G R : List HProp} {E sz c m b o : Nat} {a : Option Addr} {xs : List Value} (x : Ext G (osl E sz a c m xs) R) (h : a = some ⟨b, o, none⟩) : SlR W0 G sz (some ⟨b, o, none⟩) m xs := by subst h; exact SlR.of_osl x
section
variable (W0 : World) (Fr : List HProp)
variable {z : DP} {S : HS} {q0 : Int} {ts : List Int} {a b c : Nat} {R : List Value}
set_option maxHeartbeats 2000000 in
theorem rinfo_spec (ha : a < 4294967296) (hto : S.d.told.length ≤ 4294967296) : Ctr prog W0 168 [.pointer (some ⟨z.e, 0, none⟩), .int .u32 a] (dG z S q0 ts Fr) (fun _ : Unit => True)
 (fun _ => .agg (aA (fin S R (ocInfo S R a)).ans (fin S R (ocInfo S R a)).cp).toArray) (fun _ => dG z (fin S R (ocInfo S R a)).S q0 ts Fr) := by
 generalize hm : fin S R (ocInfo S R a) = m
 refine Ctr.of_body func168 J ntmps168 J (cZ (aZ (kQ (pX ti217) J ?_)))
 rintro b4 -
 refine fZ (bZ (cZ (cZ (aZ (eZ J (fZ (bZ (mQ (cZ (aZ (dZ (yQ J J) (gZ J (fZ (bZ (lQ J (fun hc => ?_) (fun hc => ?_))))))))))))))))
 ·try replace hc := odT hc
  obtain rfl : a = 0 := by omega
  obtain rfl : (⟨0, 0, 0, S, R⟩ : MO) = m := hm
  refine cZ (aZ (eZ J (zZ J (pZ fa213_0 J (dZ (jZ (v := .int .i64 0) ti3 J (Cel.of_blk (b := z.e) eX J)) ?_)))))
  refine dZ (cQ (c := 0) underlying27 J J J) (dZ (aX bu217 ti217 J (cells := aA 0 0) J) (sQ (xQ ti217 J J fC J (aA_one _ _) J) J ?_))
  rintro ⟨⟩ -
  exact fZ (bZ (rZ (nQ (qZ (hX [.agg (aA _ _).toArray] J ⟨ResP.agg ti217 J J (fun j v hj => Cel.of_blk (b := b4) eX (by rw [Nat.zero_add j]; exact hj)), trivial⟩ () trivial J iM)))))
 ·try replace hc := odF hc
  have k1 : ¬ a = 0 := by omega
  refine cZ (aZ (dZ (yQ J J) (gZ J (fZ (bZ (lQ J (fun hc => ?_) (fun hc => ?_)))))))
  ·try replace hc := odT hc
   obtain rfl : a = 1 := by omega
   obtain rfl : (⟨w32 S.major, 0, 0, S, R⟩ : MO) = m := hm
   refine cZ (aZ (eZ J (zZ J (pZ fa213_7 J (dZ (jZ (v := .int .i64 S.major) ti3 J (Cel.of_blk (b := z.e) eX J)) ?_)))))
   refine dZ (cQ (c := w32 S.major) underlying27 J J J) (dZ (aX bu217 ti217 J (cells := aA (w32 S.major) 0) J) (sQ (xQ ti217 J J fC J (aA_one _ _) J) J ?_))
   rintro ⟨⟩ -
   exact fZ (bZ (rZ (nQ (qZ (hX [.agg (aA _ _).toArray] J ⟨ResP.agg ti217 J J (fun j v hj => Cel.of_blk (b := b4) eX (by rw [Nat.zero_add j]; exact hj)), trivial⟩ () trivial J iM)))))
  ·try replace hc := odF hc
   have k2 : ¬ a = 1 := by omega
   refine cZ (aZ (dZ (yQ J J) (gZ J (fZ (bZ (lQ J (fun hc => ?_) (fun hc => ?_)))))))
   ·try replace hc := odT hc
    obtain rfl : a = 2 := by omega
    obtain rfl : (⟨w32 (S.d.asks.map Vd.Ak.tag).length, 0, 0, S, R⟩ : MO) = m := hm
    refine kV (A := Vd.Dd z.d S.d) eX Vd.rd_open ?_
    intro x hx
    refine rX star_open ?_
    dsimp only [Vd.RO, List.cons_append, List.nil_append]
    have hln := hx.len
    refine cZ (aZ (eZ J (zZ J (pZ fa213_4 J (dZ (jZ (v := .pointer (some ⟨z.d, 0, none⟩)) ti203 J (Cel.of_blk (b := z.e) eX J)) ?_)))))
    refine zZ J (pZ fa267_4 J (dZ (jZ (v := .slice x.a x.ras.length x.c) ti265 J (Cel.of_blk (b := z.d) eX J)) ?_))
    refine dZ (sZ underlying265 J J) (dZ (cQ (c := w32 (S.d.asks.map Vd.Ak.tag).length) underlying27 J J (by rw [List.length_map, hln])) ?_)
    refine dZ (aX bu217 ti217 J (cells := aA (w32 (S.d.asks.map Vd.Ak.tag).length) 0) J) (sQ (xQ ti217 J J fC J (aA_one _ _) J) J ?_)
    rintro ⟨⟩ -
    exact fZ (bZ (rZ (nQ (qZ (hX [.agg (aA _ _).toArray] J ⟨ResP.agg ti217 J J (fun j v hj => Cel.of_blk (b := b4) eX (by rw [Nat.zero_add j]; exact hj)), trivial⟩ () trivial J (by refine Imp.trans (B := Vd.RH z.d S.d S.d.last x.a x.ras.length x.c x.ta S.d.told.length x.tc :: Vd.oras x.a x.c x.ras :: Ms.onum 27 .u32 x.ta x.tc S.d.told :: Ms.pool x.pl :: (deB z S :: RS z.s z.w 0 (pvs S.o 0) ts :: RW z.w (64 - (used S.o 0 : Int)) [q0 - (used S.o 0 : Int), 8] :: Vi.R z.v S.q S.p (Vi.atOf S.set S.at') :: Vc.Rc z.c S.out S.inn :: Po.Rp z.p S.acs :: Fr)) iM (Imp.trans (rd_shut x hx) iM)))))))
   ·try replace hc := odF hc
    have k3 : ¬ a = 2 := by omega
    refine cZ (aZ (dZ (yQ J J) (gZ J (fZ (bZ (lQ J (fun hc => ?_) (fun hc => ?_)))))))
    ·try replace hc := odT hc
     obtain rfl : a = 3 := by omega
     refine kV (A := Vd.Dd z.d S.d) eX Vd.rd_open ?_
     intro x hx
     refine rX star_open ?_
     dsimp only [Vd.RO, List.cons_append, List.nil_append]
     refine cZ (cZ (aZ (eZ J (zZ J (pZ fa213_4 J (dZ (jZ (v := .pointer (some ⟨z.d, 0, none⟩)) ti203 J (Cel.of_blk (b := z.e) eX J)) ?_))))))
     refine zZ J (pZ fa267_6 J (dZ (jZ (v := .slice x.ta S.d.told.length x.tc) ti37 J (Cel.of_blk (b := z.d) eX J)) ?_))
     refine dZ (sZ underlying37 J J) (dZ (yQ J J) (fZ (bZ (lQ J (fun hc => ?_) (fun hc => ?_)))))
     ·try replace hc := odT hc
      have hnil : S.d.told = [] := List.length_eq_zero_iff.1 (by omega)
      obtain rfl : (⟨0, 0, 0, S, R⟩ : MO) = m := by rw [← hm]; unfold ocInfo; simp [hnil]; rfl
      refine cZ (aZ (dZ (aX bu217 ti217 J (cells := aA 0 0) J) (sQ (xQ ti217 J J fC J (aA_one _ _) J) J ?_)))
      rintro ⟨⟩ -
      exact fZ (bZ (rZ (qZ (nQ (qZ (hX [.agg (aA _ _).toArray] J ⟨ResP.agg ti217 J J (fun j v hj => Cel.of_blk (b := b4) eX (by rw [Nat.zero_add j]; exact hj)), trivial⟩ () trivial J (by refine Imp.trans (B := Vd.RH z.d S.d S.d.last x.a x.ras.length x.c x.ta S.d.told.length x.tc :: Vd.oras x.a x.c x.ras :: Ms.onum 27 .u32 x.ta x.tc S.d.told :: Ms.pool x.pl :: (deB z S :: RS z.s z.w 0 (pvs S.o 0) ts :: RW z.w (64 - (used S.o 0 : Int)) [q0 - (used S.o 0 : Int), 8] :: Vi.R z.v S.q S.p (Vi.atOf S.set S.at') :: Vc.Rc z.c S.out S.inn :: Po.Rp z.p S.acs :: Fr)) iM (Imp.trans (rd_shut x hx) iM))))))))
     ·try replace hc := odF hc
      obtain ⟨lst, hls⟩ : ∃ lst, S.d.told.getLast? = some lst := by
       cases hg : S.d.told.getLast? with
       | some y => exact ⟨y, rfl⟩
       | none => rw [List.getLast?_eq_none_iff.1 hg] at hc; exact absurd J hc
      have hgl : S.d.told[S.d.told.length - 1]? = some lst := by rw [← List.getLast?_eq_getElem?]; exact hls
      obtain rfl : (⟨lst, 0, 0, S, R⟩ : MO) = m := by rw [← hm]; unfold ocInfo; simp [hls]; rfl
      refine lX (fun w hw => SlR.shape (SlR.of_osl (W0 := W0) (E := 27) (a := x.ta) (c := x.tc) (m := S.d.told.length) (xs := Ms.intsV .u32 S.d.told) eX) (fun q => by have h2 := congrArg List.length q; simp only [Ms.intsV, List.length_map, List.length_nil] at h2; omega) w hw) ?_
      rintro ⟨jl, jo, hjl⟩
      refine uZ (bZ (cZ (qQ (.lo 0 1 (.lo 1 1 (.lo 2 1 (.lo 3 1 (.lo 4 1 (.lo 5 1 (.lo 6 1 (.lo 7 1 (.lo 8 1 (.lo 9 1 (.lo 10 1 (.lo 11 1 (.lo 12 1 (.lo 13 1 (.lo 14 1 (.lo 15 1 (.lo 16 1 (.lo 17 1 (.lo 18 1 (.eff1 19 false (.done))))))))))))))))))))) [19] [] ([]) ([]) mixed (by kernel_rfl) (Imp.none _) (Imp.none _) (nZ J J (dQ J J (wZ J fa213_4 J (hZ J (jZ (v := .pointer (some ⟨z.d, 0, none⟩)) ti203 J (Cel.of_blk (b := z.e) eX J)) ?_)))))))
      refine dQ J J (wZ J fa267_6 J (hZ J (jZ (v := .slice (some ⟨jl, jo, none⟩) S.d.told.length x.tc) ti37 J (Cel.of_blk (b := z.d) eX (by rw [hjl]; rfl))) ?_))
      refine nZ J J (dQ J J (wZ J fa213_4 J (hZ J (jZ (v := .pointer (some ⟨z.d, 0, none⟩)) ti203 J (Cel.of_blk (b := z.e) eX J)) ?_)))
      refine dQ J J (wZ J fa267_6 J (hZ J (jZ (v := .slice (some ⟨jl, jo, none⟩) S.d.told.length x.tc) ti37 J (Cel.of_blk (b := z.d) eX (by rw [hjl]; rfl))) ?_))
      refine hZ J (sZ underlying37 J J) (hZ J (yX (c := ((S.d.told.length - 1 : Nat) : Int)) J J (by rw [show (S.d.told.length : Int) - 1 = ((S.d.told.length - 1 : Nat) : Int) by omega]; exact w64 (by omega) (by omega))) ?_)
      refine hZ J (lZ underlying37 ti27 J J (by omega) (by omega)) ?_
      refine hZ J (jZ (v := .int .u32 lst) ti27 J (by rw [show jo + ((S.d.told.length - 1 : Nat) : Int).toNat * 1 = jo + (S.d.told.length - 1) by omega]; exact (slR_at (E := 27) (a := x.ta) (c := x.tc) (m := S.d.told.length) (xs := Ms.intsV .u32 S.d.told) eX hjl).cel (Ms.intsV_get hgl))) ?_
      refine hZ J (aX bu217 ti217 J (cells := aA lst 0) J) (aQ (wQ J J (xQ ti217 J J fC J (aA_one _ _) J) J (fun _ => iM) (fun _ => Imp.refl _) (fun _ => iM) ?_))
      rintro ⟨⟩ -
      exact pQ (bZ (rZ (nQ (qZ (hX [.agg (aA _ _).toArray] J ⟨ResP.agg ti217 J J (fun j v hj => Cel.of_blk (b := b4) eX (by rw [Nat.zero_add j]; exact hj)), trivial⟩ () trivial J (by refine Imp.trans (B := Vd.RH z.d S.d S.d.last x.a x.ras.length x.c x.ta S.d.told.length x.tc :: Vd.oras x.a x.c x.ras :: Ms.onum 27 .u32 x.ta x.tc S.d.told :: Ms.pool x.pl :: (deB z S :: RS z.s z.w 0 (pvs S.o 0) ts :: RW z.w (64 - (used S.o 0 : Int)) [q0 - (used S.o 0 : Int), 8] :: Vi.R z.v S.q S.p (Vi.atOf S.set S.at') :: Vc.Rc z.c S.out S.inn :: Po.Rp z.p S.acs :: Fr)) iM (Imp.trans (rd_shut x hx) iM)))))))
    ·try replace hc := odF hc
     have k4 : ¬ a = 3 := by omega
     refine cZ (aZ (dZ (yQ J J) (gZ J (fZ (bZ (lQ J (fun hc => ?_) (fun hc => ?_)))))))
     ·try replace hc := odT hc
      obtain rfl : a = 4 := by omega
      obtain rfl : (⟨w32 S.inn.length, 0, 0, S, R⟩ : MO) = m := hm
      refine kV (A := Vc.Rc z.c S.out S.inn) eX Vc.rc_open ?_
      rintro ⟨⟨oa, oc⟩, na, nc⟩ -
      refine rX star_open ?_
      dsimp only [Vc.RcO, List.cons_append, List.nil_append]
      refine cZ (aZ (eZ J (zZ J (pZ fa213_3 J (dZ (jZ (v := .pointer (some ⟨z.c, 0, none⟩)) ti208 J (Cel.of_blk (b := z.e) eX J)) ?_)))))
      refine zZ J (pZ fa220_1 J (dZ (jZ (v := .slice na S.inn.length nc) ti32 J (Cel.of_blk (b := z.c) eX J)) ?_))
      refine dZ (sZ underlying32 J J) (dZ (cQ (c := w32 S.inn.length) underlying27 J J J) (dZ (aX bu217 ti217 J (cells := aA (w32 S.inn.length) 0) J) (sQ (xQ ti217 J J fC J (aA_one _ _) J) J ?_)))
      rintro ⟨⟩ -
      exact fZ (bZ (rZ (nQ (qZ (hX [.agg (aA _ _).toArray] J ⟨ResP.agg ti217 J J (fun j v hj => Cel.of_blk (b := b4) eX (by rw [Nat.zero_add j]; exact hj)), trivial⟩ () trivial J (by refine Imp.trans (B := blk z.c [.slice oa S.out.length oc, .slice na S.inn.length nc] 220 :: oby 5 oa oc S.out :: oby 5 na nc S.inn :: (deB z S :: RS z.s z.w 0 (pvs S.o 0) ts :: RW z.w (64 - (used S.o 0 : Int)) [q0 - (used S.o 0 : Int), 8] :: Vi.R z.v S.q S.p (Vi.atOf S.set S.at') :: Vd.Dd z.d S.d :: Po.Rp z.p S.acs :: Fr)) iM (Imp.trans rc_shut iM)))))))
     ·try replace hc := odF hc
      have k5 : ¬ a = 4 := by omega
      refine cZ (aZ (dZ (yQ J J) (gZ J (fZ (bZ (lQ J (fun hc => ?_) (fun hc => ?_)))))))
      ·try replace hc := odT hc
       obtain rfl : a = 5 := by omega
       obtain rfl : (⟨w32 (IntKind.i64.wrap (64 - (S.out.length : Int))), 0, 0, S, R⟩ : MO) = m := hm
       refine kV (A := Vc.Rc z.c S.out S.inn) eX Vc.rc_open ?_
       rintro ⟨⟨oa, oc⟩, na, nc⟩ -
       refine rX star_open ?_
       dsimp only [Vc.RcO, List.cons_append, List.nil_append]
       refine cZ (aZ (eZ J (zZ J (pZ fa213_3 J (dZ (jZ (v := .pointer (some ⟨z.c, 0, none⟩)) ti208 J (Cel.of_blk (b := z.e) eX J)) ?_)))))
       refine zZ J (pZ fa220_0 J (dZ (jZ (v := .slice oa S.out.length oc) ti32 J (Cel.of_blk (b := z.c) eX J)) ?_))
       refine dZ (sZ underlying32 J J) (dZ (yX (c := IntKind.i64.wrap (64 - (S.out.length : Int))) J J J) (dZ (cQ (c := w32 (IntKind.i64.wrap (64 - (S.out.length : Int)))) underlying27 J J J) (dZ (aX bu217 ti217 J (cells := aA (w32 (IntKind.i64.wrap (64 - (S.out.length : Int)))) 0) J) (sQ (xQ ti217 J J fC J (aA_one _ _) J) J ?_))))
       rintro ⟨⟩ -
       exact fZ (bZ (rZ (nQ (qZ (hX [.agg (aA _ _).toArray] J ⟨ResP.agg ti217 J J (fun j v hj => Cel.of_blk (b := b4) eX (by rw [Nat.zero_add j]; exact hj)), trivial⟩ () trivial J (by refine Imp.trans (B := blk z.c [.slice oa S.out.length oc, .slice na S.inn.length nc] 220 :: oby 5 oa oc S.out :: oby 5 na nc S.inn :: (deB z S :: RS z.s z.w 0 (pvs S.o 0) ts :: RW z.w (64 - (used S.o 0 : Int)) [q0 - (used S.o 0 : Int), 8] :: Vi.R z.v S.q S.p (Vi.atOf S.set S.at') :: Vd.Dd z.d S.d :: Po.Rp z.p S.acs :: Fr)) iM (Imp.trans rc_shut iM)))))))
      ·try replace hc := odF hc
       have k6 : ¬ a = 5 := by omega
       obtain rfl : (⟨4294967293, 0, 0, S, R⟩ : MO) = m := by rw [← hm]; unfold ocInfo; rw [if_neg k1, if_neg k2, if_neg k3, if_neg k4, if_neg k5, if_neg k6]; rfl
       refine uZ (tZ (bZ (cZ (aZ (oZ call157 J (Imp.refl _) (said_spec W0 _ 2) J ?_)))))
       rintro ⟨⟩ -
       rw [show sA 2 = aA 4294967293 0 from J]
       refine sQ (xQ ti217 J J fC J (aA_one _ _) J) J ?_
       rintro ⟨⟩ -
       exact fZ (bZ (rZ (hX [.agg (aA _ _).toArray] J ⟨ResP.agg ti217 J J (fun j v hj => Cel.of_blk (b := b4) eX (by rw [Nat.zero_add j]; exact hj)), trivial⟩ () trivial J iM)))
end
end Go.Proofs.YtphljkplokjonaaGreat.Hc
namespace Go.Proofs.YtphljkplokjonaaGreat.Po
open Go Go.Sl Go.RowKit Go.Proofs Go.Proofs.YtphljkplokjonaaGreat.T Tryz
theorem ends_set {xs : List End} {i : Nat} {y0 y : End} {G : List HProp} (h : xs[i]? = some y0) : Imp (oend y :: ends xs :: G) (ends (xs.set i y) :: G) := by
 refine Imp.trans (Imp.cons (star_take (i := i) (A := oend y0) (by rw [List.getElem?_map, h]; rfl))) (Imp.trans (Imp.cons Imp.drop) ?_)
 have := star_put (L := xs.map oend) (i := i) (A := oend y0) (B := oend y) (G := G) (by rw [List.getElem?_map, h]; rfl)
 rw [← List.map_set] at this; exact this
def tkc {α : Type} (l z : List α) (i : Nat) : List α := l.take i ++ z.drop i
theorem tkc_all {α : Type} {l z : List α} {i : Nat} (h : l.length = z.length) (hi : z.length ≤ i) : tkc l z i = l := by unfold tkc; rw [List.take_of_length_le (by omega), List.drop_of_length_le hi, List.append_nil]
theorem tkc_set {α : Type} {l z : List α} {i : Nat} {x : α} (h : l.length = z.length) (hx : l[i]? = some x) : (tkc l z i).set i x = tkc l z (i + 1) := by
 obtain ⟨hi, rfl⟩ := List.getElem?_eq_some_iff.1 hx
 unfold tkc
 rw [List.set_append_right _ _ (by simp; omega), show i - (l.take i).length = 0 by simp; omega, List.drop_eq_getElem_cons (by omega), List.set_cons_zero, List.take_succ_eq_append_getElem hi, List.append_assoc]; rfl
theorem slR_to {W0 : World} {G R : List HProp} {E sz c m b o : Nat} {a : Option Addr} {xs : List Value} (x : Ext G (osl E sz a c m xs) R) (h : a = some ⟨b, o, none⟩) : SlR W0 G sz (some ⟨b, o, none⟩) m xs := by subst h; exact SlR.of_osl x
structure Cv where
 i : Nat
 xs : List End
 ys : List End
 pl : List Msg
structure Cv.OK (acs : List AC) (v : Cv) : Prop where
 i : v.i ≤ acs.length
 xl : v.xs.length = acs.length
 yl : v.ys.length = acs.length
 xb : v.xs.map End.bs = tkc (acs.map AC.s) (acs.map fun _ => []) v.i
 yb : v.ys.map End.bs = tkc (acs.map AC.r) (acs.map fun _ => []) v.i
 mem : ∀ y, y ∈ v.xs ∨ y ∈ v.ys → ∀ m ∈ y.ms, m ∈ v.pl
theorem rp_shut0 {r : Nat} {acs : List AC} {G : List HProp} (x : RC) (hx : x.OK acs) : Imp (RH r (acs.map AC.cf).length x :: RL (acs.map AC.cf) x :: osl 67 1 x.sa x.sc x.xs.length (x.xs.map End.cell) :: osl 67 1 x.ra x.rc x.ys.length (x.ys.map End.cell) :: ends x.xs :: ends x.ys :: pool x.pl :: G) (Rp r acs :: G) := rp_close0 x hx
section
variable (W0 : World) (Fr : List HProp)
set_option maxHeartbeats 4000000 in
theorem rclone_spec {p : Nat} {acs : List AC} : Ctr prog W0 208 [.pointer (some ⟨p, 0, none⟩)] (Rp p acs :: Fr) (fun _ : Nat => True) (fun u => .pointer (some ⟨u, 0, none⟩)) (fun u => Rp u acs :: Rp p acs :: Fr) := by
 refine Ctr.ex Ext.here rp_open0 ?_
 intro x hx
 refine Ctr.imp star_open ?_
 have hlx := hx.lx
 have hly := hx.ly
 have hal := hx.len
 have hao := hx.ok
 have hcl : (acs.map AC.cf).length = acs.length := List.length_map _
 dsimp only [RO, List.cons_append, List.nil_append]
 refine Ctr.of_body func208 J ntmps208 J (cZ (aZ (gZ J (fZ (bZ (cZ (aZ (eZ J (zZ J (pZ fa271_0 J (dZ (jZ (v := .slice x.ca (acs.map AC.cf).length x.cc) ti72 J (Cel.of_blk (b := p) eX J)) ?_)))))))))))
 refine oZ call104 J (Imp.refl _) (rnew_spec W0 _ (a := x.ca) (c := x.cc) (l := acs.map AC.cf) (by exact SlR.of_osl (E := 156) (a := x.ca) (c := x.cc) eX) (by omega)) J ?_
 rintro u -
 refine gZ J (fZ (bZ (cZ (cZ (kV (A := Rp u ((acs.map AC.cf).map Cf.ac)) eX rp_open0 ?_)))))
 rintro ⟨xs0, ys0, pl0, ca, cc, sa, sc, ra, rc⟩ hu
 refine rX star_open ?_
 have hux := hu.sb
 have huy := hu.rb
 have hum := hu.mem
 have hcc : ((acs.map AC.cf).map Cf.ac).map AC.cf = acs.map AC.cf := by rw [List.map_map, List.map_map]; rfl
 have hxs0 : xs0.map End.bs = acs.map fun _ => [] := by have h2 := hux; rw [List.map_map, List.map_map] at h2; exact h2
 have hys0 : ys0.map End.bs = acs.map fun _ => [] := by have h2 := huy; rw [List.map_map, List.map_map] at h2; exact h2
 have hxl0 : xs0.length = acs.length := by have := congrArg List.length hxs0; simpa using this
 have hyl0 : ys0.length = acs.length := by have := congrArg List.length hys0; simpa using this
 dsimp only [RO, RH, RL, List.cons_append, List.nil_append] at hum ⊢
 rw [hcc]
 clear hu hux huy
 rw [hxl0, hyl0]
 refine aZ (gZ J (fZ (bZ (mQ (mX (fun v : Cv => v.OK acs) (fun v => [(0, .pointer (some ⟨p, 0, none⟩)), (3, .pointer (some ⟨u, 0, none⟩)), (4, .int .i64 v.i)]) (fun v => blk u [.slice ca (acs.map AC.cf).length cc, .slice sa acs.length sc, .slice ra acs.length rc] 271 :: osl 156 5 ca cc (acs.map AC.cf).length (((acs.map AC.cf).map Cf.cells).flatten) :: osl 67 1 sa sc acs.length (v.xs.map End.cell) :: osl 67 1 ra rc acs.length (v.ys.map End.cell) :: ends v.xs :: ends v.ys :: pool v.pl :: blk p [.slice x.ca (acs.map AC.cf).length x.cc, .slice x.sa x.xs.length x.sc, .slice x.ra x.ys.length x.rc] 271 :: osl 156 5 x.ca x.cc (acs.map AC.cf).length (((acs.map AC.cf).map Cf.cells).flatten) :: osl 67 1 x.sa x.sc x.xs.length (x.xs.map End.cell) :: osl 67 1 x.ra x.rc x.ys.length (x.ys.map End.cell) :: ends x.xs :: ends x.ys :: pool x.pl :: Fr) (fun v => acs.length - v.i) ⟨0, xs0, ys0, pl0⟩ ⟨Nat.zero_le _, hxl0, hyl0, hxs0, hys0, hum⟩ eS iM ?_)))))
 rintro ⟨i, xs, ys, pl⟩ ⟨hi, hxl, hyl, hxb, hyb, hmem⟩
 dsimp only at hi hxl hyl hxb hyb hmem ⊢
 refine cZ (cZ (aZ (eZ J (eZ J (zZ J (pZ fa271_0 J (dZ (jZ (v := .slice x.ca (acs.map AC.cf).length x.cc) ti72 J (Cel.of_blk (b := p) eX J)) ?_)))))))
 refine dZ (sZ underlying72 J J) (dZ eQ ?_)
 refine fZ (bZ (lQ J (fun hc => ?_) (fun hc => ?_)))
 ·try replace hc := odT hc
  have hi' : i < acs.length := by omega
  obtain ⟨ac, hac⟩ : ∃ ac, acs[i]? = some ac := ⟨acs[i], by simp⟩
  obtain ⟨y, z, hy, hz, hyb1, hzb1⟩ := hx.gx hac
  have hok := hao ac (List.mem_of_getElem? hac)
  obtain ⟨y0, hy0⟩ : ∃ y, xs[i]? = some y := ⟨xs[i]'(by omega), by simp⟩
  obtain ⟨z0, hz0⟩ : ∃ y, ys[i]? = some y := ⟨ys[i]'(by omega), by simp⟩
  have hym : y.ms.length ≤ 8 := by have := hok.s; rw [← hyb1] at this; simpa [End.bs] using this
  have hzm : z.ms.length ≤ 8 := by have := hok.r; rw [← hzb1] at this; simpa [End.bs] using this
  refine lX (fun w hw => SlR.shape (SlR.of_osl (W0 := W0) (E := 67) (a := sa) (c := sc) (m := acs.length) (xs := xs.map End.cell) eX) (fun q => by have h2 := congrArg List.length q; simp only [List.length_map, List.length_nil] at h2; omega) w hw) ?_
  rintro ⟨b1, o1, rfl⟩
  refine lX (fun w hw => SlR.shape (SlR.of_osl (W0 := W0) (E := 67) (a := ra) (c := rc) (m := acs.length) (xs := ys.map End.cell) eX) (fun q => by have h2 := congrArg List.length q; simp only [List.length_map, List.length_nil] at h2; omega) w hw) ?_
  rintro ⟨b2, o2, rfl⟩
  refine lX (fun w hw => SlR.shape (SlR.of_osl (W0 := W0) (E := 67) (a := x.sa) (c := x.sc) (m := x.xs.length) (xs := x.xs.map End.cell) eX) (fun q => by have h2 := congrArg List.length q; simp only [List.length_map, List.length_nil] at h2; omega) w hw) ?_
  rintro ⟨b3, o3, h3⟩
  refine lX (fun w hw => SlR.shape (SlR.of_osl (W0 := W0) (E := 67) (a := x.ra) (c := x.rc) (m := x.ys.length) (xs := x.ys.map End.cell) eX) (fun q => by have h2 := congrArg List.length q; simp only [List.length_map, List.length_nil] at h2; omega) w hw) ?_
  rintro ⟨b4, o4, h4⟩
  refine uZ (bZ (cZ (mQ (cZ (qQ (.lo 0 0 (.lo 1 0 (.lo 2 0 (.lo 3 0 (.lo 4 0 (.lo 5 1 (.lo 6 1 (.lo 7 1 (.lo 8 1 (.lo 9 1 (.lo 10 1 (.lo 11 1 (.eff1 12 false (.lo 13 1 (.eff1 14 false (.done)))))))))))))))) [12, 14] [] ([blk u [.slice ca (acs.map AC.cf).length cc, .slice (some ⟨b1, o1, none⟩) acs.length sc, .slice (some ⟨b2, o2, none⟩) acs.length rc] 271]) ([]) mixed (by kernel_rfl) (iM) (Imp.none _) ?_)))))
  refine nZ J J (dQ J J (wZ J fa271_1 J (hZ J (jZ (v := .slice (some ⟨b1, o1, none⟩) acs.length sc) ti38 J (Cel.of_blk (b := u) eX J)) ?_)))
  refine nZ J J (nZ J J (dQ J J (wZ J fa271_1 J (hZ J (jZ (v := .slice (some ⟨b3, o3, none⟩) x.xs.length x.sc) ti38 J (Cel.of_blk (b := p) eX (by rw [h3]; rfl))) ?_))))
  refine nZ J J (hZ J (lZ underlying38 ti67 J J (by omega) (by omega)) ?_)
  refine hZ J (jZ (v := y.cell) ti67 J (by rw [show o3 + (i : Int).toNat * 1 = o3 + i by omega]; exact (slR_to (E := 67) (a := x.sa) (c := x.sc) (m := x.xs.length) (xs := x.xs.map End.cell) eX h3).cel (by rw [List.getElem?_map, hy]; rfl))) ?_
  refine aQ (rQ J J call169 J (Imp.refl _) (copies_spec W0 _ (x := y) (by exact ends_rd (xs := x.xs) eX (List.mem_of_getElem? hy)) (by intro m hm; exact pool_rd (ms := x.pl) eX (hx.mem y (.inl (List.mem_of_getElem? hy)) m hm)) (by omega) (by intro m hm; have := hok.sl m.b (by rw [← hyb1]; exact List.mem_map_of_mem hm); omega)) J (fun _ => iM) (fun _ => Imp.refl _) (fun _ => iM) ?_)
  rintro y2 hy2
  refine hZ J (lZ underlying38 ti67 J J (by omega) (by omega)) ?_
  refine aQ (wQ J J (iV (b := b1) (o := o1) (i := i) ti67 (by rw [show o1 + (i : Int).toNat * 1 = o1 + i by omega]; rfl) J fC J (by omega)) J (fun _ => iM) (fun _ => Imp.refl _) (fun _ => iM) ?_)
  rintro ⟨⟩ -
  refine pQ (bZ (qQ (.lo 0 0 (.lo 1 0 (.lo 2 0 (.lo 3 0 (.lo 4 0 (.lo 5 1 (.lo 6 1 (.lo 7 1 (.lo 8 1 (.lo 9 1 (.lo 10 1 (.lo 11 1 (.eff1 12 false (.lo 13 1 (.eff1 14 false (.done)))))))))))))))) [12, 14] [] ([blk u [.slice ca (acs.map AC.cf).length cc, .slice (some ⟨b1, o1, none⟩) acs.length sc, .slice (some ⟨b2, o2, none⟩) acs.length rc] 271]) ([]) mixed (by kernel_rfl) (iM) (Imp.none _) ?_))
  refine nZ J J (dQ J J (wZ J fa271_2 J (hZ J (jZ (v := .slice (some ⟨b2, o2, none⟩) acs.length rc) ti38 J (Cel.of_blk (b := u) eX J)) ?_)))
  refine nZ J J (nZ J J (dQ J J (wZ J fa271_2 J (hZ J (jZ (v := .slice (some ⟨b4, o4, none⟩) x.ys.length x.rc) ti38 J (Cel.of_blk (b := p) eX (by rw [h4]; rfl))) ?_))))
  refine nZ J J (hZ J (lZ underlying38 ti67 J J (by omega) (by omega)) ?_)
  refine hZ J (jZ (v := z.cell) ti67 J (by rw [show o4 + (i : Int).toNat * 1 = o4 + i by omega]; exact (slR_to (E := 67) (a := x.ra) (c := x.rc) (m := x.ys.length) (xs := x.ys.map End.cell) eX h4).cel (by rw [List.getElem?_map, hz]; rfl))) ?_
  refine aQ (rQ J J call169 J (Imp.refl _) (copies_spec W0 _ (x := z) (by exact ends_rd (xs := x.ys) eX (List.mem_of_getElem? hz)) (by intro m hm; exact pool_rd (ms := x.pl) eX (hx.mem z (.inr (List.mem_of_getElem? hz)) m hm)) (by omega) (by intro m hm; have := hok.rl m.b (by rw [← hzb1]; exact List.mem_map_of_mem hm); omega)) J (fun _ => iM) (fun _ => Imp.refl _) (fun _ => iM) ?_)
  rintro z2 hz2
  refine hZ J (lZ underlying38 ti67 J J (by omega) (by omega)) ?_
  refine aQ (wQ J J (iV (b := b2) (o := o2) (i := i) ti67 (by rw [show o2 + (i : Int).toNat * 1 = o2 + i by omega]; rfl) J fC J (by omega)) J (fun _ => iM) (fun _ => Imp.refl _) (fun _ => iM) ?_)
  rintro ⟨⟩ -
  refine pQ (tZ (bZ (aZ (eZ J (dZ (hQ J J wO) (gZ J (fZ (gX ⟨i + 1, xs.set i y2, ys.set i z2, pl ++ (y2.ms ++ z2.ms)⟩ ⟨by simp only; omega, by simp only [List.length_set]; exact hxl, by simp only [List.length_set]; exact hyl, ?_, ?_, ?_⟩ (by simp only; omega) eS ?_))))))))
  ·show (xs.set i y2).map End.bs = _
   rw [List.map_set, hxb, hy2, hyb1]
   exact tkc_set (by simp) (by rw [List.getElem?_map, hac]; rfl)
  ·show (ys.set i z2).map End.bs = _
   rw [List.map_set, hyb, hz2, hzb1]
   exact tkc_set (by simp) (by rw [List.getElem?_map, hac]; rfl)
  ·intro v hv m hm
   rcases hv with hv | hv
   ·rcases List.mem_or_eq_of_mem_set hv with hv | rfl
    ·exact List.mem_append.2 (.inl (hmem v (.inl hv) m hm))
    ·exact List.mem_append.2 (.inr (List.mem_append.2 (.inl hm)))
   ·rcases List.mem_or_eq_of_mem_set hv with hv | rfl
    ·exact List.mem_append.2 (.inl (hmem v (.inr hv) m hm))
    ·exact List.mem_append.2 (.inr (List.mem_append.2 (.inr hm)))
  ·dsimp only
   rw [List.map_set (f := End.cell), List.map_set (f := End.cell)]
   refine Imp.trans (B := oend y2 :: ends xs :: oend z2 :: ends ys :: pool y2.ms :: pool z2.ms :: pool pl :: blk u [.slice ca (acs.map AC.cf).length cc, .slice (some ⟨b1, o1, none⟩) acs.length sc, .slice (some ⟨b2, o2, none⟩) acs.length rc] 271 :: osl 156 5 ca cc (acs.map AC.cf).length (((acs.map AC.cf).map Cf.cells).flatten) :: osl 67 1 (some ⟨b1, o1, none⟩) sc acs.length ((xs.map End.cell).set i y2.cell) :: osl 67 1 (some ⟨b2, o2, none⟩) rc acs.length ((ys.map End.cell).set i z2.cell) :: blk p [.slice x.ca (acs.map AC.cf).length x.cc, .slice x.sa x.xs.length x.sc, .slice x.ra x.ys.length x.rc] 271 :: osl 156 5 x.ca x.cc (acs.map AC.cf).length (((acs.map AC.cf).map Cf.cells).flatten) :: osl 67 1 x.sa x.sc x.xs.length (x.xs.map End.cell) :: osl 67 1 x.ra x.rc x.ys.length (x.ys.map End.cell) :: ends x.xs :: ends x.ys :: pool x.pl :: Fr) iM ?_
   refine Imp.trans (ends_set hy0) (Imp.trans (B := oend z2 :: ends ys :: ends (xs.set i y2) :: pool y2.ms :: pool z2.ms :: pool pl :: blk u [.slice ca (acs.map AC.cf).length cc, .slice (some ⟨b1, o1, none⟩) acs.length sc, .slice (some ⟨b2, o2, none⟩) acs.length rc] 271 :: osl 156 5 ca cc (acs.map AC.cf).length (((acs.map AC.cf).map Cf.cells).flatten) :: osl 67 1 (some ⟨b1, o1, none⟩) sc acs.length ((xs.map End.cell).set i y2.cell) :: osl 67 1 (some ⟨b2, o2, none⟩) rc acs.length ((ys.map End.cell).set i z2.cell) :: blk p [.slice x.ca (acs.map AC.cf).length x.cc, .slice x.sa x.xs.length x.sc, .slice x.ra x.ys.length x.rc] 271 :: osl 156 5 x.ca x.cc (acs.map AC.cf).length (((acs.map AC.cf).map Cf.cells).flatten) :: osl 67 1 x.sa x.sc x.xs.length (x.xs.map End.cell) :: osl 67 1 x.ra x.rc x.ys.length (x.ys.map End.cell) :: ends x.xs :: ends x.ys :: pool x.pl :: Fr) iM ?_)
   refine Imp.trans (ends_set hz0) (Imp.trans (B := pool y2.ms :: pool z2.ms :: pool pl :: ends (ys.set i z2) :: ends (xs.set i y2) :: blk u [.slice ca (acs.map AC.cf).length cc, .slice (some ⟨b1, o1, none⟩) acs.length sc, .slice (some ⟨b2, o2, none⟩) acs.length rc] 271 :: osl 156 5 ca cc (acs.map AC.cf).length (((acs.map AC.cf).map Cf.cells).flatten) :: osl 67 1 (some ⟨b1, o1, none⟩) sc acs.length ((xs.map End.cell).set i y2.cell) :: osl 67 1 (some ⟨b2, o2, none⟩) rc acs.length ((ys.map End.cell).set i z2.cell) :: blk p [.slice x.ca (acs.map AC.cf).length x.cc, .slice x.sa x.xs.length x.sc, .slice x.ra x.ys.length x.rc] 271 :: osl 156 5 x.ca x.cc (acs.map AC.cf).length (((acs.map AC.cf).map Cf.cells).flatten) :: osl 67 1 x.sa x.sc x.xs.length (x.xs.map End.cell) :: osl 67 1 x.ra x.rc x.ys.length (x.ys.map End.cell) :: ends x.xs :: ends x.ys :: pool x.pl :: Fr) iM ?_)
   refine Imp.trans pool_join (Imp.trans (B := pool pl :: pool (y2.ms ++ z2.ms) :: ends (ys.set i z2) :: ends (xs.set i y2) :: blk u [.slice ca (acs.map AC.cf).length cc, .slice (some ⟨b1, o1, none⟩) acs.length sc, .slice (some ⟨b2, o2, none⟩) acs.length rc] 271 :: osl 156 5 ca cc (acs.map AC.cf).length (((acs.map AC.cf).map Cf.cells).flatten) :: osl 67 1 (some ⟨b1, o1, none⟩) sc acs.length ((xs.map End.cell).set i y2.cell) :: osl 67 1 (some ⟨b2, o2, none⟩) rc acs.length ((ys.map End.cell).set i z2.cell) :: blk p [.slice x.ca (acs.map AC.cf).length x.cc, .slice x.sa x.xs.length x.sc, .slice x.ra x.ys.length x.rc] 271 :: osl 156 5 x.ca x.cc (acs.map AC.cf).length (((acs.map AC.cf).map Cf.cells).flatten) :: osl 67 1 x.sa x.sc x.xs.length (x.xs.map End.cell) :: osl 67 1 x.ra x.rc x.ys.length (x.ys.map End.cell) :: ends x.xs :: ends x.ys :: pool x.pl :: Fr) iM ?_)
   exact Imp.trans pool_join iM
 ·try replace hc := odF hc
  refine iX (bQ (bQ (tQ (bZ (cZ (aZ (eZ J (gZ J (fZ (bZ (rZ ?_)))))))))))
  obtain rfl : i = acs.length := by omega
  rw [tkc_all (by simp) (by simp)] at hxb hyb
  refine yZ J J u trivial J (Imp.trans (B := RH p (acs.map AC.cf).length x :: RL (acs.map AC.cf) x :: osl 67 1 x.sa x.sc x.xs.length (x.xs.map End.cell) :: osl 67 1 x.ra x.rc x.ys.length (x.ys.map End.cell) :: ends x.xs :: ends x.ys :: pool x.pl :: blk u [.slice ca (acs.map AC.cf).length cc, .slice sa acs.length sc, .slice ra acs.length rc] 271 :: osl 156 5 ca cc (acs.map AC.cf).length (((acs.map AC.cf).map Cf.cells).flatten) :: osl 67 1 sa sc acs.length (xs.map End.cell) :: osl 67 1 ra rc acs.length (ys.map End.cell) :: ends xs :: ends ys :: pool pl :: Fr) iM ?_)
  refine Imp.trans (rp_shut0 x hx) ?_
  have hf := rp_shut0 (r := u) (acs := acs) (G := Rp p acs :: Fr) ⟨xs, ys, pl, ca, cc, sa, sc, ra, rc⟩ ⟨hxb, hyb, hao, hmem, hal⟩
  dsimp only [RH, RL] at hf
  rw [hxl, hyl] at hf
  exact Imp.trans iM hf
end
end Go.Proofs.YtphljkplokjonaaGreat.Po
