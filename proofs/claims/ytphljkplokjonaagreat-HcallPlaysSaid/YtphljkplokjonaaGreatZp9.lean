/- Rules for steps of the model, and what functions of the program do. -/
import Derived.Test.YtphljkplokjonaaGreatZp8
set_option linter.unusedVariables false
set_option linter.unusedSimpArgs false
set_option linter.unusedSectionVars false
set_option maxRecDepth 100000
namespace Go.Proofs.YtphljkplokjonaaGreat.Hc
open Go Go.Sl Go.RowKit Go.Proofs Go.Proofs.YtphljkplokjonaaGreat.T Go.Proofs.YtphljkplokjonaaGreat.Sp Tryz
section
variable (W0 : World) (Fr : List HProp)
variable {z : DP} {S : HS} {q0 : Int} {ts : List Int} {a b c : Nat} {R : List Value}
set_option maxHeartbeats 2000000 in
theorem rreceive_spec (hK : ObK S.o 0) (ha : a < 4294967296) (hb : b < 4294967296) (hcc : c < 4294967296) : Ctr prog W0 165 [.pointer (some ⟨z.e, 0, none⟩), .int .u32 a, .int .u32 b, .int .u32 c] (dG z S q0 ts Fr) (fun _ : Unit => True)
 (fun _ => .agg (aA (fin S R (ocRecv S R a b c)).ans (fin S R (ocRecv S R a b c)).cp).toArray) (fun _ => dG z (fin S R (ocRecv S R a b c)).S q0 ts Fr) := by
 generalize hm : fin S R (ocRecv S R a b c) = m
 refine Ctr.of_body func165 J ntmps165 J (cZ (aZ (kQ (pX ti217) J ?_)))
 rintro b8 -
 refine fZ (bZ (cZ (cZ (aZ (eZ J (dZ (qV J J) (fZ (bZ (lQ J (fun hc => ?_) (fun hc => ?_))))))))))
 ·try replace hc := odT hc
  obtain rfl : (⟨4294967293, 0, 0, S, R⟩ : MO) = m := by rw [← hm]; unfold ocRecv; rw [if_pos (by omega)]; rfl
  refine cZ (aZ (oZ call157 J (Imp.refl _) (said_spec W0 _ 2) J ?_))
  rintro ⟨⟩ -
  rw [show sA 2 = aA 4294967293 0 from J]
  refine sQ (xQ ti217 J J fC J (aA_one _ _) J) J ?_
  rintro ⟨⟩ -
  exact fZ (bZ (rZ (qZ (hX [.agg (aA _ _).toArray] J ⟨ResP.agg ti217 J J (fun j v hj => Cel.of_blk (b := b8) eX (by rw [Nat.zero_add j]; exact hj)), trivial⟩ () trivial J iM))))
 ·try replace hc := odF hc
  have hc64 : c ≤ 64 := by omega
  refine uZ (bZ (cZ (qQ (.lo 0 1 (.lo 1 1 (.lo 2 1 (.lo 3 1 (.lo 5 0 (.lo 6 0 (.lo 7 0 (.lo 8 0 (.lo 9 0 (.lo 10 0 (.eff1 4 false (.eff1 11 false (.lo 12 1 (.lo 13 1 (.lo 14 1 (.lo 15 1 (.lo 16 1 (.done)))))))))))))))))) [4, 11] [] ([deB z S]) ([]) mixed (by kernel_rfl) iM (Imp.none _) ?_)))
  refine nZ J J (dQ J J (wZ J fa213_5 J (hZ J (jZ (v := .pointer (some ⟨z.p, 0, none⟩)) ti210 J (Cel.of_blk (b := z.e) eX J)) ?_)))
  refine nZ J J (dQ J J (wZ J fa213_0 J (hZ J (jZ (v := .int .i64 0) ti3 J (Cel.of_blk (b := z.e) eX J)) ?_)))
  refine nZ J J (hZ J (cQ (c := (a : Int)) underlying3 J J wO) (aQ (rQ J J call208 J (iM) (Po.rclone_spec W0 _ (p := z.p) (acs := S.acs)) J (fun _ => iM) (fun _ => Imp.refl _) (fun _ => iM) ?_)))
  rintro u -
  refine aQ (rQ J J call106 J (iM) (rrcv_spec W0 _ (p := u) (acs := S.acs) 0 (a : Int)) J (fun _ => iM) (fun _ => Imp.refl _) (fun _ => iM) ?_)
  rintro ⟨ba, bc, bb⟩ hbb
  dsimp only at hbb ⊢
  refine nZ J J (hZ J (xZ J J) (hZ J (xZ J J) (hZ J (jQ J) (hZ J (jQ J) (pQ (bZ (cZ (cZ ?_))))))))
  rcases (show (rcvP S.acs 0 (a : Int)).1 ≠ 0 ∨ ((rcvP S.acs 0 (a : Int)).1 = 0 ∧ c < bb.length) ∨ ((rcvP S.acs 0 (a : Int)).1 = 0 ∧ bb.length ≤ c) by by_cases q1 : (rcvP S.acs 0 (a : Int)).1 = 0 <;> by_cases q2 : c < bb.length <;> simp [q1, q2] <;> omega) with q | q | q
  ·obtain rfl : (⟨erA (rcvP S.acs 0 (a : Int)).1, 0, 0, S, R⟩ : MO) = m := by rw [← hm]; unfold ocRecv; rw [if_neg (by omega)]; dsimp only; rw [if_neg q]; rfl
   refine aZ (eZ J (dZ (oQ (yQ J J) (v' := .bool false) (bF q)) (eZ J (gQ J J J J J (gQ J J J J J (gQ J J J J J (gQ J J J J J (gQ J J J J J (dZ mZ ?_)))))))))
   refine fZ (bZ (vZ J (uZ (bZ (cZ (cZ (aZ (eZ J (dZ (oQ (yQ J J) (v' := .bool false) (bF q)) (fZ (bZ (vZ J (uZ (bZ (cZ (cZ (aZ (eZ J (dZ (oQ (nX J J) (v' := .bool true) (bT q)) (fZ (bZ (fQ J (cZ ?_)))))))))))))))))))))))
   refine aZ (eZ J (oZ call157 J (Imp.refl _) (said_spec W0 _ _) J ?_))
   rintro ⟨⟩ -
   rw [sA_ne q]
   refine sQ (xQ ti217 J J fC J (aA_one _ _) J) J ?_
   rintro ⟨⟩ -
   exact fZ (bZ (rZ (qZ (hX [.agg (aA _ _).toArray] J ⟨ResP.agg ti217 J J (fun j v hj => Cel.of_blk (b := b8) eX (by rw [Nat.zero_add j]; exact hj)), trivial⟩ () trivial J iM))))
  ·obtain rfl : (⟨4294967293, 0, 0, S, R⟩ : MO) = m := by rw [← hm]; unfold ocRecv; rw [if_neg (by omega)]; dsimp only; rw [if_pos q.1, if_pos (by rw [← hbb]; exact q.2)]; rfl
   refine aZ (eZ J (dZ (oQ (yQ J J) (v' := .bool true) (bT q.1)) (eZ J (kZ J J (eZ J (kZ J J (dZ (sZ underlying32 J J) (kZ J J (eZ J (kZ J J (dZ (cQ (c := (c : Int)) underlying3 J J wO) (kZ J J (dZ (oQ (qV J J) (v' := .bool true) (bT (by omega))) ?_)))))))))))))
   refine dZ mZ ?_
   refine fZ (bZ (fQ J (aZ (gZ J (fZ (bZ (cZ (cZ (aZ (eZ J (dZ (oQ (yQ J J) (v' := .bool false) (bF (by decide))) (fZ (bZ (vZ J (uZ (bZ (cZ (cZ (aZ (eZ J (dZ (oQ (nX J J) (v' := .bool true) (bT (by decide))) (fZ (bZ ?_)))))))))))))))))))))))
   refine fQ J (cZ (aZ (eZ J (oZ call157 J (Imp.refl _) (said_spec W0 _ 2) J ?_))))
   rintro ⟨⟩ -
   rw [show sA 2 = aA 4294967293 0 from J]
   refine sQ (xQ ti217 J J fC J (aA_one _ _) J) J ?_
   rintro ⟨⟩ -
   exact fZ (bZ (rZ (qZ (hX [.agg (aA _ _).toArray] J ⟨ResP.agg ti217 J J (fun j v hj => Cel.of_blk (b := b8) eX (by rw [Nat.zero_add j]; exact hj)), trivial⟩ () trivial J iM))))
  ·refine aZ (eZ J (dZ (oQ (yQ J J) (v' := .bool true) (bT q.1)) (eZ J (kZ J J (eZ J (kZ J J (dZ (sZ underlying32 J J) (kZ J J (eZ J (kZ J J (dZ (cQ (c := (c : Int)) underlying3 J J wO) (kZ J J (dZ (oQ (qV J J) (v' := .bool false) (bF (by omega))) ?_)))))))))))))
   refine dZ mZ ?_
   refine fZ (bZ (vZ J (uZ (bZ (cZ (cZ (aZ (eZ J (dZ (oQ (yQ J J) (v' := .bool true) (bT q.1)) (fZ (bZ (fQ J (aZ (eZ J (zZ J (pZ fa213_1 J (dZ (jZ (v := .pointer (some ⟨z.s, 0, none⟩)) ti200 J (Cel.of_blk (b := z.e) eX J)) ?_)))))))))))))))))
   refine eZ J (eZ J (oZ call115 J (iM) (rout_spec W0 _ (b := z.s) (w := z.w) (k := 0) (o := S.o) (ts := ts) hK hb (ba := ba) (bc := bc) (bs := bb) (by exact RdB.of_osl (E := 5) eX J J)) J ?_))
   rintro ⟨⟩ -
   refine gZ J (fZ (bZ (cZ (cZ (aZ (eZ J (dZ (nX J J) (fZ (bZ (lQ J (fun hc => ?_) (fun hc => ?_)))))))))))
   ·try replace hc := odT hc
    obtain rfl : (⟨erA (outR S.o 0 b bb).1, 0, 0, S, R⟩ : MO) = m := by rw [← hm]; unfold ocRecv; rw [if_neg (by omega)]; dsimp only; rw [if_pos q.1, if_neg (by rw [← hbb]; omega), ← hbb, if_neg hc]; rfl
    rw [out_same hc]
    refine cZ (aZ (eZ J (oZ call157 J (Imp.refl _) (said_spec W0 _ _) J ?_)))
    rintro ⟨⟩ -
    rw [sA_ne hc]
    refine sQ (xQ ti217 J J fC J (aA_one _ _) J) J ?_
    rintro ⟨⟩ -
    exact fZ (bZ (rZ (qZ (hX [.agg (aA _ _).toArray] J ⟨ResP.agg ti217 J J (fun j v hj => Cel.of_blk (b := b8) eX (by rw [Nat.zero_add j]; exact hj)), trivial⟩ () trivial J iM))))
   ·try replace hc := odF hc
    have h0 : (outR S.o 0 b bb).1 = 0 := Decidable.not_not.1 hc
    obtain rfl : (⟨w32 bb.length, bb.length, 0, { S with o := (outR S.o 0 b bb).2, acs := (rcvP S.acs 0 (a : Int)).2.2 }, R⟩ : MO) = m := by rw [← hm]; unfold ocRecv; rw [if_neg (by omega)]; dsimp only; rw [if_pos q.1, if_neg (by rw [← hbb]; omega), ← hbb, if_pos h0]; rfl
    refine uZ (bZ (cZ (qQ (.lo 0 1 (.lo 1 1 (.lo 2 1 (.lo 3 1 (.lo 4 1 (.lo 5 1 (.lo 6 1 (.lo 7 1 (.lo 8 1 (.lo 9 1 (.eff1 10 false (.done)))))))))))) [10] [] ([]) ([]) mixed (by kernel_rfl) (Imp.none _) (Imp.none _) (nZ J J (dQ J J (wZ J fa213_5 J (hZ J (jZ (v := .pointer (some ⟨z.p, 0, none⟩)) ti210 J (Cel.of_blk (b := z.e) eX J)) ?_)))))))
    refine nZ J J (dQ J J (wZ J fa213_0 J (hZ J (jZ (v := .int .i64 0) ti3 J (Cel.of_blk (b := z.e) eX J)) ?_)))
    refine nZ J J (hZ J (cQ (c := (a : Int)) underlying3 J J wO) (aQ (rQ J J call106 J (iM) (rrcv_spec W0 _ (p := z.p) (acs := S.acs) 0 (a : Int)) J (fun _ => iM) (fun _ => Imp.refl _) (fun _ => iM) ?_)))
    rintro ⟨ja, jc, jb⟩ -
    dsimp only
    refine pQ (bZ (cZ (aZ (eZ J (dZ (sZ underlying32 J J) (dZ (cQ (c := w32 bb.length) underlying27 J J J) (eZ J (dZ (sZ underlying32 J J) (dZ (aX bu217 ti217 J (cells := aA (w32 bb.length) bb.length) J) (sQ (xQ ti217 J J fC J (aA_one _ _) J) J ?_))))))))))
    rintro ⟨⟩ -
    exact fZ (bZ (rZ (hX [.agg (aA _ _).toArray] J ⟨ResP.agg ti217 J J (fun j v hj => Cel.of_blk (b := b8) eX (by rw [Nat.zero_add j]; exact hj)), trivial⟩ () trivial J (by dsimp only [dG, deB]; rw [used_out]; exact iM))))
end
def sE (e : Int) : Int := if e = 0 then 0 else erA e
theorem sA_sE (e : Int) : sA e = aA (sE e) 0 := by unfold sA sE; split <;> rfl
theorem fin_map {S : HS} {R : List Value} {q0 : Int} {a b : Nat} : fin S R (ocMap q0 S R a b) = ⟨sE (mapO q0 S.o 0 a b).1, 0, 0, { S with o := (mapO q0 S.o 0 a b).2 }, R⟩ := by
 unfold ocMap sE; dsimp only
 by_cases h : (mapO q0 S.o 0 a b).1 = 0
 ·rw [if_pos h, if_pos h]; rfl
 ·rw [if_neg h, if_neg h, map_same h]; rfl
theorem fin_unm {S : HS} {R : List Value} {a : Nat} : fin S R (ocUnmap S R a) = ⟨sE (unmapO S.o 0 a).1, 0, 0, { S with o := (unmapO S.o 0 a).2 }, R⟩ := by
 unfold ocUnmap sE; dsimp only
 by_cases h : (unmapO S.o 0 a).1 = 0
 ·rw [if_pos h, if_pos h]; rfl
 ·rw [if_neg h, if_neg h, unmap_same h]; rfl
theorem fin_prot {S : HS} {R : List Value} {a b : Nat} : fin S R (ocProt S R a b) = ⟨sE (protO S.o 0 a b).1, 0, 0, { S with o := (protO S.o 0 a b).2 }, R⟩ := by
 unfold ocProt sE; dsimp only
 by_cases h : (protO S.o 0 a b).1 = 0
 ·rw [if_pos h, if_pos h]; rfl
 ·rw [if_neg h, if_neg h, prot_same h]; rfl
theorem used_prot {o : Ob} {k k' : Nat} {p pm : Int} : used (protO o k p pm).2 k' = used o k' := by
 unfold protO
 split
 ·rfl
 ·cases hx : o.vw k p.toNat with
  | none => rfl
  | some y =>
   unfold used
   have e : (fun q => (up2 o.vw k p.toNat (some (pm.toNat, y.2)) k' q).isSome) = fun q => (o.vw k' q).isSome := by
    funext q
    by_cases h : k' = k ∧ q = p.toNat
    ·obtain ⟨rfl, rfl⟩ := h; rw [up2_at, hx]; rfl
    ·rw [up2_ne h]
   show 1 + cN (o.ts k') 64 + cN (fun q => (up2 o.vw k p.toNat (some (pm.toNat, y.2)) k' q).isSome) 4096 = _
   rw [e]
def dmN (a b : Nat) : Int := IntKind.i64.wrap (Go.bits .or .u64 (IntKind.u64.wrap ((b : Int) * 2 ^ 32)) a)
theorem join63 {a b : Nat} (ha : a < 4294967296) (hb : b < 2147483648) : Go.bits .or .i64 ((b : Int) * 2 ^ 32) a = (b : Int) * 2 ^ 32 + a := bits_join .i64 63 (by decide) (fun n h0 h1 => w64 (by omega) (by omega)) 32 _ _ (by omega) (by omega) (by omega) (by omega) (by omega) (by omega)
theorem join64 {a b : Nat} (ha : a < 4294967296) (hb : b < 4294967296) : Go.bits .or .u64 ((b : Int) * 2 ^ 32) a = (b : Int) * 2 ^ 32 + a := bits_join .u64 64 (by decide) (fun n h0 h1 => wu64 (by omega) (by omega)) 32 _ _ (by omega) (by omega) (by omega) (by omega) (by omega) (by omega)
theorem dm_eq {a b : Nat} (ha : a < 4294967296) (hb : b < 4294967296) : dmN a b = IntKind.i64.wrap ((b : Int) * 4294967296 + a) := by
 unfold dmN
 rw [wu64 (x := (b : Int) * 2 ^ 32) (by omega) (by omega), join64 ha hb, show (2 : Int) ^ 32 = 4294967296 from J]
theorem dm_lo {a b : Nat} (ha : a < 4294967296) (hb : b ≤ 65536) : dmN a b = tmN a b := by
 rw [dm_eq ha (by omega), w64 (by omega) (by omega)]
 unfold tmN
 rw [w64 (x := (b : Int) * 2 ^ 32) (by omega) (by omega), join63 ha (by omega), show (2 : Int) ^ 32 = 4294967296 from J]
theorem dm_hi {a b : Nat} (ha : a < 4294967296) (hb : 65536 < b) (hb2 : b < 4294967296) : ¬ (0 ≤ dmN a b ∧ dmN a b ≤ 281474976710656) := by
 rw [dm_eq ha hb2, IntKind.wrap_i64]
 omega
def dA (n : Nat) (tm ans cp : Int) : List Value := if n = 11 then [.int .u32 ans, .int .u32 (w32 (tm / 2 ^ 32)), .bool true, .int .i64 cp] else aA ans cp
theorem rwd_eq {w : Nat} {o o' : Ob} {q0 : Int} : RWd w 0 o o' (64 - (used o 0 : Int)) (q0 - (used o 0 : Int)) [q0 - (used o 0 : Int), 8] = RW w (64 - (used o' 0 : Int)) [q0 - (used o' 0 : Int), 8] := by
 unfold RWd dO
 show RW w (64 - (used o 0 : Int) - ((used o' 0 : Int) - used o 0)) [q0 - (used o 0 : Int) - ((used o' 0 : Int) - used o 0), 8] = _
 rw [show 64 - (used o 0 : Int) - ((used o' 0 : Int) - used o 0) = 64 - (used o' 0 : Int) by omega, show q0 - (used o 0 : Int) - ((used o' 0 : Int) - used o 0) = q0 - (used o' 0 : Int) by omega]
theorem ts_like {o o' : Ob} {ts : List Int} (h : TsOk o 0 ts) (e : o'.ts = o.ts) : TsOk o' 0 ts := ⟨by rw [e]; exact h.mem, by rw [e]; exact h.len⟩
theorem unm_ts {o : Ob} {k : Nat} {p : Int} : (unmapO o k p).2.ts = o.ts := by unfold unmapO; split; rfl; split <;> rfl
theorem prot_ts {o : Ob} {k : Nat} {p pm : Int} : (protO o k p pm).2.ts = o.ts := by unfold protO; split; rfl; split <;> rfl
theorem out_ts {o : Ob} {k ad : Nat} {b : B} : (outR o k ad b).2.ts = o.ts := by unfold outR; split; rfl; split <;> rfl
theorem used_lt (o : Ob) : used o 0 ≤ 4161 := by
 unfold used
 have h1 := cN_le (o.ts 0) 64
 have h2 := cN_le (fun p => (o.vw 0 p).isSome) 4096
 omega
theorem wr_ts {S : HS} {R : List Value} {a b : Nat} : (fin S R (ocWrite S R a b)).S.o.ts = S.o.ts := by unfold ocWrite; split; rfl; dsimp only; split <;> rfl
theorem rd_ts {S : HS} {R : List Value} {a b : Nat} : (fin S R (ocRead S R a b)).S.o.ts = S.o.ts := by
 unfold ocRead; split
 ·rfl
 ·dsimp only; split
  ·exact out_ts
  ·rfl
theorem dr_ts {S : HS} {R : List Value} {a b : Nat} : (fin S R (ocDiskR S R a b)).S.o.ts = S.o.ts := by
 unfold ocDiskR; split
 ·dsimp only; split <;> rfl
 ·rfl
theorem dw_ts {S : HS} {R : List Value} {a b : Nat} : (fin S R (ocDiskW S R a b)).S.o.ts = S.o.ts := by unfold ocDiskW; dsimp only; split <;> (try split) <;> rfl
theorem sd_ts {S : HS} {R : List Value} {a b c : Nat} : (fin S R (ocSend S R a b c)).S.o.ts = S.o.ts := by unfold ocSend; split; rfl; dsimp only; split <;> (try split) <;> rfl
theorem rc_ts {S : HS} {R : List Value} {a b c : Nat} : (fin S R (ocRecv S R a b c)).S.o.ts = S.o.ts := by
 unfold ocRecv; split
 ·rfl
 ·dsimp only; split
  ·split
   ·rfl
   ·split
    ·exact out_ts
    ·rfl
  ·rfl
theorem if_ts {S : HS} {R : List Value} {a : Nat} : (fin S R (ocInfo S R a)).S.o.ts = S.o.ts := by
 unfold ocInfo
 repeat' split
 all_goals rfl
theorem other_oc {q0 : Int} {S : HS} {R : List Value} {n a b c : Nat} (k1 : n ≠ 1) (k2 : n ≠ 2) (k3 : n ≠ 3) (k4 : n ≠ 4) (k5 : n ≠ 5) (k6 : n ≠ 6) (k7 : n ≠ 7) (k8 : n ≠ 8) (k9 : n ≠ 9) (k10 : n ≠ 10) (k11 : n ≠ 11) (k12 : n ≠ 12) (k13 : n ≠ 13) (k14 : n ≠ 14) : ocOf q0 S R n a b c = .inl 1 := by
 unfold ocOf
 split <;> first | rfl | omega
section
variable (W0 : World) (Fr : List HProp)
variable {z : DP} {S : HS} {q0 : Int} {ts : List Int} {n a b c : Nat} {R : List Value}
structure DK (q0 : Int) (S : HS) (ts : List Int) : Prop where
 T : TsOk S.o 0 ts
 K : ObK S.o 0
 h1 : 1 ≤ q0
 h2 : q0 ≤ 30
 p : S.p < 256
 out : S.out.length ≤ 64
 inn : S.inn.length ≤ 64
 told : S.d.told.length ≤ 4294967296
set_option maxHeartbeats 4000000 in
theorem rdoes_spec (h : DK q0 S ts) (hn : n < 4294967296) (ha : a < 4294967296) (hb : b < 4294967296) (hcc : c < 4294967296) : Ctr prog W0 116 [.pointer (some ⟨z.e, 0, none⟩), .int .u32 n, .int .u32 a, .int .u32 b, .int .u32 c] (dG z S q0 ts Fr)
 (fun ts' : List Int => TsOk (fin S R (ocOf q0 S R n a b c)).S.o 0 ts') (fun _ => .agg (dA n S.time (fin S R (ocOf q0 S R n a b c)).ans (fin S R (ocOf q0 S R n a b c)).cp).toArray) (fun ts' => dG z (fin S R (ocOf q0 S R n a b c)).S q0 ts' Fr) := by
 have hu := used_lt S.o
 have h1 := h.h1
 have h2 := h.h2
 generalize hm : fin S R (ocOf q0 S R n a b c) = m
 refine Ctr.of_body func116 J ntmps116 J (cZ (aZ (kQ (pX ti217) J ?_)))
 rintro b10 -
 refine fZ (bZ (cZ (cZ (aZ (eZ J (fZ (bZ (mQ (cZ (aZ (dZ (yQ J J) (gZ J (fZ (bZ (lQ J (fun hc => ?_) (fun hc => ?_))))))))))))))))
 ·try replace hc := odT hc
  obtain rfl : n = 1 := by omega
  obtain rfl : (⟨0, 0, 1, S, R⟩ : MO) = m := hm
  refine cZ (aZ (dZ (aX bu217 ti217 J (cells := aA 0 0) J) (sQ (xQ ti217 J J fC J (aA_one _ _) J) J ?_)))
  rintro ⟨⟩ -
  exact fZ (bZ (rZ (nQ (qZ (hX [.agg (aA _ _).toArray] J ⟨ResP.agg ti217 J J (fun j v hj => Cel.of_blk (b := b10) eX (by rw [Nat.zero_add j]; exact hj)), trivial⟩ ts h.T J iM)))))
 ·try replace hc := odF hc
  have k1 : n ≠ 1 := by omega
  refine cZ (aZ (dZ (yQ J J) (gZ J (fZ (bZ (lQ J (fun hc => ?_) (fun hc => ?_)))))))
  ·try replace hc := odT hc
   obtain rfl : n = 2 := by omega
   obtain rfl : (⟨sE (mapO q0 S.o 0 a b).1, 0, 0, { S with o := (mapO q0 S.o 0 a b).2 }, R⟩ : MO) = m := by rw [← hm]; exact fin_map.symm
   refine cZ (aZ (eZ J (zZ J (pZ fa213_1 J (dZ (jZ (v := .pointer (some ⟨z.s, 0, none⟩)) ti200 J (Cel.of_blk (b := z.e) eX J)) ?_)))))
   refine eZ J (dZ (cQ (c := (a : Int)) underlying3 J J wO) (eZ J (dZ (cQ (c := (b : Int)) underlying3 J J wO) (oZ call158 J (iM) (rmap_spec W0 _ (b := z.s) (w := z.w) (k := 0) (o := S.o) (ts := ts) (fr := 64 - (used S.o 0 : Int)) (qk := q0) (ls := [q0 - (used S.o 0 : Int), 8]) (a : Int) (b : Int) h.T J (show 2 ≤ 1024 by decide) (by omega) (by omega)) J ?_))))
   rintro ts2 hT2
   rw [rwd_eq]
   refine oZ call157 J (Imp.refl _) (said_spec W0 _ _) J ?_
   rintro ⟨⟩ -
   rw [sA_sE]
   refine sQ (xQ ti217 J J fC J (aA_one _ _) J) J ?_
   rintro ⟨⟩ -
   exact fZ (bZ (rZ (nQ (qZ (hX [.agg (aA _ _).toArray] J ⟨ResP.agg ti217 J J (fun j v hj => Cel.of_blk (b := b10) eX (by rw [Nat.zero_add j]; exact hj)), trivial⟩ ts2 hT2 J iM)))))
  ·try replace hc := odF hc
   have k2 : n ≠ 2 := by omega
   refine cZ (aZ (dZ (yQ J J) (gZ J (fZ (bZ (lQ J (fun hc => ?_) (fun hc => ?_)))))))
   ·try replace hc := odT hc
    obtain rfl : n = 3 := by omega
    obtain rfl : (⟨sE (unmapO S.o 0 a).1, 0, 0, { S with o := (unmapO S.o 0 a).2 }, R⟩ : MO) = m := by rw [← hm]; exact fin_unm.symm
    refine cZ (aZ (eZ J (zZ J (pZ fa213_1 J (dZ (jZ (v := .pointer (some ⟨z.s, 0, none⟩)) ti200 J (Cel.of_blk (b := z.e) eX J)) ?_)))))
    refine eZ J (dZ (cQ (c := (a : Int)) underlying3 J J wO) (oZ call159 J (iM) (runmap_spec W0 _ (b := z.s) (w := z.w) (k := 0) (o := S.o) (ts := ts) (fr := 64 - (used S.o 0 : Int)) (q := q0 - (used S.o 0 : Int)) (ls := [q0 - (used S.o 0 : Int), 8]) (a : Int) J (show 2 ≤ 1024 by decide) (by omega) (by omega)) J ?_))
    rintro ⟨⟩ -
    rw [rwd_eq]
    refine oZ call157 J (Imp.refl _) (said_spec W0 _ _) J ?_
    rintro ⟨⟩ -
    rw [sA_sE]
    refine sQ (xQ ti217 J J fC J (aA_one _ _) J) J ?_
    rintro ⟨⟩ -
    exact fZ (bZ (rZ (nQ (qZ (hX [.agg (aA _ _).toArray] J ⟨ResP.agg ti217 J J (fun j v hj => Cel.of_blk (b := b10) eX (by rw [Nat.zero_add j]; exact hj)), trivial⟩ ts (ts_like h.T unm_ts) J iM)))))
   ·try replace hc := odF hc
    have k3 : n ≠ 3 := by omega
    refine cZ (aZ (dZ (yQ J J) (gZ J (fZ (bZ (lQ J (fun hc => ?_) (fun hc => ?_)))))))
    ·try replace hc := odT hc
     obtain rfl : n = 4 := by omega
     obtain rfl : (⟨sE (protO S.o 0 a b).1, 0, 0, { S with o := (protO S.o 0 a b).2 }, R⟩ : MO) = m := by rw [← hm]; exact fin_prot.symm
     refine cZ (aZ (eZ J (zZ J (pZ fa213_1 J (dZ (jZ (v := .pointer (some ⟨z.s, 0, none⟩)) ti200 J (Cel.of_blk (b := z.e) eX J)) ?_)))))
     refine eZ J (dZ (cQ (c := (a : Int)) underlying3 J J wO) (eZ J (dZ (cQ (c := (b : Int)) underlying3 J J wO) (oZ call160 J (iM) (rprotect_spec W0 _ (b := z.s) (w := z.w) (k := 0) (o := S.o) (ts := ts) (a : Int) (b : Int)) J ?_))))
     rintro ⟨⟩ -
     refine oZ call157 J (Imp.refl _) (said_spec W0 _ _) J ?_
     rintro ⟨⟩ -
     rw [sA_sE]
     refine sQ (xQ ti217 J J fC J (aA_one _ _) J) J ?_
     rintro ⟨⟩ -
     exact fZ (bZ (rZ (nQ (qZ (hX [.agg (aA _ _).toArray] J ⟨ResP.agg ti217 J J (fun j v hj => Cel.of_blk (b := b10) eX (by rw [Nat.zero_add j]; exact hj)), trivial⟩ ts (ts_like h.T prot_ts) J (by dsimp only [dG, deB]; rw [used_prot]; exact iM))))))
    ·try replace hc := odF hc
     have k4 : n ≠ 4 := by omega
     refine cZ (aZ (dZ (yQ J J) (gZ J (fZ (bZ (lQ J (fun hc => ?_) (fun hc => ?_)))))))
     ·try replace hc := odT hc
      obtain rfl : n = 5 := by omega
      obtain rfl : fin S R (ocWrite S R a b) = m := hm
      refine cZ (aZ (eZ J (eZ J (eZ J (oZ call161 J (iM) (rwrites_spec W0 (blk b10 [.int .u32 0, .int .u32 0, .bool false, .int .i64 0] 217 :: Fr) (z := z) (S := S) (q0 := q0) (ts := ts) (a := a) (b := b) (R := R) h.K ha hb h.out) J ?_)))))
      rintro ⟨⟩ -
      refine sQ (xQ ti217 J J fC J (aA_one _ _) J) J ?_
      rintro ⟨⟩ -
      exact fZ (bZ (rZ (nQ (qZ (hX [.agg (aA _ _).toArray] J ⟨ResP.agg ti217 J J (fun j v hj => Cel.of_blk (b := b10) eX (by rw [Nat.zero_add j]; exact hj)), trivial⟩ ts (ts_like h.T wr_ts) J iM)))))
     ·try replace hc := odF hc
      have k5 : n ≠ 5 := by omega
      refine cZ (aZ (dZ (yQ J J) (gZ J (fZ (bZ (lQ J (fun hc => ?_) (fun hc => ?_)))))))
      ·try replace hc := odT hc
       obtain rfl : n = 6 := by omega
       obtain rfl : fin S R (ocRead S R a b) = m := hm
       refine cZ (aZ (eZ J (eZ J (eZ J (oZ call162 J (iM) (rreads_spec W0 (blk b10 [.int .u32 0, .int .u32 0, .bool false, .int .i64 0] 217 :: Fr) (z := z) (S := S) (q0 := q0) (ts := ts) (a := a) (b := b) (R := R) h.K ha hb h.inn) J ?_)))))
       rintro ⟨⟩ -
       refine sQ (xQ ti217 J J fC J (aA_one _ _) J) J ?_
       rintro ⟨⟩ -
       exact fZ (bZ (rZ (nQ (qZ (hX [.agg (aA _ _).toArray] J ⟨ResP.agg ti217 J J (fun j v hj => Cel.of_blk (b := b10) eX (by rw [Nat.zero_add j]; exact hj)), trivial⟩ ts (ts_like h.T rd_ts) J iM)))))
      ·try replace hc := odF hc
       have k6 : n ≠ 6 := by omega
       refine cZ (aZ (dZ (yQ J J) (gZ J (fZ (bZ (lQ J (fun hc => ?_) (fun hc => ?_)))))))
       ·try replace hc := odT hc
        obtain rfl : n = 7 := by omega
        obtain rfl : fin S R (ocDiskR S R a b) = m := hm
        refine cZ (aZ (eZ J (eZ J (eZ J (oZ call163 J (iM) (rdiskR_spec W0 (blk b10 [.int .u32 0, .int .u32 0, .bool false, .int .i64 0] 217 :: Fr) (z := z) (S := S) (q0 := q0) (ts := ts) (a := a) (b := b) (R := R) ha hb) J ?_)))))
        rintro ⟨⟩ -
        refine sQ (xQ ti217 J J fC J (aA_one _ _) J) J ?_
        rintro ⟨⟩ -
        exact fZ (bZ (rZ (nQ (qZ (hX [.agg (aA _ _).toArray] J ⟨ResP.agg ti217 J J (fun j v hj => Cel.of_blk (b := b10) eX (by rw [Nat.zero_add j]; exact hj)), trivial⟩ ts (ts_like h.T dr_ts) J iM)))))
       ·try replace hc := odF hc
        have k7 : n ≠ 7 := by omega
        refine cZ (aZ (dZ (yQ J J) (gZ J (fZ (bZ (lQ J (fun hc => ?_) (fun hc => ?_)))))))
        ·try replace hc := odT hc
         obtain rfl : n = 8 := by omega
         obtain rfl : fin S R (ocDiskW S R a b) = m := hm
         refine cZ (aZ (eZ J (eZ J (eZ J (oZ call163 J (iM) (rdiskW_spec W0 (blk b10 [.int .u32 0, .int .u32 0, .bool false, .int .i64 0] 217 :: Fr) (z := z) (S := S) (q0 := q0) (ts := ts) (a := a) (b := b) (R := R) h.K ha hb) J ?_)))))
         rintro ⟨⟩ -
         refine sQ (xQ ti217 J J fC J (aA_one _ _) J) J ?_
         rintro ⟨⟩ -
         exact fZ (bZ (rZ (nQ (qZ (hX [.agg (aA _ _).toArray] J ⟨ResP.agg ti217 J J (fun j v hj => Cel.of_blk (b := b10) eX (by rw [Nat.zero_add j]; exact hj)), trivial⟩ ts (ts_like h.T dw_ts) J iM)))))
        ·try replace hc := odF hc
         have k8 : n ≠ 8 := by omega
         refine cZ (aZ (dZ (yQ J J) (gZ J (fZ (bZ (lQ J (fun hc => ?_) (fun hc => ?_)))))))
         ·try replace hc := odT hc
          obtain rfl : n = 9 := by omega
          obtain rfl : fin S R (ocSend S R a b c) = m := hm
          refine cZ (aZ (eZ J (eZ J (eZ J (eZ J (oZ call164 J (iM) (rsendc_spec W0 (blk b10 [.int .u32 0, .int .u32 0, .bool false, .int .i64 0] 217 :: Fr) (z := z) (S := S) (q0 := q0) (ts := ts) (a := a) (b := b) (c := c) (R := R) h.K ha hb hcc) J ?_))))))
          rintro ⟨⟩ -
          refine sQ (xQ ti217 J J fC J (aA_one _ _) J) J ?_
          rintro ⟨⟩ -
          exact fZ (bZ (rZ (nQ (qZ (hX [.agg (aA _ _).toArray] J ⟨ResP.agg ti217 J J (fun j v hj => Cel.of_blk (b := b10) eX (by rw [Nat.zero_add j]; exact hj)), trivial⟩ ts (ts_like h.T sd_ts) J iM)))))
         ·try replace hc := odF hc
          have k9 : n ≠ 9 := by omega
          refine cZ (aZ (dZ (yQ J J) (gZ J (fZ (bZ (lQ J (fun hc => ?_) (fun hc => ?_)))))))
          ·try replace hc := odT hc
           obtain rfl : n = 10 := by omega
           obtain rfl : fin S R (ocRecv S R a b c) = m := hm
           refine cZ (aZ (eZ J (eZ J (eZ J (eZ J (oZ call165 J (iM) (rreceive_spec W0 (blk b10 [.int .u32 0, .int .u32 0, .bool false, .int .i64 0] 217 :: Fr) (z := z) (S := S) (q0 := q0) (ts := ts) (a := a) (b := b) (c := c) (R := R) h.K ha hb hcc) J ?_))))))
           rintro ⟨⟩ -
           refine sQ (xQ ti217 J J fC J (aA_one _ _) J) J ?_
           rintro ⟨⟩ -
           exact fZ (bZ (rZ (nQ (qZ (hX [.agg (aA _ _).toArray] J ⟨ResP.agg ti217 J J (fun j v hj => Cel.of_blk (b := b10) eX (by rw [Nat.zero_add j]; exact hj)), trivial⟩ ts (ts_like h.T rc_ts) J iM)))))
          ·try replace hc := odF hc
           have k10 : n ≠ 10 := by omega
           refine cZ (aZ (dZ (yQ J J) (gZ J (fZ (bZ (lQ J (fun hc => ?_) (fun hc => ?_)))))))
           ·try replace hc := odT hc
            obtain rfl : n = 11 := by omega
            obtain rfl : (⟨w32 S.time, 0, 0, S, R.set 2 (.int .u32 (w32 (S.time / 2 ^ 32)))⟩ : MO) = m := hm
            refine cZ (qQ (.lo 0 1 (.lo 1 1 (.lo 2 1 (.lo 3 1 (.lo 4 1 (.lo 5 1 (.lo 6 1 (.lo 7 1 (.lo 8 1 (.lo 9 1 (.lo 10 1 (.lo 11 1 (.eff1 12 false (.done)))))))))))))) [12] [] ([]) ([]) mixed (by kernel_rfl) (Imp.none _) (Imp.none _) (nZ J J (dQ J J (wZ J fa213_6 J (hZ J (jZ (v := .int .i64 S.time) ti3 J (Cel.of_blk (b := z.e) eX J)) ?_)))))
            refine hZ J (cQ (c := w32 S.time) underlying27 J J J) (nZ J J (dQ J J (wZ J fa213_6 J (hZ J (jZ (v := .int .i64 S.time) ti3 J (Cel.of_blk (b := z.e) eX J)) ?_))))
            refine hZ J (Yield.shr (m := 32) (c := S.time / 2 ^ 32) J J J (by decide) J) (hZ J (cQ (c := w32 (S.time / 2 ^ 32)) underlying27 J J J) (hZ J (aX bu217 ti217 J (cells := [.int .u32 (w32 S.time), .int .u32 (w32 (S.time / 2 ^ 32)), .bool true, .int .i64 0]) J) (aQ (wQ J J (xQ ti217 J J fC J (by simp [one]) J) J (fun _ => iM) (fun _ => Imp.refl _) (fun _ => iM) ?_))))
            rintro ⟨⟩ -
            exact pQ (bZ (rZ (nQ (qZ (hX [.agg ([.int .u32 (w32 S.time), .int .u32 (w32 (S.time / 2 ^ 32)), .bool true, .int .i64 0] : List Value).toArray] J ⟨ResP.agg ti217 J J (fun j v hj => Cel.of_blk (b := b10) eX (by rw [Nat.zero_add j]; exact hj)), trivial⟩ ts h.T J iM)))))
           ·try replace hc := odF hc
            have k11 : n ≠ 11 := by omega
            refine cZ (aZ (dZ (yQ J J) (gZ J (fZ (bZ (lQ J (fun hc => ?_) (fun hc => ?_)))))))
            ·try replace hc := odT hc
             obtain rfl : n = 12 := by omega
             have hoc : ocOf q0 S R 12 a b c = ocTimer S R a b := rfl
             rw [hoc] at hm
             obtain ⟨tm, htm⟩ : ∃ t : Int, t = dmN a b := ⟨_, rfl⟩
             refine cZ ?_
             by_cases hf25 : (0 ≤ tm ∧ tm ≤ 281474976710656)
             ·have hb6 : b ≤ 65536 := Nat.le_of_not_lt fun q => dm_hi ha q hb (by rw [← htm]; exact hf25)
              have e12 : tmN a b = tm := by rw [htm, dm_lo ha hb6]
              obtain rfl : (⟨sE 0, 0, 0, { S with at' := tm, set := true }, R⟩ : MO) = m := by rw [← hm]; unfold ocTimer; rw [if_neg (by omega), e12, if_pos (show tmB tm = true from decide_eq_true hf25)]; rfl
              refine aZ (eZ J (zZ J (pZ fa213_2 J (dZ (jZ (v := .pointer (some ⟨z.v, 0, none⟩)) ti206 J (Cel.of_blk (b := z.e) eX J)) ?_))))
              refine eZ J (dZ (cQ (c := (b : Int)) underlying24 J J (wu64 (by omega) (by omega))) ?_)
              refine dZ (zV (m := 32) (c := IntKind.u64.wrap ((b : Int) * 2 ^ 32)) J J J (by decide) J) (eZ J (dZ (cQ (c := (a : Int)) underlying24 J J (wu64 (by omega) (by omega))) ?_))
              refine dZ (cV (c := Go.bits .or .u64 (IntKind.u64.wrap ((b : Int) * 2 ^ 32)) a) J J J J) (dZ (cQ (c := tm) underlying3 J J (by rw [htm]; rfl)) ?_)
              refine oZ call166 J (iM) (Vi.rtimer_spec W0 _ (v := z.v) (q := S.q) (p := S.p) (a := Vi.atOf S.set S.at') tm) J ?_
              rintro ⟨⟩ -
              first | rw [if_pos hf25, if_pos hf25] | rw [if_neg hf25, if_neg hf25]
              refine oZ call157 J (Imp.refl _) (said_spec W0 _ _) J ?_
              rintro ⟨⟩ -
              rw [sA_sE]
              refine sQ (xQ ti217 J J fC J (aA_one _ _) J) J ?_
              rintro ⟨⟩ -
              exact fZ (bZ (rZ (nQ (qZ (hX [.agg (aA _ _).toArray] J ⟨ResP.agg ti217 J J (fun j v hj => Cel.of_blk (b := b10) eX (by rw [Nat.zero_add j]; exact hj)), trivial⟩ ts h.T J iM)))))
             ·obtain rfl : (⟨sE 2, 0, 0, S, R⟩ : MO) = m := by rw [← hm]; unfold ocTimer; by_cases q : 65536 < b; rw [if_pos q]; rfl; rw [if_neg q, if_neg (fun w : tmB (tmN a b) = true => hf25 (by rw [htm, dm_lo ha (by omega)]; exact of_decide_eq_true w))]; rfl
              refine aZ (eZ J (zZ J (pZ fa213_2 J (dZ (jZ (v := .pointer (some ⟨z.v, 0, none⟩)) ti206 J (Cel.of_blk (b := z.e) eX J)) ?_))))
              refine eZ J (dZ (cQ (c := (b : Int)) underlying24 J J (wu64 (by omega) (by omega))) ?_)
              refine dZ (zV (m := 32) (c := IntKind.u64.wrap ((b : Int) * 2 ^ 32)) J J J (by decide) J) (eZ J (dZ (cQ (c := (a : Int)) underlying24 J J (wu64 (by omega) (by omega))) ?_))
              refine dZ (cV (c := Go.bits .or .u64 (IntKind.u64.wrap ((b : Int) * 2 ^ 32)) a) J J J J) (dZ (cQ (c := tm) underlying3 J J (by rw [htm]; rfl)) ?_)
              refine oZ call166 J (iM) (Vi.rtimer_spec W0 _ (v := z.v) (q := S.q) (p := S.p) (a := Vi.atOf S.set S.at') tm) J ?_
              rintro ⟨⟩ -
              first | rw [if_pos hf25, if_pos hf25] | rw [if_neg hf25, if_neg hf25]
              refine oZ call157 J (Imp.refl _) (said_spec W0 _ _) J ?_
              rintro ⟨⟩ -
              rw [sA_sE]
              refine sQ (xQ ti217 J J fC J (aA_one _ _) J) J ?_
              rintro ⟨⟩ -
              exact fZ (bZ (rZ (nQ (qZ (hX [.agg (aA _ _).toArray] J ⟨ResP.agg ti217 J J (fun j v hj => Cel.of_blk (b := b10) eX (by rw [Nat.zero_add j]; exact hj)), trivial⟩ ts h.T J iM)))))
            ·try replace hc := odF hc
             have k12 : n ≠ 12 := by omega
             refine cZ (aZ (dZ (yQ J J) (gZ J (fZ (bZ (lQ J (fun hc => ?_) (fun hc => ?_)))))))
             ·try replace hc := odT hc
              obtain rfl : n = 13 := by omega
              obtain rfl : (⟨0, 0, 0, { S with p := Vi.clr S.p a }, R⟩ : MO) = m := hm
              refine cZ (aZ (eZ J (zZ J (pZ fa213_2 J (dZ (jZ (v := .pointer (some ⟨z.v, 0, none⟩)) ti206 J (Cel.of_blk (b := z.e) eX J)) ?_)))))
              refine eZ J (oZ call167 J (iM) (Vi.rack_spec W0 _ (v := z.v) (q := S.q) (p := S.p) (m := a) (a := Vi.atOf S.set S.at') h.p ha) J ?_)
              rintro ⟨⟩ -
              refine fZ (bZ (cZ (aZ (dZ (aX bu217 ti217 J (cells := aA 0 0) J) (sQ (xQ ti217 J J fC J (aA_one _ _) J) J ?_)))))
              rintro ⟨⟩ -
              exact fZ (bZ (rZ (nQ (qZ (hX [.agg (aA _ _).toArray] J ⟨ResP.agg ti217 J J (fun j v hj => Cel.of_blk (b := b10) eX (by rw [Nat.zero_add j]; exact hj)), trivial⟩ ts h.T J iM)))))
             ·try replace hc := odF hc
              have k13 : n ≠ 13 := by omega
              refine cZ (aZ (dZ (yQ J J) (gZ J (fZ (bZ (lQ J (fun hc => ?_) (fun hc => ?_)))))))
              ·try replace hc := odT hc
               obtain rfl : n = 14 := by omega
               obtain rfl : fin S R (ocInfo S R a) = m := hm
               refine cZ (aZ (eZ J (eZ J (oZ call168 J (iM) (rinfo_spec W0 (blk b10 [.int .u32 0, .int .u32 0, .bool false, .int .i64 0] 217 :: Fr) (z := z) (S := S) (q0 := q0) (ts := ts) (a := a) (R := R) ha h.told) J ?_))))
               rintro ⟨⟩ -
               refine sQ (xQ ti217 J J fC J (aA_one _ _) J) J ?_
               rintro ⟨⟩ -
               exact fZ (bZ (rZ (nQ (qZ (hX [.agg (aA _ _).toArray] J ⟨ResP.agg ti217 J J (fun j v hj => Cel.of_blk (b := b10) eX (by rw [Nat.zero_add j]; exact hj)), trivial⟩ ts (ts_like h.T if_ts) J iM)))))
              ·try replace hc := odF hc
               have k14 : n ≠ 14 := by omega
               refine uZ (tZ (bZ (cZ (aZ (dZ (aX bu217 ti217 J (cells := aA 4294967295 0) J) (sQ (xQ ti217 J J fC J (aA_one _ _) J) J ?_))))))
               rintro ⟨⟩ -
               refine fZ (bZ (rZ ?_))
               obtain rfl : (⟨4294967295, 0, 0, S, R⟩ : MO) = m := by rw [← hm, other_oc k1 k2 k3 k4 k5 k6 k7 k8 k9 k10 k11 k12 k13 k14]; rfl
               have hd : ∀ tm ans cp, dA n tm ans cp = aA ans cp := fun tm ans cp => if_neg k11
               rw [hd]
               exact hX [.agg (aA _ _).toArray] J ⟨ResP.agg ti217 J J (fun j v hj => Cel.of_blk (b := b10) eX (by rw [Nat.zero_add j]; exact hj)), trivial⟩ ts h.T J iM
end
theorem rg_a {g : Rg} {n : Nat} {tm v : Int} (hn : n = 11) : ((g.v.set 1 (.int .u32 v)).set 2 (.int .u32 (w32 (tm / 2 ^ 32)))).set 24 (.int .u32 (w32 (g.pc + 4))) = (g.ans n tm v).v := by
 rw [Rg.set_r g (by decide), Rg.set_r _ (by decide), Rg.set_p]
 unfold Rg.ans
 simp only [if_pos hn]
 unfold Rg.v
 dsimp only
 rw [List.set_comm _ _ (by decide)]
theorem rg_b {g : Rg} {n : Nat} {tm v : Int} (hn : n ≠ 11) : (g.v.set 1 (.int .u32 v)).set 24 (.int .u32 (w32 (g.pc + 4))) = (g.ans n tm v).v := by
 rw [Rg.set_r g (by decide), Rg.set_p]
 unfold Rg.ans
 simp only [if_neg hn]
section
variable (W0 : World) (Fr : List HProp)
variable {z : DP} {S : HS} {q0 : Int} {ts : List Int} {n a b c : Nat}
set_option maxHeartbeats 4000000 in
theorem rDo_spec {g : Rg} (h : DK q0 S ts) (hn : n < 4294967296) (ha : a < 4294967296) (hb : b < 4294967296) (hcc : c < 4294967296) (h1 : g.rs[1]? = some (n : Int)) (h2 : g.rs[2]? = some (a : Int)) (h3 : g.rs[3]? = some (b : Int)) (h4 : g.rs[4]? = some (c : Int)) :
 Ctr prog W0 48 [.pointer (some ⟨z.e, 0, none⟩), .agg g.v.toArray] (dG z S q0 ts Fr) (fun ts' : List Int => TsOk (fin S g.v (ocOf q0 S g.v n a b c)).S.o 0 ts')
  (fun _ => .tuple #[.agg (g.ans n S.time (fin S g.v (ocOf q0 S g.v n a b c)).ans).v.toArray, .int .i64 (costN (fin S g.v (ocOf q0 S g.v n a b c)).cp), .int .i64 (if n = 1 then 1 else 0)]) (fun ts' => dG z (fin S g.v (ocOf q0 S g.v n a b c)).S q0 ts' Fr) := by
 have hw := way_of (qk := q0) (S := S) (R := g.v) (n := n) (a := a) (b := b) (c := c)
 have hcost := fin_cost hw
 have hds := fun Fr => rdoes_spec W0 Fr (z := z) (R := g.v) h hn ha hb hcc
 generalize fin S g.v (ocOf q0 S g.v n a b c) = m at hcost hds ⊢
 obtain ⟨r2, two, hd, htw, hr2⟩ : ∃ (r2 : Int) (two : Bool), dA n S.time m.ans m.cp = [.int .u32 m.ans, .int .u32 r2, .bool two, .int .i64 m.cp] ∧ two = decide (n = 11) ∧ (n = 11 → r2 = w32 (S.time / 2 ^ 32)) := by
  by_cases q : n = 11
  ·exact ⟨_, _, if_pos q, (decide_eq_true q).symm, fun _ => rfl⟩
  ·exact ⟨_, _, if_neg q, (decide_eq_false q).symm, fun k => absurd k q⟩
 rw [hd] at hds
 refine Ctr.of_body func48 J ntmps48 J (cZ (aZ (kQ (uX J) J ?_)))
 rintro b3 -
 rw [show (Value.agg g.v.toArray).cells.toList = g.v from J]
 refine kQ (pX ti31) J ?_
 rintro b4 -
 refine gZ J (gZ J (fZ (bZ (cZ (aZ (pZ fa31_0 J (dZ (bX underlying28 ti27 J J (by omega) (by omega)) ?_)))))))
 refine dZ (jZ (v := .int .u32 n) ti27 J (Cel.of_blk (b := b3) eX (Rg.r h1))) ?_
 refine gZ J (fZ (bZ (cZ (aZ (eZ J (eZ J (pZ fa31_0 J (dZ (bX underlying28 ti27 J J (by omega) (by omega)) ?_))))))))
 refine dZ (jZ (v := .int .u32 a) ti27 J (Cel.of_blk (b := b3) eX (Rg.r h2))) ?_
 refine pZ fa31_0 J (dZ (bX underlying28 ti27 J J (by omega) (by omega)) ?_)
 refine dZ (jZ (v := .int .u32 b) ti27 J (Cel.of_blk (b := b3) eX (Rg.r h3))) ?_
 refine pZ fa31_0 J (dZ (bX underlying28 ti27 J J (by omega) (by omega)) ?_)
 refine dZ (jZ (v := .int .u32 c) ti27 J (Cel.of_blk (b := b3) eX (Rg.r h4))) ?_
 refine oZ call116 J (iM) (hds _) J ?_
 rintro ts2 hT2
 refine kQ (pX ti217) J ?_
 rintro b8 -
 refine sQ (xQ ti217 J J fC J (by simp [one]) J) J ?_
 rintro ⟨⟩ -
 refine fZ (bZ (cZ (aZ (pZ fa217_0 J (dZ (jZ (v := .int .u32 m.ans) ti27 J (Cel.of_blk (b := b8) eX J)) ?_)))))
 refine pZ fa31_0 J (dZ (bX underlying28 ti27 J J (by omega) (by omega)) ?_)
 refine sQ (uQ ti27 J J fC J (by rw [Rg.len]; decide)) J ?_
 rintro ⟨⟩ -
 rw [show (0 + 0 + (1 : Int).toNat * 1) = 1 from J]
 refine fZ (bZ (cZ (cZ ?_)))
 rcases (show n = 11 ∨ n ≠ 11 by omega) with q | q
 ·obtain rfl : two = true := by rw [htw]; exact decide_eq_true q
  have hr2' := hr2 q
  refine aZ (pZ fa217_2 J (dZ (jZ (v := .bool true) ti4 J (Cel.of_blk (b := b8) eX J)) ?_))
  refine fZ (bZ (fQ J (aZ (pZ fa217_1 J (dZ (jZ (v := .int .u32 (w32 (S.time / 2 ^ 32))) ti27 J (Cel.of_blk (b := b8) eX (by rw [← hr2']; rfl))) ?_)))))
  refine pZ fa31_0 J (dZ (bX underlying28 ti27 J J (by omega) (by omega)) ?_)
  refine sQ (uQ ti27 J J fC J (by rw [List.length_set, Rg.len]; decide)) J ?_
  rintro ⟨⟩ -
  rw [show (0 + 0 + (2 : Int).toNat * 1) = 2 from J]
  refine fZ (bZ (cZ (aZ (pZ fa31_2 J (dZ (jZ (v := .int .u32 g.pc) ti27 J (Cel.of_blk (b := b3) eX (by rw [List.getElem?_set_ne (by decide), List.getElem?_set_ne (by decide)]; exact Rg.p g))) ?_)))))
  refine dZ (hQ (c := w32 (g.pc + 4)) J J J) (pZ fa31_2 J (sQ (uQ ti27 J J fC J (by rw [List.length_set, List.length_set, Rg.len]; decide)) J ?_))
  rintro ⟨⟩ -
  rw [show (0 + 24 : Nat) = 24 from J, rg_a q]
  refine fZ (bZ (cZ (aZ (gZ J (fZ (bZ (cZ (cZ (aZ (eZ J (dZ (yQ J J) (fZ (bZ (lQ J (fun hc => ?_) (fun hc => ?_)))))))))))))))
  ·try replace hc := odT hc
   rw [if_pos (show n = 1 by omega)]
   refine aZ (gZ J (fZ (bZ (cZ (qQ (.lo 0 1 (.lo 1 0 (.lo 2 0 (.lo 3 0 (.lo 4 0 (.lo 5 0 (.lo 6 0 (.eff1 7 false (.lo 8 1 (.lo 9 1 (.done))))))))))) [7] [] ([blk b8 [.int .u32 m.ans, .int .u32 r2, .bool true, .int .i64 m.cp] 217]) ([]) mixed (by kernel_rfl) iM (Imp.none _) ?_)))))
   refine hZ J (zQ (vs := (g.ans n S.time m.ans).v) ti31 J (Rg.len _) (fun j v hj => Cel.of_blk (b := b3) eX (by rw [Nat.zero_add j]; exact hj))) ?_
   refine wZ J fa217_3 J (hZ J (jZ (v := .int .i64 m.cp) ti3 J (Cel.of_blk (b := b8) eX J)) ?_)
   refine hZ J (hQ (c := IntKind.i64.wrap (m.cp + 3)) J J J) (hZ J (dV (c := IntKind.i64.wrap ((IntKind.i64.wrap (m.cp + 3)).tdiv 4)) J J (by decide) J) (hZ J (hQ (c := costN m.cp) J J (by rw [← hcost.1]; rfl)) ?_))
   refine nZ J J (aQ (wQ J J (xQ ti31 J J fC (Rg.len _) (Rg.ones _) J) J (fun _ => iM) (fun _ => Imp.refl _) (fun _ => iM) ?_))
   rintro ⟨⟩ -
   exact hZ J (jQ J) (hZ J (jQ J) (pQ (bZ (rZ (hX [.agg (g.ans n S.time m.ans).v.toArray, .int .i64 (costN m.cp), _] J ⟨ResP.agg ti31 J (Rg.len _) (fun j v hj => Cel.of_blk (b := b4) eX (by rw [Nat.zero_add j]; exact hj)), rfl, rfl, trivial⟩ ts2 hT2 J iM)))))
  ·try replace hc := odF hc
   rw [if_neg (show ¬ n = 1 by omega)]
   refine uZ (bZ (cZ (qQ (.lo 0 1 (.lo 1 0 (.lo 2 0 (.lo 3 0 (.lo 4 0 (.lo 5 0 (.lo 6 0 (.eff1 7 false (.lo 8 1 (.lo 9 1 (.done))))))))))) [7] [] ([blk b8 [.int .u32 m.ans, .int .u32 r2, .bool true, .int .i64 m.cp] 217]) ([]) mixed (by kernel_rfl) iM (Imp.none _) ?_)))
   refine hZ J (zQ (vs := (g.ans n S.time m.ans).v) ti31 J (Rg.len _) (fun j v hj => Cel.of_blk (b := b3) eX (by rw [Nat.zero_add j]; exact hj))) ?_
   refine wZ J fa217_3 J (hZ J (jZ (v := .int .i64 m.cp) ti3 J (Cel.of_blk (b := b8) eX J)) ?_)
   refine hZ J (hQ (c := IntKind.i64.wrap (m.cp + 3)) J J J) (hZ J (dV (c := IntKind.i64.wrap ((IntKind.i64.wrap (m.cp + 3)).tdiv 4)) J J (by decide) J) (hZ J (hQ (c := costN m.cp) J J (by rw [← hcost.1]; rfl)) ?_))
   refine nZ J J (aQ (wQ J J (xQ ti31 J J fC (Rg.len _) (Rg.ones _) J) J (fun _ => iM) (fun _ => Imp.refl _) (fun _ => iM) ?_))
   rintro ⟨⟩ -
   exact hZ J (jQ J) (hZ J (jQ J) (pQ (bZ (rZ (hX [.agg (g.ans n S.time m.ans).v.toArray, .int .i64 (costN m.cp), _] J ⟨ResP.agg ti31 J (Rg.len _) (fun j v hj => Cel.of_blk (b := b4) eX (by rw [Nat.zero_add j]; exact hj)), rfl, rfl, trivial⟩ ts2 hT2 J iM)))))
 ·obtain rfl : two = false := by rw [htw]; exact decide_eq_false q
  refine aZ (pZ fa217_2 J (dZ (jZ (v := .bool false) ti4 J (Cel.of_blk (b := b8) eX J)) ?_))
  refine fZ (bZ (vZ J (uZ (bZ (cZ (aZ (pZ fa31_2 J (dZ (jZ (v := .int .u32 g.pc) ti27 J (Cel.of_blk (b := b3) eX (by rw [List.getElem?_set_ne (by decide)]; exact Rg.p g))) ?_))))))))
  refine dZ (hQ (c := w32 (g.pc + 4)) J J J) (pZ fa31_2 J (sQ (uQ ti27 J J fC J (by rw [List.length_set, Rg.len]; decide)) J ?_))
  rintro ⟨⟩ -
  rw [show (0 + 24 : Nat) = 24 from J, rg_b (tm := S.time) q]
  refine fZ (bZ (cZ (aZ (gZ J (fZ (bZ (cZ (cZ (aZ (eZ J (dZ (yQ J J) (fZ (bZ (lQ J (fun hc => ?_) (fun hc => ?_)))))))))))))))
  ·try replace hc := odT hc
   rw [if_pos (show n = 1 by omega)]
   refine aZ (gZ J (fZ (bZ (cZ (qQ (.lo 0 1 (.lo 1 0 (.lo 2 0 (.lo 3 0 (.lo 4 0 (.lo 5 0 (.lo 6 0 (.eff1 7 false (.lo 8 1 (.lo 9 1 (.done))))))))))) [7] [] ([blk b8 [.int .u32 m.ans, .int .u32 r2, .bool false, .int .i64 m.cp] 217]) ([]) mixed (by kernel_rfl) iM (Imp.none _) ?_)))))
   refine hZ J (zQ (vs := (g.ans n S.time m.ans).v) ti31 J (Rg.len _) (fun j v hj => Cel.of_blk (b := b3) eX (by rw [Nat.zero_add j]; exact hj))) ?_
   refine wZ J fa217_3 J (hZ J (jZ (v := .int .i64 m.cp) ti3 J (Cel.of_blk (b := b8) eX J)) ?_)
   refine hZ J (hQ (c := IntKind.i64.wrap (m.cp + 3)) J J J) (hZ J (dV (c := IntKind.i64.wrap ((IntKind.i64.wrap (m.cp + 3)).tdiv 4)) J J (by decide) J) (hZ J (hQ (c := costN m.cp) J J (by rw [← hcost.1]; rfl)) ?_))
   refine nZ J J (aQ (wQ J J (xQ ti31 J J fC (Rg.len _) (Rg.ones _) J) J (fun _ => iM) (fun _ => Imp.refl _) (fun _ => iM) ?_))
   rintro ⟨⟩ -
   exact hZ J (jQ J) (hZ J (jQ J) (pQ (bZ (rZ (hX [.agg (g.ans n S.time m.ans).v.toArray, .int .i64 (costN m.cp), _] J ⟨ResP.agg ti31 J (Rg.len _) (fun j v hj => Cel.of_blk (b := b4) eX (by rw [Nat.zero_add j]; exact hj)), rfl, rfl, trivial⟩ ts2 hT2 J iM)))))
  ·try replace hc := odF hc
   rw [if_neg (show ¬ n = 1 by omega)]
   refine uZ (bZ (cZ (qQ (.lo 0 1 (.lo 1 0 (.lo 2 0 (.lo 3 0 (.lo 4 0 (.lo 5 0 (.lo 6 0 (.eff1 7 false (.lo 8 1 (.lo 9 1 (.done))))))))))) [7] [] ([blk b8 [.int .u32 m.ans, .int .u32 r2, .bool false, .int .i64 m.cp] 217]) ([]) mixed (by kernel_rfl) iM (Imp.none _) ?_)))
   refine hZ J (zQ (vs := (g.ans n S.time m.ans).v) ti31 J (Rg.len _) (fun j v hj => Cel.of_blk (b := b3) eX (by rw [Nat.zero_add j]; exact hj))) ?_
   refine wZ J fa217_3 J (hZ J (jZ (v := .int .i64 m.cp) ti3 J (Cel.of_blk (b := b8) eX J)) ?_)
   refine hZ J (hQ (c := IntKind.i64.wrap (m.cp + 3)) J J J) (hZ J (dV (c := IntKind.i64.wrap ((IntKind.i64.wrap (m.cp + 3)).tdiv 4)) J J (by decide) J) (hZ J (hQ (c := costN m.cp) J J (by rw [← hcost.1]; rfl)) ?_))
   refine nZ J J (aQ (wQ J J (xQ ti31 J J fC (Rg.len _) (Rg.ones _) J) J (fun _ => iM) (fun _ => Imp.refl _) (fun _ => iM) ?_))
   rintro ⟨⟩ -
   exact hZ J (jQ J) (hZ J (jQ J) (pQ (bZ (rZ (hX [.agg (g.ans n S.time m.ans).v.toArray, .int .i64 (costN m.cp), _] J ⟨ResP.agg ti31 J (Rg.len _) (fun j v hj => Cel.of_blk (b := b4) eX (by rw [Nat.zero_add j]; exact hj)), rfl, rfl, trivial⟩ ts2 hT2 J iM)))))
end
structure OK0 (S : HS) : Prop where
 K : ObK S.o 0
 q : S.q < 256
 p : S.p < 256
 at' : S.set = true → 0 ≤ S.at'
 inn : S.inn.length ≤ 64
 out : S.out.length ≤ 64
 asks : S.d.asks.length ≤ 4
 sm : ∀ a ∈ S.acs, a.kind ≠ 2 → a.s.length ≤ 1
section
variable (W0 : World) (Fr : List HProp)
variable {z : DP} {S S' : HS} {q0 : Int} {ts : List Int} {a : HAct}
set_option maxHeartbeats 8000000 in
theorem routside_spec (h : OK0 S) (hB : RdB W0 Fr a.Ba a.Bc a.B) (hBm : a.B.length ≤ 140737488351232) (hS : outs S a = S') :
 Ctr prog W0 47 [.pointer (some ⟨z.e, 0, none⟩), .agg a.cells.toArray] (dG z S q0 ts Fr) (fun _ : Unit => True) (fun _ => .tuple #[]) (fun _ => dG z S' q0 ts Fr) := by
 have hdl := h.asks
 refine Ctr.of_body func47 J ntmps47 J ?_
 dsimp only [dG]
 refine cZ (aZ (kQ (uX J) J ?_))
 rintro b3 -
 refine fZ (bZ (cZ (aZ (pZ fa34_0 J (dZ (jZ (v := .int .i64 a.Kind) ti3 J (Cel.of_blk eX (HAct.c0 a))) ?_)))))
 refine fZ (bZ (mQ (cZ (aZ (dZ (yQ J J) (gZ J (fZ (bZ (lQ J (fun hc => ?_) (fun hc => ?_))))))))))
 ·try replace hc := odT hc
  obtain rfl : { S with acs := (sndP S.acs 1 a.N a.B).2 } = S' := by rw [← hS]; unfold outs; rw [hc]; rfl
  refine qQ (.lo 0 1 (.lo 1 1 (.lo 2 1 (.lo 3 1 (.lo 4 1 (.lo 5 1 (.lo 6 1 (.lo 7 1 (.eff1 8 false (.done)))))))))) [8] [] ([blk b3 a.cells 34, deB z S]) ([]) mixed (by kernel_rfl) iM (Imp.none _) ?_
  refine nZ J J (dQ J J (wZ J fa213_5 J (hZ J (iZ ti210 J) ?_)))
  refine wZ J fa34_2 J (hZ J (jZ (v := .int .i64 a.N) ti3 J (Cel.of_blk eX (HAct.c26 a))) ?_)
  refine wZ J fa34_3 J (hZ J (jZ (v := .slice a.Ba a.B.length a.Bc) ti32 J (Cel.of_blk eX (HAct.c27 a))) ?_)
  refine aQ (rQ J J call105 J (iM) (rsnd_spec W0 _ (p := z.p) (acs := S.acs) 1 a.N (a := a.Ba) (c := a.Bc) (bs := a.B) (hB.slR.imp iM) (by omega)) J (fun _ => iM) (fun _ => Imp.refl _) (fun _ => iM) ?_)
  rintro ⟨⟩ -
  exact pQ (tZ (qX J () trivial J iM))
 ·try replace hc := odF hc
  have k1 := hc
  refine cZ (aZ (dZ (yQ J J) (gZ J (fZ (bZ (lQ J (fun hc => ?_) (fun hc => ?_)))))))
  ·try replace hc := odT hc
   obtain rfl : { S with acs := (rcvP S.acs 1 a.N).2.2 } = S' := by rw [← hS]; unfold outs; rw [hc]; rfl
   refine qQ (.lo 0 1 (.lo 1 1 (.lo 2 1 (.lo 3 1 (.lo 4 1 (.lo 5 1 (.eff1 6 false (.done)))))))) [6] [] ([blk b3 a.cells 34, deB z S]) ([]) mixed (by kernel_rfl) iM (Imp.none _) ?_
   refine nZ J J (dQ J J (wZ J fa213_5 J (hZ J (iZ ti210 J) ?_)))
   refine wZ J fa34_2 J (hZ J (jZ (v := .int .i64 a.N) ti3 J (Cel.of_blk eX (HAct.c26 a))) ?_)
   refine aQ (rQ J J call106 J (iM) (rrcv_spec W0 _ (p := z.p) (acs := S.acs) 1 a.N) J (fun _ => iM) (fun _ => Imp.refl _) (fun _ => iM) ?_)
   rintro ⟨ba, bc, bb⟩ -
   exact pQ (tZ (qX J () trivial J iM))
  ·try replace hc := odF hc
   have k2 := hc
   refine cZ (aZ (dZ (yQ J J) (gZ J (fZ (bZ (lQ J (fun hc => ?_) (fun hc => ?_)))))))
   ·try replace hc := odT hc
    obtain rfl : { S with acs := S.acs.map Po.AC.tr } = S' := by rw [← hS]; unfold outs; rw [hc]; rfl
    refine aZ (eZ J (zZ J (pZ fa213_5 J (dZ (iZ ti210 J) ?_))))
    refine oZ call107 J (iM) (Po.rtransfer_spec W0 _ (r := z.p) (acs := S.acs) h.sm) J ?_
    rintro ⟨ja, jc⟩ -
    exact fZ (tZ (qX J () trivial J iM))
   ·try replace hc := odF hc
    have k3 := hc
    refine cZ (aZ (dZ (yQ J J) (gZ J (fZ (bZ (lQ J (fun hc => ?_) (fun hc => ?_)))))))
    ·try replace hc := odT hc
     obtain rfl : { S with inn := S.inn ++ a.B.take (64 - S.inn.length) } = S' := by rw [← hS]; unfold outs; rw [hc]; rfl
     refine qQ (.lo 0 1 (.lo 1 1 (.lo 2 1 (.lo 3 1 (.lo 4 1 (.lo 5 1 (.eff1 6 false (.done)))))))) [6] [] ([blk b3 a.cells 34, deB z S]) ([]) mixed (by kernel_rfl) iM (Imp.none _) ?_
     refine nZ J J (dQ J J (wZ J fa213_3 J (hZ J (iZ ti208 J) ?_)))
     refine wZ J fa34_3 J (hZ J (jZ (v := .slice a.Ba a.B.length a.Bc) ti32 J (Cel.of_blk eX (HAct.c27 a))) ?_)
     refine aQ (rQ J J call108 J (iM) (Vc.rfeed_spec W0 _ (r := z.c) (out := S.out) (inn := S.inn) (ds := a.B) (a2 := a.Ba) (c2 := a.Bc) (hB.imp iM) (by omega) h.inn) J (fun _ => iM) (fun _ => Imp.refl _) (fun _ => iM) ?_)
     rintro ⟨⟩ -
     exact pQ (tZ (qX J () trivial J iM))
    ·try replace hc := odF hc
     have k4 := hc
     refine cZ (aZ (dZ (yQ J J) (gZ J (fZ (bZ (lQ J (fun hc => ?_) (fun hc => ?_)))))))
     ·try replace hc := odT hc
      obtain rfl : { S with out := [] } = S' := by rw [← hS]; unfold outs; rw [hc]; rfl
      refine aZ (eZ J (zZ J (pZ fa213_3 J (dZ (iZ ti208 J) ?_))))
      refine oZ call109 J (iM) (Vc.rdrain_spec W0 _ (r := z.c) (out := S.out) (inn := S.inn) h.out) J ?_
      rintro ⟨ja, jc⟩ -
      exact fZ (tZ (qX J () trivial J iM))
     ·try replace hc := odF hc
      have k5 := hc
      refine cZ (aZ (dZ (yQ J J) (gZ J (fZ (bZ (lQ J (fun hc => ?_) (fun hc => ?_)))))))
      ·try replace hc := odT hc
       obtain rfl : { S with q := if 0 ≤ a.N ∧ a.N < 8 then Vi.setBit S.q a.N.toNat true else S.q } = S' := by rw [← hS]; unfold outs; rw [hc]; rfl
       refine qQ (.lo 0 1 (.lo 1 1 (.lo 2 1 (.lo 3 1 (.lo 4 1 (.lo 5 1 (.eff1 6 false (.done)))))))) [6] [] ([blk b3 a.cells 34, deB z S]) ([]) mixed (by kernel_rfl) iM (Imp.none _) ?_
       refine nZ J J (dQ J J (wZ J fa213_2 J (hZ J (iZ ti206 J) ?_)))
       refine wZ J fa34_2 J (hZ J (jZ (v := .int .i64 a.N) ti3 J (Cel.of_blk eX (HAct.c26 a))) ?_)
       refine aQ (rQ J J call110 J (iM) (Vi.rqueue_spec W0 _ (v := z.v) (q := S.q) (p := S.p) (a := Vi.atOf S.set S.at') a.N) J (fun _ => iM) (fun _ => Imp.refl _) (fun _ => iM) ?_)
       rintro ⟨⟩ -
       exact pQ (tZ (qX J () trivial J iM))
      ·try replace hc := odF hc
       have k6 := hc
       refine cZ (aZ (dZ (yQ J J) (gZ J (fZ (bZ (lQ J (fun hc => ?_) (fun hc => ?_)))))))
       ·try replace hc := odT hc
        obtain rfl : { S with q := 0, p := S.p ||| (if Vi.due S.at' S.set a.N then Vi.setBit S.q 0 true else S.q), at' := if Vi.due S.at' S.set a.N then 0 else S.at', set := S.set && !Vi.due S.at' S.set a.N } = S' := by rw [← hS]; unfold outs; rw [hc]; rfl
        refine qQ (.lo 0 1 (.lo 1 1 (.lo 2 1 (.lo 3 1 (.lo 4 1 (.lo 5 1 (.eff1 6 false (.done)))))))) [6] [] ([blk b3 a.cells 34, deB z S]) ([]) mixed (by kernel_rfl) iM (Imp.none _) ?_
        refine nZ J J (dQ J J (wZ J fa213_2 J (hZ J (iZ ti206 J) ?_)))
        refine wZ J fa34_2 J (hZ J (jZ (v := .int .i64 a.N) ti3 J (Cel.of_blk eX (HAct.c26 a))) ?_)
        refine aQ (rQ J J call111 J (iM) (Vi.rrelease2 W0 _ (v := z.v) (q := S.q) (p := S.p) (a := S.at') (s := S.set) a.N h.q h.p h.at') J (fun _ => iM) (fun _ => Imp.refl _) (fun _ => iM) ?_)
        rintro ⟨⟩ -
        exact pQ (tZ (qX J () trivial J iM))
       ·try replace hc := odF hc
        have k7 := hc
        refine cZ (aZ (dZ (yQ J J) (gZ J (fZ (bZ (lQ J (fun hc => ?_) (fun hc => ?_)))))))
        ·try replace hc := odT hc
         obtain rfl : { S with d := comN a.B (Vd.issR S.d) (Vd.issS S.d) } = S' := by rw [← hS]; unfold outs; rw [hc]; rfl
         refine cZ (aZ (eZ J (zZ J (pZ fa213_4 J (dZ (iZ ti203 J) ?_)))))
         refine oZ call112 J (iM) (Vd.rissue_spec W0 _ (d := z.d) (s := S.d)) J ?_
         rintro ⟨l, la, lc⟩ hl
         dsimp only [Vd.Rqs.G, Vd.Rqs.ms, Vd.Rqs.cell, List.cons_append, List.nil_append] at hl ⊢
         have hll : l.length ≤ 4 := by
          have e1 : (l.map Vd.CR.abs).length = (Vd.issR S.d).length := by rw [hl]
          unfold Vd.issR at e1
          rw [List.length_map, List.length_map] at e1
          have := List.length_filter_le (fun a : Vd.Ak => a.st == 0) S.d.asks
          omega
         refine gZ J (fZ (bZ (cZ (aZ (gZ J (fZ (bZ (mQ (mX (fun i : Nat => i ≤ l.length) (fun i => [(0, .pointer (some ⟨z.e, 0, none⟩)), (3, .pointer (some ⟨b3, 0, none⟩)), (4, .slice la l.length lc), (5, .int .i64 i)]) (fun i => Vd.oreqs la lc l :: blk b3 a.cells 34 :: dG z { S with d := comN a.B ((Vd.issR S.d).take i) (Vd.issS S.d) } q0 ts Fr) (fun i => l.length - i) 0 (Nat.zero_le _) eS iM ?_)))))))))
         rintro i hi
         dsimp only [dG]
         refine cZ (cZ (aZ (eZ J (eZ J (dZ (sZ underlying98 J J) (dZ eQ ?_))))))
         refine fZ (bZ (lQ J (fun hc => ?_) (fun hc => ?_)))
         ·try replace hc := odT hc
          have hi' : i < l.length := by omega
          have hget : l[i]? = some l[i] := by simp [hi']
          generalize l[i] = cr at hget
          have hr : (Vd.issR S.d)[i]? = some cr.abs := by rw [← hl, List.getElem?_map, hget]; rfl
          have hps := padS_len a.B
          refine lX (fun w hw => SlR.elem_shape (i := i) (SlR.of_osl (W0 := W0) (E := 101) (a := la) (c := lc) eX) Vd.CR.len (by decide) hi' w hw) ?_
          rintro ⟨bl, ol, rfl⟩
          refine uZ (bZ (cZ (mQ (cZ (aZ (eZ J (eZ J (dZ (lZ underlying98 ti101 J J (by omega) (by omega)) ?_))))))))
          refine dZ (zQ (vs := Vd.CR.cells cr) ti101 J J (by rw [show ol + (i : Int).toNat * 5 = ol + i * 5 by omega]; exact SlR.elem (SlR.of_osl (E := 101) (a := some ⟨bl, ol, none⟩) (c := lc) eX) Vd.CR.len hget)) ?_
          refine kQ (pX ti101) J ?_
          rintro b6 -
          refine sQ (xQ ti101 J J fC J (by simp [Vd.CR.cells, one, Ms.Msg.cell]) J) J ?_
          rintro ⟨⟩ -
          refine fZ (bZ (cZ (aZ (kQ (Eff.makeB 64 underlying32 ti5 J J (by decide)) J ?_))))
          rintro b87 -
          rw [List.length_replicate]
          refine pZ fa101_4 J (sQ (uQ ti32 J J fC J (by rw [Vd.CR.len]; decide)) J ?_)
          rintro ⟨⟩ -
          refine fZ (bZ (cZ (aZ (pZ fa101_4 J (dZ (jZ (v := .slice (some ⟨b87, 0, none⟩) 64 64) ti32 J (Cel.of_blk eX J)) ?_)))))
          refine pZ fa34_3 J (dZ (jZ (v := .slice a.Ba a.B.length a.Bc) ti32 J (Cel.of_blk eX (HAct.c27 a))) ?_)
          refine kQ (Eff.copyIn (b := b87) (o := 0) (j := 0) (n := 64) (cn := 64) (k := a.B.length) (ys := bytesV a.B) J J J underlying32 ti5 fC (by decide) (hB.slR.imp iM) bytesV_one) J ?_
          rintro ⟨⟩ -
          rw [over_sec]
          refine fZ (bZ (qQ (.lo 0 1 (.lo 1 1 (.lo 2 1 (.lo 3 1 (.lo 4 1 (.eff1 5 false (.done))))))) [5] [] ([]) ([]) mixed (by kernel_rfl) (Imp.none _) (Imp.none _) (nZ J J (dQ J J (wZ J fa213_4 J (hZ J (iZ ti203 J) ?_))))))
          refine hZ J (zQ (vs := Vd.CR.cells { cr with m := ⟨some ⟨b87, 0, none⟩, 64, padS a.B⟩ }) ti101 J J (Row.of_blk (b := b6) eX (by simp [Vd.CR.cells, Ms.Msg.cell, hps]))) ?_
          refine aQ (rQ J J call113 J (iM) (Vd.rcomplete_spec W0 _ (d := z.d) (s := comN a.B ((Vd.issR S.d).take i) (Vd.issS S.d)) (r := { cr with m := ⟨some ⟨b87, 0, none⟩, 64, padS a.B⟩ }) (by exact RdB.of_osl (E := 5) (a := some ⟨b87, 0, none⟩) eX (by simp [hps]) J) (by show (padS a.B).length ≤ _; omega)) J (fun _ => iM) (fun _ => Imp.refl _) (fun _ => iM) ?_)
          rintro ⟨⟩ -
          rw [show (Vd.comR (comN a.B ((Vd.issR S.d).take i) (Vd.issS S.d)) cr.tag (padS a.B)).2 = comN a.B ((Vd.issR S.d).take (i + 1)) (Vd.issS S.d) from (comN_succ hr).symm]
          exact pQ (tZ (bZ (aZ (eZ J (dZ (hQ J J wO) (gZ J (fZ (gX (i + 1) (show i + 1 ≤ l.length by omega) (show l.length - (i + 1) < l.length - i by omega) eS iM))))))))
         ·try replace hc := odF hc
          refine iX (bQ (bQ (tQ (tZ ?_))))
          obtain rfl : i = l.length := by omega
          rw [show (Vd.issR S.d).take l.length = Vd.issR S.d by rw [← hl, ← List.length_map (f := Vd.CR.abs), List.take_length]]
          exact qX J () trivial J iM
        ·try replace hc := odF hc
         have k8 := hc
         refine cZ (aZ (dZ (yQ J J) (gZ J (fZ (bZ (lQ J (fun hc => ?_) (fun hc => ?_)))))))
         ·try replace hc := odT hc
          obtain rfl : { S with d := Vd.rdyS S.d a.N } = S' := by rw [← hS]; unfold outs; rw [hc]; rfl
          refine qQ (.lo 0 1 (.lo 1 1 (.lo 2 1 (.lo 3 1 (.lo 4 1 (.lo 5 1 (.eff1 6 false (.done)))))))) [6] [] ([blk b3 a.cells 34, deB z S]) ([]) mixed (by kernel_rfl) iM (Imp.none _) ?_
          refine nZ J J (dQ J J (wZ J fa213_4 J (hZ J (iZ ti203 J) ?_)))
          refine wZ J fa34_2 J (hZ J (jZ (v := .int .i64 a.N) ti3 J (Cel.of_blk eX (HAct.c26 a))) ?_)
          refine aQ (rQ J J call114 J (iM) (Vd.rready_spec W0 _ (d := z.d) (s := S.d) a.N) J (fun _ => iM) (fun _ => Imp.refl _) (fun _ => iM) ?_)
          rintro ⟨l, la, lc⟩ -
          dsimp only [Vd.Dns.RG, List.cons_append, List.nil_append]
          exact pQ (tZ (qX J () trivial J iM))
         ·try replace hc := odF hc
          have k9 := hc
          refine cZ (aZ (dZ (yQ J J) (gZ J (fZ (bZ (lQ J (fun hc => ?_) (fun hc => ?_)))))))
          ·try replace hc := odT hc
           obtain rfl : { S with o := (outR S.o 0 (adO a.N) a.B).2 } = S' := by rw [← hS]; unfold outs; rw [hc]; rfl
           refine qQ (.lo 0 0 (.lo 1 0 (.lo 2 0 (.lo 3 0 (.lo 4 0 (.lo 5 0 (.lo 6 0 (.lo 8 0 (.lo 9 0 (.eff1 7 false (.eff1 10 false (.eff1 11 false (.done))))))))))))) [7, 10, 11] [] ([blk b3 a.cells 34, deB z S]) ([]) mixed (by kernel_rfl) iM (Imp.none _) ?_
           refine nZ J J (dQ J J (wZ J fa213_1 J (hZ J (iZ ti200 J) ?_)))
           refine wZ J fa34_2 J (hZ J (jZ (v := .int .i64 a.N) ti3 J (Cel.of_blk eX (HAct.c26 a))) ?_)
           refine hZ J (oQ (cQ (c := w32 a.N) underlying27 J J J) (v' := .int .u32 (adO a.N : Nat)) (by rw [adO_eq])) ?_
           refine wZ J fa34_3 J (hZ J (jZ (v := .slice a.Ba a.B.length a.Bc) ti32 J (Cel.of_blk eX (HAct.c27 a))) ?_)
           refine aQ (wQ J J (sX underlying32 ti5 J) J (fun _ => iM) (fun _ => Imp.refl _) (fun _ => iM) ?_)
           rintro b118 -
           refine aQ (wQ J J (nV J J J underlying32 underlying32 ti5 (by decide) fC (hB.slR.imp iM) (by omega)) J (fun _ => iM) (fun _ => Imp.refl _) (fun _ => iM) ?_)
           rintro ⟨a121, c121⟩ -
           refine aQ (rQ J J call115 J (iM) (rout_spec W0 _ (b := z.s) (w := z.w) (k := 0) (o := S.o) (ts := ts) h.K (ad := adO a.N) (adO_lt _) (ba := a121) (bc := c121) (bs := a.B) (by exact RdB.of_osl (E := 5) eX J J)) J (fun _ => iM) (fun _ => Imp.refl _) (fun _ => iM) ?_)
           rintro ⟨⟩ -
           exact pQ (tZ (qX J () trivial J (by dsimp only [dG, deB]; rw [used_out]; exact iM)))
          ·try replace hc := odF hc
           have k10 := hc
           refine cZ (aZ (dZ (yQ J J) (gZ J (fZ (bZ (lQ J (fun hc => ?_) (fun hc => ?_)))))))
           ·try replace hc := odT hc
            obtain rfl : { S with time := nowS a.N, major := nowS a.N % 1000 } = S' := by rw [← hS]; unfold outs; rw [hc]; rfl
            refine cZ (aZ (eZ J (pZ fa34_2 J (dZ (jZ (v := .int .i64 a.N) ti3 J (Cel.of_blk eX (HAct.c26 a))) ?_))))
            refine dZ (cQ (c := IntKind.u64.wrap a.N) underlying24 J J J) (dZ (xX (c := nowS a.N) J J (by decide) (tmod_pos (wrap_u64_range a.N).1 (by decide))) (dZ (cQ (c := nowS a.N) underlying3 J J (w64 (by have := md_range (k := 281474976710656) (by decide) a.N; unfold nowS; omega) (by have := md_range (k := 281474976710656) (by decide) a.N; unfold nowS; omega))) ?_))
            refine zZ J (pZ fa213_6 J (sQ (uQ ti3 J J fC J (by first | (simp; done) | decide)) J ?_))
            rintro ⟨⟩ -
            refine fZ (bZ (aZ (eZ J (eZ J (zZ J (pZ fa213_6 J (dZ (iZ ti3 J) ?_)))))))
            refine dZ (xX (c := nowS a.N % 1000) J J (by decide) (tmod_pos (by have := md_range (k := 281474976710656) (by decide) a.N; unfold nowS; omega) (by decide))) ?_
            refine zZ J (pZ fa213_7 J (sQ (uQ ti3 J J fC J (by first | (simp; done) | decide)) J ?_))
            rintro ⟨⟩ -
            exact fZ (tZ (qX J () trivial J iM))
           ·try replace hc := odF hc
            obtain rfl : S = S' := by rw [← hS]; unfold outs; rw [if_neg k1, if_neg k2, if_neg k3, if_neg k4, if_neg k5, if_neg k6, if_neg k7, if_neg k8, if_neg k9, if_neg k10, if_neg hc]
            exact uZ (tZ (qX J () trivial J iM))
end
end Go.Proofs.YtphljkplokjonaaGreat.Hc
namespace Go.Proofs.YtphljkplokjonaaGreat.Sp
open Go Go.Sl Go.RowKit Go.Proofs Go.Proofs.YtphljkplokjonaaGreat.T Go.Proofs.YtphljkplokjonaaGreat.Me Go.Proofs.YtphljkplokjonaaGreat.Pe Go.Proofs.YtphljkplokjonaaGreat.Pg Tryz
section
variable (W0 : World) (Fr : List HProp)
set_option maxHeartbeats 4000000 in
theorem samePages_spec {a1 a2 : Option Addr} {c1 c2 : Nat} {l1 l2 : List PV} (h1 : PVr W0 Fr a1 l1) (h2 : PVr W0 Fr a2 l2) (hlen : l1.length ≤ 1000000) :
 Ctr prog W0 40 [.slice a1 l1.length c1, .slice a2 l2.length c2] Fr (fun _ : Unit => True) (fun _ => .bool (decide (l1.map PV.v = l2.map PV.v))) (fun _ => Fr) := by
 refine Ctr.of_body func40 J ntmps40 J (cZ (aZ (gZ J (fZ (bZ (cZ (cZ (aZ (eZ J (dZ (sZ underlying36 J J) (eZ J (dZ (sZ underlying36 J J) (dZ vQ ?_)))))))))))))
 refine fZ (bZ (lQ J (fun hc => ?_) (fun hc => ?_)))
 ·try replace hc := odT hc
  refine cZ (aZ (gZ J (fZ (bZ (rZ (qZ (yZ J J () trivial ?_ (Imp.refl _))))))))
  rw [decide_eq_false (fun e => by have := congrArg List.length e; rw [List.length_map, List.length_map] at this; omega)]
 ·try replace hc := odF hc
  refine uZ (bZ (cZ (cZ (aZ (gZ J (fZ (bZ (mQ (mX (fun i : Nat => i ≤ l1.length ∧ (l1.map PV.v).take i = (l2.map PV.v).take i) (fun i => [(0, .slice a1 l1.length c1), (1, .slice a2 l2.length c2), (5, .int .i64 i)]) (fun _ => Fr) (fun i => l1.length - i) 0 ⟨Nat.zero_le _, rfl⟩ eS (Imp.refl _) ?_)))))))))
  rintro i ⟨hi, hp⟩
  refine cZ (cZ (aZ (eZ J (eZ J (dZ (sZ underlying36 J J) (dZ eQ ?_))))))
  refine fZ (bZ (lQ J (fun hc => ?_) (fun hc => ?_)))
  ·try replace hc := odT hc
   obtain ⟨x, hx⟩ : ∃ x, l1[i]? = some x := ⟨_, List.getElem?_eq_getElem (by omega)⟩
   obtain ⟨y, hy⟩ : ∃ y, l2[i]? = some y := ⟨_, List.getElem?_eq_getElem (by omega)⟩
   have hxv : (l1.map PV.v)[i]? = some x.v := by rw [List.getElem?_map, hx]; rfl
   have hyv : (l2.map PV.v)[i]? = some y.v := by rw [List.getElem?_map, hy]; rfl
   have hno : x.v ≠ y.v → l1.map PV.v ≠ l2.map PV.v := fun q e => q (by rw [e, hyv] at hxv; exact (Option.some.inj hxv).symm)
   refine lX (fun w hw => SlR.elem_shape (W0 := W0) (f := PV.cells) (xs := l1) (i := i) h1.cells PV.len (by decide) (by omega) w hw) ?_
   rintro ⟨b1, o1, rfl⟩
   refine lX (fun w hw => SlR.elem_shape (W0 := W0) (f := PV.cells) (xs := l2) (i := i) h2.cells PV.len (by decide) (by omega) w hw) ?_
   rintro ⟨b2, o2, rfl⟩
   have r1 := SlR.elem (f := PV.cells) (xs := l1) (i := i) h1.cells PV.len hx
   have r2 := SlR.elem (f := PV.cells) (xs := l2) (i := i) h2.cells PV.len hy
   refine uZ (bZ (cZ (mQ (cZ ?_))))
   rcases (show x.p ≠ y.p ∨ (x.p = y.p ∧ x.pm ≠ y.pm) ∨ (x.p = y.p ∧ x.pm = y.pm ∧ x.b ≠ y.b) ∨ (x.p = y.p ∧ x.pm = y.pm ∧ x.b = y.b) by by_cases e1 : x.p = y.p <;> by_cases e2 : x.pm = y.pm <;> by_cases e3 : x.b = y.b <;> simp [e1, e2, e3]) with q | ⟨q1, q⟩ | ⟨q1, q2, q⟩ | ⟨q1, q2, q3⟩
   ·refine qQ (.lo 0 1 (.lo 1 1 (.lo 2 1 (.lo 3 1 (.lo 4 1 (.lo 5 1 (.lo 6 1 (.lo 7 1 (.lo 8 1 (.lo 9 1 (.lo 10 1 (.lo 11 1 (.lo 12 1 (.lo 13 1 (.lo 14 1 (.lo 15 1 (.lo 16 1 (.lo 17 1 (.lo 18 1 (.lo 19 1 (.lo 20 1 (.lo 21 1 (.lo 22 1 (.lo 23 1 (.lo 24 1 (.lo 25 1 (.lo 26 1 (.lo 27 1 (.lo 28 1 (.lo 29 1 (.lo 30 1 (.lo 31 1 (.lo 32 1 (.lo 33 1 (.lo 34 1 (.lo 35 1 (.lo 36 1 (.lo 37 1 (.lo 38 1 (.done)))))))))))))))))))))))))))))))))))))))) [] [] ([]) ([]) mixed (by kernel_rfl) (Imp.none _) (Imp.none _) (nZ J J (nZ J J (hZ J (lZ underlying36 ti180 J J (by omega) (by omega)) ?_)))
    refine wZ J fa180_0 J (hZ J (jZ (v := .int .i64 x.p) ti3 J (by rw [show o1 + (i : Int).toNat * 3 = o1 + i * 3 by omega]; exact r1 0 _ J)) ?_)
    refine nZ J J (nZ J J (hZ J (lZ underlying36 ti180 J J (by omega) (by omega)) ?_))
    refine wZ J fa180_0 J (hZ J (jZ (v := .int .i64 y.p) ti3 J (by rw [show o2 + (i : Int).toNat * 3 = o2 + i * 3 by omega]; exact r2 0 _ J)) ?_)
    refine hZ J vQ ?_
    refine nZ J J (dX J J J (dX J J J (dX J J J (dX J J J (dX J J J (dX J J J (dX J J J (dX J J J (dX J J J (dX J J J (dX J J J (hZ J mZ ?_))))))))))))
    refine nZ J J (dX J J J (dX J J J (dX J J J (dX J J J (dX J J J (dX J J J (dX J J J (dX J J J (dX J J J (dX J J J (dX J J J (dX J J J (dX J J J (hZ J mZ ?_))))))))))))))
    exact pQ (bZ (fQ J (cZ (aZ (gZ J (fZ (bZ (rZ (nQ (qZ (qZ (nQ (qZ (yZ J J () trivial (by rw [decide_eq_false (hno (fun e => q (congrArg (·.1) e)))]) (Imp.refl _)))))))))))))))
   ·refine qQ (.lo 0 1 (.lo 1 1 (.lo 2 1 (.lo 3 1 (.lo 4 1 (.lo 5 1 (.lo 6 1 (.lo 7 1 (.lo 8 1 (.lo 9 1 (.lo 10 1 (.lo 11 1 (.lo 12 1 (.lo 13 1 (.lo 14 1 (.lo 15 1 (.lo 16 1 (.lo 17 1 (.lo 18 1 (.lo 19 1 (.lo 20 1 (.lo 21 1 (.lo 22 1 (.lo 23 1 (.lo 24 1 (.lo 25 1 (.lo 26 1 (.lo 27 1 (.lo 28 1 (.lo 29 1 (.lo 30 1 (.lo 31 1 (.lo 32 1 (.lo 33 1 (.lo 34 1 (.lo 35 1 (.lo 36 1 (.lo 37 1 (.lo 38 1 (.done)))))))))))))))))))))))))))))))))))))))) [] [] ([]) ([]) mixed (by kernel_rfl) (Imp.none _) (Imp.none _) (nZ J J (nZ J J (hZ J (lZ underlying36 ti180 J J (by omega) (by omega)) ?_)))
    refine wZ J fa180_0 J (hZ J (jZ (v := .int .i64 x.p) ti3 J (by rw [show o1 + (i : Int).toNat * 3 = o1 + i * 3 by omega]; exact r1 0 _ J)) ?_)
    refine nZ J J (nZ J J (hZ J (lZ underlying36 ti180 J J (by omega) (by omega)) ?_))
    refine wZ J fa180_0 J (hZ J (jZ (v := .int .i64 y.p) ti3 J (by rw [show o2 + (i : Int).toNat * 3 = o2 + i * 3 by omega]; exact r2 0 _ J)) ?_)
    refine hZ J vQ ?_
    refine nZ J J (nZ J J (nZ J J (hZ J (lZ underlying36 ti180 J J (by omega) (by omega)) ?_)))
    refine wZ J fa180_1 J (hZ J (jZ (v := .int .i64 x.pm) ti3 J (by rw [show o1 + (i : Int).toNat * 3 = o1 + i * 3 by omega]; exact r1 1 _ J)) ?_)
    refine nZ J J (nZ J J (hZ J (lZ underlying36 ti180 J J (by omega) (by omega)) ?_))
    refine wZ J fa180_1 J (hZ J (jZ (v := .int .i64 y.pm) ti3 J (by rw [show o2 + (i : Int).toNat * 3 = o2 + i * 3 by omega]; exact r2 1 _ J)) ?_)
    refine hZ J vQ ?_
    refine hZ J mZ ?_
    refine nZ J J (dX J J J (dX J J J (dX J J J (dX J J J (dX J J J (dX J J J (dX J J J (dX J J J (dX J J J (dX J J J (dX J J J (dX J J J (dX J J J (hZ J mZ ?_))))))))))))))
    exact pQ (bZ (fQ J (cZ (aZ (gZ J (fZ (bZ (rZ (nQ (qZ (qZ (nQ (qZ (yZ J J () trivial (by rw [decide_eq_false (hno (fun e => q (congrArg (·.2.1) e)))]) (Imp.refl _)))))))))))))))
   ·refine qQ (.lo 0 1 (.lo 1 1 (.lo 2 1 (.lo 3 1 (.lo 4 1 (.lo 5 1 (.lo 6 1 (.lo 7 1 (.lo 8 1 (.lo 9 1 (.lo 10 1 (.lo 11 1 (.lo 12 1 (.lo 13 1 (.lo 14 1 (.lo 15 1 (.lo 16 1 (.lo 17 1 (.lo 18 1 (.lo 19 1 (.lo 20 1 (.lo 21 1 (.lo 22 1 (.lo 23 1 (.lo 24 1 (.lo 25 1 (.lo 26 1 (.lo 27 1 (.lo 28 1 (.lo 29 1 (.lo 30 1 (.lo 31 1 (.lo 32 1 (.lo 33 1 (.lo 34 1 (.lo 35 1 (.lo 36 1 (.lo 37 1 (.lo 38 1 (.done)))))))))))))))))))))))))))))))))))))))) [] [] ([]) ([]) mixed (by kernel_rfl) (Imp.none _) (Imp.none _) (nZ J J (nZ J J (hZ J (lZ underlying36 ti180 J J (by omega) (by omega)) ?_)))
    refine wZ J fa180_0 J (hZ J (jZ (v := .int .i64 x.p) ti3 J (by rw [show o1 + (i : Int).toNat * 3 = o1 + i * 3 by omega]; exact r1 0 _ J)) ?_)
    refine nZ J J (nZ J J (hZ J (lZ underlying36 ti180 J J (by omega) (by omega)) ?_))
    refine wZ J fa180_0 J (hZ J (jZ (v := .int .i64 y.p) ti3 J (by rw [show o2 + (i : Int).toNat * 3 = o2 + i * 3 by omega]; exact r2 0 _ J)) ?_)
    refine hZ J vQ ?_
    refine nZ J J (nZ J J (nZ J J (hZ J (lZ underlying36 ti180 J J (by omega) (by omega)) ?_)))
    refine wZ J fa180_1 J (hZ J (jZ (v := .int .i64 x.pm) ti3 J (by rw [show o1 + (i : Int).toNat * 3 = o1 + i * 3 by omega]; exact r1 1 _ J)) ?_)
    refine nZ J J (nZ J J (hZ J (lZ underlying36 ti180 J J (by omega) (by omega)) ?_))
    refine wZ J fa180_1 J (hZ J (jZ (v := .int .i64 y.pm) ti3 J (by rw [show o2 + (i : Int).toNat * 3 = o2 + i * 3 by omega]; exact r2 1 _ J)) ?_)
    refine hZ J vQ ?_
    refine hZ J mZ ?_
    refine nZ J J (nZ J J (nZ J J (hZ J (lZ underlying36 ti180 J J (by omega) (by omega)) ?_)))
    refine wZ J fa180_2 J (hZ J (jZ (v := .slice x.a x.b.length x.c) ti32 J (by rw [show o1 + (i : Int).toNat * 3 = o1 + i * 3 by omega]; exact r1 2 _ J)) ?_)
    refine hZ J (uV (bs := x.b) underlying32 underlying9 underlying5 J (h1.bytes x (List.mem_of_getElem? hx))) (nZ J J (nZ J J (hZ J (lZ underlying36 ti180 J J (by omega) (by omega)) ?_)))
    refine wZ J fa180_2 J (hZ J (jZ (v := .slice y.a y.b.length y.c) ti32 J (by rw [show o2 + (i : Int).toNat * 3 = o2 + i * 3 by omega]; exact r2 2 _ J)) ?_)
    refine hZ J (uV (bs := y.b) underlying32 underlying9 underlying5 J (h2.bytes y (List.mem_of_getElem? hy))) (hZ J (oQ (Yield.str_neq J J) (v' := .bool true) (by rw [strOf_toList, strOf_toList]; simp [q])) ?_)
    refine hZ J mZ ?_
    exact pQ (bZ (fQ J (cZ (aZ (gZ J (fZ (bZ (rZ (nQ (qZ (qZ (nQ (qZ (yZ J J () trivial (by rw [decide_eq_false (hno (fun e => q (congrArg (·.2.2) e)))]) (Imp.refl _)))))))))))))))
   ·refine qQ (.lo 0 1 (.lo 1 1 (.lo 2 1 (.lo 3 1 (.lo 4 1 (.lo 5 1 (.lo 6 1 (.lo 7 1 (.lo 8 1 (.lo 9 1 (.lo 10 1 (.lo 11 1 (.lo 12 1 (.lo 13 1 (.lo 14 1 (.lo 15 1 (.lo 16 1 (.lo 17 1 (.lo 18 1 (.lo 19 1 (.lo 20 1 (.lo 21 1 (.lo 22 1 (.lo 23 1 (.lo 24 1 (.lo 25 1 (.lo 26 1 (.lo 27 1 (.lo 28 1 (.lo 29 1 (.lo 30 1 (.lo 31 1 (.lo 32 1 (.lo 33 1 (.lo 34 1 (.lo 35 1 (.lo 36 1 (.lo 37 1 (.lo 38 1 (.done)))))))))))))))))))))))))))))))))))))))) [] [] ([]) ([]) mixed (by kernel_rfl) (Imp.none _) (Imp.none _) (nZ J J (nZ J J (hZ J (lZ underlying36 ti180 J J (by omega) (by omega)) ?_)))
    refine wZ J fa180_0 J (hZ J (jZ (v := .int .i64 x.p) ti3 J (by rw [show o1 + (i : Int).toNat * 3 = o1 + i * 3 by omega]; exact r1 0 _ J)) ?_)
    refine nZ J J (nZ J J (hZ J (lZ underlying36 ti180 J J (by omega) (by omega)) ?_))
    refine wZ J fa180_0 J (hZ J (jZ (v := .int .i64 y.p) ti3 J (by rw [show o2 + (i : Int).toNat * 3 = o2 + i * 3 by omega]; exact r2 0 _ J)) ?_)
    refine hZ J vQ ?_
    refine nZ J J (nZ J J (nZ J J (hZ J (lZ underlying36 ti180 J J (by omega) (by omega)) ?_)))
    refine wZ J fa180_1 J (hZ J (jZ (v := .int .i64 x.pm) ti3 J (by rw [show o1 + (i : Int).toNat * 3 = o1 + i * 3 by omega]; exact r1 1 _ J)) ?_)
    refine nZ J J (nZ J J (hZ J (lZ underlying36 ti180 J J (by omega) (by omega)) ?_))
    refine wZ J fa180_1 J (hZ J (jZ (v := .int .i64 y.pm) ti3 J (by rw [show o2 + (i : Int).toNat * 3 = o2 + i * 3 by omega]; exact r2 1 _ J)) ?_)
    refine hZ J vQ ?_
    refine hZ J mZ ?_
    refine nZ J J (nZ J J (nZ J J (hZ J (lZ underlying36 ti180 J J (by omega) (by omega)) ?_)))
    refine wZ J fa180_2 J (hZ J (jZ (v := .slice x.a x.b.length x.c) ti32 J (by rw [show o1 + (i : Int).toNat * 3 = o1 + i * 3 by omega]; exact r1 2 _ J)) ?_)
    refine hZ J (uV (bs := x.b) underlying32 underlying9 underlying5 J (h1.bytes x (List.mem_of_getElem? hx))) (nZ J J (nZ J J (hZ J (lZ underlying36 ti180 J J (by omega) (by omega)) ?_)))
    refine wZ J fa180_2 J (hZ J (jZ (v := .slice y.a y.b.length y.c) ti32 J (by rw [show o2 + (i : Int).toNat * 3 = o2 + i * 3 by omega]; exact r2 2 _ J)) ?_)
    refine hZ J (uV (bs := y.b) underlying32 underlying9 underlying5 J (h2.bytes y (List.mem_of_getElem? hy))) (hZ J (oQ (Yield.str_neq J J) (v' := .bool false) (by rw [strOf_toList, strOf_toList]; simp [q3])) ?_)
    refine hZ J mZ ?_
    exact pQ (bZ (vZ J (uZ (tZ (bZ (aZ (eZ J (dZ (hQ J J wO) (gZ J (fZ (gX (i + 1) ⟨by omega, take_eq hp hxv hyv (by unfold PV.v; rw [q1, q2, q3])⟩ (by first | omega | (simp only; omega)) eS (Imp.refl _))))))))))))
  ·try replace hc := odF hc
   refine iX (bQ (bQ (tQ (bZ (cZ (aZ (gZ J (fZ (bZ (rZ ?_))))))))))
   obtain rfl : i = l1.length := by omega
   refine yZ J J () trivial ?_ (Imp.refl _)
   rw [decide_eq_true (show l1.map PV.v = l2.map PV.v by rw [List.take_of_length_le (by rw [List.length_map]; omega), List.take_of_length_le (by rw [List.length_map]; omega)] at hp; exact hp)]
end
end Go.Proofs.YtphljkplokjonaaGreat.Sp
namespace Go.Proofs.YtphljkplokjonaaGreat.Hc
open Go Go.Sl Go.RowKit Go.Proofs Go.Proofs.YtphljkplokjonaaGreat.T Go.Proofs.YtphljkplokjonaaGreat.Ms Tryz
section
variable (W0 : World) (Fr : List HProp)
theorem sameTags_spec {a a2 : Option Addr} {c c2 : Nat} {l : List Int} (h1 : SlR W0 Fr 1 a l.length (intsV .u32 l)) (h2 : SlR W0 Fr 1 a2 l.length (intsV .u32 l)) (hl : l.length ≤ 2 ^ 20) : Ctr prog W0 68 [.slice a l.length c, .slice a2 l.length c2] Fr (fun _ : Unit => True) (fun _ => .bool true) (fun _ => Fr) := by
 have hol := intsV_len .u32 l
 refine Ctr.of_body func68 J ntmps68 J (cZ (aZ (gZ J (fZ (bZ (cZ (cZ (aZ (eZ J (dZ (sZ underlying37 J J) (eZ J (dZ (sZ underlying37 J J) (dZ vQ ?_)))))))))))))
 refine fZ (bZ (vZ J (uZ (bZ (cZ (cZ (aZ (gZ J (fZ (bZ (mQ (mX (fun i : Nat => i ≤ l.length) (fun i => [(0, .slice a l.length c), (1, .slice a2 l.length c2), (5, .int .i64 i)]) (fun _ => Fr) (fun i => l.length - i) 0 (Nat.zero_le _) eS (Imp.refl _) ?_))))))))))))
 intro i hi
 refine cZ (cZ (aZ (eZ J (eZ J (dZ (sZ underlying37 J J) (dZ eQ ?_))))))
 refine fZ (bZ (lQ J (fun hc => ?_) (fun hc => ?_)))
 ·try replace hc := odT hc
  have hi' : i < l.length := by omega
  have hget : l[i]? = some l[i] := by simp [hi']
  generalize l[i] = y at hget
  refine lX (fun w hw => SlR.shape h1 (by intro h; rw [h] at hol; simp only [List.length_nil] at hol; omega) w hw) ?_
  rintro ⟨b, o, rfl⟩
  refine lX (fun w hw => SlR.shape h2 (by intro h; rw [h] at hol; simp only [List.length_nil] at hol; omega) w hw) ?_
  rintro ⟨b2, o2, rfl⟩
  refine uZ (bZ (cZ (mQ (cZ (qQ (.lo 0 1 (.lo 1 1 (.lo 2 1 (.lo 3 1 (.lo 4 1 (.lo 5 1 (.lo 6 1 (.lo 7 1 (.lo 8 1 (.done)))))))))) [] [] ([]) ([]) mixed (by kernel_rfl) (Imp.none _) (Imp.none _) (nZ J J (nZ J J (hZ J (lZ underlying37 ti27 J J (by omega) (by omega)) ?_))))))))
  refine hZ J (jZ (v := .int .u32 y) ti27 J (by rw [show o + (i : Int).toNat * 1 = o + i by omega]; exact h1.cel (intsV_get hget))) ?_
  refine nZ J J (nZ J J (hZ J (lZ underlying37 ti27 J J (by omega) (by omega)) ?_))
  refine hZ J (jZ (v := .int .u32 y) ti27 J (by rw [show o2 + (i : Int).toNat * 1 = o2 + i by omega]; exact h2.cel (intsV_get hget))) ?_
  exact hZ J (oQ (nX J J) (bF (not_not_intro J))) (pQ (bZ (vZ J (uZ (tZ (bZ (aZ (eZ J (dZ (hQ J J wO) (gZ J (fZ (gX (i + 1) (show i + 1 ≤ l.length by omega) (show l.length - (i + 1) < l.length - i by omega) eS iM))))))))))))
 ·try replace hc := odF hc
  exact iX (bQ (bQ (tQ (bZ (cZ (aZ (gZ J (fZ (bZ (rZ (yZ J J () trivial J iM)))))))))))
end
end Go.Proofs.YtphljkplokjonaaGreat.Hc
namespace Go.Proofs.YtphljkplokjonaaGreat.Hc
open Go Go.Sl Go.RowKit Go.Proofs Go.Proofs.YtphljkplokjonaaGreat.T Go.Proofs.YtphljkplokjonaaGreat.Sp Tryz
theorem pvr_d {W0 : World} {G : List HProp} {a : Option Addr} {c : Nat} {l : List PV} (h : Imp G [osl 180 3 a c l.length ((l.map PV.cells).flatten), Star (l.map fun x => oby 5 x.a x.c x.b)]) : PVr W0 G a l := by
 refine ⟨SlR.imp (G' := [osl 180 3 a c l.length ((l.map PV.cells).flatten), Star (l.map fun x => oby 5 x.a x.c x.b)]) (SlR.of_osl (E := 180) (c := c) Ext.here) h, fun x hx => ?_⟩
 obtain ⟨j, hj⟩ := List.mem_iff_getElem?.1 hx
 have hy : (l.map fun x => oby 5 x.a x.c x.b)[j]? = some (oby 5 x.a x.c x.b) := by rw [List.getElem?_map, hj]; rfl
 exact SlR.imp (G' := [oby 5 x.a x.c x.b, Star ((l.map fun x => oby 5 x.a x.c x.b).eraseIdx j)]) (SlR.of_osl (E := 5) (c := x.c) Ext.here) (Imp.trans h (Imp.trans (B := [Star (l.map fun x => oby 5 x.a x.c x.b)]) iM (star_take hy)))
theorem obk_lk {n : Nat} {qs : List Int} {rt : Nat → Option Nat} {o : Ob} {c : Nat} {σ : St} (L : Lk n qs rt o c σ) (k : Nat) : ObK o k := by
 obtain ⟨A, rfl, hh, G, rfl, hcc⟩ := L
 intro q x hx
 rw [vw_obs] at hx
 obtain ⟨y, hy, rfl⟩ := Option.map_eq_some_iff.1 hx
 exact ⟨G.pm k q y hy, Me.frB_len G.rep.len (G.plt hy)⟩
theorem ports_ms {W0 : World} {G R : List HProp} {p : Nat} {acs : List Po.AC} (x : Ext G (Po.Po p acs) R) (w : World) (hw : Sat W0 G w) : ∀ ac ∈ acs, ac.s.length ≤ 8 ∧ ac.r.length ≤ 8 := by
 obtain ⟨f, hf, hA⟩ := Sat.ext x hw
 obtain ⟨y, hy, _⟩ := hA
 exact fun ac hac => ⟨(hy.ok ac hac).s, (hy.ok ac hac).r⟩
theorem end_len {e : Po.End} {l : List B} (h : e.bs = l) (hl : l.length ≤ 8) : e.ms.length < 2 ^ 60 := by
 have := congrArg List.length h
 unfold Po.End.bs at this
 rw [List.length_map] at this
 omega
section
variable (W0 : World) (Fr : List HProp)
set_option maxHeartbeats 8000000 in
theorem alike_spec {x : HP} {z : DP} {S : HS} {q0 : Int} {σ : St} {cc : Nat} {ts : List Int} (h : HI q0 x S σ cc) (ha : S.set = true → 0 ≤ S.at') (hs : S.set = false → S.at' = 0) (hac : S.acs.length = 4) :
 Ctr prog W0 49 [.pointer (some ⟨x.e, 0, none⟩), .pointer (some ⟨z.e, 0, none⟩)] (hG x S [q0, 8] σ (dG z S q0 ts Fr)) (fun _ : Unit => True) (fun _ => .bool true) (fun _ => hG x S [q0, 8] σ (dG z S q0 ts Fr)) := by
 have e1 : max (Vi.atOf S.set S.at') 0 = S.at' := by
  cases q : S.set with
  | true => have := ha q; show max S.at' 0 = S.at'; omega
  | false => rw [hs q]; rfl
 have e2 : decide (0 ≤ Vi.atOf S.set S.at') = S.set := by
  cases q : S.set with
  | true => exact decide_eq_true (ha q)
  | false => rfl
 have hK := obk_lk h.L 0
 have hpl := pvs_len S.o 0
 have hpb : ∀ y ∈ pvs S.o 0, y.2.2.length ≤ 256 := fun y hy => by have h1 : y.2.2.length = 256 := (hK _ _ (pvTo_in hy).2).2; omega
 refine Ctr.pure (ψ := S.d.OK) (fun w hw => Vd.d_facts (d := x.d) eX w hw) fun hdok => ?_
 have hdl := hdok.asks
 refine Ctr.pure (fun w hw => ports_ms (p := x.p) (acs := S.acs) eX w hw) fun hms => ?_
 refine Ctr.ex (A := Vc.Rc z.c S.out S.inn) eX Vc.rc_open ?_
 rintro ⟨⟨oa, oc⟩, ia, ic⟩ -
 refine Ctr.imp star_open ?_
 dsimp only [hG, WG, heB, dG, Vc.RcO, List.cons_append, List.nil_append]
 refine Ctr.of_body func49 J ntmps49 J (cZ (aZ (gZ J (fZ (bZ (cZ (aZ (eZ J (zZ J (pZ fa83_2 J (dZ (iZ ti54 J) ?_)))))))))))
 refine oZ call65 J (iM) (Vi.time_spec W0 _ (v := x.v) (q := S.q) (p := S.p) (a := S.at') (s := S.set)) J ?_
 rintro ⟨⟩ -
 refine eZ J (dZ (xZ J J) (dZ (xZ J J) (gZ J (gZ J (fZ (bZ (cZ (aZ (eZ J (zZ J (pZ fa213_2 J (dZ (iZ ti206 J) ?_))))))))))))
 refine oZ call117 J (iM) (Vi.rtime_spec W0 _ (v := z.v) (q := S.q) (p := S.p) (a := Vi.atOf S.set S.at')) J ?_
 rintro ⟨⟩ -
 rw [e1, e2]
 refine eZ J (dZ (xZ J J) (dZ (xZ J J) (gZ J (gZ J (fZ (bZ (cZ (cZ (qQ (.lo 0 1 (.lo 1 1 (.lo 2 1 (.lo 3 1 (.lo 4 1 (.lo 5 1 (.lo 6 1 (.lo 7 1 (.lo 8 1 (.lo 9 1 (.lo 10 1 (.lo 11 1 (.lo 12 1 (.lo 14 0 (.lo 15 0 (.lo 16 0 (.lo 17 0 (.eff1 13 false (.eff1 18 false (.lo 19 1 (.lo 20 1 (.lo 21 1 (.lo 22 1 (.lo 23 1 (.lo 24 1 (.lo 25 1 (.lo 28 0 (.lo 29 0 (.lo 30 0 (.lo 31 0 (.lo 32 0 (.lo 33 0 (.lo 34 0 (.lo 35 0 (.eff1 26 false (.lo 27 1 (.lo 36 1 (.lo 37 1 (.lo 38 1 (.lo 39 1 (.lo 40 1 (.lo 41 1 (.lo 42 1 (.lo 45 0 (.lo 46 0 (.lo 47 0 (.lo 48 0 (.lo 49 0 (.lo 50 0 (.lo 51 0 (.lo 52 0 (.eff1 43 false (.lo 44 1 (.lo 53 1 (.lo 54 1 (.lo 55 1 (.lo 56 1 (.lo 57 1 (.lo 58 1 (.lo 59 1 (.lo 61 0 (.lo 62 0 (.lo 63 0 (.lo 64 0 (.eff1 60 false (.eff1 65 false (.eff1 66 false (.lo 67 1 (.lo 68 1 (.done)))))))))))))))))))))))))))))))))))))))))))))))))))))))))))))))))))))) [13, 18, 26, 43, 60, 65, 66] [] ([heB x S, deB z S, blk z.c [.slice oa S.out.length oc, .slice ia S.inn.length ic] 220, oby 5 oa oc S.out, oby 5 ia ic S.inn]) ([]) mixed (by kernel_rfl) iM (Imp.none _) ?_)))))))))
 refine nZ J J (nZ J J (hZ J vQ ?_))
 refine nZ J J (nZ J J (nZ J J (hZ J (by first | exact Yield.bool_samen underlying4 J J | exact Yield.bool_neq underlying4 J J) ?_)))
 refine hZ J mZ ?_
 refine nZ J J (nZ J J (dQ J J (wZ J fa83_2 J (hZ J (iZ ti54 J) ?_))))
 refine nZ J J (dQ J J (wZ J fa213_2 J (hZ J (iZ ti206 J) ?_)))
 refine aQ (rQ J J call34 J (iM) (Vi.pending_spec W0 _ (v := x.v) (q := S.q) (p := S.p) (a := S.at') (s := S.set) h.p) J (fun _ => iM) (fun _ => Imp.refl _) (fun _ => iM) ?_)
 rintro ⟨⟩ -
 refine aQ (rQ J J call118 J (iM) (Vi.rpending_spec W0 _ (v := z.v) (q := S.q) (p := S.p) (a := Vi.atOf S.set S.at') h.p) J (fun _ => iM) (fun _ => Imp.refl _) (fun _ => iM) ?_)
 rintro ⟨⟩ -
 refine hZ J vQ ?_
 refine hZ J mZ ?_
 refine nZ J J (nZ J J (dQ J J (wZ J fa83_3 J (hZ J (iZ ti55 J) ?_))))
 refine nZ J J (dQ J J (wZ J fa213_3 J (hZ J (iZ ti208 J) ?_)))
 refine dQ J J (wZ J fa220_1 J (hZ J (iZ ti32 J) ?_))
 refine hZ J (uV underlying32 underlying9 underlying5 J (by first | exact SlR.of_osl eX | exact SlR.of_osl_eq eX J J | exact SlR.of_osl_eq eX J (by simp [bytesV, byteV]) | assumption | exact SlAt.old (by assumption) eX | exact RdB.slR (by assumption))) ?_
 refine aQ (rQ J J call36 J (iM) (Vc.in_spec W0 _ (g := x.k) (out := S.out) (inn := S.inn)) J (K' := fun q : Option Addr × Nat => [osl 5 1 q.1 q.2 S.inn.length (bytesV S.inn), heB x S, deB z S, blk z.c [.slice oa S.out.length oc, .slice ia S.inn.length ic] 220, oby 5 oa oc S.out, oby 5 ia ic S.inn]) (fun _ => iM) (fun _ => iM) (fun _ => iM) ?_)
 rintro ⟨ja, jc⟩ -
 dsimp only
 refine hZ J (uV underlying32 underlying9 underlying5 J (by first | exact SlR.of_osl eX | exact SlR.of_osl_eq eX J J | exact SlR.of_osl_eq eX J (by simp [bytesV, byteV]) | assumption | exact SlAt.old (by assumption) eX | exact RdB.slR (by assumption))) ?_
 refine hZ J (oQ (Yield.str_neq J J) (v' := .bool false) (by simp)) ?_
 refine hZ J mZ ?_
 refine nZ J J (nZ J J (dQ J J (wZ J fa83_3 J (hZ J (iZ ti55 J) ?_))))
 refine nZ J J (dQ J J (wZ J fa213_3 J (hZ J (iZ ti208 J) ?_)))
 refine dQ J J (wZ J fa220_0 J (hZ J (iZ ti32 J) ?_))
 refine hZ J (uV underlying32 underlying9 underlying5 J (by first | exact SlR.of_osl eX | exact SlR.of_osl_eq eX J J | exact SlR.of_osl_eq eX J (by simp [bytesV, byteV]) | assumption | exact SlAt.old (by assumption) eX | exact RdB.slR (by assumption))) ?_
 refine aQ (rQ J J call21 J (iM) (Vc.out_spec W0 _ (g := x.k) (out := S.out) (inn := S.inn)) J (K' := fun q : Option Addr × Nat => [osl 5 1 q.1 q.2 S.out.length (bytesV S.out), osl 5 1 ja jc S.inn.length (bytesV S.inn), heB x S, deB z S, blk z.c [.slice oa S.out.length oc, .slice ia S.inn.length ic] 220, oby 5 oa oc S.out, oby 5 ia ic S.inn]) (fun _ => iM) (fun _ => iM) (fun _ => iM) ?_)
 rintro ⟨ka, kc⟩ -
 dsimp only
 refine hZ J (uV underlying32 underlying9 underlying5 J (by first | exact SlR.of_osl eX | exact SlR.of_osl_eq eX J J | exact SlR.of_osl_eq eX J (by simp [bytesV, byteV]) | assumption | exact SlAt.old (by assumption) eX | exact RdB.slR (by assumption))) ?_
 refine hZ J (oQ (Yield.str_neq J J) (v' := .bool false) (by simp)) ?_
 refine hZ J mZ ?_
 refine nZ J J (nZ J J (dQ J J (wZ J fa83_4 J (hZ J (iZ ti56 J) ?_))))
 refine nZ J J (dQ J J (wZ J fa213_4 J (hZ J (iZ ti203 J) ?_)))
 refine aQ (rQ J J call38 J (iM) (Vd.waiting_spec W0 _ (d := x.d) (s := S.d)) J (fun _ => iM) (fun _ => Imp.refl _) (fun _ => iM) ?_)
 rintro ⟨wa, wc⟩ -
 dsimp only
 refine aQ (rQ J J call119 J (iM) (Vd.rwaiting_spec W0 _ (d := z.d) (s := S.d)) J (fun _ => iM) (fun _ => Imp.refl _) (fun _ => iM) ?_)
 rintro ⟨va, vc⟩ -
 dsimp only
 refine aQ (rQ J J call68 J (Imp.refl _) (sameTags_spec W0 _ (l := S.d.asks.map Vd.Ak.tag) (a := wa) (a2 := va) (c := wc) (c2 := vc) (SlR.of_osl (E := 27) (c := wc) eX) (SlR.of_osl (E := 27) (c := vc) eX) (by rw [List.length_map]; omega)) J (fun _ => iM) (fun _ => Imp.refl _) (fun _ => iM) ?_)
 rintro ⟨⟩ -
 refine hZ J (iQ J) (hZ J mZ ?_)
 refine pQ (bZ (vZ J (uZ (bZ (cZ (cZ (aZ (gZ J (fZ (bZ (mQ (mX (fun i : Nat => i ≤ 4) (fun i => [(0, .pointer (some ⟨x.e, 0, none⟩)), (1, .pointer (some ⟨z.e, 0, none⟩)), (9, .int .i64 i)]) (fun _ => hG x S [q0, 8] σ (dG z S q0 ts Fr)) (fun i => 4 - i) 0 (Nat.zero_le _) eS (Imp.trans (B := Vc.RcO z.c S.out S.inn ((oa, oc), ia, ic) ++ hG x S [q0, 8] σ (deB z S :: RS z.s z.w 0 (pvs S.o 0) ts :: RW z.w (64 - (used S.o 0 : Int)) [q0 - (used S.o 0 : Int), 8] :: Vi.R z.v S.q S.p (Vi.atOf S.set S.at') :: Vd.Dd z.d S.d :: Po.Rp z.p S.acs :: Fr)) iM (Imp.trans (Vc.rc_close ((oa, oc), ia, ic)) iM)) ?_))))))))))))
 rintro i hi
 dsimp only [hG, WG, heB, dG]
 refine cZ (cZ (aZ (eZ J (oZ call57 J (Imp.refl _) (channels_spec W0 _) J ?_))))
 rintro b96 -
 refine dZ (sZ underlying72 J J) (dZ eQ ?_)
 refine fZ (bZ (lQ J (fun hc => ?_) (fun hc => ?_)))
 ·try replace hc := odT hc
  have hi' : i < 4 := by omega
  have hil : i < S.acs.length := by omega
  have hg : S.acs[i]? = some S.acs[i] := List.getElem?_eq_getElem hil
  have hm := hms S.acs[i] (List.getElem_mem hil)
  generalize S.acs[i] = ac at hg hm
  refine uZ (bZ (cZ (mQ (cZ (qQ (.lo 0 1 (.lo 1 1 (.lo 2 1 (.lo 3 1 (.lo 4 1 (.lo 6 0 (.lo 7 0 (.lo 8 0 (.lo 9 0 (.lo 10 0 (.eff1 5 false (.eff1 11 false (.eff1 12 false (.lo 13 1 (.lo 14 1 (.lo 15 1 (.lo 16 1 (.lo 17 1 (.lo 18 1 (.lo 19 1 (.lo 21 0 (.lo 22 0 (.lo 23 0 (.lo 24 0 (.lo 25 0 (.eff1 20 false (.eff1 26 false (.eff1 27 false (.lo 28 1 (.lo 29 1 (.done))))))))))))))))))))))))))))))) [5, 11, 12, 20, 26, 27] [] ([heB x S, deB z S]) ([]) mixed (by kernel_rfl) iM (Imp.none _) ?_)))))
  refine nZ J J (dQ J J (wZ J fa83_5 J (hZ J (iZ ti62 J) ?_)))
  refine nZ J J (nZ J J (dQ J J (wZ J fa213_5 J (hZ J (iZ ti210 J) ?_))))
  refine nZ J J (aQ (rQ J J call43 J (iM) (Po.held_in W0 _ (p := x.p) (n := i) (acs := S.acs) true hg) J (fun _ => iM) (fun _ => Imp.refl _) (fun _ => iM) ?_))
  rintro ⟨ya, yc, yms⟩ hy
  refine aQ (rQ J J call120 J (iM) (Po.rheld_in W0 _ (r := z.p) (n := i) (acs := S.acs) true hg) J (fun _ => iM) (fun _ => Imp.refl _) (fun _ => iM) ?_)
  rintro ⟨za, zc, zms⟩ hz
  refine aQ (rQ J J call67 J (Imp.refl _) (Po.sameM_spec W0 _ (x := ⟨ya, yc, yms⟩) (y := ⟨za, zc, zms⟩) (by exact SlR.of_osl (E := 32) (a := ya) (c := yc) eX) (by exact SlR.of_osl (E := 32) (a := za) (c := zc) eX) (by intro m hm; exact Po.pool_rd (ms := yms) eX hm) (by intro m hm; exact Po.pool_rd (ms := zms) eX hm) (hy.trans hz.symm) (end_len hy hm.1)) J (fun _ => iM) (fun _ => Imp.refl _) (fun _ => iM) ?_)
  rintro ⟨⟩ -
  refine hZ J (iQ J) (nZ J J (nZ J J (dQ J J (wZ J fa83_5 J (hZ J (iZ ti62 J) ?_)))))
  refine nZ J J (nZ J J (dQ J J (wZ J fa213_5 J (hZ J (iZ ti210 J) ?_))))
  refine nZ J J (aQ (rQ J J call43 J (iM) (Po.held_in W0 _ (p := x.p) (n := i) (acs := S.acs) false hg) J (fun _ => iM) (fun _ => Imp.refl _) (fun _ => iM) ?_))
  rintro ⟨ua, uc, ums⟩ hu
  refine aQ (rQ J J call120 J (iM) (Po.rheld_in W0 _ (r := z.p) (n := i) (acs := S.acs) false hg) J (fun _ => iM) (fun _ => Imp.refl _) (fun _ => iM) ?_)
  rintro ⟨va, vc, vms⟩ hv
  refine aQ (rQ J J call67 J (Imp.refl _) (Po.sameM_spec W0 _ (x := ⟨ua, uc, ums⟩) (y := ⟨va, vc, vms⟩) (by exact SlR.of_osl (E := 32) (a := ua) (c := uc) eX) (by exact SlR.of_osl (E := 32) (a := va) (c := vc) eX) (by intro m hm; exact Po.pool_rd (ms := ums) eX hm) (by intro m hm; exact Po.pool_rd (ms := vms) eX hm) (hu.trans hv.symm) (end_len hu hm.2)) J (fun _ => iM) (fun _ => Imp.refl _) (fun _ => iM) ?_)
  rintro ⟨⟩ -
  refine hZ J (iQ J) (hZ J mZ ?_)
  exact pQ (bZ (vZ J (uZ (tZ (bZ (aZ (eZ J (dZ (hQ J J wO) (gZ J (fZ (gX (i + 1) (show i + 1 ≤ 4 by omega) (show 4 - (i + 1) < 4 - i by omega) eS iM)))))))))))
 ·try replace hc := odF hc
  refine iX (bQ (bQ (tQ (bZ (cZ (qQ (.lo 0 1 (.lo 1 1 (.lo 2 1 (.lo 3 1 (.lo 5 0 (.lo 6 0 (.lo 7 0 (.lo 8 0 (.eff1 4 false (.eff1 9 false (.eff1 10 false (.lo 11 1 (.done))))))))))))) [4, 9, 10] [] ([heB x S, deB z S]) ([]) mixed (by kernel_rfl) iM (Imp.none _) ?_))))))
  refine nZ J J (dQ J J (wZ J fa83_1 J (hZ J (iZ ti53 J) ?_)))
  refine nZ J J (dQ J J (wZ J fa213_1 J (hZ J (iZ ti200 J) ?_)))
  refine aQ (rQ J J call41 J (iM) (pages_of W0 _ (s := x.s) (m := x.m) (f := x.f) (t := x.t) (k := 0) (r := x.r) h.L J) J (fun _ => iM) (fun _ => Imp.refl _) (fun _ => iM) ?_)
  rintro ⟨pa, pc, pl⟩ hpl1
  dsimp only [PVL, WG, List.cons_append, List.nil_append] at hpl1 ⊢
  refine aQ (rQ J J call121 J (iM) (rpages_of W0 _ (b := z.s) (w := z.w) (k := 0) (ts := ts) (L := pvs S.o 0) hpl hpb) J (fun _ => iM) (fun _ => Imp.refl _) (fun _ => iM) ?_)
  rintro ⟨qa, qc, ql⟩ hpl2
  dsimp only [PLU, List.cons_append, List.nil_append] at hpl2 ⊢
  refine aQ (rQ J J call40 J (Imp.refl _) (Sp.samePages_spec W0 _ (l1 := pl) (l2 := ql) (a1 := pa) (a2 := qa) (c1 := pc) (c2 := qc) (PVr.at (c := pc) iM) (pvr_d (c := qc) iM) (by have := congrArg List.length hpl1; rw [List.length_map] at this; omega)) J (fun _ => iM) (fun _ => Imp.refl _) (fun _ => iM) ?_)
  rintro ⟨⟩ -
  rw [decide_eq_true (hpl1.trans hpl2.symm)]
  exact hZ J (jQ J) (pQ (bZ (rZ (yZ J J () trivial J iM))))
end
theorem pvs_0 : pvs HS0.o 0 = [] := by
 unfold pvs
 generalize (4096 : Nat) = n
 induction n with
 | zero => rfl
 | succ n ih => unfold pvTo; rw [ih]; rfl
theorem used_0 : used HS0.o 0 = 1 := by
 unfold used
 show 1 + cN (fun _ => false) 64 + cN (fun _ => false) 4096 = 1
 rw [cN_zero, cN_zero]
theorem ts_0 : TsOk HS0.o 0 [] := ⟨fun g => ⟨fun h => (by cases h), fun h => (by cases h)⟩, (cN_zero 64).symm⟩
section
variable (W0 : World) (Fr : List HProp)
theorem model_spec {q : Int} (h1 : 1 ≤ q) (h2 : q ≤ 30) : Ctr prog W0 46 [.int .i64 q] Fr (fun _ : DP => True) (fun z => .pointer (some ⟨z.e, 0, none⟩)) (fun z => dG z HS0 q [] Fr) := by
 refine Ctr.of_body func46 J ntmps46 J (cZ (aZ (gZ J (fZ (bZ (cZ (aZ (eZ J (kQ (aV [.tmp 8, .const (.int .i64 8)] (vs := Fz.iv [q, 8]) (cells := Fz.iv [q, 8]) underlying80 ti3 J J J J (by decide) (by simp [Value.cells, Fz.iv]) (by simp [Value.cells, Fz.iv])) J ?_)))))))))
 rintro b9 -
 refine dZ (aX bu199 ti199 J (cells := [.int .i64 64, .slice (some ⟨b9, 0, none⟩) 2 2]) J) (kQ (uX J) J ?_)
 rintro b11 -
 refine gZ J (fZ (bZ (cZ (rX (Imp.trans (B := RWO b11 64 [q, 8] (some ⟨b9, 0, none⟩, 2) ++ Fr) (by dsimp only [RWO, Fz.oiv, List.length_cons, List.length_nil]; exact iM) (rw_close (some ⟨b9, 0, none⟩, 2))) ?_))))
 refine aZ (eZ J (oZ call100 J (iM) (rnew_ok W0 _ (b := b11) (fr := 64) (q := q) (l := [q, 8]) (k := 0) J (by simp) (by omega) (by decide)) J ?_))
 rintro s -
 refine eZ J (dZ (xZ J J) (dZ (xZ J J) (gZ J (gZ J (fZ (bZ (cZ (rX (Imp.trans (B := RSO s b11 0 [] ⟨none, 0, [], none, 0⟩ ++ (RW b11 (64 - 1) ([q, 8].set 0 (q - 1)) :: Fr)) (by dsimp only [RSO, Fz.oiv, List.cons_append, List.nil_append, List.map_nil, List.length_nil, List.flatten_nil]; exact Imp.trans osl_nil (Imp.trans star_nil (Imp.trans osl_nil iM))) (rs_close ⟨none, 0, [], none, 0⟩ J)) ?_))))))))
 refine aZ (oZ call101 J (Imp.refl _) (Vd.rnew_ok W0 _ (part := 0) (first := 4) (count := 6) (latency := 2) (by decide)) J ?_)
 rintro d -
 refine eZ J (dZ (xZ J J) (dZ (xZ J J) (gZ J (gZ J (fZ (bZ (cZ (aZ (eZ J (oZ call102 J (Imp.refl _) (Vi.rnew_spec W0 _) J ?_))))))))))
 rintro v -
 refine oZ call103 J (Imp.refl _) (Vc.rnew_spec W0 _) J ?_
 rintro k -
 refine eZ J (oZ call57 J (Imp.refl _) (channels_spec W0 _) J ?_)
 rintro b25 -
 refine oZ call104 J (Imp.refl _) (Po.rnew_spec W0 _ (l := chans) (by exact SlR.of_osl (E := 156) (a := some ⟨b25, 0, none⟩) (c := 4) eX) (by decide)) J ?_
 rintro p -
 refine dZ (aX bu213 ti213 J (cells := [.int .i64 0, .pointer (some ⟨s, 0, none⟩), .pointer (some ⟨v, 0, none⟩), .pointer (some ⟨k, 0, none⟩), .pointer (some ⟨d, 0, none⟩), .pointer (some ⟨p, 0, none⟩), .int .i64 0, .int .i64 0]) J) (kQ (uX J) J ?_)
 rintro b28 -
 refine gZ J (fZ (bZ (rZ (yZ J J ⟨b28, s, v, k, d, p, b11⟩ trivial J ?_))))
 dsimp only [dG]
 rw [pvs_0, used_0]
 exact iM
end
end Go.Proofs.YtphljkplokjonaaGreat.Hc
namespace Go.Proofs.YtphljkplokjonaaGreat.Hc
open Go Go.Sl Go.RowKit Go.Proofs Go.Proofs.YtphljkplokjonaaGreat.T Go.Proofs.YtphljkplokjonaaGreat.Sp
structure AK (S : HS) : Prop where
 at1 : S.set = true → 0 ≤ S.at'
 at0 : S.set = false → S.at' = 0
 len : S.acs.length = 4
 sm : ∀ a ∈ S.acs, a.kind ≠ 2 → a.s.length ≤ 1
theorem AK.like {S S' : HS} (h : AK S) (e1 : S'.set = S.set) (e2 : S'.at' = S.at') (e3 : S'.acs = S.acs) : AK S' := ⟨by rw [e1, e2]; exact h.at1, by rw [e1, e2]; exact h.at0, by rw [e3]; exact h.len, by rw [e3]; exact h.sm⟩
theorem ak_new : AK HS0 := ⟨fun q => (by cases q), fun _ => rfl, rfl, fun a ha _ => by
 have : ∀ c ∈ chans, (Po.Cf.ac c).s.length ≤ 1 := by decide
 obtain ⟨c, hc, rfl⟩ := List.mem_map.1 ha
 exact this c hc⟩
theorem ak_acs {S S' : HS} {acs : List Po.AC} (h : AK S) (e1 : S'.set = S.set) (e2 : S'.at' = S.at') (e3 : S'.acs = acs) (hl : acs.length = S.acs.length) (hs : ∀ a ∈ acs, a ∈ S.acs ∨ (a.kind ≠ 2 → a.s.length ≤ 1)) : AK S' := ⟨by rw [e1, e2]; exact h.at1, by rw [e1, e2]; exact h.at0, by rw [e3, hl]; exact h.len, by
 rw [e3]; intro a ha
 rcases hs a ha with q | q
 ·exact h.sm a q
 ·exact q⟩
theorem mem_set_or {α : Type} {l : List α} {i : Nat} {x a : α} (h : a ∈ l.set i x) : a ∈ l ∨ a = x := by
 rcases List.mem_or_eq_of_mem_set h with q | q
 ·exact .inl q
 ·exact .inr q
theorem sendR_sm {ac : Po.AC} {part : Int} {b : B} (h : ac.kind ≠ 2 → ac.s.length ≤ 1) : (Po.sendR ac part b).2.kind ≠ 2 → (Po.sendR ac part b).2.s.length ≤ 1 := by
 unfold Po.sendR
 split
 ·exact h
 ·split
  ·exact h
  ·split
   ·intro _; exact Nat.le_refl _
   ·rename_i q
    split
    ·exact h
    ·intro k; exact absurd k q
theorem snd_ak {acs : List Po.AC} {part n : Int} {b : B} (h : ∀ a ∈ acs, a.kind ≠ 2 → a.s.length ≤ 1) : (sndP acs part n b).2.length = acs.length ∧ ∀ a ∈ (sndP acs part n b).2, a ∈ acs ∨ (a.kind ≠ 2 → a.s.length ≤ 1) := by
 unfold sndP
 split
 ·split
  ·rename_i ac hac
   refine ⟨List.length_set, fun a ha => ?_⟩
   rcases mem_set_or ha with q | rfl
   ·exact .inl q
   ·exact .inr (sendR_sm (h ac (List.mem_of_getElem? hac)))
  ·exact ⟨rfl, fun a ha => .inl ha⟩
 ·exact ⟨rfl, fun a ha => .inl ha⟩
theorem rcv_ak {acs : List Po.AC} {part n : Int} (h : ∀ a ∈ acs, a.kind ≠ 2 → a.s.length ≤ 1) : (rcvP acs part n).2.2.length = acs.length ∧ ∀ a ∈ (rcvP acs part n).2.2, a ∈ acs ∨ (a.kind ≠ 2 → a.s.length ≤ 1) := by
 unfold rcvP
 split
 ·split
  ·rename_i ac hac
   split
   ·exact ⟨rfl, fun a ha => .inl ha⟩
   ·split
    ·exact ⟨rfl, fun a ha => .inl ha⟩
    ·refine ⟨List.length_set, fun a ha => ?_⟩
     have hm := h ac (List.mem_of_getElem? hac)
     rcases mem_set_or ha with q | q
     ·exact .inl q
     ·subst q
      refine .inr ?_
      split
      ·exact hm
      ·exact hm
  ·exact ⟨rfl, fun a ha => .inl ha⟩
 ·exact ⟨rfl, fun a ha => .inl ha⟩
theorem carry_len (kd dp : Int) : ∀ (s r : List B), (Po.carry kd dp s r).1.length ≤ s.length
 | [], r => Nat.le_refl _
 | m :: s, r => by
  rw [Po.carry]
  have h1 := carry_len kd dp s [m]
  have h2 := carry_len kd dp s (r ++ [m])
  split
  ·exact Nat.le_succ_of_le h1
  ·split
   ·exact Nat.le_refl _
   ·exact Nat.le_succ_of_le h2
theorem tr_ak {acs : List Po.AC} (h : ∀ a ∈ acs, a.kind ≠ 2 → a.s.length ≤ 1) : (acs.map Po.AC.tr).length = acs.length ∧ ∀ a ∈ acs.map Po.AC.tr, a ∈ acs ∨ (a.kind ≠ 2 → a.s.length ≤ 1) := by
 refine ⟨List.length_map _, fun a ha => ?_⟩
 obtain ⟨c, hc, rfl⟩ := List.mem_map.1 ha
 refine .inr fun k => ?_
 have h1 : c.tr.s.length ≤ c.s.length := carry_len _ _ _ _
 have h2 := h c hc k
 omega
theorem ak_outs {S : HS} (h : AK S) (a : HAct) : AK (outs S a) ∧ (outs S a).o.ts = S.o.ts := by
 unfold outs
 by_cases k1 : a.Kind = 1
 ·rw [if_pos k1]; have h1 := snd_ak (part := 1) (n := a.N) (b := a.B) h.sm; exact ⟨ak_acs h J J J h1.1 h1.2, rfl⟩
 rw [if_neg k1]
 by_cases k2 : a.Kind = 2
 ·rw [if_pos k2]; have h1 := rcv_ak (part := 1) (n := a.N) h.sm; exact ⟨ak_acs h J J J h1.1 h1.2, rfl⟩
 rw [if_neg k2]
 by_cases k3 : a.Kind = 3
 ·rw [if_pos k3]; have h1 := tr_ak h.sm; exact ⟨ak_acs h J J J h1.1 h1.2, rfl⟩
 rw [if_neg k3]
 by_cases k4 : a.Kind = 4
 ·rw [if_pos k4]; exact ⟨h.like J J J, rfl⟩
 rw [if_neg k4]
 by_cases k5 : a.Kind = 5
 ·rw [if_pos k5]; exact ⟨h.like J J J, rfl⟩
 rw [if_neg k5]
 by_cases k6 : a.Kind = 6
 ·rw [if_pos k6]; exact ⟨h.like J J J, rfl⟩
 rw [if_neg k6]
 by_cases k7 : a.Kind = 7
 ·rw [if_pos k7]
  refine ⟨⟨?_, ?_, h.len, h.sm⟩, rfl⟩
  ·show (S.set && !Vi.due S.at' S.set a.N) = true → 0 ≤ (if Vi.due S.at' S.set a.N then 0 else S.at')
   cases Vi.due S.at' S.set a.N with
   | true => intro _; exact Int.le_refl 0
   | false => intro q; rw [Bool.not_false, Bool.and_true] at q; exact h.at1 q
  ·show (S.set && !Vi.due S.at' S.set a.N) = false → (if Vi.due S.at' S.set a.N then 0 else S.at') = 0
   cases Vi.due S.at' S.set a.N with
   | true => intro _; rfl
   | false => intro q; rw [Bool.not_false, Bool.and_true] at q; exact h.at0 q
 rw [if_neg k7]
 by_cases k8 : a.Kind = 8
 ·rw [if_pos k8]; exact ⟨h.like J J J, rfl⟩
 rw [if_neg k8]
 by_cases k9 : a.Kind = 9
 ·rw [if_pos k9]; exact ⟨h.like J J J, rfl⟩
 rw [if_neg k9]
 by_cases k10 : a.Kind = 10
 ·rw [if_pos k10]; exact ⟨h.like J J J, out_ts⟩
 rw [if_neg k10]
 by_cases k11 : a.Kind = 11
 ·rw [if_pos k11]; exact ⟨h.like J J J, rfl⟩
 rw [if_neg k11]
 exact ⟨h, rfl⟩
def AKo : Nat ⊕ MO → Prop
 | .inl _ => True
 | .inr m => AK m.S
theorem ak_timer {S : HS} {R : List Value} {a b : Nat} (h : AK S) : AKo (ocTimer S R a b) := by
 obtain ⟨tm, htm⟩ : ∃ t : Int, t = tmN a b := ⟨_, rfl⟩
 have hot : ocTimer S R a b = if 65536 < b then .inl 3 else if tmB tm = true then .inr ⟨0, 0, 0, { S with at' := tm, set := true }, R⟩ else .inl 3 := by rw [htm]; rfl
 rw [hot]
 clear hot htm
 split
 ·trivial
 ·split
  ·rename_i q
   have q2 : 0 ≤ tm ∧ tm ≤ 281474976710656 := of_decide_eq_true q
   exact ⟨fun _ => q2.1, fun q => (by cases q), h.len, h.sm⟩
  ·trivial
theorem ak_oc {qk : Int} {S : HS} {R : List Value} {n a b c : Nat} (h : AK S) : AKo (ocOf qk S R n a b c) := by
 have hl : ∀ {S' : HS}, S'.set = S.set → S'.at' = S.at' → S'.acs = S.acs → AK S' := fun e1 e2 e3 => h.like e1 e2 e3
 unfold ocOf
 split
 case h_9 =>
  unfold ocSend; dsimp only
  have h1 := snd_ak (part := 0) (n := (a : Int)) (b := (inO S.o 0 b c).1) h.sm
  split
  ·trivial
  ·split
   ·split
    ·exact ak_acs h J J J h1.1 h1.2
    ·trivial
   ·trivial
 case h_10 =>
  unfold ocRecv; dsimp only
  have h1 := rcv_ak (part := 0) (n := (a : Int)) h.sm
  split
  ·trivial
  ·split
   ·split
    ·trivial
    ·split
     ·exact ak_acs h J J J h1.1 h1.2
     ·trivial
   ·trivial
 case h_12 => exact ak_timer h
 case h_14 =>
  unfold ocInfo
  repeat' split
  all_goals first | trivial | exact h
 case h_1 => exact hl J J J
 case h_2 => unfold ocMap; dsimp only; split <;> first | trivial | exact hl J J J
 case h_3 => unfold ocUnmap; dsimp only; split <;> first | trivial | exact hl J J J
 case h_4 => unfold ocProt; dsimp only; split <;> first | trivial | exact hl J J J
 case h_5 => unfold ocWrite; dsimp only; split <;> (try split) <;> first | trivial | exact hl J J J
 case h_6 => unfold ocRead; dsimp only; split <;> (try split) <;> first | trivial | exact hl J J J
 case h_7 => unfold ocDiskR; dsimp only; split <;> (try split) <;> first | trivial | exact hl J J J
 case h_8 => unfold ocDiskW; dsimp only; split <;> (try split) <;> first | trivial | exact hl J J J
 case h_11 => exact h
 case h_13 => exact hl J J J
 case h_15 => trivial
theorem ak_fin {qk : Int} {S : HS} {R : List Value} {n a b c : Nat} (h : AK S) : AK (fin S R (ocOf qk S R n a b c)).S := by
 have h1 := ak_oc (qk := qk) (R := R) (n := n) (a := a) (b := b) (c := c) h
 generalize ocOf qk S R n a b c = oc at h1
 cases oc with
 | inl k => exact h
 | inr m => exact h1
theorem con_ft {W0 : World} {G R : List HProp} {g : Nat} {out inn : B} (x : Ext G (Vc.Con g out inn) R) (w : World) (hw : Sat W0 G w) : out.length ≤ 64 ∧ inn.length ≤ 64 := by
 obtain ⟨f, hf, hA⟩ := Sat.ext x hw
 exact Vc.con_len hA
theorem fin_eff {S : HS} {R : List Value} {n : Nat} {oc : Nat ⊕ MO} (hw : Way S R n oc) : (fin S R oc).ef = if n = 1 then 1 else 0 := by
 cases hw with
 | bad k _ _ h1 _ => rw [if_neg h1]; rfl
 | ok ans cp ef S' R' _ _ e => exact e
theorem HAct.reg {op : HAct} {j : Nat} {v : Value} (h : op.g.v[j]? = some v) : op.cells[1 + j]? = some v := by
 have hj : j < op.g.v.length := by rcases List.getElem?_eq_some_iff.1 h with ⟨hj, _⟩; exact hj
 unfold HAct.cells
 rw [Nat.add_comm, List.getElem?_cons_succ, List.getElem?_append_left hj]; exact h
def Rg.z (g : Rg) : Rg := ⟨g.rs.set 0 0, g.fs, g.pc, by simp [g.lr], g.lf⟩
theorem Rg.z_get {g : Rg} (h : g.OK) {i : Nat} (h0 : 0 < i) (hi : i < 16) : ∃ z : Nat, g.z.rs[i]? = some (z : Int) ∧ z < 4294967296 := by
 obtain ⟨z, e, hz⟩ := Rg.get h hi
 exact ⟨z, by show (g.rs.set 0 0)[i]? = _; rw [List.getElem?_set_ne (by omega)]; exact e, hz⟩
end Go.Proofs.YtphljkplokjonaaGreat.Hc
namespace Go.Proofs.YtphljkplokjonaaGreat.hcallCosts
open Go Go.Sl Go.RowKit Go.Proofs Go.Proofs.YtphljkplokjonaaGreat.T Go.Proofs.YtphljkplokjonaaGreat.Sp Go.Proofs.YtphljkplokjonaaGreat.Hc
open Go.ChangeShapes Go.WideShapes Go.ChangeAt
end Go.Proofs.YtphljkplokjonaaGreat.hcallCosts
