/- Rules for steps of the model, and what functions of the program do. -/
import Derived.Test.YtphljkplokjonaaGreatZp9
set_option linter.unusedVariables false
set_option linter.unusedSimpArgs false
set_option linter.unusedSectionVars false
set_option maxRecDepth 100000
namespace Go.Proofs.YtphljkplokjonaaGreat.hcallPlays
open Go Go.Sl Go.RowKit Go.Proofs Go.Proofs.YtphljkplokjonaaGreat.T Go.Proofs.YtphljkplokjonaaGreat.Sp Go.Proofs.YtphljkplokjonaaGreat.Hc Tryz
set_option maxHeartbeats 8000000 in
theorem walk (W : World) {qu : Int} {a0 : Option Addr} {c0 : Nat} {ops : List HAct} (hops : SlAt W 28 a0 ops.length ((ops.map HAct.cells).flatten)) (hok : ∀ o ∈ ops, o.OK W) :
 Ctr prog W 11 [.int .i64 qu, .slice a0 ops.length c0] [old W] (fun _ : Unit => True) (fun _ => .bool true) (fun _ => [old W]) := by
 have hmd := md_range (k := 30) (by decide) qu
 have hwx := wrap_u64_range qu
 obtain ⟨q0, hq0⟩ : ∃ q0, q0 = 1 + md 30 qu := ⟨_, rfl⟩
 have hq1 : 1 ≤ q0 ∧ q0 ≤ 30 := by omega
 refine Ctr.of_body func11 J ntmps11 J (cZ (aZ (gZ J (fZ (bZ (cZ (aZ (eZ J (dZ (cQ underlying24 J J J) (dZ (xX (c := md 30 qu) J J (by decide) (tmod_pos (by omega) (by omega))) ?_))))))))))
 refine dZ (cQ (c := md 30 qu) underlying3 J J wO) (dZ (hQ (c := q0) J J (by rw [w64 (by omega) (by omega), hq0])) ?_)
 refine gZ J (fZ (bZ (cZ (aZ (eZ J (oZ call13 J (Imp.refl _) (program_spec W _ (q := q0) hq1.1 hq1.2) J ?_))))))
 rintro ⟨x, σ⟩ L0
 have I0 := HI.new (x := x) hq1.1 hq1.2 L0
 clear L0
 dsimp only at I0 ⊢
 refine gZ J (fZ (bZ (cZ (aZ (eZ J (oZ call46 J (iM) (model_spec W (hG x HS0 [q0, 8] σ [old W]) (q := q0) hq1.1 hq1.2) J ?_))))))
 rintro z -
 refine gZ J (fZ (bZ (cZ (cZ (aZ (eZ J (dZ (by first | exact wX underlying25 J J | exact vX underlying25 J J) ?_)))))))
 refine fZ (bZ (vZ J (uZ (bZ (cZ (cZ (aZ (gZ J (fZ (bZ (mQ (mX (fun y : Nat × HS × St × List Int => y.1 ≤ ops.length ∧ y.1 ≤ 120 ∧ HI q0 x y.2.1 y.2.2.1 (8192 * y.1) ∧ AK y.2.1 ∧ TsOk y.2.1.o 0 y.2.2.2) (fun y => [(1, .slice a0 ops.length c0), (5, .pointer (some ⟨x.e, 0, none⟩)), (6, .pointer (some ⟨z.e, 0, none⟩)), (7, .int .i64 y.1)]) (fun y => hG x y.2.1 [q0, 8] y.2.2.1 (dG z y.2.1 q0 y.2.2.2 [old W])) (fun y => ops.length - y.1) (0, HS0, σ, []) ⟨Nat.zero_le _, Nat.zero_le _, I0, ak_new, ts_0⟩ eS iM ?_))))))))))))
 clear I0
 rintro ⟨i, S, σ, ts⟩ ⟨im, im2, hI, hA, hT⟩
 dsimp only at im im2 hI hA hT ⊢
 refine cZ (cZ ?_)
 rcases loop_head (i) (ops.length) 120 with hh | hh | hh
 ·refine aZ (eZ J (eZ J (dZ (sZ underlying22 J J) (dZ eQ ?_))))
  refine eZ J (kZ J J (eZ J (kZ J J (dZ eQ ?_))))
  refine dZ mZ ?_
  refine fZ (bZ (fQ J (uZ (bZ (cZ (mQ (cZ (cZ ?_))))))))
  obtain ⟨h1, h2⟩ := hh
  have hget : ops[i]? = some ops[i] := by simp [h1]
  have hko := hok ops[i] (List.getElem_mem h1)
  generalize ops[i] = op at hget hko
  refine lX (fun w hw => (hops.old (G := hG x S [q0, 8] σ (dG z S q0 ts [old W])) eX).elem_shape HAct.len (by decide) h1 w hw) ?_
  rintro ⟨b, o, rfl⟩
  refine lX (fun w hw => Vd.d_facts (d := x.d) eX w hw) ?_
  intro hdok
  refine lX (fun w hw => con_ft (g := x.k) eX w hw) ?_
  intro hcon
  have hHK := hI.hk (by omega) hdok.told
  have hBm := hko.Bm
  unfold reachBytes at hBm
  have hK := obk_lk hI.L 0
  have htold := hdok.told
  have hrow : ∀ {G R : List HProp}, Ext G (old W) R → Row W G b (o + i * 28) (HAct.cells op) := fun x => (hops.old x).elem HAct.len hget
  have hreg : ∀ {G R : List HProp}, Ext G (old W) R → Row W G b (o + i * 28 + 1) op.g.v := fun x j v hj => by have := hrow x (1 + j) v (HAct.reg hj); rw [← Nat.add_assoc] at this; exact this
  obtain ⟨n, g1, hn⟩ := Rg.z_get hko.g (i := 1) (by decide) (by decide)
  obtain ⟨ra, g2, hra⟩ := Rg.z_get hko.g (i := 2) (by decide) (by decide)
  obtain ⟨rb, g3, hrb⟩ := Rg.z_get hko.g (i := 3) (by decide) (by decide)
  obtain ⟨rc, g4, hrc⟩ := Rg.z_get hko.g (i := 4) (by decide) (by decide)
  have hgz : op.g.v.set 0 (.int .u32 0) = op.g.z.v := Rg.set_r _ (by decide) _
  have hw := way_of (qk := q0) (S := S) (R := op.g.z.v) (n := n) (a := ra) (b := rb) (c := rc)
  have hef := fin_eff hw
  have hDK : DK q0 S ts := ⟨hT, hK, hq1.1, hq1.2, hI.p, hcon.1, hcon.2, by omega⟩
  refine aZ (eZ J (eZ J (dZ (lZ underlying22 ti34 J J (by omega) (by omega)) ?_)))
  refine pZ fa34_0 J (dZ (jZ (v := .int .i64 op.Kind) ti3 J ((hrow eX) 0 _ (HAct.c0 op))) ?_)
  refine dZ (nX J J) (fZ (bZ (lQ J (fun hc => ?_) (fun hc => ?_))))
  ·try replace hc := odT hc
   refine cZ (aZ (eZ J (eZ J (eZ J (dZ (lZ underlying22 ti34 J J (by omega) (by omega)) ?_)))))
   refine dZ (zQ (vs := HAct.cells op) ti34 J (HAct.len _) (hrow eX)) ?_
   refine oZ call14 J (iM) (outside_spec W (dG z S q0 ts [old W]) (a := op) hHK (by exact RdB.of_slR (hko.B.old eX) hko.Bc) (by omega) J) J ?_
   rintro σ2 L2
   have I2 := hI.outs op (cc' := 8192 * (i + 1)) (by rw [show 8192 * (i + 1) = 8192 * i + 8192 by omega]; exact L2)
   have hO := ak_outs hA op
   have A2 := hO.1
   have T2 : TsOk (outs S op).o 0 ts := ts_like hT hO.2
   refine fZ (bZ (aZ (eZ J (eZ J (eZ J (dZ (lZ underlying22 ti34 J J (by omega) (by omega)) ?_))))))
   refine dZ (zQ (vs := HAct.cells op) ti34 J (HAct.len _) (hrow eX)) ?_
   refine oZ call47 J (iM) (routside_spec W (hG x (outs S op) [q0, 8] σ2 [old W]) (z := z) (S := S) (q0 := q0) (ts := ts) (a := op) ⟨hK, hI.q, hI.p, hA.at1, hcon.2, hcon.1, hdok.asks, hA.sm⟩ (by exact RdB.of_slR (hko.B.old eX) hko.Bc) (by omega) J) J ?_
   rintro ⟨⟩ -
   refine fZ (bZ (cZ (aZ (eZ J (eZ J (oZ call49 J (iM) (alike_spec W [old W] (x := x) (z := z) I2 A2.at1 A2.at0 A2.len) J ?_))))))
   rintro ⟨⟩ -
   exact dZ (iQ J) (fZ (bZ (vZ J (uZ (tZ (bZ (aZ (eZ J (dZ (hQ J J wO) (gZ J (fZ (gX (i + 1, outs S op, σ2, ts) ⟨by simp only; omega, by simp only; omega, I2, A2, T2⟩ (by simp only; omega) eS iM))))))))))))
  ·try replace hc := odF hc
   refine cZ (aZ (eZ J (eZ J (dZ (lZ underlying22 ti34 J J (by omega) (by omega)) ?_))))
   refine pZ fa34_1 J (dZ (zQ (vs := op.g.v) ti31 J (Rg.len _) (hreg eX)) ?_)
   refine kQ (pX ti31) J ?_
   rintro b8 -
   refine sQ (xQ ti31 J J fC (Rg.len _) (Rg.ones _) J) J ?_
   rintro ⟨⟩ -
   refine fZ (bZ (cZ (aZ (pZ fa31_0 J (dZ (bX underlying28 ti27 J J (by omega) (by omega)) ?_)))))
   refine sQ (uQ ti27 J J fC J (by rw [Rg.len]; decide)) J ?_
   rintro ⟨⟩ -
   rw [show (0 + 0 + (0 : Int).toNat * 1) = 0 from J, hgz]
   refine fZ (bZ (cZ (aZ (eZ J (dZ (zQ (vs := op.g.z.v) ti31 J (Rg.len _) (fun j v hj => Cel.of_blk (b := b8) eX (by rw [Nat.zero_add j]; exact hj))) ?_)))))
   refine oZ call16 J (iM) (Do_c W (blk b8 op.g.z.v 31 :: dG z S q0 ts [old W]) (g := op.g.z) (n := n) (a := ra) (b := rb) (c := rc) hI (by omega) hra hrb hrc hn g1 g2 g3 g4) J ?_
   rintro σ2 I2
   have A2 := ak_fin (qk := q0) (R := op.g.z.v) (n := n) (a := ra) (b := rb) (c := rc) hA
   refine eZ J (dZ (xZ J J) (dZ (xZ J J) (dZ (xZ J J) (kQ (pX ti31) J ?_))))
   rintro b9 -
   refine sQ (xQ ti31 J J fC (Rg.len _) (Rg.ones _) J) J ?_
   rintro ⟨⟩ -
   refine gZ J (gZ J (fZ (bZ (cZ (aZ (eZ J (dZ (zQ (vs := op.g.z.v) ti31 J (Rg.len _) (fun j v hj => Cel.of_blk (b := b8) eX (by rw [Nat.zero_add j]; exact hj))) ?_)))))))
   refine oZ call48 J (iM) (rDo_spec W (hG x (fin S op.g.z.v (ocOf q0 S op.g.z.v n ra rb rc)).S [q0, 8] σ2 (blk b9 (op.g.z.ans n S.time (fin S op.g.z.v (ocOf q0 S op.g.z.v n ra rb rc)).ans).v 31 :: [old W])) (z := z) (g := op.g.z) (n := n) (a := ra) (b := rb) (c := rc) hDK hn hra hrb hrc g1 g2 g3 g4) J ?_
   rintro ts2 T2
   generalize fin S op.g.z.v (ocOf q0 S op.g.z.v n ra rb rc) = m at hef I2 A2 T2 ⊢
   refine eZ J (dZ (xZ J J) (dZ (xZ J J) (dZ (xZ J J) (kQ (pX ti31) J ?_))))
   rintro b12 -
   refine sQ (xQ ti31 J J fC (Rg.len _) (Rg.ones _) J) J ?_
   rintro ⟨⟩ -
   refine gZ J (gZ J (fZ (bZ (cZ (aZ (dZ (zQ (vs := (op.g.z.ans n S.time m.ans).v) ti31 J (Rg.len _) (fun j v hj => Cel.of_blk (b := b9) eX (by rw [Nat.zero_add j]; exact hj))) ?_))))))
   refine dZ (zQ (vs := (op.g.z.ans n S.time m.ans).v) ti31 J (Rg.len _) (fun j v hj => Cel.of_blk (b := b12) eX (by rw [Nat.zero_add j]; exact hj))) ?_
   refine dZ (Yield.agg_neq 6 (xs := (op.g.z.ans n S.time m.ans).v) (ys := (op.g.z.ans n S.time m.ans).v) J J (by decide) flat31 guard31 (Rg.fit _) (Rg.fit _) (b := false) (by rw [Rg.eqc]; rfl)) ?_
   refine eZ J (kZ J J (eZ J (kZ J J (eZ J (kZ J J (dZ (oQ (nX J J) (v' := .bool false) (bF (not_not_intro J))) (dZ mZ ?_)))))))
   refine eZ J (kZ J J (eZ J (kZ J J (eZ J (kZ J J (dZ (oQ (nX J J) (v' := .bool false) (bF (not_not_intro hef))) (dZ mZ ?_)))))))
   refine fZ (bZ (vZ J (uZ (bZ (cZ (aZ (eZ J (eZ J (oZ call49 J (iM) (alike_spec W [old W] (x := x) (z := z) I2 A2.at1 A2.at0 A2.len) J ?_)))))))))
   rintro ⟨⟩ -
   exact dZ (iQ J) (fZ (bZ (vZ J (uZ (tZ (bZ (aZ (eZ J (dZ (hQ J J wO) (gZ J (fZ (gX (i + 1, m.S, σ2, ts2) ⟨by simp only; omega, by simp only; omega, by rw [show 8192 * (i + 1) = 8192 * i + 8192 by omega]; exact I2, A2, T2⟩ (by simp only; omega) eS iM))))))))))))
 ·refine aZ (eZ J (eZ J (dZ (sZ underlying22 J J) (dZ eQ ?_))))
  refine eZ J (kZ J J (eZ J (kZ J J (dZ eQ ?_))))
  refine dZ mZ ?_
  refine fZ (bZ (vZ J (iX (bQ (bQ (tQ (bZ (cZ (aZ (eZ J (eZ J (oZ call49 J (iM) (alike_spec W [old W] (x := x) (z := z) (ts := ts) hI hA.at1 hA.at0 hA.len) J ?_))))))))))))
  rintro ⟨⟩ -
  exact gZ J (fZ (bZ (rZ (yZ J J () trivial J iM))))
 ·refine aZ (eZ J (eZ J (dZ (sZ underlying22 J J) (dZ eQ ?_))))
  refine eZ J (gQ J J J J J (gQ J J J J J (dZ mZ ?_)))
  refine fZ (bZ (vZ J (iX (bQ (bQ (tQ (bZ (cZ (aZ (eZ J (eZ J (oZ call49 J (iM) (alike_spec W [old W] (x := x) (z := z) (ts := ts) hI hA.at1 hA.at0 hA.len) J ?_))))))))))))
  rintro ⟨⟩ -
  exact gZ J (fZ (bZ (rZ (yZ J J () trivial J iM))))
end Go.Proofs.YtphljkplokjonaaGreat.hcallPlays
