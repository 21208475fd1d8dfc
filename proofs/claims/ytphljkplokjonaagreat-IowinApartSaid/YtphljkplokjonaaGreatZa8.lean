/- Rules for steps of the model, and what functions of the program do. -/
import Derived.Test.YtphljkplokjonaaGreatZa7
set_option linter.unusedVariables false
set_option linter.unusedSimpArgs false
set_option linter.unusedSectionVars false
set_option maxRecDepth 100000
namespace Go.Proofs.YtphljkplokjonaaGreat.iowinApart
open Go Go.Sl Go.RowKit Go.Proofs Go.Proofs.YtphljkplokjonaaGreat.T Go.Proofs.YtphljkplokjonaaGreat.Sp Go.Proofs.YtphljkplokjonaaGreat.Io Go.Proofs.YtphljkplokjonaaGreat.Ms Tryz
open Go.Proofs.YtphljkplokjonaaGreat.Hc (md md_range)
structure Lp where
 M : Nat
 t : Nat
 S : IW
 T : IW
 a : St
 b : St
 v : VA
structure LI (x y : WA) (m n : Nat) (z : Lp) (l : Nat) : Prop where
 t : z.t ≤ l
 S : Wk n x z.S z.a
 T : Wk n y z.T z.b
 s : Sim m z.S z.v
 u : Sim m z.T z.v
set_option maxHeartbeats 16000000 in
theorem walk (W : World) {a0 a1 a2 a3 : Option Addr} {c0 c1 c2 c3 : Nat} {sl qk : List Int} {ins : List Inp} {ops : List IAct} (hs0 : SlAt W 1 a0 sl.length ((sl.map (intC .i64)).flatten)) (hq0 : SlAt W 1 a1 qk.length ((qk.map (intC .i64)).flatten)) (hins : SlAt W 3 a2 ins.length ((ins.map Inp.cells).flatten)) (hio : ∀ o ∈ ins, o.OK W) (him : ins.length ≤ 2 ^ 60) (hops : SlAt W 7 a3 ops.length ((ops.map IAct.cells).flatten)) (hok : ∀ o ∈ ops, o.OK W) (hom : ops.length ≤ 2 ^ 60) :
 Ctr prog W 8 [.slice a0 sl.length c0, .slice a1 qk.length c1, .slice a2 ins.length c2, .slice a3 ops.length c3] [old W] (fun _ : Unit => True) (fun _ => .bool true) (fun _ => [old W]) := by
 have hib : ∀ {G R : List HProp}, Ext G (old W) R → ∀ x ∈ ins, RdB W G x.Bytesa x.Bytesc x.Bytes ∧ x.Bytes.length ≤ 2 ^ 48 := fun e x hx => ⟨RdB.of_slR ((hio x hx).Bytes.old e) (hio x hx).Bytesc, by have := (hio x hx).Bytesm; unfold reachBytes at this; omega⟩
 refine Ctr.of_body func8 J ntmps8 J (eZ (aZ (gZ J (fZ (bZ (eZ (eZ (aZ (oZ call18 J (Imp.refl _) (works_spec W _) J ?_)))))))))
 rintro ⟨⟩ -
 refine cZ (pQ J) (fZ (bZ (qZ J (wZ (bZ (eZ (aZ (gZ J (gZ J (fZ (bZ (CG.cut (fun z : List Int × Option Addr × Nat => (∀ x ∈ z.1, 0 ≤ x ∧ x ≤ 8) ∧ z.1.length ≤ 50) (fun z => [(1, .slice a1 qk.length c1), (2, .slice a2 ins.length c2), (3, .slice a3 ops.length c3), (9, .slice z.2.1 z.1.length z.2.2), (10, .slice none 0 0)]) (fun z => [onum 3 .i64 z.2.1 z.2.2 z.1, old W]) ?_ ?_))))))))))))
 ·refine eZ (aZ (gZ J (fZ (bZ (fQ (iX (fun x : Nat × Option Addr × Nat => x.1 ≤ sl.length ∧ x.1 ≤ 50) (fun x => [(0, .slice a0 sl.length c0), (1, .slice a1 qk.length c1), (2, .slice a2 ins.length c2), (3, .slice a3 ops.length c3), (9, .slice x.2.1 (d9 sl x.1).length x.2.2), (10, .slice none 0 0), (11, .int .i64 x.1)]) (fun x => [onum 3 .i64 x.2.1 x.2.2 (d9 sl x.1), old W]) (fun x => sl.length - x.1) (0, none, 0) ⟨Nat.zero_le _, Nat.zero_le _⟩ eS (osl_nil (E := 3) (sz := 1)) ?_))))))
  rintro ⟨i, a9, c9⟩ ⟨hi, hi50⟩
  dsimp only at hi hi50 ⊢
  have hgl := d9_len hi
  refine eZ (eZ ?_)
  rcases loop_head (i) (sl.length) 50 with hh | hh | hh
  ·refine aZ (dZ J (dZ J (cZ (lZ underlying80 J J) (cZ bQ ?_))))
   refine dZ J (iZ J J (dZ J (iZ J J (cZ bQ ?_))))
   refine cZ jZ ?_
   refine fZ (bZ (gQ J (wZ (bZ (eZ (fQ ?_))))))
   obtain ⟨h1, h2⟩ := hh
   have hget : sl[i]? = some sl[i] := by simp [h1]
   generalize sl[i] = x at hget
   have hmd := md_range (k := 9) (by decide) x
   have hwx := wrap_u64_range x
   refine kX (fun w hw => (hs0.old (G := [onum 3 .i64 a9 c9 (d9 sl i), old W]) eX).elem_shape (f := intC .i64) (fun _ => rfl) (by decide) h1 w hw) ?_
   rintro ⟨b0, o0, rfl⟩
   refine aZ (dZ J (dZ J (dZ J (cZ (nZ underlying80 ti3 J J (by omega) (by omega)) ?_))))
   refine cZ (hZ (v := .int .i64 x) ti3 J (((hs0.old eX).elem (f := intC .i64) (fun _ => rfl) hget) 0 _ J)) ?_
   refine cZ (uQ underlying24 J J J) (cZ (tX (c := md 9 x) J J (by decide) (tmod_pos (by omega) (by omega))) ?_)
   refine cZ (uQ (c := md 9 x) underlying3 J J wO) (jQ (gV underlying80 ti3 J J J) J ?_)
   rintro b42 -
   refine jQ (nX (k := 1) (ys := intsV .i64 [md 9 x]) J J J underlying80 underlying80 ti3 J (by decide) fC (SlR.of_osl (a := some ⟨b42, 0, none⟩) eX) (intsV_ones _ _) (by omega)) J ?_
   rintro ⟨a43, c43⟩ -
   refine gZ J (fZ (sZ (bZ (aZ (dZ J (cZ (eQ J J wO) (gZ J (fZ (yQ (i + 1, a43, c43) ⟨by show i + 1 ≤ sl.length; omega, by show i + 1 ≤ 50; omega⟩ (show sl.length - (i + 1) < sl.length - i by omega) (by dsimp only; rw [d9_step hget, List.length_append]; exact eS) ?_)))))))))
   dsimp only
   rw [d9_step hget, onum_app]
   exact iM
  ·refine aZ (dZ J (dZ J (cZ (lZ underlying80 J J) (cZ bQ ?_))))
   refine dZ J (iZ J J (dZ J (iZ J J (cZ bQ ?_))))
   refine cZ jZ ?_
   exact fZ (bZ (qZ J (dX (yZ (yZ (oQ (cV (d9 sl i, a9, c9) ⟨d9_range, by show (d9 sl i).length ≤ 50; omega⟩ eS iM)))))))
  ·refine aZ (dZ J (dZ J (cZ (lZ underlying80 J J) (cZ bQ ?_))))
   refine dZ J (iQ J J J J J (iQ J J J J J (cZ jZ ?_)))
   exact fZ (bZ (qZ J (dX (yZ (yZ (oQ (cV (d9 sl i, a9, c9) ⟨d9_range, by show (d9 sl i).length ≤ 50; omega⟩ eS iM)))))))
 rintro ⟨ds, da, dc⟩ ⟨hds, hdl⟩
 dsimp only at hds hdl ⊢
 refine CG.cut (fun z : List Int × Option Addr × Nat => (∀ x ∈ z.1, 0 ≤ x ∧ x ≤ 8) ∧ z.1.length ≤ 50) (fun z => [(2, .slice a2 ins.length c2), (3, .slice a3 ops.length c3), (9, .slice da ds.length dc), (10, .slice z.2.1 z.1.length z.2.2)]) (fun z => [onum 3 .i64 z.2.1 z.2.2 z.1, onum 3 .i64 da dc ds, old W]) ?_ ?_
 ·refine eZ (aZ (gZ J (fZ (bZ (fQ (iX (fun x : Nat × Option Addr × Nat => x.1 ≤ qk.length ∧ x.1 ≤ 50) (fun x => [(1, .slice a1 qk.length c1), (2, .slice a2 ins.length c2), (3, .slice a3 ops.length c3), (9, .slice da ds.length dc), (10, .slice x.2.1 (d9 qk x.1).length x.2.2), (12, .int .i64 x.1)]) (fun x => [onum 3 .i64 x.2.1 x.2.2 (d9 qk x.1), onum 3 .i64 da dc ds, old W]) (fun x => qk.length - x.1) (0, none, 0) ⟨Nat.zero_le _, Nat.zero_le _⟩ eS (osl_nil (E := 3) (sz := 1)) ?_))))))
  rintro ⟨i, a9, c9⟩ ⟨hi, hi50⟩
  dsimp only at hi hi50 ⊢
  have hgl := d9_len hi
  refine eZ (eZ ?_)
  rcases loop_head (i) (qk.length) 50 with hh | hh | hh
  ·refine aZ (dZ J (dZ J (cZ (lZ underlying80 J J) (cZ bQ ?_))))
   refine dZ J (iZ J J (dZ J (iZ J J (cZ bQ ?_))))
   refine cZ jZ ?_
   refine fZ (bZ (gQ J (wZ (bZ (eZ (fQ ?_))))))
   obtain ⟨h1, h2⟩ := hh
   have hget : qk[i]? = some qk[i] := by simp [h1]
   generalize qk[i] = x at hget
   have hmd := md_range (k := 9) (by decide) x
   have hwx := wrap_u64_range x
   refine kX (fun w hw => (hq0.old (G := [onum 3 .i64 a9 c9 (d9 qk i), onum 3 .i64 da dc ds, old W]) eX).elem_shape (f := intC .i64) (fun _ => rfl) (by decide) h1 w hw) ?_
   rintro ⟨b0, o0, rfl⟩
   refine aZ (dZ J (dZ J (dZ J (cZ (nZ underlying80 ti3 J J (by omega) (by omega)) ?_))))
   refine cZ (hZ (v := .int .i64 x) ti3 J (((hq0.old eX).elem (f := intC .i64) (fun _ => rfl) hget) 0 _ J)) ?_
   refine cZ (uQ underlying24 J J J) (cZ (tX (c := md 9 x) J J (by decide) (tmod_pos (by omega) (by omega))) ?_)
   refine cZ (uQ (c := md 9 x) underlying3 J J wO) (jQ (gV underlying80 ti3 J J J) J ?_)
   rintro b62 -
   refine jQ (nX (k := 1) (ys := intsV .i64 [md 9 x]) J J J underlying80 underlying80 ti3 J (by decide) fC (SlR.of_osl (a := some ⟨b62, 0, none⟩) eX) (intsV_ones _ _) (by omega)) J ?_
   rintro ⟨a63, c63⟩ -
   refine gZ J (fZ (sZ (bZ (aZ (dZ J (cZ (eQ J J wO) (gZ J (fZ (yQ (i + 1, a63, c63) ⟨by show i + 1 ≤ qk.length; omega, by show i + 1 ≤ 50; omega⟩ (show qk.length - (i + 1) < qk.length - i by omega) (by dsimp only; rw [d9_step hget, List.length_append]; exact eS) ?_)))))))))
   dsimp only
   rw [d9_step hget, onum_app]
   exact iM
  ·refine aZ (dZ J (dZ J (cZ (lZ underlying80 J J) (cZ bQ ?_))))
   refine dZ J (iZ J J (dZ J (iZ J J (cZ bQ ?_))))
   refine cZ jZ ?_
   exact fZ (bZ (qZ J (dX (yZ (yZ (oQ (cV (d9 qk i, a9, c9) ⟨d9_range, by show (d9 qk i).length ≤ 50; omega⟩ eS iM)))))))
  ·refine aZ (dZ J (dZ J (cZ (lZ underlying80 J J) (cZ bQ ?_))))
   refine dZ J (iQ J J J J J (iQ J J J J J (cZ jZ ?_)))
   exact fZ (bZ (qZ J (dX (yZ (yZ (oQ (cV (d9 qk i, a9, c9) ⟨d9_range, by show (d9 qk i).length ≤ 50; omega⟩ eS iM)))))))
 rintro ⟨es, ea, ec⟩ ⟨hes, hel⟩
 dsimp only at hes hel ⊢
 refine eZ (aZ (dZ J (oZ call19 J (Imp.refl _) (made_spec W _ (ds := ds) (da := da) (dc := dc) (SlR.of_osl (E := 3) (a := da) (c := dc) eX) (by omega) (newE_9 hds)) J ?_)))
 rintro ⟨zx, σx⟩ ⟨hxl, L0⟩
 have hWx := wk_new (ds := ds) hxl L0
 dsimp only [wldG, WG] at hWx ⊢
 refine dZ J (oZ call19 J (Imp.refl _) (made_spec W _ (ds := es) (da := ea) (dc := ec) (SlR.of_osl (E := 3) (a := ea) (c := ec) eX) (by omega) (newE_9 hes)) J ?_)
 rintro ⟨zy, σy⟩ ⟨hyl, L1⟩
 have hWy := wk_new (ds := es) hyl L1
 clear L0 L1
 dsimp only [wldG, WG] at hWy ⊢
 have hsx := sim_new (ds := ds) (fun x hx => (hds x hx).2)
 have hsy := sim_new (ds := es) (fun x hx => (hes x hx).2)
 refine gZ J (gZ J (fZ (bZ (eZ (eZ (aZ (dZ J (cZ (hX underlying48 J J) (dZ J (iZ J J (dZ J (iZ J J (cZ (hX underlying48 J J) (cZ jZ ?_))))))))))))))
 refine fZ (bZ (qZ J (wZ (bZ (eZ (aZ (gZ J (fZ (bZ (eZ (aZ (gZ J (fZ (bZ (eZ (eZ (aZ (gZ J (fZ (bZ (fQ (iX (fun z : Lp => z.M ≤ 12 ∧ LI zx zy z.M (9 * z.M) z ops.length) (fun z => [(2, .slice a2 ins.length c2), (3, .slice a3 ops.length c3), (13, .pointer (some ⟨zx.e, 0, none⟩)), (14, .pointer (some ⟨zy.e, 0, none⟩)), (15, .int .i64 2), (16, .int .i64 z.t), (17, .int .i64 z.M)]) (fun z => iwG zx z.S z.a (iwG zy z.T z.b [old W])) (fun z => 12 - z.M) ⟨0, 0, ⟨ysN 3, [], [], bs0 ds, chs.map Po.Cf.ac, obM 3⟩, ⟨ysN 3, [], [], bs0 es, chs.map Po.Cf.ac, obM 3⟩, σx, σy, va0⟩ ⟨Nat.zero_le _, Nat.zero_le _, hWx, hWy, hsx, hsy⟩ eS iM ?_))))))))))))))))))))))
 clear hWx hWy hsx hsy
 rintro ⟨M, t, S, T, σx, σy, v⟩ ⟨hM, ht, hWx, hWy, hsx, hsy⟩
 dsimp only [iwG, wldG, WG] at hM ht hWx hWy hsx hsy ⊢
 refine eZ (eZ (aZ (dZ J (cZ bQ ?_))))
 refine fZ (bZ (wQ J (fun hc => ?_) (fun hc => ?_)))
 ·try replace hc := odT hc
  have hM12 : M < 12 := by omega
  obtain ⟨S1, hS1⟩ : ∃ Z, doW (actK 1 0 M) ins S = Z := ⟨_, rfl⟩
  obtain ⟨T1, hT1⟩ : ∃ Z, doW (actK 1 0 M) ins T = Z := ⟨_, rfl⟩
  obtain ⟨S2, hS2⟩ : ∃ Z, doW (actK 7 2 (100 * M)) [] S1 = Z := ⟨_, rfl⟩
  obtain ⟨T2, hT2⟩ : ∃ Z, doW (actK 7 2 (100 * M)) [] T1 = Z := ⟨_, rfl⟩
  have hsx2 := sim_rel (n := 0) (sim_beg (ins := ins) hsx (a := actK 1 0 M) J J) (a := actK 7 2 (100 * M)) J J
  have hsy2 := sim_rel (n := 0) (sim_beg (ins := ins) hsy (a := actK 1 0 M) J J) (a := actK 7 2 (100 * M)) J J
  rw [hS1, hS2] at hsx2
  rw [hT1, hT2] at hsy2
  refine wZ (bZ (eZ (fQ (eZ (aZ (dZ J (dZ J (cZ (xQ bu52 ti52 J (cells := (actK 1 0 M).cells) J) (dZ J (oZ call33 J (iM) (do_c W (iwG zy T σy [old W]) (z := zx) (S := S) (S' := S1) (σ := σx) (n := 9 * M) (a := actK 1 0 M) (ins := ins) (ia := a2) (ic := c2) hWx (by omega) adK (RdB.of_slR SlR.nil (Nat.zero_le _)) (Nat.zero_le _) (hins.old eX) (hib eX) him hS1) J ?_))))))))))
  rintro ⟨r1, σx1⟩ ⟨hWx1, -⟩
  dsimp only [iwG, wldG, WG] at hWx1 ⊢
  refine fZ (bZ (eZ (aZ (dZ J (dZ J (cZ (xQ bu52 ti52 J (cells := (actK 1 0 M).cells) J) (dZ J (oZ call33 J (iM) (do_c W (iwG zx S1 σx1 [old W]) (z := zy) (S := T) (S' := T1) (σ := σy) (n := 9 * M) (a := actK 1 0 M) (ins := ins) (ia := a2) (ic := c2) hWy (by omega) adK (RdB.of_slR SlR.nil (Nat.zero_le _)) (Nat.zero_le _) (hins.old eX) (hib eX) him hT1) J ?_))))))))
  rintro ⟨r2, σy1⟩ ⟨hWy1, -⟩
  dsimp only [iwG, wldG, WG] at hWy1 ⊢
  refine fZ (bZ (eZ (aZ (dZ J (dZ J (dZ J (cZ (qX (c := 100 * (M : Int)) J J wO) (cZ (xQ bu52 ti52 J (cells := (actK 7 2 (100 * M)).cells) J) (oZ call33 J (iM) (do_c W (iwG zy T1 σy1 [old W]) (z := zx) (S := S1) (S' := S2) (σ := σx1) (n := 9 * M + 1) (a := actK 7 2 (100 * M)) (ins := []) (ia := none) (ic := 0) hWx1 (by omega) adK (RdB.of_slR SlR.nil (Nat.zero_le _)) (Nat.zero_le _) SlR.nil (fun x hx => absurd hx List.not_mem_nil) (by decide) hS2) J ?_)))))))))
  rintro ⟨r3, σx2⟩ ⟨hWx2, -⟩
  dsimp only [iwG, wldG, WG] at hWx2 ⊢
  refine fZ (bZ (eZ (aZ (dZ J (dZ J (dZ J (cZ (qX (c := 100 * (M : Int)) J J wO) (cZ (xQ bu52 ti52 J (cells := (actK 7 2 (100 * M)).cells) J) (oZ call33 J (iM) (do_c W (iwG zx S2 σx2 [old W]) (z := zy) (S := T1) (S' := T2) (σ := σy1) (n := 9 * M + 1) (a := actK 7 2 (100 * M)) (ins := []) (ia := none) (ic := 0) hWy1 (by omega) adK (RdB.of_slR SlR.nil (Nat.zero_le _)) (Nat.zero_le _) SlR.nil (fun x hx => absurd hx List.not_mem_nil) (by decide) hT2) J ?_)))))))))
  rintro ⟨r4, σy2⟩ ⟨hWy2, -⟩
  dsimp only [iwG, wldG, WG] at hWy2 ⊢
  generalize ({ vBeg M ins v with y := relC (actK 7 2 (100 * M)).N (vBeg M ins v).y } : VA) = v2 at hsx2 hsy2
  clear hWx hWy hsx hsy hWx1 hWy1 hS1 hT1 hS2 hT2
  refine fZ (bZ (CG.cut (fun z : Lp => LI zx zy M (9 * M + 8) z ops.length) (fun z => [(2, .slice a2 ins.length c2), (3, .slice a3 ops.length c3), (13, .pointer (some ⟨zx.e, 0, none⟩)), (14, .pointer (some ⟨zy.e, 0, none⟩)), (15, .int .i64 2), (16, .int .i64 z.t), (17, .int .i64 M)]) (fun z => iwG zx z.S z.a (iwG zy z.T z.b [old W])) ?_ ?_))
  ·refine eZ (aZ (gZ J (fZ (bZ (fQ (iX (fun z : Lp => z.M ≤ 6 ∧ LI zx zy M (9 * M + 2 + z.M) z ops.length) (fun z => [(2, .slice a2 ins.length c2), (3, .slice a3 ops.length c3), (13, .pointer (some ⟨zx.e, 0, none⟩)), (14, .pointer (some ⟨zy.e, 0, none⟩)), (15, .int .i64 2), (16, .int .i64 z.t), (17, .int .i64 M), (18, .int .i64 z.M)]) (fun z => iwG zx z.S z.a (iwG zy z.T z.b [old W])) (fun z => 6 - z.M) ⟨0, t, S2, T2, σx2, σy2, v2⟩ ⟨Nat.zero_le _, ht, hWx2, hWy2, hsx2, hsy2⟩ eS iM ?_))))))
   clear hWx2 hWy2 hsx2 hsy2
   rintro ⟨k, t, S, T, σx, σy, v⟩ ⟨hk, ht, hWx, hWy, hsx, hsy⟩
   dsimp only [iwG, wldG, WG] at hk ht hWx hWy hsx hsy ⊢
   refine eZ (eZ ?_)
   rcases (show ¬ k < 6 ∨ (k < 6 ∧ ¬ t < ops.length) ∨ (k < 6 ∧ t < ops.length) by omega) with hh | hh | hh
   ·refine aZ (dZ J (cZ (dQ (uX J J) (v' := .bool false) (bF (by omega))) ?_))
    refine dZ J (iQ J J J J J (iQ J J J J J (iQ J J J J J (iQ J J J J J (cZ jZ ?_)))))
    exact fZ (bZ (qZ J (dX (yZ (yZ (oQ (cV ⟨0, t, S, T, σx, σy, v⟩ ⟨ht, hWx.mono (by omega), hWy.mono (by omega), hsx, hsy⟩ eS iM)))))))
   ·refine aZ (dZ J (cZ (dQ (uX J J) (v' := .bool true) (bT (by omega))) ?_))
    refine dZ J (iZ J J (dZ J (iZ J J (dZ J (iZ J J (cZ (lZ underlying47 J J) (iZ J J (cZ (dQ (uX J J) (v' := .bool false) (bF (by omega))) ?_))))))))
    refine cZ jZ ?_
    exact fZ (bZ (qZ J (dX (yZ (yZ (oQ (cV ⟨0, t, S, T, σx, σy, v⟩ ⟨ht, hWx.mono (by omega), hWy.mono (by omega), hsx, hsy⟩ eS iM)))))))
   ·refine aZ (dZ J (cZ (dQ (uX J J) (v' := .bool true) (bT (by omega))) ?_))
    refine dZ J (iZ J J (dZ J (iZ J J (dZ J (iZ J J (cZ (lZ underlying47 J J) (iZ J J (cZ (dQ (uX J J) (v' := .bool true) (bT (by omega))) ?_))))))))
    refine cZ jZ ?_
    refine fZ (bZ (gQ J (wZ (bZ (eZ (fQ (eZ ?_)))))))
    obtain ⟨h1, h2⟩ := hh
    have hget : ops[t]? = some ops[t] := by simp [h2]
    have hko := hok ops[t] (List.getElem_mem h2)
    generalize ops[t] = op at hget hko
    have hBm := hko.Bm
    unfold reachBytes at hBm
    have hmd := md_range (k := 3) (by decide) op.Part
    have hwx := wrap_u64_range op.Part
    refine kX (fun w hw => (hops.old (G := iwG zx S σx (iwG zy T σy [old W])) eX).elem_shape IAct.len (by decide) h2 w hw) ?_
    rintro ⟨ob, oo, rfl⟩
    have hrow : ∀ {G R : List HProp}, Ext G (old W) R → Row W G ob (oo + t * 7) (IAct.cells op) := fun x => (hops.old x).elem IAct.len hget
    refine aZ (dZ J (dZ J (cZ (nZ underlying47 ti52 J J (by omega) (by omega)) ?_)))
    refine cZ (tQ (vs := IAct.cells op) ti52 J J (by rw [show oo + (t : Int).toNat * 7 = oo + t * 7 by omega]; exact hrow eX)) ?_
    refine jQ (lX ti52) J ?_
    rintro b19 -
    refine cX (gX ti52 J J fC J (IAct.ones _) J) J ?_
    rintro ⟨⟩ -
    refine fZ (bZ (eZ (aZ (dZ J (cZ (eQ J J wO) (gZ J (fZ (bZ (eZ (eZ ?_))))))))))
    rcases (show op.Kind < 2 ∨ (2 ≤ op.Kind ∧ 6 < op.Kind) ∨ (2 ≤ op.Kind ∧ op.Kind ≤ 6) by omega) with hv | hv | hv
    ·refine aZ (pZ fa52_0 J (cZ (hZ (v := .int .i64 op.Kind) ti3 J (Cel.of_blk (b := b19) eX J)) ?_))
     refine cZ (dQ (uX J J) (v' := .bool true) (bT (by omega))) ?_
     refine dZ J (iQ J J J J J (iQ J J J J J (iQ J J J J J (cZ jZ ?_))))
     exact fZ (bZ (gQ J (dX (yZ (oQ (bZ (aZ (dZ J (cZ (eQ J J wO) (gZ J (fZ (yQ ⟨k + 1, t + 1, S, T, σx, σy, v⟩ ⟨by simp only; omega, by simp only; omega, hWx.mono (by simp only; omega), hWy.mono (by simp only; omega), hsx, hsy⟩ (by simp only; omega) eS iM))))))))))))
    ·refine aZ (pZ fa52_0 J (cZ (hZ (v := .int .i64 op.Kind) ti3 J (Cel.of_blk (b := b19) eX J)) ?_))
     refine cZ (dQ (uX J J) (v' := .bool false) (bF (by omega))) ?_
     refine dZ J (iZ J J (pZ fa52_0 J (iZ J J (cZ (hZ (v := .int .i64 op.Kind) ti3 J (Cel.of_blk (b := b19) eX J)) ?_))))
     refine iZ J J (cZ (dQ (qV J J) (v' := .bool true) (bT (by omega))) ?_)
     refine cZ jZ ?_
     exact fZ (bZ (gQ J (dX (yZ (oQ (bZ (aZ (dZ J (cZ (eQ J J wO) (gZ J (fZ (yQ ⟨k + 1, t + 1, S, T, σx, σy, v⟩ ⟨by simp only; omega, by simp only; omega, hWx.mono (by simp only; omega), hWy.mono (by simp only; omega), hsx, hsy⟩ (by simp only; omega) eS iM))))))))))))
    ·refine aZ (pZ fa52_0 J (cZ (hZ (v := .int .i64 op.Kind) ti3 J (Cel.of_blk (b := b19) eX J)) ?_))
     refine cZ (dQ (uX J J) (v' := .bool false) (bF (by omega))) ?_
     refine dZ J (iZ J J (pZ fa52_0 J (iZ J J (cZ (hZ (v := .int .i64 op.Kind) ti3 J (Cel.of_blk (b := b19) eX J)) ?_))))
     refine iZ J J (cZ (dQ (qV J J) (v' := .bool false) (bF (by omega))) ?_)
     refine cZ jZ ?_
     refine fZ (bZ (qZ J (wZ (bZ (CG.cut (fun _ : Unit => True) (fun _ => [(2, .slice a2 ins.length c2), (3, .slice (some ⟨ob, oo, none⟩) ops.length c3), (13, .pointer (some ⟨zx.e, 0, none⟩)), (14, .pointer (some ⟨zy.e, 0, none⟩)), (15, .int .i64 2), (16, .int .i64 ((t + 1 : Nat) : Int)), (17, .int .i64 M), (18, .int .i64 k), (19, .pointer (some ⟨b19, 0, none⟩))]) (fun _ => blk b19 (opN M op).cells 52 :: iwG zx S σx (iwG zy T σy [old W])) ?_ ?_)))))
     ·refine eZ (aZ (pZ fa52_0 J (cZ (hZ (v := .int .i64 op.Kind) ti3 J (Cel.of_blk (b := b19) eX J)) ?_)))
      refine cZ (bX J J) (fZ (bZ (wQ J (fun hc => ?_) (fun hc => ?_))))
      ·try replace hc := odT hc
       have ho : opN M op = { op with N := (M : Int) } := if_pos hc
       refine aZ (dZ J (pZ fa52_2 J (cX (aX ti3 J J fC J (by rw [IAct.len]; decide)) J ?_)))
       rintro ⟨⟩ -
       refine fZ ?_
       rw [show (IAct.cells op).set (0 + 2) (.int .i64 (M : Int)) = (opN M op).cells by rw [ho]; rfl]
       exact cV () trivial eS iM
      ·try replace hc := odF hc
       have ho : opN M op = op := if_neg hc
       refine wZ ?_
       rw [show IAct.cells op = (opN M op).cells by rw [ho]]
       exact cV () trivial eS iM
     rintro ⟨⟩ -
     obtain ⟨oK, oP, oa, oc, oB, oA, oN⟩ := opN_is M op
     obtain ⟨S1, hS1⟩ : ∃ Z, doW (opN M op) [] S = Z := ⟨_, rfl⟩
     obtain ⟨T1, hT1⟩ : ∃ Z, doW (opN M op) [] T = Z := ⟨_, rfl⟩
     have hsx1 := sim_act (a := opN M op) hsx (by rw [oK]; exact hv) oN
     have hsy1 := sim_act (a := opN M op) hsy (by rw [oK]; exact hv) oN
     rw [hS1] at hsx1
     rw [hT1] at hsy1
     have hpi : ((ptI (opN M op) : Nat) : Int) = md 3 op.Part := by unfold ptI; rw [oP]; omega
     have hadr : 0 ≤ (opN M op).Addr ∧ (opN M op).Addr < 4294967296 := by rw [oA]; have := wf_u32 hko.Addr; omega
     have hBr : ∀ {G R : List HProp}, Ext G (old W) R → RdB W G (opN M op).Ba (opN M op).Bc (opN M op).B := fun x => by rw [oa, oc, oB]; exact RdB.of_slR (hko.B.old x) hko.Bc
     have hBl : (opN M op).B.length ≤ 140737488351232 := by rw [oB]; exact hBm
     have hpc : (opN M op).cells[1]? = some (.int .i64 op.Part) := by rw [← oP]; rfl
     generalize opN M op = oq at hsx1 hsy1 hpi hadr hBr hBl hpc hS1 hT1
     dsimp only [iwG, wldG, WG]
     refine eZ (aZ (dZ J (cZ (tQ (vs := IAct.cells oq) ti52 J J (Row.of_blk (b := b19) eX J)) ?_)))
     refine oZ call33 J (iM) (do_c W (blk b19 oq.cells 52 :: iwG zy T σy [old W]) (z := zx) (S := S) (S' := S1) (σ := σx) (n := 9 * M + 2 + k) (a := oq) (ins := []) (ia := none) (ic := 0) hWx (by omega) hadr (hBr eX) hBl SlR.nil (fun x hx => absurd hx List.not_mem_nil) (by decide) hS1) J ?_
     rintro ⟨r1, σx1⟩ ⟨hWx1, -⟩
     dsimp only [iwG, wldG, WG] at hWx1 ⊢
     refine fZ (bZ (eZ (aZ (pZ fa52_1 J (cZ (hZ (v := .int .i64 op.Part) ti3 J (Cel.of_blk (b := b19) eX hpc)) ?_)))))
     refine cZ (uQ underlying24 J J J) (cZ (tX (c := md 3 op.Part) J J (by decide) (tmod_pos (by omega) (by omega))) ?_)
     refine cZ (uQ (c := md 3 op.Part) underlying3 J J wO) (dZ J (cZ (bX J J) (fZ (bZ (wQ J (fun hc => ?_) (fun hc => ?_))))))
     ·try replace hc := odT hc
      have hp2 : ptI oq = 2 := by omega
      rw [if_pos hp2] at hsx1 hsy1
      refine aZ (dZ J (cZ (tQ (vs := IAct.cells oq) ti52 J J (Row.of_blk (b := b19) eX J)) ?_))
      refine oZ call33 J (iM) (do_c W (blk b19 oq.cells 52 :: iwG zx S1 σx1 [old W]) (z := zy) (S := T) (S' := T1) (σ := σy) (n := 9 * M + 2 + k) (a := oq) (ins := []) (ia := none) (ic := 0) hWy (by omega) hadr (hBr eX) hBl SlR.nil (fun x hx => absurd hx List.not_mem_nil) (by decide) hT1) J ?_
      rintro ⟨r2, σy1⟩ ⟨hWy1, -⟩
      dsimp only [iwG, wldG, WG] at hWy1 ⊢
      exact fZ (sZ (bZ (aZ (dZ J (cZ (eQ J J wO) (gZ J (fZ (yQ ⟨k + 1, t + 1, S1, T1, σx1, σy1, vAct oq v⟩ ⟨by simp only; omega, by simp only; omega, hWx1, hWy1, hsx1, hsy1⟩ (by simp only; omega) eS iM))))))))
     ·try replace hc := odF hc
      have hp2 : ¬ ptI oq = 2 := by omega
      rw [if_neg hp2] at hsx1
      exact wZ (sZ (bZ (aZ (dZ J (cZ (eQ J J wO) (gZ J (fZ (yQ ⟨k + 1, t + 1, S1, T, σx1, σy, v⟩ ⟨by simp only; omega, by simp only; omega, hWx1, hWy.mono (by simp only; omega), hsx1, hsy⟩ (by simp only; omega) eS iM))))))))
  rintro ⟨_, t, S, T, σx, σy, v⟩ ⟨ht, hWx, hWy, hsx, hsy⟩
  dsimp only [iwG, wldG, WG] at ht hWx hWy hsx hsy ⊢
  obtain ⟨S1, hS1⟩ : ∃ Z, doW (actK 0 0 (100 * M + 99)) [] S = Z := ⟨_, rfl⟩
  obtain ⟨T1, hT1⟩ : ∃ Z, doW (actK 0 0 (100 * M + 99)) [] T = Z := ⟨_, rfl⟩
  refine eZ (aZ (dZ J (dZ J (cZ (qX (c := 100 * (M : Int)) J J wO) (cZ (eQ (c := 100 * (M : Int) + 99) J J wO) (cZ (xQ bu52 ti52 J (cells := (actK 0 0 (100 * M + 99)).cells) J) (oZ call33 J (iM) (do_c W (iwG zy T σy [old W]) (z := zx) (S := S) (S' := S1) (σ := σx) (n := 9 * M + 8) (a := actK 0 0 (100 * M + 99)) (ins := []) (ia := none) (ic := 0) hWx (by omega) adK (RdB.of_slR SlR.nil (Nat.zero_le _)) (Nat.zero_le _) SlR.nil (fun x hx => absurd hx List.not_mem_nil) (by decide) hS1) J ?_)))))))
  rintro ⟨r1, σx1⟩ ⟨hWx1, hdx⟩
  dsimp only [iwG, wldG, WG] at hWx1 ⊢
  refine fZ (bZ (eZ (aZ (dZ J (dZ J (cZ (qX (c := 100 * (M : Int)) J J wO) (cZ (eQ (c := 100 * (M : Int) + 99) J J wO) (cZ (xQ bu52 ti52 J (cells := (actK 0 0 (100 * M + 99)).cells) J) (oZ call33 J (iM) (do_c W (iwG zx S1 σx1 [old W]) (z := zy) (S := T) (S' := T1) (σ := σy) (n := 9 * M + 8) (a := actK 0 0 (100 * M + 99)) (ins := []) (ia := none) (ic := 0) hWy (by omega) adK (RdB.of_slR SlR.nil (Nat.zero_le _)) (Nat.zero_le _) SlR.nil (fun x hx => absurd hx List.not_mem_nil) (by decide) hT1) J ?_)))))))))
  rintro ⟨r2, σy1⟩ ⟨hWy1, hdy⟩
  dsimp only [iwG, wldG, WG] at hWy1 ⊢
  have hsx1 := sim_ser hsx hdx (by omega) (a := actK 0 0 (100 * M + 99)) J J
  have hsy1 := sim_ser hsy hdy (by omega) (a := actK 0 0 (100 * M + 99)) J J
  rw [hS1] at hsx1
  rw [hT1] at hsy1
  clear hWx hWy hsx hsy hdx hdy hS1 hT1
  obtain ⟨y, d, hy, hz, etag, etold, evw⟩ := sim_like hsx1 hsy1
  obtain ⟨x2, hx2⟩ : ∃ x, zx.xs[2]? = some x := ⟨zx.xs[2]'(by have := hWx1.xl; omega), List.getElem?_eq_getElem (by have := hWx1.xl; omega)⟩
  obtain ⟨z2, hz2⟩ : ∃ x, zy.xs[2]? = some x := ⟨zy.xs[2]'(by have := hWy1.xl; omega), List.getElem?_eq_getElem (by have := hWy1.xl; omega)⟩
  have hyo := hWx1.ok y (List.mem_of_getElem? hy)
  obtain ⟨ex, eu, eb, ep, em, ef, et, exs, ela, elc⟩ := zx
  obtain ⟨fx, fu, fb, fp, fm, ff, ft, fxs, fla, flc⟩ := zy
  have hxl := hWx1.xl
  have hyl := hWy1.xl
  have hLx := hWx1.L
  have hLy := hWy1.L
  dsimp only at hx2 hz2 hxl hyl hLx hLy ⊢
  refine fZ (bZ (kX (fun w hw => SlR.elem_shape (xs := exs) (i := 2) (SlR.of_osl (W0 := W) (E := 58) (a := ela) (c := elc) eX) PA.len (by decide) (by omega) w hw) ?_))
  rintro ⟨lb, lo, rfl⟩
  refine kX (fun w hw => SlR.elem_shape (xs := fxs) (i := 2) (SlR.of_osl (W0 := W) (E := 58) (a := fla) (c := flc) eX) PA.len (by decide) (by omega) w hw) ?_
  rintro ⟨nb, no, rfl⟩
  refine CG.cut (fun _ : Nat × Nat => True) (fun q => [(2, .slice a2 ins.length c2), (3, .slice a3 ops.length c3), (13, .pointer (some ⟨ex, 0, none⟩)), (14, .pointer (some ⟨fx, 0, none⟩)), (15, .int .i64 2), (16, .int .i64 t), (17, .int .i64 M), (20, .pointer (some ⟨q.1, 0, none⟩)), (21, .pointer (some ⟨q.2, 0, none⟩))]) (fun q => blk q.1 x2.cells 58 :: blk q.2 z2.cells 58 :: iwG ⟨ex, eu, eb, ep, em, ef, et, exs, some ⟨lb, lo, none⟩, elc⟩ S1 σx1 (iwG ⟨fx, fu, fb, fp, fm, ff, ft, fxs, some ⟨nb, no, none⟩, flc⟩ T1 σy1 [old W])) ?_ ?_
  ·refine sQ (.lo 0 0 (.lo 1 0 (.lo 2 0 (.lo 3 0 (.lo 4 0 (.lo 5 0 (.lo 6 0 (.lo 7 0 (.lo 8 0 (.lo 9 0 (.lo 10 0 (.lo 11 0 (.lo 12 0 (.lo 13 0 (.eff2 14 false (.eff1 15 false (.eff1 16 false (.eff1 17 false (.done)))) 15 false (.eff1 14 false (.eff1 16 false (.eff1 17 false (.done))))))))))))))))))) [14, 15, 16, 17] [] ([wldE ⟨ex, eu, eb, ep, em, ef, et, exs, some ⟨lb, lo, none⟩, elc⟩, wldL ⟨ex, eu, eb, ep, em, ef, et, exs, some ⟨lb, lo, none⟩, elc⟩, wldE ⟨fx, fu, fb, fp, fm, ff, ft, fxs, some ⟨nb, no, none⟩, flc⟩, wldL ⟨fx, fu, fb, fp, fm, ff, ft, fxs, some ⟨nb, no, none⟩, flc⟩]) ([]) mixed (by kernel_rfl) iM (Imp.none _) ?_
   refine mZ J J (rQ J J (aQ J fa64_0 J (kZ J (hZ (v := .slice (some ⟨lb, lo, none⟩) exs.length elc) ti59 J (Cel.of_blk (b := ex) eX J)) ?_)))
   refine mZ J J (kZ J (nZ underlying59 ti58 J J (by omega) (by omega)) ?_)
   refine kZ J (tQ (vs := PA.cells x2) ti58 J J ((SlR.of_osl (E := 58) (a := some ⟨lb, lo, none⟩) (c := elc) eX).elem (i := 2) PA.len hx2)) ?_
   refine mZ J J (rQ J J (aQ J fa64_0 J (kZ J (hZ (v := .slice (some ⟨nb, no, none⟩) fxs.length flc) ti59 J (Cel.of_blk (b := fx) eX J)) ?_)))
   refine mZ J J (kZ J (nZ underlying59 ti58 J J (by omega) (by omega)) ?_)
   refine kZ J (tQ (vs := PA.cells z2) ti58 J J ((SlR.of_osl (E := 58) (a := some ⟨nb, no, none⟩) (c := flc) eX).elem (i := 2) PA.len hz2)) ?_
   refine DG.eff2 ?_ ?_
   ·refine vQ J J (lX ti58) J (fun _ => iM) (fun _ => Imp.refl _) (fun _ => iM) ?_
    rintro b20 -
    refine zZ (vQ J J (lX ti58) J (fun _ => iM) (fun _ => Imp.refl _) (fun _ => iM) ?_)
    rintro b21 -
    refine zZ (vQ J J (gX ti58 J J fC J (PA.ones _) J) J (fun _ => iM) (fun _ => Imp.refl _) (fun _ => iM) ?_)
    rintro ⟨⟩ -
    refine zZ (vQ J J (gX ti58 J J fC J (PA.ones _) J) J (fun _ => iM) (fun _ => Imp.refl _) (fun _ => iM) ?_)
    rintro ⟨⟩ -
    exact qQ (cV (b20, b21) trivial eS iM)
   ·refine vQ J J (lX ti58) J (fun _ => iM) (fun _ => Imp.refl _) (fun _ => iM) ?_
    rintro b21 -
    refine zZ (vQ J J (lX ti58) J (fun _ => iM) (fun _ => Imp.refl _) (fun _ => iM) ?_)
    rintro b20 -
    refine zZ (vQ J J (gX ti58 J J fC J (PA.ones _) J) J (fun _ => iM) (fun _ => Imp.refl _) (fun _ => iM) ?_)
    rintro ⟨⟩ -
    refine zZ (vQ J J (gX ti58 J J fC J (PA.ones _) J) J (fun _ => iM) (fun _ => Imp.refl _) (fun _ => iM) ?_)
    rintro ⟨⟩ -
    exact qQ (cV (b20, b21) trivial eS iM)
  rintro ⟨b20, b21⟩ -
  dsimp only [iwG, wldG, WG]
  refine mX (Imp.trans (B := PL exs S1.ys :: _) iM (pl_open hx2 hy)) ?_
  refine mX (Imp.trans (B := PL fxs T1.ys :: _) iM (pl_open hz2 hz)) ?_
  dsimp only
  refine mX (Imp.trans (B := SL em ef et exs :: _) iM (sl_open hx2)) ?_
  refine mX (Imp.trans (B := SL fm ff ft fxs :: _) iM (sl_open hz2)) ?_
  refine kX (fun w hw => Vd.d_facts (d := x2.d) (s := y.d) eX w hw) ?_
  intro hdk
  have hta := hdk.asks
  have htd := hdk.told
  refine eZ (sQ (.lo 0 1 (.lo 1 1 (.lo 3 0 (.lo 4 0 (.eff1 2 false (.eff1 5 false (.lo 6 1 (.lo 7 1 (.lo 8 1 (.lo 9 1 (.lo 11 0 (.lo 12 0 (.eff1 10 false (.eff1 13 false (.lo 14 1 (.lo 15 1 (.lo 16 1 (.lo 17 1 (.lo 18 1 (.lo 21 0 (.lo 22 0 (.eff1 19 false (.lo 20 0 (.eff1 23 false (.lo 24 1 (.lo 25 1 (.lo 26 1 (.lo 27 1 (.lo 28 1 (.lo 29 1 (.lo 32 0 (.lo 33 0 (.eff1 30 false (.lo 31 0 (.eff1 34 false (.lo 35 1 (.lo 36 1 (.lo 37 1 (.lo 38 1 (.lo 39 1 (.lo 40 1 (.lo 42 0 (.lo 43 0 (.eff1 41 false (.eff1 44 false (.eff1 45 false (.lo 46 1 (.lo 47 1 (.lo 48 1 (.lo 49 1 (.lo 50 1 (.lo 52 0 (.lo 53 0 (.eff1 51 false (.eff1 54 false (.eff1 55 false (.lo 56 1 (.lo 57 1 (.lo 58 1 (.lo 59 1 (.lo 60 1 (.lo 62 0 (.lo 63 0 (.eff1 61 false (.eff1 64 false (.eff1 65 false (.lo 66 1 (.lo 67 1 (.done))))))))))))))))))))))))))))))))))))))))))))))))))))))))))))))))))))) [2, 5, 10, 13, 19, 23, 30, 34, 41, 44, 45, 51, 54, 55, 61, 64, 65] [] ([blk b20 x2.cells 58, blk b21 z2.cells 58]) ([]) mixed (by kernel_rfl) iM (Imp.none _) ?_)
  refine aQ J fa58_1 J (kZ J (hZ (v := .pointer (some ⟨x2.v, 0, none⟩)) ti54 J (Cel.of_blk (b := b20) eX J)) ?_)
  refine aQ J fa58_1 J (kZ J (hZ (v := .pointer (some ⟨z2.v, 0, none⟩)) ti54 J (Cel.of_blk (b := b21) eX J)) ?_)
  refine zZ (kQ J J call34 J (iM) (Vi.pending_spec W _ (v := x2.v) (q := y.q) (p := y.p) (a := y.at') (s := y.set) hyo.p) J (fun _ => iM) (fun _ => Imp.refl _) (fun _ => iM) ?_)
  rintro ⟨⟩ -
  refine zZ (kQ J J call34 J (iM) (Vi.pending_spec W _ (v := z2.v) (q := y.q) (p := y.p) (a := y.at') (s := y.set) hyo.p) J (fun _ => iM) (fun _ => Imp.refl _) (fun _ => iM) ?_)
  rintro ⟨⟩ -
  refine kZ J (dQ (xX J J) (v' := .bool false) (bF (not_not_intro J))) (mZ J J (aQ J fa58_1 J (kZ J (hZ (v := .pointer (some ⟨x2.v, 0, none⟩)) ti54 J (Cel.of_blk (b := b20) eX J)) ?_)))
  refine aQ J fa58_1 J (kZ J (hZ (v := .pointer (some ⟨z2.v, 0, none⟩)) ti54 J (Cel.of_blk (b := b21) eX J)) ?_)
  refine zZ (kQ J J call35 J (iM) (Vi.queued_spec W _ (v := x2.v) (q := y.q) (p := y.p) (a := y.at') (s := y.set) hyo.q) J (fun _ => iM) (fun _ => Imp.refl _) (fun _ => iM) ?_)
  rintro ⟨⟩ -
  refine zZ (kQ J J call35 J (iM) (Vi.queued_spec W _ (v := z2.v) (q := y.q) (p := y.p) (a := y.at') (s := y.set) hyo.q) J (fun _ => iM) (fun _ => Imp.refl _) (fun _ => iM) ?_)
  rintro ⟨⟩ -
  refine kZ J (dQ (xX J J) (v' := .bool false) (bF (not_not_intro J))) (kZ J jZ ?_)
  refine mZ J J (aQ J fa58_2 J (kZ J (hZ (v := .pointer (some ⟨x2.k, 0, none⟩)) ti55 J (Cel.of_blk (b := b20) eX J)) ?_))
  refine aQ J fa58_2 J (kZ J (hZ (v := .pointer (some ⟨z2.k, 0, none⟩)) ti55 J (Cel.of_blk (b := b21) eX J)) ?_)
  refine zZ (kQ J J call36 J (iM) (Vc.in_spec W _ (g := x2.k) (out := y.out) (inn := y.inn)) J (K' := fun q : Option Addr × Nat => [osl 5 1 q.1 q.2 y.inn.length (bytesV y.inn), blk b20 x2.cells 58, blk b21 z2.cells 58]) (fun _ => iM) (fun _ => iM) (fun _ => iM) ?_)
  rintro ⟨ja, jc⟩ -
  dsimp only
  refine kZ J (oX (bs := y.inn) underlying32 underlying9 underlying5 J (SlR.of_osl (E := 5) (a := ja) (c := jc) eX)) ?_
  refine zZ (kQ J J call36 J (iM) (Vc.in_spec W _ (g := z2.k) (out := y.out) (inn := y.inn)) J (fun _ => iM) (fun _ => Imp.refl _) (fun _ => iM) ?_)
  rintro ⟨ka, kc⟩ -
  dsimp only
  refine kZ J (oX (bs := y.inn) underlying32 underlying9 underlying5 J (SlR.of_osl (E := 5) (a := ka) (c := kc) eX)) ?_
  refine kZ J (Yield.str_samen J J) (kZ J jZ ?_)
  refine mZ J J (aQ J fa58_2 J (kZ J (hZ (v := .pointer (some ⟨x2.k, 0, none⟩)) ti55 J (Cel.of_blk (b := b20) eX J)) ?_))
  refine aQ J fa58_2 J (kZ J (hZ (v := .pointer (some ⟨z2.k, 0, none⟩)) ti55 J (Cel.of_blk (b := b21) eX J)) ?_)
  refine zZ (kQ J J call21 J (iM) (Vc.out_spec W _ (g := x2.k) (out := y.out) (inn := y.inn)) J (K' := fun q : Option Addr × Nat => [osl 5 1 q.1 q.2 y.out.length (bytesV y.out), osl 5 1 ja jc y.inn.length (bytesV y.inn), blk b20 x2.cells 58, blk b21 z2.cells 58]) (fun _ => iM) (fun _ => iM) (fun _ => iM) ?_)
  rintro ⟨la, lc⟩ -
  dsimp only
  refine kZ J (oX (bs := y.out) underlying32 underlying9 underlying5 J (SlR.of_osl (E := 5) (a := la) (c := lc) eX)) ?_
  refine zZ (kQ J J call21 J (iM) (Vc.out_spec W _ (g := z2.k) (out := y.out) (inn := y.inn)) J (fun _ => iM) (fun _ => Imp.refl _) (fun _ => iM) ?_)
  rintro ⟨pa, pc⟩ -
  dsimp only
  refine kZ J (oX (bs := y.out) underlying32 underlying9 underlying5 J (SlR.of_osl (E := 5) (a := pa) (c := pc) eX)) ?_
  refine kZ J (Yield.str_samen J J) (kZ J jZ ?_)
  refine mZ J J (aQ J fa58_3 J (kZ J (hZ (v := .pointer (some ⟨x2.d, 0, none⟩)) ti56 J (Cel.of_blk (b := b20) eX J)) ?_))
  refine aQ J fa58_3 J (kZ J (hZ (v := .pointer (some ⟨z2.d, 0, none⟩)) ti56 J (Cel.of_blk (b := b21) eX J)) ?_)
  refine zZ (kQ J J call38 J (iM) (Vd.waiting_spec W _ (d := x2.d) (s := y.d)) J (fun _ => iM) (fun _ => Imp.refl _) (fun _ => iM) ?_)
  rintro ⟨qa, qc⟩ -
  dsimp only
  refine zZ (kQ J J call38 J (iM) (Vd.waiting_spec W _ (d := z2.d) (s := d)) J (fun _ => iM) (fun _ => Imp.refl _) (fun _ => iM) ?_)
  rintro ⟨ra, rc⟩ -
  dsimp only
  rw [etag]
  refine zZ (kQ J J call37 J (Imp.refl _) (sameTags_spec W _ (l := y.d.asks.map Vd.Ak.tag) (a := qa) (c := qc) (a2 := ra) (c2 := rc) (SlR.of_osl (E := 27) (a := qa) (c := qc) eX) (SlR.of_osl (E := 27) (a := ra) (c := rc) eX) (by rw [List.length_map]; omega)) J (fun _ => iM) (fun _ => Imp.refl _) (fun _ => iM) ?_)
  rintro ⟨⟩ -
  refine kZ J (pQ J) (kZ J jZ ?_)
  refine mZ J J (aQ J fa58_3 J (kZ J (hZ (v := .pointer (some ⟨x2.d, 0, none⟩)) ti56 J (Cel.of_blk (b := b20) eX J)) ?_))
  refine aQ J fa58_3 J (kZ J (hZ (v := .pointer (some ⟨z2.d, 0, none⟩)) ti56 J (Cel.of_blk (b := b21) eX J)) ?_)
  refine zZ (kQ J J call39 J (iM) (Vd.told_spec W _ (d := x2.d) (s := y.d)) J (fun _ => iM) (fun _ => Imp.refl _) (fun _ => iM) ?_)
  rintro ⟨ta, tc⟩ -
  dsimp only
  refine zZ (kQ J J call39 J (iM) (Vd.told_spec W _ (d := z2.d) (s := d)) J (fun _ => iM) (fun _ => Imp.refl _) (fun _ => iM) ?_)
  rintro ⟨ua, uc⟩ -
  dsimp only
  rw [etold]
  refine zZ (kQ J J call37 J (Imp.refl _) (sameTags_spec W _ (l := y.d.told) (a := ta) (c := tc) (a2 := ua) (c2 := uc) (SlR.of_osl (E := 27) (a := ta) (c := tc) eX) (SlR.of_osl (E := 27) (a := ua) (c := uc) eX) (by omega)) J (fun _ => iM) (fun _ => Imp.refl _) (fun _ => iM) ?_)
  rintro ⟨⟩ -
  refine kZ J (pQ J) (kZ J jZ ?_)
  refine mZ J J (aQ J fa58_0 J (kZ J (hZ (v := .pointer (some ⟨x2.s, 0, none⟩)) ti53 J (Cel.of_blk (b := b20) eX J)) ?_))
  refine aQ J fa58_0 J (kZ J (hZ (v := .pointer (some ⟨z2.s, 0, none⟩)) ti53 J (Cel.of_blk (b := b21) eX J)) ?_)
  refine zZ (kQ J J call41 J (iM) (pages_of W _ (s := x2.s) (m := em) (f := ef) (t := et) (k := 2) (r := x2.r) hLx (rtX_at hx2)) J (fun _ => iM) (fun _ => Imp.refl _) (fun _ => iM) ?_)
  rintro ⟨va, vc, vl⟩ hvl
  dsimp only [PVL, WG, List.cons_append, List.nil_append] at hvl ⊢
  refine zZ (kQ J J call41 J (iM) (pages_of W _ (s := z2.s) (m := fm) (f := ff) (t := ft) (k := 2) (r := z2.r) hLy (rtX_at hz2)) J (fun _ => iM) (fun _ => Imp.refl _) (fun _ => iM) ?_)
  rintro ⟨wa, wc, wl⟩ hwl
  dsimp only [PVL, WG, List.cons_append, List.nil_append] at hwl ⊢
  have hpl : vl.length ≤ 1000000 := by have h1 := congrArg List.length hvl; have h2 := pvs_len S1.o 2; rw [List.length_map] at h1; omega
  refine zZ (kQ J J call40 J (Imp.refl _) (Sp.samePages_spec W _ (l1 := vl) (l2 := wl) (a1 := va) (a2 := wa) (c1 := vc) (c2 := wc) (PVr.at (c := vc) iM) (PVr.at (c := wc) iM) hpl) J (fun _ => iM) (fun _ => Imp.refl _) (fun _ => iM) ?_)
  rintro ⟨⟩ -
  rw [decide_eq_true (show vl.map PV.v = wl.map PV.v by rw [hvl, hwl]; exact (pvTo_vw evw 4096).symm)]
  refine kZ J (pQ J) (kZ J jZ ?_)
  refine qQ (bZ (qZ J (wZ (sZ (bZ (mX (Imp.trans iM (pl_back (xs := exs) (ys := S1.ys) hx2 hy)) ?_))))))
  refine mX (Imp.trans iM (pl_back (xs := fxs) (ys := T1.ys) hz2 hz)) ?_
  refine mX (Imp.trans iM (sl_shut (m := em) (f := ef) (t := et) (xs := exs) hx2)) ?_
  refine mX (Imp.trans iM (sl_shut (m := fm) (f := ff) (t := ft) (xs := fxs) hz2)) ?_
  exact aZ (dZ J (cZ (eQ J J wO) (gZ J (fZ (yQ ⟨M + 1, t, S1, T1, σx1, σy1, vSer v⟩ ⟨by simp only; omega, ht, hWx1, hWy1, hsx1, hsy1⟩ (by simp only; omega) eS iM)))))
 ·try replace hc := odF hc
  exact dX (yZ (yZ (oQ (bZ (eZ (aZ (gZ J (fZ (bZ (tZ (xZ J J () trivial J iM)))))))))))
end Go.Proofs.YtphljkplokjonaaGreat.iowinApart
