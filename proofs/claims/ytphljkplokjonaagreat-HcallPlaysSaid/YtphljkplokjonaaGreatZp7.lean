/- Rules for steps of the model, and what functions of the program do. -/
import Derived.Test.YtphljkplokjonaaGreatZp6
import Derived.Test.YtphljkplokjonaaGreatRows
import Derived.OpenShut
set_option linter.unusedVariables false
set_option linter.unusedSimpArgs false
set_option linter.unusedSectionVars false
set_option maxRecDepth 100000
namespace Go.Proofs.YtphljkplokjonaaGreat.Po
open Go Go.Sl Go.RowKit Go.Proofs Go.Proofs.YtphljkplokjonaaGreat.T Tryz
structure Rw (ac : AC) (y z : End) (pl : List Msg) : Prop where
 sl : y.bs.length ≤ 8
 rl : z.bs.length ≤ 8
 sm : ∀ m ∈ y.bs, m.length ≤ 64
 rm : ∀ m ∈ z.bs, m.length ≤ 64
 mem : ∀ m, m ∈ y.ms ∨ m ∈ z.ms → m ∈ pl
 le : y.bs.length ≤ ac.s.length
theorem bs_len (y : End) : y.bs.length = y.ms.length := by simp [End.bs]
section
variable (W0 : World) (Fr : List HProp)
set_option maxHeartbeats 4000000 in
theorem rtransfer_spec {r : Nat} {acs : List AC} (hsm : ∀ a ∈ acs, a.kind ≠ 2 → a.s.length ≤ 1) : Ctr prog W0 107 [.pointer (some ⟨r, 0, none⟩)] (Rp r acs :: Fr) (fun _ : Option Addr × Nat => True) (fun q => .slice q.1 (wentI acs acs.length).length q.2) (fun q => oins q.1 q.2 (wentI acs acs.length) :: Rp r (acs.map AC.tr) :: Fr) := by
 refine Ctr.pure (ψ := acs.length ≤ 1000) (fun w hw => by obtain ⟨_, _, x, hx, _⟩ := Sat.ext Ext.here hw; exact hx.len) fun hal => ?_
 refine Ctr.of_body func107 J ntmps107 J (cZ (aZ (gZ J (fZ (bZ (cZ (aZ (gZ J (fZ (bZ (cZ (cZ (aZ (gZ J (fZ (bZ (mQ (mX (fun s : Nat × Option Addr × Nat => s.1 ≤ acs.length) (fun s => [(0, .pointer (some ⟨r, 0, none⟩)), (3, .slice s.2.1 (wentI acs s.1).length s.2.2), (4, .int .i64 s.1)]) (fun s => oins s.2.1 s.2.2 (wentI acs s.1) :: Rp r ((acs.take s.1).map AC.tr ++ acs.drop s.1) :: Fr) (fun s => acs.length - s.1) (0, none, 0) (Nat.zero_le _) eS (by simp only [List.take_zero, List.map_nil, List.nil_append, List.drop_zero]; exact osl_nil (E := 3) (sz := 1)) ?_))))))))))))))))))
 rintro ⟨i, a3, c3⟩ (hi : i ≤ acs.length)
 have hwl := wentI_len acs i
 have hlA : ((acs.take i).map AC.tr ++ acs.drop i).length = acs.length := by simp; omega
 have hstep : ∀ ac, acs[i]? = some ac → ((acs.take i).map AC.tr ++ acs.drop i)[i]? = some ac ∧ (acs.take (i + 1)).map AC.tr ++ acs.drop (i + 1) = ((acs.take i).map AC.tr ++ acs.drop i).set i ac.tr := fun ac h => ⟨step_get h, step_map h⟩
 have hfin : i = acs.length → (acs.take i).map AC.tr ++ acs.drop i = acs.map AC.tr := fun h => by subst h; rw [List.take_length, List.drop_length, List.append_nil]
 dsimp only
 generalize (acs.take i).map AC.tr ++ acs.drop i = A at hlA hstep hfin ⊢
 refine kV (A := Rp r A) eX rp_open0 ?_
 intro x hx
 refine rX star_open ?_
 have hlen : (A.map AC.cf).length = acs.length := by rw [List.length_map, hlA]
 have hback0 := rp_close0 (r := r) (G := oins a3 c3 (wentI acs i) :: Fr) x hx
 have hopn : ∀ {y z : End}, x.xs[i]? = some y → x.ys[i]? = some z → Imp (RO r (A.map AC.cf) x ++ (oins a3 c3 (wentI acs i) :: Fr)) (RP r (A.map AC.cf) x i y z ++ (pool x.pl :: oins a3 c3 (wentI acs i) :: Fr)) := fun hy hz => rp_open hy hz
 have hcl := @rp_close r i A x
 have hgl : ∀ ac, A[i]? = some ac → (A.map AC.cf)[i]? = some ac.cf := fun ac h => by rw [List.getElem?_map, h]; rfl
 generalize A.map AC.cf = l at hlen hback0 hopn hcl hgl ⊢
 dsimp only [RO, RH, RL, List.cons_append, List.nil_append] at hback0 ⊢
 refine cZ (cZ (aZ (eZ J (eZ J (zZ J (pZ fa271_0 J (dZ (jZ (v := .slice x.ca l.length x.cc) ti72 J (Cel.of_blk (b := r) eX J)) ?_)))))))
 refine dZ (sZ (a := x.ca) (m := l.length) (c := x.cc) underlying72 J J) (dZ (Yield.lss J J) (fZ (bZ (lQ J (fun hc => ?_) (fun hc => ?_)))))
 ·try replace hc := odT hc
  have hi' : i < acs.length := by omega
  have hget0 : acs[i]? = some acs[i] := by simp [hi']
  generalize acs[i] = ac at hget0
  obtain ⟨hga, hst⟩ := hstep ac hget0
  have hwi := wentI_succ hget0
  have hsa1 := hsm ac (List.mem_of_getElem? hget0)
  obtain ⟨y0, z0, hy, hz, hyb, hzb⟩ := hx.gx hga
  have hget := hgl ac hga
  have hok := hx.ok _ (List.mem_of_getElem? hga)
  have hlx := hx.lx
  have hly := hx.ly
  have hmy := hx.mem y0 (.inl (List.mem_of_getElem? hy))
  have hmz := hx.mem z0 (.inr (List.mem_of_getElem? hz))
  have hcl2 := @hcl y0 z0
  clear hcl hstep hgl
  refine rX (hopn hy hz) ?_
  clear hopn hback0 hfin
  refine lX (fun w hw => shape_rl (n := i) (x := x) (l := l) (by omega) (Ext.there Ext.here) w hw) ?_
  rintro ⟨b0, o0, hca⟩
  refine lX (fun w hw => shape_os (xs := x.xs.set i y0) (by rw [List.length_set]; omega) (Ext.there (Ext.there Ext.here)) w hw) ?_
  rintro ⟨b1, o1, hsa⟩
  refine lX (fun w hw => shape_os (xs := x.ys.set i z0) (by rw [List.length_set]; omega) (Ext.there (Ext.there (Ext.there Ext.here))) w hw) ?_
  rintro ⟨b2, o2, hra⟩
  have hrw0 : Rw ac y0 z0 x.pl := ⟨by rw [hyb]; exact hok.s, by rw [hzb]; exact hok.r, by rw [hyb]; exact hok.sl, by rw [hzb]; exact hok.rl, fun m hm => by rcases hm with hm | hm; exact hmy m hm; exact hmz m hm, by rw [hyb]; exact Nat.le_refl _⟩
  have hys0 : (x.xs.set i y0)[i]? = some y0 := by rw [set_self hy]; exact hy
  dsimp only [RP, RH, RL, List.cons_append, List.nil_append] at hcl2 ⊢
  rw [hca, hsa, hra] at hcl2 ⊢
  have hlxi : i < x.xs.length := by omega
  have hlyi : i < x.ys.length := by omega
  have gS : ∀ (y : End), (x.xs.set i y)[i]? = some y := fun y => by simp [hlxi]
  have gR : ∀ (z : End), (x.ys.set i z)[i]? = some z := fun z => by simp [hlyi]
  refine uZ (bZ (cZ (mQ (cZ (aZ (gZ J (fZ (bZ (CG.cut (fun s : End × End => Rw ac s.1 s.2 x.pl ∧ carry ac.kind (dep ac.kind ac.depth) s.1.bs s.2.bs = ac.q ∧ (ac.kind ≠ 2 → s.1.bs = [])) (fun s => [(0, .pointer (some ⟨r, 0, none⟩)), (3, .slice a3 (wentI acs i).length c3), (4, .int .i64 i), (5, .int .i64 ((ac.s.length - s.1.bs.length : Nat) : Int))]) (fun s => blk r [.slice (some ⟨b0, o0, none⟩) l.length x.cc, .slice (some ⟨b1, o1, none⟩) x.xs.length x.sc, .slice (some ⟨b2, o2, none⟩) x.ys.length x.rc] 271 :: osl 156 5 (some ⟨b0, o0, none⟩) x.cc l.length ((l.map Cf.cells).flatten) :: osl 67 1 (some ⟨b1, o1, none⟩) x.sc x.xs.length ((x.xs.set i s.1).map End.cell) :: osl 67 1 (some ⟨b2, o2, none⟩) x.rc x.ys.length ((x.ys.set i s.2).map End.cell) :: oend s.1 :: oend s.2 :: Star ((x.xs.map oend).eraseIdx i) :: Star ((x.ys.map oend).eraseIdx i) :: pool x.pl :: oins a3 c3 (wentI acs i) :: Fr) ?_ ?_)))))))))
  ·refine cZ ?_
   rcases (show ac.kind = 2 ∨ (ac.kind ≠ 2 ∧ y0.ms.length = 0) ∨ (ac.kind ≠ 2 ∧ 0 < y0.ms.length) by omega) with hk | hk | hk
   ·refine aZ (eZ J (zZ J (pZ fa271_0 J (dZ (iZ ti72 J) ?_))))
    refine eZ J (dZ (lZ underlying72 ti156 J J (by omega) (by omega)) ?_)
    refine pZ fa156_0 J (dZ (jZ (v := .int .i64 ac.kind) ti3 J (((SlR.of_osl (E := 156) (a := some ⟨b0, o0, none⟩) eX).elem Cf.len hget) 0 _ J)) ?_)
    refine dZ (oQ (nX J J) (bF (not_not_intro hk))) (eZ J (gQ J J J J J (gQ J J J J J (gQ J J J J J (gQ J J J J J (gQ J J J J J (gQ J J J J J (gQ J J J J J (gQ J J J J J (gQ J J J J J (dZ mZ ?_)))))))))))
    exact fZ (bZ (vZ J (uZ (pV (y0, z0) ⟨hrw0, by unfold AC.q; rw [hyb, hzb], fun h => absurd hk h⟩ (by dsimp only; rw [hyb, Nat.sub_self]; exact eS) iM))))
   ·refine aZ (eZ J (zZ J (pZ fa271_0 J (dZ (iZ ti72 J) ?_))))
    refine eZ J (dZ (lZ underlying72 ti156 J J (by omega) (by omega)) ?_)
    refine pZ fa156_0 J (dZ (jZ (v := .int .i64 ac.kind) ti3 J (((SlR.of_osl (E := 156) (a := some ⟨b0, o0, none⟩) eX).elem Cf.len hget) 0 _ J)) ?_)
    refine dZ (oQ (nX J J) (bT hk.1)) (eZ J (kZ J J (eZ J (kZ J J (zZ J (kZ J J (pZ fa271_1 J (kZ J J (dZ (jZ (v := .slice (some ⟨b1, o1, none⟩) x.xs.length x.sc) ti38 J (Cel.of_blk (b := r) eX J)) ?_)))))))))
    refine kZ J J (eZ J (kZ J J (dZ (lZ (b := b1) (o := o1) (m := x.xs.length) (c := x.sc) underlying38 ti67 J J (by omega) (by omega)) ?_)))
    refine kZ J J (dZ (jZ (v := y0.cell) ti67 J (by rw [show o1 + (i : Int).toNat * 1 = o1 + i by omega]; exact SlR.cel (SlR.of_osl (E := 67) (a := some ⟨b1, o1, none⟩) eX) (by rw [List.getElem?_map, hys0]; rfl))) ?_)
    refine kZ J J (dZ (sZ (a := y0.a) (m := y0.ms.length) (c := y0.c) underlying67 J J) (kZ J J (dZ kX ?_)))
    refine dZ mZ ?_
    exact fZ (bZ (vZ J (uZ (pV (y0, z0) ⟨hrw0, by unfold AC.q; rw [hyb, hzb], fun _ => List.length_eq_zero_iff.1 (by rw [bs_len]; exact hk.2)⟩ (by dsimp only; rw [hyb, Nat.sub_self]; exact eS) iM))))
   ·refine aZ (eZ J (zZ J (pZ fa271_0 J (dZ (iZ ti72 J) ?_))))
    refine eZ J (dZ (lZ underlying72 ti156 J J (by omega) (by omega)) ?_)
    refine pZ fa156_0 J (dZ (jZ (v := .int .i64 ac.kind) ti3 J (((SlR.of_osl (E := 156) (a := some ⟨b0, o0, none⟩) eX).elem Cf.len hget) 0 _ J)) ?_)
    refine dZ (oQ (nX J J) (bT hk.1)) (eZ J (kZ J J (eZ J (kZ J J (zZ J (kZ J J (pZ fa271_1 J (kZ J J (dZ (jZ (v := .slice (some ⟨b1, o1, none⟩) x.xs.length x.sc) ti38 J (Cel.of_blk (b := r) eX J)) ?_)))))))))
    refine kZ J J (eZ J (kZ J J (dZ (lZ (b := b1) (o := o1) (m := x.xs.length) (c := x.sc) underlying38 ti67 J J (by omega) (by omega)) ?_)))
    refine kZ J J (dZ (jZ (v := y0.cell) ti67 J (by rw [show o1 + (i : Int).toNat * 1 = o1 + i by omega]; exact SlR.cel (SlR.of_osl (E := 67) (a := some ⟨b1, o1, none⟩) eX) (by rw [List.getElem?_map, hys0]; rfl))) ?_)
    refine kZ J J (dZ (sZ (a := y0.a) (m := y0.ms.length) (c := y0.c) underlying67 J J) (kZ J J (dZ kX ?_)))
    refine dZ mZ ?_
    refine fZ (bZ (fQ J (cZ (qQ (.lo 0 1 (.lo 1 1 (.lo 2 1 (.lo 3 1 (.lo 4 1 (.lo 5 1 (.lo 6 1 (.lo 7 1 (.lo 8 1 (.lo 9 1 (.lo 10 1 (.lo 11 1 (.lo 12 1 (.eff1 13 false (.done))))))))))))))) [13] [] ([]) ([]) mixed (by kernel_rfl) (Imp.none _) (Imp.none _) (nZ J J (dQ J J (wZ J fa271_2 J (hZ J (jZ (v := .slice (some ⟨b2, o2, none⟩) x.ys.length x.rc) ti38 J (Cel.of_blk (b := r) eX J)) ?_))))))))
    refine nZ J J (nZ J J (dQ J J (wZ J fa271_1 J (hZ J (jZ (v := .slice (some ⟨b1, o1, none⟩) x.xs.length x.sc) ti38 J (Cel.of_blk (b := r) eX J)) ?_))))
    refine nZ J J (hZ J (lZ (b := b1) (o := o1) (m := x.xs.length) (c := x.sc) underlying38 ti67 J J (by omega) (by omega)) ?_)
    refine hZ J (jZ (v := y0.cell) ti67 J (by rw [show o1 + (i : Int).toNat * 1 = o1 + i by omega]; exact SlR.cel (SlR.of_osl (E := 67) (a := some ⟨b1, o1, none⟩) eX) (by rw [List.getElem?_map, hys0]; rfl))) ?_
    refine hZ J (lZ (b := b2) (o := o2) (m := x.ys.length) (c := x.rc) underlying38 ti67 J J (by omega) (by omega)) ?_
    refine aQ (wQ J J (iV (i := i) ti67 (by rw [show o2 + (i : Int).toNat * 1 = o2 + i by omega]; rfl) J fC J (by omega)) J (fun _ => iM) (fun _ => Imp.refl _) (fun _ => iM) ?_)
    rintro ⟨⟩ -
    rw [← List.map_set (f := End.cell), List.set_set]
    refine pQ (bZ (cZ (aZ (eZ J (zZ J (pZ fa271_1 J (dZ (jZ (v := .slice (some ⟨b1, o1, none⟩) x.xs.length x.sc) ti38 J (Cel.of_blk (b := r) eX J)) ?_)))))))
    refine eZ J (dZ (lZ (b := b1) (o := o1) (m := x.xs.length) (c := x.sc) underlying38 ti67 J J (by omega) (by omega)) ?_)
    refine sQ (iV (i := i) ti67 (by rw [show o1 + (i : Int).toNat * 1 = o1 + i by omega]; rfl) J fC J (by omega)) J ?_
    rintro ⟨⟩ -
    rw [show Value.slice none 0 0 = nilE.cell from J, ← List.map_set (f := End.cell), List.set_set]
    refine fZ (bZ (aZ (gZ J (fZ ?_))))
    have hs1 := hsa1 hk.1
    have hyl := hrw0.le
    have hbl := bs_len y0
    have hl0 : ac.s.length = y0.bs.length := by rw [hyb]
    obtain ⟨m0, hm0⟩ : ∃ m0, ac.s = [m0] := by
     cases h : ac.s with
     | nil => rw [h] at hl0; simp only [List.length_nil] at hl0; omega
     | cons m0 t => cases t with
      | nil => exact ⟨m0, rfl⟩
      | cons _ _ => rw [h] at hs1; simp at hs1
    refine pV (nilE, y0) ⟨⟨Nat.zero_le _, hrw0.sl, fun m hm => absurd hm (by simp [nilE, End.bs]), hrw0.sm, fun m hm => by rcases hm with hm | hm; exact absurd hm (by simp [nilE]); exact hrw0.mem m (.inl hm), Nat.zero_le _⟩, ?_, fun _ => rfl⟩ ?_ ?_
    ·unfold AC.q; dsimp only; rw [hyb, hm0, show nilE.bs = [] from J, carry, carry, if_pos hk.1, carry]
    ·dsimp only; rw [hm0, show nilE.bs = [] from J]; exact eS
    ·exact Imp.trans oend_nil iM
  rintro ⟨y1, z1⟩ ⟨hrw1, hq1, hk1⟩
  dsimp only at hrw1 hq1 hk1 ⊢
  clear hrw0 hys0
  refine CG.cut (fun s : End × End => Rw ac s.1 s.2 x.pl ∧ (s.1.bs, s.2.bs) = ac.q) (fun s => [(0, .pointer (some ⟨r, 0, none⟩)), (3, .slice a3 (wentI acs i).length c3), (4, .int .i64 i), (5, .int .i64 ((ac.s.length - s.1.bs.length : Nat) : Int))]) (fun s => blk r [.slice (some ⟨b0, o0, none⟩) l.length x.cc, .slice (some ⟨b1, o1, none⟩) x.xs.length x.sc, .slice (some ⟨b2, o2, none⟩) x.ys.length x.rc] 271 :: osl 156 5 (some ⟨b0, o0, none⟩) x.cc l.length ((l.map Cf.cells).flatten) :: osl 67 1 (some ⟨b1, o1, none⟩) x.sc x.xs.length ((x.xs.set i s.1).map End.cell) :: osl 67 1 (some ⟨b2, o2, none⟩) x.rc x.ys.length ((x.ys.set i s.2).map End.cell) :: oend s.1 :: oend s.2 :: Star ((x.xs.map oend).eraseIdx i) :: Star ((x.ys.map oend).eraseIdx i) :: pool x.pl :: oins a3 c3 (wentI acs i) :: Fr) ?_ ?_
  ·refine mQ (mX (fun s : End × End => Rw ac s.1 s.2 x.pl ∧ carry ac.kind (dep ac.kind ac.depth) s.1.bs s.2.bs = ac.q ∧ (ac.kind ≠ 2 → s.1.bs = [])) (fun s => [(0, .pointer (some ⟨r, 0, none⟩)), (3, .slice a3 (wentI acs i).length c3), (4, .int .i64 i), (5, .int .i64 ((ac.s.length - s.1.bs.length : Nat) : Int))]) (fun s => blk r [.slice (some ⟨b0, o0, none⟩) l.length x.cc, .slice (some ⟨b1, o1, none⟩) x.xs.length x.sc, .slice (some ⟨b2, o2, none⟩) x.ys.length x.rc] 271 :: osl 156 5 (some ⟨b0, o0, none⟩) x.cc l.length ((l.map Cf.cells).flatten) :: osl 67 1 (some ⟨b1, o1, none⟩) x.sc x.xs.length ((x.xs.set i s.1).map End.cell) :: osl 67 1 (some ⟨b2, o2, none⟩) x.rc x.ys.length ((x.ys.set i s.2).map End.cell) :: oend s.1 :: oend s.2 :: Star ((x.xs.map oend).eraseIdx i) :: Star ((x.ys.map oend).eraseIdx i) :: pool x.pl :: oins a3 c3 (wentI acs i) :: Fr) (fun s => s.1.ms.length) (y1, z1) ⟨hrw1, hq1, hk1⟩ eS iM ?_)
   rintro ⟨y, z⟩ ⟨hrw, hq, hk⟩
   dsimp only at hrw hq hk ⊢
   clear hrw1 hq1 hk1
   have hbl := bs_len y
   have hbz := bs_len z
   have hr8 := hrw.rl
   have hs8 := hrw.sl
   refine cZ (cZ ?_)
   rcases (show y.ms.length = 0 ∨ (0 < y.ms.length ∧ dep ac.kind ac.depth ≤ (z.ms.length : Int)) ∨ (0 < y.ms.length ∧ (z.ms.length : Int) < dep ac.kind ac.depth) by omega) with hh | hh | hh
   ·refine qQ (.lo 0 1 (.lo 1 1 (.lo 2 1 (.lo 3 1 (.lo 4 1 (.lo 5 1 (.lo 6 1 (.lo 7 1 (.lo 8 1 (.lo 9 1 (.lo 10 0 (.lo 11 0 (.lo 12 0 (.lo 13 0 (.lo 14 0 (.lo 15 0 (.lo 16 0 (.lo 17 0 (.lo 18 1 (.lo 19 1 (.eff1 20 false (.lo 21 1 (.lo 22 1 (.done)))))))))))))))))))))))) [20] [] ([blk r [.slice (some ⟨b0, o0, none⟩) l.length x.cc, .slice (some ⟨b1, o1, none⟩) x.xs.length x.sc, .slice (some ⟨b2, o2, none⟩) x.ys.length x.rc] 271, osl 67 1 (some ⟨b1, o1, none⟩) x.sc x.xs.length ((x.xs.set i y).map End.cell), osl 67 1 (some ⟨b2, o2, none⟩) x.rc x.ys.length ((x.ys.set i z).map End.cell)]) ([]) mixed (by kernel_rfl) (iM) (Imp.none _) ?_
    refine nZ J J (dQ J J (wZ J fa271_1 J (hZ J (jZ (v := .slice (some ⟨b1, o1, none⟩) x.xs.length x.sc) ti38 J (Cel.of_blk (b := r) eX J)) ?_)))
    refine nZ J J (hZ J (lZ (b := b1) (o := o1) (m := x.xs.length) (c := x.sc) underlying38 ti67 J J (by omega) (by omega)) ?_)
    refine hZ J (jZ (v := y.cell) ti67 J (by rw [show o1 + (i : Int).toNat * 1 = o1 + i by omega]; exact SlR.cel (SlR.of_osl (E := 67) (a := some ⟨b1, o1, none⟩) eX) (by rw [List.getElem?_map, gS]; rfl))) ?_
    refine hZ J (sZ (a := y.a) (m := y.ms.length) (c := y.c) underlying67 J J) (hZ J kX ?_)
    refine nZ J J (dX J J J (dX J J J (dX J J J (dX J J J (dX J J J (dX J J J (dX J J J (dX J J J (dX J J J (dX J J J (aQ (Chg.pass J J J ?_ iM iM))))))))))))
    refine dX J J J (hZ J mZ ?_)
    refine pQ (bZ (vZ J (iX (bQ (bQ (tQ ?_))))))
    have hy0 : y.bs = [] := List.length_eq_zero_iff.1 (by omega)
    exact pV (y, z) ⟨hrw, by rw [← hq, hy0]; rfl⟩ eS iM
   ·have hk2 : ac.kind = 2 := by
     rcases (show ac.kind = 2 ∨ ac.kind ≠ 2 by omega) with h | h
     ·exact h
     ·have := congrArg List.length (hk h); simp only [List.length_nil] at this; omega
    refine qQ (.lo 0 1 (.lo 1 1 (.lo 2 1 (.lo 3 1 (.lo 4 1 (.lo 5 1 (.lo 6 1 (.lo 7 1 (.lo 8 1 (.lo 9 1 (.lo 10 0 (.lo 11 0 (.lo 12 0 (.lo 13 0 (.lo 14 0 (.lo 15 0 (.lo 16 0 (.lo 17 0 (.lo 18 1 (.lo 19 1 (.eff1 20 false (.lo 21 1 (.lo 22 1 (.done)))))))))))))))))))))))) [20] [] ([blk r [.slice (some ⟨b0, o0, none⟩) l.length x.cc, .slice (some ⟨b1, o1, none⟩) x.xs.length x.sc, .slice (some ⟨b2, o2, none⟩) x.ys.length x.rc] 271, osl 67 1 (some ⟨b1, o1, none⟩) x.sc x.xs.length ((x.xs.set i y).map End.cell), osl 67 1 (some ⟨b2, o2, none⟩) x.rc x.ys.length ((x.ys.set i z).map End.cell)]) ([]) mixed (by kernel_rfl) (iM) (Imp.none _) ?_
    refine nZ J J (dQ J J (wZ J fa271_1 J (hZ J (jZ (v := .slice (some ⟨b1, o1, none⟩) x.xs.length x.sc) ti38 J (Cel.of_blk (b := r) eX J)) ?_)))
    refine nZ J J (hZ J (lZ (b := b1) (o := o1) (m := x.xs.length) (c := x.sc) underlying38 ti67 J J (by omega) (by omega)) ?_)
    refine hZ J (jZ (v := y.cell) ti67 J (by rw [show o1 + (i : Int).toNat * 1 = o1 + i by omega]; exact SlR.cel (SlR.of_osl (E := 67) (a := some ⟨b1, o1, none⟩) eX) (by rw [List.getElem?_map, gS]; rfl))) ?_
    refine hZ J (sZ (a := y.a) (m := y.ms.length) (c := y.c) underlying67 J J) (hZ J kX ?_)
    refine nZ J J (nZ J J (dQ J J (wZ J fa271_2 J (hZ J (jZ (v := .slice (some ⟨b2, o2, none⟩) x.ys.length x.rc) ti38 J (Cel.of_blk (b := r) eX J)) ?_))))
    refine nZ J J (hZ J (lZ (b := b2) (o := o2) (m := x.ys.length) (c := x.rc) underlying38 ti67 J J (by omega) (by omega)) ?_)
    refine hZ J (jZ (v := z.cell) ti67 J (by rw [show o2 + (i : Int).toNat * 1 = o2 + i by omega]; exact SlR.cel (SlR.of_osl (E := 67) (a := some ⟨b2, o2, none⟩) eX) (by rw [List.getElem?_map, gR]; rfl))) ?_
    refine hZ J (sZ (a := z.a) (m := z.ms.length) (c := z.c) underlying67 J J) (nZ J J (nZ J J (aQ (rQ J J call153 J (Imp.refl _) (rdepth_spec W0 _ (r := r) (n := i) (a := some ⟨b0, o0, none⟩) (c := x.cc) (l := l) (f := ac.cf) (by exact Cel.of_blk (b := r) eX J) (by exact SlR.of_osl (E := 156) eX) hget) J (fun _ => iM) (fun _ => Imp.refl _) (fun _ => iM) ?_))))
    rintro ⟨⟩ -
    rw [show dep (Cf.Kind ac.cf) (Cf.Depth ac.cf) = dep ac.kind ac.depth from J]
    refine hZ J eQ ?_
    refine hZ J mZ ?_
    refine pQ (bZ (vZ J (iX (bQ (bQ (tQ (pV (y, z) ⟨hrw, ?_⟩ eS iM)))))))
    rw [← hq]
    cases hyb2 : y.bs with
    | nil => rfl
    | cons m t => rw [carry, if_neg (not_not_intro hk2), if_pos (by rw [hbz]; exact hh.2)]
   ·have hk2 : ac.kind = 2 := by
     rcases (show ac.kind = 2 ∨ ac.kind ≠ 2 by omega) with h | h
     ·exact h
     ·have := congrArg List.length (hk h); simp only [List.length_nil] at this; omega
    have hd8 : dep ac.kind ac.depth ≤ 8 := by unfold dep; split <;> omega
    obtain ⟨m0, ms', hsm0⟩ : ∃ m0 ms', y.ms = m0 :: ms' := by
     cases h : y.ms with
     | nil => rw [h] at hh; simp at hh
     | cons a t => exact ⟨a, t, rfl⟩
    have hsb : y.bs = m0.b :: ms'.map Msg.b := by unfold End.bs; rw [hsm0]; rfl
    rw [hsb, carry, if_neg (not_not_intro hk2), if_neg (by rw [hbz]; omega)] at hq
    have hr1 : 1 ≤ y.ms.length := hh.1
    refine lX (fun w hw => SlR.shape (SlR.of_osl (W0 := W0) (E := 32) (sz := 1) (a := y.a) (c := y.c) (m := y.ms.length) (xs := y.ms.map Msg.cell) eX) (by rw [hsm0]; simp) w hw) ?_
    rintro ⟨bz, oz, hza⟩
    refine lX (fun w hw => osl_facts (W0 := W0) (E := 32) (sz := 1) (a := y.a) (c := y.c) (m := y.ms.length) (xs := y.ms.map Msg.cell) eX w hw) ?_
    rintro ⟨-, hzc⟩
    refine qQ (.lo 0 1 (.lo 1 1 (.lo 2 1 (.lo 3 1 (.lo 4 1 (.lo 5 1 (.lo 6 1 (.lo 7 1 (.lo 8 1 (.lo 9 1 (.lo 10 0 (.lo 11 0 (.lo 12 0 (.lo 13 0 (.lo 14 0 (.lo 15 0 (.lo 16 0 (.lo 17 0 (.lo 18 1 (.lo 19 1 (.eff1 20 false (.lo 21 1 (.lo 22 1 (.done)))))))))))))))))))))))) [20] [] ([blk r [.slice (some ⟨b0, o0, none⟩) l.length x.cc, .slice (some ⟨b1, o1, none⟩) x.xs.length x.sc, .slice (some ⟨b2, o2, none⟩) x.ys.length x.rc] 271, osl 67 1 (some ⟨b1, o1, none⟩) x.sc x.xs.length ((x.xs.set i y).map End.cell), osl 67 1 (some ⟨b2, o2, none⟩) x.rc x.ys.length ((x.ys.set i z).map End.cell)]) ([]) mixed (by kernel_rfl) (iM) (Imp.none _) ?_
    refine nZ J J (dQ J J (wZ J fa271_1 J (hZ J (jZ (v := .slice (some ⟨b1, o1, none⟩) x.xs.length x.sc) ti38 J (Cel.of_blk (b := r) eX J)) ?_)))
    refine nZ J J (hZ J (lZ (b := b1) (o := o1) (m := x.xs.length) (c := x.sc) underlying38 ti67 J J (by omega) (by omega)) ?_)
    refine hZ J (jZ (v := y.cell) ti67 J (by rw [show o1 + (i : Int).toNat * 1 = o1 + i by omega]; exact SlR.cel (SlR.of_osl (E := 67) (a := some ⟨b1, o1, none⟩) eX) (by rw [List.getElem?_map, gS]; rfl))) ?_
    refine hZ J (sZ (a := y.a) (m := y.ms.length) (c := y.c) underlying67 J J) (hZ J kX ?_)
    refine nZ J J (nZ J J (dQ J J (wZ J fa271_2 J (hZ J (jZ (v := .slice (some ⟨b2, o2, none⟩) x.ys.length x.rc) ti38 J (Cel.of_blk (b := r) eX J)) ?_))))
    refine nZ J J (hZ J (lZ (b := b2) (o := o2) (m := x.ys.length) (c := x.rc) underlying38 ti67 J J (by omega) (by omega)) ?_)
    refine hZ J (jZ (v := z.cell) ti67 J (by rw [show o2 + (i : Int).toNat * 1 = o2 + i by omega]; exact SlR.cel (SlR.of_osl (E := 67) (a := some ⟨b2, o2, none⟩) eX) (by rw [List.getElem?_map, gR]; rfl))) ?_
    refine hZ J (sZ (a := z.a) (m := z.ms.length) (c := z.c) underlying67 J J) (nZ J J (nZ J J (aQ (rQ J J call153 J (Imp.refl _) (rdepth_spec W0 _ (r := r) (n := i) (a := some ⟨b0, o0, none⟩) (c := x.cc) (l := l) (f := ac.cf) (by exact Cel.of_blk (b := r) eX J) (by exact SlR.of_osl (E := 156) eX) hget) J (fun _ => iM) (fun _ => Imp.refl _) (fun _ => iM) ?_))))
    rintro ⟨⟩ -
    rw [show dep (Cf.Kind ac.cf) (Cf.Depth ac.cf) = dep ac.kind ac.depth from J]
    refine hZ J eQ ?_
    refine hZ J mZ ?_
    refine pQ (bZ (fQ J (uZ (bZ (mQ (cZ (qQ (.lo 0 0 (.lo 1 0 (.lo 2 0 (.lo 3 0 (.lo 4 0 (.lo 5 0 (.lo 6 0 (.lo 7 0 (.lo 8 0 (.lo 9 0 (.lo 10 0 (.lo 11 2 (.lo 12 1 (.lo 13 1 (.lo 14 1 (.lo 15 1 (.lo 16 1 (.lo 17 1 (.lo 18 1 (.lo 19 1 (.lo 20 1 (.eff1 21 false (.eff1 22 false (.lo 23 1 (.eff1 24 true (.done)))))))))))))))))))))))))) [21, 22, 24] [11] ([blk r [.slice (some ⟨b0, o0, none⟩) l.length x.cc, .slice (some ⟨b1, o1, none⟩) x.xs.length x.sc, .slice (some ⟨b2, o2, none⟩) x.ys.length x.rc] 271]) ([osl 67 1 (some ⟨b2, o2, none⟩) x.rc x.ys.length ((x.ys.set i z).map End.cell)]) mixed (by kernel_rfl) (iM) (iM) ?_)))))))
    refine nZ J J (dQ J J (wZ J fa271_2 J (hZ J (jZ (v := .slice (some ⟨b2, o2, none⟩) x.ys.length x.rc) ti38 J (Cel.of_blk (b := r) eX J)) ?_)))
    refine nZ J J (nZ J J (dQ J J (wZ J fa271_2 J (hZ J (jZ (v := .slice (some ⟨b2, o2, none⟩) x.ys.length x.rc) ti38 J (Cel.of_blk (b := r) eX J)) ?_))))
    refine nZ J J (hZ J (lZ (b := b2) (o := o2) (m := x.ys.length) (c := x.rc) underlying38 ti67 J J (by omega) (by omega)) ?_)
    refine hZ J (jZ (v := z.cell) ti67 J (by rw [show o2 + (i : Int).toNat * 1 = o2 + i by omega]; exact SlR.cel (SlR.of_osl (E := 67) (a := some ⟨b2, o2, none⟩) eX) (by rw [List.getElem?_map, gR]; rfl))) ?_
    refine nZ J J (dQ J J (wZ J fa271_1 J (hZ J (jZ (v := .slice (some ⟨b1, o1, none⟩) x.xs.length x.sc) ti38 J (Cel.of_blk (b := r) eX J)) ?_)))
    refine nZ J J (hZ J (lZ (b := b1) (o := o1) (m := x.xs.length) (c := x.sc) underlying38 ti67 J J (by omega) (by omega)) ?_)
    refine hZ J (jZ (v := y.cell) ti67 J (by rw [show o1 + (i : Int).toNat * 1 = o1 + i by omega]; exact SlR.cel (SlR.of_osl (E := 67) (a := some ⟨b1, o1, none⟩) eX) (by rw [List.getElem?_map, gS]; rfl))) ?_
    refine hZ J (lZ (b := bz) (o := oz) (m := y.ms.length) (c := y.c) underlying67 ti32 (by unfold End.cell; rw [← hza]; rfl) J (by omega) (by omega)) ?_
    refine hZ J (jZ (v := m0.cell) ti32 J (by rw [show oz + (0 : Int).toNat * 1 = oz + 0 from J]; exact SlR.cel (by rw [← hza]; exact SlR.of_osl (E := 32) (a := y.a) (c := y.c) (m := y.ms.length) (xs := y.ms.map Msg.cell) eX) (by rw [hsm0]; rfl))) ?_
    refine aQ (wQ J J (gV underlying67 ti32 J J J) J (fun _ => iM) (fun _ => Imp.refl _) (fun _ => iM) ?_)
    rintro b98 -
    refine aQ (wQ J J (fX (a := z.a) (c := z.c) (m := z.ms.length) (xs := z.ms.map Msg.cell) (k := 1) (ys := [m0.cell]) J J J underlying67 underlying67 ti32 J (by decide) fC (SlR.of_osl (a := some ⟨b98, 0, none⟩) eX) (by simp [one, Msg.cell]) (by omega)) J (fun _ => iM) (fun _ => Imp.refl _) (fun _ => iM) ?_)
    rintro ⟨a99, c99⟩ -
    refine hZ J (lZ (b := b2) (o := o2) (m := x.ys.length) (c := x.rc) underlying38 ti67 J J (by omega) (by omega)) ?_
    refine aQ (wQ J J (iV (i := i) ti67 (by rw [show o2 + (i : Int).toNat * 1 = o2 + i by omega]; rfl) J fC J (by omega)) J (fun _ => iM) (fun _ => Imp.refl _) (fun _ => iM) ?_)
    rintro ⟨⟩ -
    rw [show Value.slice a99 (z.ms.length + 1) c99 = End.cell ⟨a99, c99, z.ms ++ [m0]⟩ by unfold End.cell; rw [List.length_append]; rfl, ← List.map_set (f := End.cell), List.set_set]
    refine pQ (bZ (cZ (qQ (.lo 0 0 (.lo 1 0 (.lo 2 0 (.lo 3 0 (.lo 4 0 (.lo 6 0 (.lo 7 0 (.lo 8 0 (.lo 9 0 (.lo 10 0 (.lo 11 0 (.lo 12 2 (.lo 13 0 (.eff1 5 false (.eff1 14 false (.lo 15 1 (.eff1 16 true (.done)))))))))))))))))) [5, 14, 16] [12] ([blk r [.slice (some ⟨b0, o0, none⟩) l.length x.cc, .slice (some ⟨b1, o1, none⟩) x.xs.length x.sc, .slice (some ⟨b2, o2, none⟩) x.ys.length x.rc] 271, oend y]) ([osl 67 1 (some ⟨b1, o1, none⟩) x.sc x.xs.length ((x.xs.set i y).map End.cell)]) mixed (by kernel_rfl) (iM) (iM) ?_)))
    refine nZ J J (dQ J J (wZ J fa271_1 J (hZ J (jZ (v := .slice (some ⟨b1, o1, none⟩) x.xs.length x.sc) ti38 J (Cel.of_blk (b := r) eX J)) ?_)))
    refine nZ J J (nZ J J (dQ J J (wZ J fa271_1 J (hZ J (jZ (v := .slice (some ⟨b1, o1, none⟩) x.xs.length x.sc) ti38 J (Cel.of_blk (b := r) eX J)) ?_))))
    refine nZ J J (hZ J (lZ (b := b1) (o := o1) (m := x.xs.length) (c := x.sc) underlying38 ti67 J J (by omega) (by omega)) ?_)
    refine hZ J (jZ (v := y.cell) ti67 J (by rw [show o1 + (i : Int).toNat * 1 = o1 + i by omega]; exact SlR.cel (SlR.of_osl (E := 67) (a := some ⟨b1, o1, none⟩) eX) (by rw [List.getElem?_map, gS]; rfl))) ?_
    refine hZ J (Yield.tail (y := y) underlying67 ti32 J (by omega) hzc) ?_
    refine aQ (wQ J J (sX underlying67 ti32 J) J (fun _ => iM) (fun _ => Imp.refl _) (fun _ => iM) ?_)
    rintro b106 -
    refine aQ (wQ J J (fX (a := some ⟨b106, 0, none⟩) (c := 0) (m := 0) (xs := []) (a2 := y.tail.a) (c2 := y.tail.c) (k := y.tail.ms.length) (ys := y.tail.ms.map Msg.cell) J J J underlying67 underlying67 ti32 J (by decide) fC (SlR.tail W0 (y := y) hr1 eX) (cells_ones _) (by unfold End.tail; simp only [List.length_tail]; omega)) J (fun _ => iM) (fun _ => Imp.refl _) (fun _ => iM) ?_)
    rintro ⟨a115, c115⟩ -
    refine hZ J (lZ (b := b1) (o := o1) (m := x.xs.length) (c := x.sc) underlying38 ti67 J J (by omega) (by omega)) ?_
    refine aQ (wQ J J (iV (i := i) ti67 (by rw [show o1 + (i : Int).toNat * 1 = o1 + i by omega]; rfl) J fC J (by omega)) J (fun _ => iM) (fun _ => Imp.refl _) (fun _ => iM) ?_)
    rintro ⟨⟩ -
    rw [show Value.slice a115 (0 + y.tail.ms.length) c115 = End.cell ⟨a115, c115, y.tail.ms⟩ by unfold End.cell; rw [Nat.zero_add], ← List.map_set (f := End.cell), List.set_set]
    refine pQ (bZ (aZ (eZ J (dZ (hQ J J (w64 (by have := hrw.le; omega) (by have := hok.s; omega))) ?_))))
    refine gZ J (fZ (tZ ?_))
    have hyt : Po.End.bs ⟨a115, c115, y.tail.ms⟩ = ms'.map Msg.b := by unfold End.bs End.tail; dsimp only; rw [hsm0]; rfl
    have hzt : Po.End.bs ⟨a99, c99, z.ms ++ [m0]⟩ = z.bs ++ [m0.b] := by unfold End.bs; rw [List.map_append]; rfl
    have hm64 : m0.b.length ≤ 64 := hrw.sm m0.b (by rw [hsb]; simp)
    have hle := hrw.le
    have hyl2 : (ms'.map Msg.b).length + 1 = y.bs.length := by rw [hsb]; simp
    refine gX (⟨a115, c115, y.tail.ms⟩, ⟨a99, c99, z.ms ++ [m0]⟩) ⟨⟨?_, ?_, ?_, ?_, ?_, ?_⟩, ?_, fun h => absurd hk2 h⟩ ?_ ?_ ?_
    ·dsimp only; rw [hyt]; omega
    ·dsimp only; rw [hzt, List.length_append, hbz]; simp only [List.length_cons, List.length_nil]; omega
    ·dsimp only; rw [hyt]; exact fun m hm => hrw.sm m (by rw [hsb]; exact List.mem_cons_of_mem _ hm)
    ·dsimp only; rw [hzt]; intro m hm; rcases List.mem_append.1 hm with hm | hm; exact hrw.rm m hm; simp only [List.mem_cons, List.not_mem_nil, or_false] at hm; subst hm; exact hm64
    ·dsimp only; intro m hm
     rcases hm with hm | hm
     ·exact hrw.mem m (.inl (List.mem_of_mem_tail hm))
     ·rcases List.mem_append.1 hm with hm | hm
      ·exact hrw.mem m (.inr hm)
      ·simp only [List.mem_cons, List.not_mem_nil, or_false] at hm; subst hm; exact hrw.mem m (.inl (by rw [hsm0]; simp))
    ·dsimp only; rw [hyt]; omega
    ·dsimp only; rw [hyt, hzt]; exact hq
    ·dsimp only; unfold End.tail; dsimp only; rw [List.length_tail]; omega
    ·dsimp only; rw [hyt, show ac.s.length - (ms'.map Msg.b).length = (ac.s.length - y.bs.length) + 1 by omega]; exact eS
    ·dsimp only
     rw [show oend ⟨a99, c99, z.ms ++ [m0]⟩ = osl 32 1 a99 c99 (z.ms.length + 1) (z.ms.map Msg.cell ++ [m0.cell]) from oend_snoc _ _ _ _]
     rw [show oend ⟨a115, c115, y.tail.ms⟩ = osl 32 1 a115 c115 (0 + y.tail.ms.length) ([] ++ y.tail.ms.map Msg.cell) by unfold oend; rw [Nat.zero_add, List.nil_append]]
     exact iM
  rintro ⟨y3, z3⟩ ⟨hrw3, hq3⟩
  dsimp only at hrw3 hq3 ⊢
  have hwent : ac.went = decide ((0 : Int) < ((ac.s.length - y3.bs.length : Nat) : Int)) := by unfold AC.went; rw [← hq3]; congr 1; simp only [eq_iff_iff]; omega
  have hq31 : y3.bs = ac.tr.s := by unfold AC.tr; rw [← hq3]
  have hq32 : z3.bs = ac.tr.r := by unfold AC.tr; rw [← hq3]
  refine rX (G' := Rp r (A.set i ac.tr) :: oins a3 c3 (wentI acs i) :: Fr) (Imp.trans (Imp.trans pool_nil iM) (@hcl2 y3 z3 ac ac.tr [] (oins a3 c3 (wentI acs i) :: Fr) hy hz hx hga J ⟨by rw [← hq31]; exact hrw3.sl, by rw [← hq32]; exact hrw3.rl, by rw [← hq31]; exact hrw3.sm, by rw [← hq32]; exact hrw3.rm⟩ hq31 hq32 hrw3.mem)) ?_
  rw [← hst]
  generalize ac.went = wb at hwi hwent
  refine cZ (aZ (eZ J (dZ (oQ (qV J J) (by rw [← hwent])) ?_)))
  refine fZ (bZ (lQ J (fun hc => ?_) (fun hc => ?_)))
  ·try replace hc := odT hc
   refine aZ (eZ J (eZ J (kQ (gV underlying80 ti3 J J J) J ?_)))
   rintro b123 -
   refine kQ (fX (k := 1) (ys := [.int .i64 i]) J J J underlying80 underlying80 ti3 J (by decide) fC (SlR.of_osl (a := some ⟨b123, 0, none⟩) eX) (by simp [one]) (by omega)) J ?_
   rintro ⟨a124, c124⟩ -
   refine gZ J (fZ (tZ (bZ (aZ (eZ J (dZ (hQ J J wO) (gZ J (fZ (gX (i + 1, a124, c124) (show i + 1 ≤ acs.length by omega) (show acs.length - (i + 1) < acs.length - i by omega) ?_ ?_)))))))))
   ·dsimp only; rw [hwi, if_pos hc, List.length_append]; exact eS
   ·dsimp only; rw [hwi, if_pos hc, show oins a124 c124 (wentI acs i ++ [(i : Int)]) = osl 3 1 a124 c124 ((wentI acs i).length + 1) (oint (wentI acs i) ++ [.int .i64 i]) by unfold oins oint; rw [List.length_append, List.map_append]; rfl]; exact iM
  ·try replace hc := odF hc
   refine uZ (tZ (bZ (aZ (eZ J (dZ (hQ J J wO) (gZ J (fZ (gX (i + 1, a3, c3) (show i + 1 ≤ acs.length by omega) (show acs.length - (i + 1) < acs.length - i by omega) ?_ ?_))))))))
   ·dsimp only; rw [hwi, if_neg (by rw [hc]; decide)]; exact eS
   ·dsimp only; rw [hwi, if_neg (by rw [hc]; decide)]; exact iM
 ·try replace hc := odF hc
  refine iX (bQ (bQ (tQ (bZ (cZ (aZ (eZ J (gZ J (fZ (bZ (rZ ?_)))))))))))
  have hie : i = acs.length := by omega
  subst hie
  rw [hfin J] at hback0
  exact yZ J J (a3, c3) trivial J (Imp.trans (Imp.trans iM hback0) (fun _ s => Sep.swap s))
end
theorem row_take {W0 : World} {G : List HProp} {b o : Nat} {xs ys : List Value} (h : Row W0 G b o xs) (k : Nat) (hy : xs.take k = ys) : Row W0 G b o ys := fun i v hi => h i v (by
 rw [← hy, List.getElem?_take] at hi
 split at hi
 ·exact hi
 ·cases hi)
section
variable (W0 : World) (Fr : List HProp)
structure Cw where
 i : Nat
 chs : List Chan
 pl : List Msg
 a : Option Addr
 c : Nat
structure Cw.OK (acs : List AC) (s : Cw) : Prop where
 le : s.i ≤ acs.length
 abs : s.chs.map Chan.abs = acs.take s.i
 mem : ∀ ch ∈ s.chs, ∀ m, m ∈ ch.s.ms ∨ m ∈ ch.r.ms → m ∈ s.pl
set_option maxHeartbeats 2000000 in
theorem clone_spec {p : Nat} {acs : List AC} : Ctr prog W0 216 [.pointer (some ⟨p, 0, none⟩)] (Po p acs :: Fr) (fun _ : Nat => True) (fun u => .pointer (some ⟨u, 0, none⟩)) (fun u => Po u acs :: Po p acs :: Fr) := by
 refine Ctr.pure (ψ := acs.length ≤ 1000 ∧ ∀ a ∈ acs, a.OK) (fun w hw => by obtain ⟨_, _, x, hx, _⟩ := Sat.ext Ext.here hw; exact ⟨hx.len, hx.ok⟩) fun ⟨hal, hao⟩ => ?_
 refine Ctr.of_body func216 J ntmps216 J (cZ (aZ (gZ J (fZ (bZ (cZ (aZ (dZ (Yield.build0 bu196 ti196) (kQ (uX J) J ?_)))))))))
 rintro b7 -
 refine gZ J (fZ (bZ (kV (A := Po p acs) eX po_open ?_)))
 intro x0 hx0
 refine rX star_open ?_
 have hln0 := hx0.lens
 dsimp only [CO, List.cons_append, List.nil_append]
 refine cZ (cZ (aZ (eZ J (zZ J (pZ fa196_0 J (dZ (iZ ti194 J) ?_))))))
 refine dZ (sZ underlying194 J J) (eZ J (fZ (bZ (mQ (mX (fun s : Cw => s.OK acs) (fun s => [(0, .pointer (some ⟨p, 0, none⟩)), (3, .pointer (some ⟨b7, 0, none⟩)), (12, .int .i64 acs.length), (13, .int .i64 s.i)]) (fun s => blk b7 [.slice s.a s.chs.length s.c] 196 :: osl 191 7 s.a s.c s.chs.length ((s.chs.map Chan.cells).flatten) :: Star (s.chs.map Chan.own) :: pool s.pl :: Po p acs :: Fr) (fun s => acs.length - s.i) ⟨0, [], [], none, 0⟩ ⟨Nat.zero_le _, rfl, fun ch h => absurd h List.not_mem_nil⟩ (by rw [← hln0]; exact eS) (Imp.trans pool_nil (Imp.trans star_nil (Imp.trans (osl_nil (E := 191) (sz := 7)) (Imp.trans (Imp.pull (A := blk b7 [.slice none 0 0] 196) eX (Imp.refl _)) (Imp.cons (Imp.cons (Imp.cons (Imp.cons (Imp.trans iM (po_close x0 hx0)))))))))) ?_)))))
 rintro ⟨i, chs, pl, a, c⟩ ⟨hi, habs, hmem⟩
 dsimp only at hi habs hmem ⊢
 have hcl : chs.length = i := by have := congrArg List.length habs; simp only [List.length_map, List.length_take] at this; omega
 refine cZ (aZ (dZ eQ ?_))
 refine fZ (bZ (cZ (lQ J (fun hc => ?_) (fun hc => ?_))))
 ·try replace hc := odT hc
  have hi' : i < acs.length := by omega
  have hget : acs[i]? = some acs[i] := by simp [hi']
  generalize acs[i] = ac at hget
  refine kV (A := Po p acs) eX po_open ?_
  intro x hx
  refine rX star_open ?_
  have hln := hx.lens
  obtain ⟨ch, hch, rfl⟩ := hx.get hget
  have hnl : i < x.chs.length := (List.getElem?_eq_some_iff.1 hch).1
  have hmem2 := hx.mem ch (List.mem_of_getElem? hch)
  have hok := hao _ (List.mem_of_getElem? hget)
  have hrl : ch.r.ms.length ≤ 8 := by have := hok.r; simp only [Chan.abs, End.bs, List.length_map] at this; exact this
  have hsl : ch.s.ms.length ≤ 8 := by have := hok.s; simp only [Chan.abs, End.bs, List.length_map] at this; exact this
  refine rX (cp_open hch) ?_
  have hcs : (x.chs.set i ch)[i]? = some ch := by rw [set_self hch]; exact hch
  refine lX (fun w hw => shape_chs (cs := x.chs.set i ch) hch (by rw [List.length_set]) (Ext.there Ext.here) w hw) ?_
  rintro ⟨b, o, hxa⟩
  have hback := cp_back (p := p) (G := Fr) hch hx
  unfold CP at hback ⊢
  rw [hxa] at hback ⊢
  dsimp only [List.cons_append, List.nil_append] at hback ⊢
  refine uZ (bZ (cZ (mQ (cZ (aZ (eZ J (gZ J (fZ (bZ (cZ (aZ (eZ J (zZ J (pZ fa196_0 J (dZ (iZ ti194 J) ?_)))))))))))))))
  refine eZ J (dZ (lZ underlying194 ti191 J J (by omega) (by omega)) ?_)
  refine gZ J (fZ (bZ (qQ (.lo 0 0 (.lo 1 0 (.lo 2 0 (.lo 3 0 (.lo 4 2 (.lo 5 0 (.lo 6 0 (.lo 7 0 (.lo 8 0 (.lo 9 1 (.lo 10 1 (.lo 11 1 (.lo 14 0 (.lo 15 0 (.lo 16 0 (.eff1 12 false (.lo 13 0 (.eff1 17 false (.lo 18 1 (.lo 19 1 (.eff1 20 false (.eff1 21 false (.lo 22 1 (.lo 23 1 (.eff1 24 true (.done)))))))))))))))))))))))))) [12, 17, 20, 21, 24] [4] ([osl 191 7 (some ⟨b, o, none⟩) x.c x.chs.length (((x.chs.set i ch).map Chan.cells).flatten)]) ([blk b7 [.slice a chs.length c] 196]) mixed (by kernel_rfl) (iM) (iM) ?_)))
  refine nZ J J (nZ J J (dQ J J (wZ J fa196_0 J (hZ J (jZ (v := .slice a chs.length c) ti194 J (Cel.of_blk (b := b7) eX J)) ?_))))
  refine nZ J J (dQ J J (wZ J fa191_0 J (hZ J (zQ (vs := (Chan.abs ch).cf.cells) ti156 J (Cf.len _) (row_take ((SlR.of_osl (E := 191) eX).elem Chan.len hcs) 5 J)) ?_)))
  refine nZ J J (dQ J J (wZ J fa191_1 J (nZ J J (dQ J J (wZ J fa191_2 J (aQ (rQ J J call96 J (Imp.refl _) (all_spec W0 _ (b := b) (o := o + i * 7 + 5) (x := ch.s) (by exact ((SlR.of_osl (E := 191) (a := some ⟨b, o, none⟩) eX).elem Chan.len hcs) 5 _ J) (by exact SlR.of_osl (E := 32) eX) (by intro m hm; exact pool_rd (ms := x.pl) eX (hmem2 m (.inl hm))) (by omega) (by intro m hm; have := hok.sl m.b (List.mem_map_of_mem hm); omega)) J (fun _ => iM) (fun _ => Imp.refl _) (fun _ => iM) ?_)))))))
  rintro y hy
  refine hZ J (aX (pvs := [(0, y.cell)]) bu189 ti189 J (cells := [y.cell]) J) (aQ (rQ J J call96 J (Imp.refl _) (all_spec W0 _ (b := b) (o := o + i * 7 + 6) (x := ch.r) (by exact ((SlR.of_osl (E := 191) (a := some ⟨b, o, none⟩) eX).elem Chan.len hcs) 6 _ J) (by exact SlR.of_osl (E := 32) eX) (by intro m hm; exact pool_rd (ms := x.pl) eX (hmem2 m (.inr hm))) (by omega) (by intro m hm; have := hok.rl m.b (List.mem_map_of_mem hm); omega)) J (fun _ => iM) (fun _ => Imp.refl _) (fun _ => iM) ?_))
  rintro z hz
  refine hZ J (aX (pvs := [(0, z.cell)]) bu189 ti189 J (cells := [z.cell]) J) (hZ J (aX (pvs := [(0, .agg (Chan.abs ch).cf.cells.toArray), (1, .agg #[y.cell]), (2, .agg #[z.cell])]) bu191 ti191 J (cells := Chan.cells { ch with s := y, r := z }) J) (aQ (wQ J J (aV [.tmp 41] (vs := [.agg (Chan.cells { ch with s := y, r := z }).toArray]) (cells := Chan.cells { ch with s := y, r := z }) underlying194 ti191 J J J J (by decide) (by simp [Value.cells, Chan.cells]) (by simp [Value.cells])) J (fun _ => iM) (fun _ => Imp.refl _) (fun _ => iM) ?_)))
  rintro b42 -
  refine aQ (wQ J J (fX (a := a) (c := c) (k := 1) (ys := Chan.cells { ch with s := y, r := z }) J J J underlying194 underlying194 ti191 J (by decide) fC (SlR.of_osl (a := some ⟨b42, 0, none⟩) eX) (Chan.ones _) (by omega)) J (fun _ => iM) (fun _ => Imp.refl _) (fun _ => iM) ?_)
  rintro ⟨a43, c43⟩ -
  refine dQ J J (wZ J fa196_0 J (aQ (wQ J J (uQ ti194 J J fC J (by first | (simp; done) | decide)) J (fun _ => iM) (fun _ => Imp.refl _) (fun _ => iM) ?_)))
  rintro ⟨⟩ -
  refine pQ (tZ (bZ (aZ (dZ (hQ J J wO) (eZ J (fZ (gX ⟨i + 1, chs ++ [{ ch with s := y, r := z }], pl ++ (y.ms ++ z.ms), a43, c43⟩ ⟨by simp only; omega, ?_, ?_⟩ (by simp only; omega) eS ?_)))))))
  ·obtain ⟨hlt, hq⟩ := List.getElem?_eq_some_iff.1 hget
   dsimp only; rw [List.map_append, habs, List.take_succ_eq_append_getElem hlt, hq]
   simp only [List.map_cons, List.map_nil, Chan.abs, hy, hz]
  ·dsimp only
   intro ch2 h2 m hm
   rcases List.mem_append.1 h2 with h2 | h2
   ·exact List.mem_append.2 (.inl (hmem ch2 h2 m hm))
   ·simp only [List.mem_cons, List.not_mem_nil, or_false] at h2
    subst h2
    rcases hm with hm | hm
    ·exact List.mem_append.2 (.inr (List.mem_append.2 (.inl hm)))
    ·exact List.mem_append.2 (.inr (List.mem_append.2 (.inr hm)))
  ·dsimp only
   rw [List.length_append, List.map_append, List.map_append, List.flatten_append, show ([({ ch with s := y, r := z } : Chan)].map Chan.cells).flatten = Chan.cells { ch with s := y, r := z } by simp]
   refine Imp.pull eX (Imp.pull eX ?_)
   refine Imp.trans (B := Chan.own { ch with s := y, r := z } :: Star (chs.map Chan.own) :: pool pl :: pool (y.ms ++ z.ms) :: Po p acs :: Fr) ?_ (Imp.trans star_add (Imp.cons pool_join))
   refine Imp.trans (B := [oend y, oend z] ++ (Star (chs.map Chan.own) :: pool pl :: pool (y.ms ++ z.ms) :: Po p acs :: Fr)) ?_ star_close
   refine Imp.pull eX (Imp.pull eX (Imp.pull eX (Imp.pull eX ?_)))
   exact Imp.trans (Imp.pull (A := pool y.ms) eX (Imp.pull (A := pool z.ms) eX (Imp.refl _))) (Imp.trans pool_join (Imp.cons (Imp.trans iM hback)))
 ·try replace hc := odF hc
  refine iX (bQ (bQ (tQ (bZ (cZ (aZ (eZ J (gZ J (fZ (bZ (rZ ?_)))))))))))
  have hie : i = acs.length := by omega
  subst hie
  rw [List.take_length] at habs
  exact yZ J J b7 trivial J (Imp.trans iM (po_close (p := b7) ⟨chs, pl, a, c⟩ ⟨habs, hao, hmem, hal⟩))
theorem ends_nils : ∀ (k : Nat) {G : List HProp}, Imp G (ends (List.replicate k nilE) :: G)
 | 0, G => ends_nil
 | k + 1, G => by
  rw [List.replicate_succ']
  exact Imp.trans (ends_nils k) (Imp.trans (Imp.trans oend_nil (Imp.refl _)) ends_add)
theorem nils_bs : ∀ l : List Cf, (List.replicate l.length nilE).map End.bs = (l.map Cf.ac).map AC.s ∧ (List.replicate l.length nilE).map End.bs = (l.map Cf.ac).map AC.r
 | [] => ⟨rfl, rfl⟩
 | f :: l => by
  obtain ⟨h1, h2⟩ := nils_bs l
  simp only [List.length_cons, List.replicate_succ, List.map_cons, h1, h2]
  constructor
  ·rfl
  ·rw [← h1, h2]; rfl
theorem nils_ok (l : List Cf) (ca : Option Addr) (cc : Nat) (sa : Option Addr) (sc : Nat) (ra : Option Addr) (rc : Nat) (h : l.length ≤ 1000) : RC.OK ⟨List.replicate l.length nilE, List.replicate l.length nilE, [], ca, cc, sa, sc, ra, rc⟩ (l.map Cf.ac) :=
 ⟨(nils_bs l).1, (nils_bs l).2, fun x hx => by
   rw [List.mem_map] at hx; obtain ⟨f, _, rfl⟩ := hx
   exact ⟨Nat.zero_le _, Nat.zero_le _, fun m hm => absurd hm List.not_mem_nil, fun m hm => absurd hm List.not_mem_nil⟩,
  fun w hw m hm => by
   rcases hw with hw | hw <;> (rw [List.eq_of_mem_replicate hw] at hm; exact absurd hm List.not_mem_nil), by rw [List.length_map]; exact h⟩
theorem rnew_spec {a : Option Addr} {c : Nat} {l : List Cf} (hr : SlR W0 Fr 5 a l.length ((l.map Cf.cells).flatten)) (hl : l.length ≤ 1000) : Ctr prog W0 104 [.slice a l.length c] Fr (fun _ : Nat => True) (fun p => .pointer (some ⟨p, 0, none⟩)) (fun p => Rp p (l.map Cf.ac) :: Fr) := by
 refine Ctr.of_body func104 J ntmps104 J (cZ (aZ (gZ J (fZ (bZ (cZ (aZ (kQ (sX underlying72 ti156 J) J ?_))))))))
 rintro b5 -
 refine eZ J (kQ (fX (a := some ⟨b5, 0, none⟩) (c := 0) (m := 0) (xs := []) (k := l.length) (ys := (l.map Cf.cells).flatten) J J J underlying72 underlying72 ti156 J (by decide) fC (hr.imp iM) (by intro v hv; obtain ⟨x, hx, hvx⟩ := List.mem_flatten.1 hv; obtain ⟨f, _, rfl⟩ := List.mem_map.1 hx; exact Cf.ones f v hvx) (by omega)) J ?_)
 rintro ⟨a7, c7⟩ -
 rw [Nat.zero_add, List.nil_append]
 refine dZ (aX (pvs := [(0, .slice a7 l.length c7)]) bu271 ti271 J (cells := [.slice a7 l.length c7, .slice none 0 0, .slice none 0 0]) J) (kQ (uX J) J ?_)
 rintro b9 -
 refine gZ J (fZ (bZ (cZ (cZ (aZ (gZ J (fZ (bZ (mQ (mX (fun s : Nat × (Option Addr × Nat) × (Option Addr × Nat) => s.1 ≤ l.length) (fun s => [(0, .slice a l.length c), (3, .pointer (some ⟨b9, 0, none⟩)), (4, .int .i64 s.1)]) (fun s => blk b9 [.slice a7 l.length c7, .slice s.2.1.1 s.1 s.2.1.2, .slice s.2.2.1 s.1 s.2.2.2] 271 :: osl 156 5 a7 c7 l.length ((l.map Cf.cells).flatten) :: osl 67 1 s.2.1.1 s.2.1.2 s.1 (List.replicate s.1 (.slice none 0 0)) :: osl 67 1 s.2.2.1 s.2.2.2 s.1 (List.replicate s.1 (.slice none 0 0)) :: Fr) (fun s => l.length - s.1) (0, (none, 0), (none, 0)) (Nat.zero_le _) eS (Imp.trans (osl_nil (E := 67) (sz := 1)) (Imp.trans (osl_nil (E := 67) (sz := 1)) iM)) ?_))))))))))
 rintro ⟨i, ⟨sa, sc⟩, ⟨ra, rc⟩⟩ (hi : i ≤ l.length)
 dsimp only
 refine cZ (cZ (aZ (eZ J (eZ J (dZ (sZ underlying72 J J) (dZ eQ ?_))))))
 refine fZ (bZ (lQ J (fun hc => ?_) (fun hc => ?_)))
 ·try replace hc := odT hc
  refine uZ (bZ (cZ (mQ (cZ (aZ (eZ J (eZ J (zZ J (pZ fa271_1 J (dZ (jZ (v := .slice sa i sc) ti38 J (Cel.of_blk (b := b9) eX J)) ?_))))))))))
  refine kQ (gV underlying38 ti67 J J J) J ?_
  rintro b21 -
  refine kQ (fX (a := sa) (c := sc) (m := i) (xs := List.replicate i (.slice none 0 0)) (k := 1) (ys := [.slice none 0 0]) J J J underlying38 underlying38 ti67 J (by decide) (Foc.there (Foc.there (Foc.there Foc.here))) (SlR.of_osl (a := some ⟨b21, 0, none⟩) eX) (by simp [one]) (by omega)) J ?_
  rintro ⟨a22, c22⟩ -
  refine zZ J (pZ fa271_1 J (sQ (uQ ti38 J J fC J (by first | (simp; done) | decide)) J ?_))
  rintro ⟨⟩ -
  refine fZ (bZ (aZ (eZ J (eZ J (zZ J (pZ fa271_2 J (dZ (jZ (v := .slice ra i rc) ti38 J (Cel.of_blk (b := b9) eX J)) ?_)))))))
  refine kQ (gV underlying38 ti67 J J J) J ?_
  rintro b30 -
  refine kQ (fX (a := ra) (c := rc) (m := i) (xs := List.replicate i (.slice none 0 0)) (k := 1) (ys := [.slice none 0 0]) J J J underlying38 underlying38 ti67 J (by decide) (Foc.there (Foc.there (Foc.there (Foc.there (Foc.there Foc.here))))) (SlR.of_osl (a := some ⟨b30, 0, none⟩) eX) (by simp [one]) (by omega)) J ?_
  rintro ⟨a31, c31⟩ -
  refine zZ J (pZ fa271_2 J (sQ (uQ ti38 J J fC J (by first | (simp; done) | decide)) J ?_))
  rintro ⟨⟩ -
  refine fZ (tZ (bZ (aZ (eZ J (dZ (hQ J J wO) (gZ J (fZ (gX (i + 1, (a22, c22), (a31, c31)) (show i + 1 ≤ l.length by omega) (show l.length - (i + 1) < l.length - i by omega) eS ?_))))))))
  dsimp only
  rw [List.replicate_succ' (n := i)]
  exact iM
 ·try replace hc := odF hc
  refine iX (bQ (bQ (tQ (bZ (cZ (aZ (eZ J (gZ J (fZ (bZ (rZ ?_)))))))))))
  have hil : i = l.length := by omega
  subst hil
  have hcl := rp_close0 (r := b9) (acs := l.map Cf.ac) (G := Fr) ⟨List.replicate l.length nilE, List.replicate l.length nilE, [], a7, c7, sa, sc, ra, rc⟩ (nils_ok l a7 c7 sa sc ra rc hl)
  rw [show (l.map Cf.ac).map AC.cf = l from fit_new l] at hcl
  dsimp only [RO, RH, RL, List.cons_append, List.nil_append] at hcl
  simp only [List.length_replicate, List.map_replicate] at hcl
  refine yZ J J b9 trivial J (Imp.trans ?_ hcl)
  have hen := fun G => ends_nils l.length (G := G)
  exact Imp.trans pool_nil (Imp.trans (hen _) (Imp.trans (hen _) iM))
end
end Go.Proofs.YtphljkplokjonaaGreat.Po
namespace Go.Proofs.YtphljkplokjonaaGreat.Hc
open Go Go.Sl Go.RowKit Go.Proofs Go.Proofs.YtphljkplokjonaaGreat.T Go.Proofs.YtphljkplokjonaaGreat.Sp Tryz
abbrev B := List UInt8
structure HP where
 e : Nat
 s : Nat
 v : Nat
 k : Nat
 d : Nat
 p : Nat
 m : Nat
 f : Nat
 t : Nat
 r : Nat
structure HS where
 o : Ob
 q : Nat
 p : Nat
 at' : Int
 set : Bool
 out : B
 inn : B
 d : Vd.Ds
 acs : List Po.AC
 time : Int
 major : Int
abbrev heB (x : HP) (S : HS) : HProp := blk x.e [.int .i64 0, .pointer (some ⟨x.s, 0, none⟩), .pointer (some ⟨x.v, 0, none⟩), .pointer (some ⟨x.k, 0, none⟩), .pointer (some ⟨x.d, 0, none⟩), .pointer (some ⟨x.p, 0, none⟩), .int .i64 S.time, .int .i64 S.major] 83
abbrev hG (x : HP) (S : HS) (qs : List Int) (σ : St) (Fr : List HProp) : List HProp :=
 WG x.m x.f x.t 64 qs σ (sb x.s 0 x.r x.m x.f x.t :: heB x S :: Vi.V x.v S.q S.p S.at' S.set :: Vc.Con x.k S.out S.inn :: Vd.D x.d S.d :: Po.Po x.p S.acs :: Fr)
abbrev clB (cl : Nat) (x : HP) (a b c rg : Nat) (cp ef : Int) : HProp := blk cl [.pointer (some ⟨x.e, 0, none⟩), .int .u32 a, .int .u32 b, .int .u32 c, .pointer (some ⟨rg, 0, none⟩), .int .i64 cp, .int .i64 ef] 137
structure MO where
 ans : Int
 cp : Int
 ef : Int
 S : HS
 R : List Value
def errC (e : Int) : Nat := if e = 90 then 2 else if e = 4 then 4 else if e = 110 then 5 else if e = 141 then 6 else if e = 91 then 7 else if e = 210 then 8 else 3
theorem errC_rng (e : Int) : 2 ≤ errC e ∧ errC e ≤ 8 := by unfold errC; split <;> (try split) <;> (try split) <;> (try split) <;> (try split) <;> (try split) <;> decide
def sndP (acs : List Po.AC) (part n : Int) (bs : B) : Int × List Po.AC :=
 if 0 ≤ n then match acs[n.toNat]? with | some ac => ((Po.sendR ac part bs).1, acs.set n.toNat (Po.sendR ac part bs).2) | none => (210, acs) else (210, acs)
def rcvP (acs : List Po.AC) (part n : Int) : Int × B × List Po.AC :=
 if 0 ≤ n then match acs[n.toNat]? with
  | some ac => if ac.to ≠ part then (210, [], acs) else match ac.r with | [] => (110, [], acs) | m :: rest => (0, m, acs.set n.toNat (if ac.kind = 2 then { ac with r := rest } else ac))
  | none => (210, [], acs) else (210, [], acs)
def subP (s : Vd.Ds) (write : Bool) (sector addr : Int) (data : B) (major : Int) : Int × Int × Vd.Ds :=
 if Vd.subE s write sector data.length major = 0 then (Vd.w32 (s.last + 1), 0, Vd.subR s write sector addr data major) else (0, Vd.subE s write sector data.length major, s)
section
variable (W0 : World) (Fr : List HProp)
theorem snd_spec {p c : Nat} {acs : List Po.AC} (part n : Int) {a : Option Addr} {bs : B} (hr : SlR W0 Fr 1 a bs.length (bytesV bs)) (hb : bs.length ≤ 2 ^ 47) :
 Ctr prog W0 44 [.pointer (some ⟨p, 0, none⟩), .int .i64 part, .int .i64 n, .slice a bs.length c] (Po.Po p acs :: Fr) (fun _ : Unit => True) (fun _ => .int .i64 (sndP acs part n bs).1) (fun _ => Po.Po p (sndP acs part n bs).2 :: Fr) := by
 unfold sndP
 by_cases h0 : 0 ≤ n
 ·rw [if_pos h0]
  obtain ⟨k, rfl⟩ := Int.eq_ofNat_of_zero_le h0
  cases hac : acs[(k : Int).toNat]? with
  | none =>
   rw [Int.toNat_natCast] at hac
   exact Po.send_out W0 Fr part (k : Int) (.inr (by have := List.getElem?_eq_none_iff.1 hac; omega))
  | some ac =>
   rw [Int.toNat_natCast] at hac ⊢
   exact Po.send_in W0 Fr part hr hb hac
 ·rw [if_neg h0]; exact Po.send_out W0 Fr part n (.inl (by omega))
theorem rcv_spec {p : Nat} {acs : List Po.AC} (part n : Int) :
 Ctr prog W0 59 [.pointer (some ⟨p, 0, none⟩), .int .i64 part, .int .i64 n] (Po.Po p acs :: Fr) (fun z : BZ => z.b = (rcvP acs part n).2.1) (fun z => .tuple #[.slice z.a z.b.length z.c, .int .i64 (rcvP acs part n).1]) (fun z => oby 5 z.a z.c z.b :: Po.Po p (rcvP acs part n).2.2 :: Fr) := by
 have out : (n < 0 ∨ (acs.length : Int) ≤ n) → rcvP acs part n = (210, [], acs) → Ctr prog W0 59 [.pointer (some ⟨p, 0, none⟩), .int .i64 part, .int .i64 n] (Po.Po p acs :: Fr) (fun z : BZ => z.b = (rcvP acs part n).2.1) (fun z => .tuple #[.slice z.a z.b.length z.c, .int .i64 (rcvP acs part n).1]) (fun z => oby 5 z.a z.c z.b :: Po.Po p (rcvP acs part n).2.2 :: Fr) := fun hn e => by
  rw [e]
  exact Ctr.re (Po.recv_out W0 Fr (p := p) part n hn) (fun _ => (⟨none, 0, []⟩ : BZ)) (fun _ _ => rfl) (fun _ _ => rfl) (fun _ _ => oby_nil)
 by_cases h0 : 0 ≤ n
 ·obtain ⟨k, rfl⟩ := Int.eq_ofNat_of_zero_le h0
  cases hac : acs[k]? with
  | none => exact out (.inr (by have := List.getElem?_eq_none_iff.1 hac; omega)) (by unfold rcvP; rw [if_pos h0, Int.toNat_natCast, hac])
  | some ac =>
   by_cases hto : ac.to = part
   ·cases hr : ac.r with
    | nil =>
     have e : rcvP acs part (k : Int) = (110, [], acs) := by unfold rcvP; rw [if_pos h0, Int.toNat_natCast, hac]; simp [hto, hr]
     have he : Po.recvE ac part = 110 := by unfold Po.recvE; rw [if_neg (not_not_intro hto), if_pos hr]
     have hs := Po.recv_bad W0 Fr (p := p) part hac (by rw [he]; decide)
     rw [he] at hs
     rw [e]
     exact Ctr.re hs (fun _ => (⟨none, 0, []⟩ : BZ)) (fun _ _ => rfl) (fun _ _ => rfl) (fun _ _ => oby_nil)
    | cons m rest =>
     have e : rcvP acs part (k : Int) = (0, m, acs.set k (if ac.kind = 2 then { ac with r := rest } else ac)) := by unfold rcvP; rw [if_pos h0, Int.toNat_natCast, hac]; simp [hto, hr]
     rw [e]
     exact Ctr.re (Po.recv_ok W0 Fr (p := p) part hac hto hr) (fun u => (⟨some ⟨u, 0, none⟩, m.length, m⟩ : BZ)) (fun _ _ => rfl) (fun _ _ => rfl) (fun _ _ => Imp.refl _)
   ·have e : rcvP acs part (k : Int) = (210, [], acs) := by unfold rcvP; rw [if_pos h0, Int.toNat_natCast, hac]; simp [hto]
    have he : Po.recvE ac part = 210 := by unfold Po.recvE; rw [if_pos hto]
    have hs := Po.recv_bad W0 Fr (p := p) part hac (by rw [he]; decide)
    rw [he] at hs
    rw [e]
    exact Ctr.re hs (fun _ => (⟨none, 0, []⟩ : BZ)) (fun _ _ => rfl) (fun _ _ => rfl) (fun _ _ => oby_nil)
 ·exact out (.inl (by omega)) (by unfold rcvP; rw [if_neg h0])
theorem sub_spec {d dc : Nat} {s : Vd.Ds} {write : Bool} {sector addr major : Int} {da : Option Addr} {data : B} (hr : RdB W0 Fr da dc data) (hdl : data.length ≤ 2 ^ 47) :
 Ctr prog W0 91 [.pointer (some ⟨d, 0, none⟩), .bool write, .int .i64 sector, .int .u32 addr, .slice da data.length dc, .int .i64 major] (Vd.D d s :: Fr) (fun _ : Unit => True) (fun _ => .tuple #[.int .u32 (subP s write sector addr data major).1, .int .i64 (subP s write sector addr data major).2.1]) (fun _ => Vd.D d (subP s write sector addr data major).2.2 :: Fr) := by
 unfold subP
 by_cases he : Vd.subE s write sector data.length major = 0
 ·rw [if_pos he]; exact Vd.submit_ok W0 Fr hr hdl he
 ·rw [if_neg he]; exact Vd.submit_bad W0 Fr he
theorem check_spec (e : Int) : CtrX prog W0 210 [.int .i64 e] Fr (fun _ : Unit => e = 0) (fun _ => .tuple #[]) (fun _ => Fr) (fun y : Nat => e ≠ 0 ∧ y = errC e) (fun y => .iface 235 (.int .i64 y)) (fun _ => Fr) := by
 refine CtrX.of_body func210 J ntmps210 J (cZ (cZ (aZ (eZ J (fZ (bZ (mQ (cZ (aZ (dZ zX ?_))))))))))
 refine gZ J (fZ (bZ (lQ J (fun hc => ?_) (fun hc => ?_))))
 ·try replace hc := odT hc
  exact rZ (nQ (qZ (tV (QG.ret0 J () hc J iM))))
 ·try replace hc := odF hc
  have k1 := hc
  refine cZ (aZ (dZ zX ?_))
  refine gZ J (fZ (bZ (lQ J (fun hc => ?_) (fun hc => ?_))))
  ·try replace hc := odT hc
   subst hc
   refine aZ (dZ (bV underlying235 (by intro _ h; cases h) J) ?_)
   exact vV J (lV (jX (jV 2 ⟨by decide, by decide⟩ J iM)))
  ·try replace hc := odF hc
   have k2 := hc
   refine cZ (aZ (dZ zX ?_))
   refine gZ J (fZ (bZ (lQ J (fun hc => ?_) (fun hc => ?_))))
   ·try replace hc := odT hc
    subst hc
    refine aZ (dZ (bV underlying235 (by intro _ h; cases h) J) ?_)
    exact vV J (lV (jX (jV 4 ⟨by decide, by decide⟩ J iM)))
   ·try replace hc := odF hc
    have k3 := hc
    refine cZ (aZ (dZ zX ?_))
    refine gZ J (fZ (bZ (lQ J (fun hc => ?_) (fun hc => ?_))))
    ·try replace hc := odT hc
     subst hc
     refine aZ (dZ (bV underlying235 (by intro _ h; cases h) J) ?_)
     exact vV J (lV (jX (jV 5 ⟨by decide, by decide⟩ J iM)))
    ·try replace hc := odF hc
     have k4 := hc
     refine cZ (aZ (dZ zX ?_))
     refine gZ J (fZ (bZ (lQ J (fun hc => ?_) (fun hc => ?_))))
     ·try replace hc := odT hc
      subst hc
      refine aZ (dZ (bV underlying235 (by intro _ h; cases h) J) ?_)
      exact vV J (lV (jX (jV 6 ⟨by decide, by decide⟩ J iM)))
     ·try replace hc := odF hc
      have k5 := hc
      refine cZ (aZ (dZ zX ?_))
      refine gZ J (fZ (bZ (lQ J (fun hc => ?_) (fun hc => ?_))))
      ·try replace hc := odT hc
       subst hc
       refine aZ (dZ (bV underlying235 (by intro _ h; cases h) J) ?_)
       exact vV J (lV (jX (jV 7 ⟨by decide, by decide⟩ J iM)))
      ·try replace hc := odF hc
       have k6 := hc
       refine cZ (aZ (dZ zX ?_))
       refine gZ J (fZ (bZ (lQ J (fun hc => ?_) (fun hc => ?_))))
       ·try replace hc := odT hc
        subst hc
        refine aZ (dZ (bV underlying235 (by intro _ h; cases h) J) ?_)
        exact vV J (lV (jX (jV 8 ⟨by decide, by decide⟩ J iM)))
       ·try replace hc := odF hc
        have k7 := hc
        refine uZ (tZ (bZ (aZ (dZ (bV underlying235 (by intro _ h; cases h) J) ?_))))
        refine vV J ?_
        exact jV 3 ⟨k1, by unfold errC; rw [if_neg k2, if_neg k3, if_neg k4, if_neg k5, if_neg k6, if_neg k7]⟩ J iM
theorem atMost_spec {n most : Nat} (hn : n < 4294967296) (hm : most ≤ 65536) : CtrX prog W0 214 [.int .u32 n, .int .i64 most] Fr (fun _ : Unit => n ≤ most) (fun _ => .int .i64 n) (fun _ => Fr) (fun y : Nat => ¬ n ≤ most ∧ y = 3) (fun y => .iface 235 (.int .i64 y)) (fun _ => Fr) := by
 refine CtrX.of_body func214 J ntmps214 J (cZ (aZ (gZ J (fZ (bZ (cZ (cZ (aZ (eZ J (dZ (by first | exact cQ underlying24 J J (wu64 (by omega) (by omega)) | exact cQ underlying24 J J J) ?_))))))))))
 refine eZ J (dZ (by first | exact cQ underlying24 J J (wu64 (by omega) (by omega)) | exact cQ underlying24 J J J) ?_)
 refine dZ (qV J J) (fZ (bZ (lQ J (fun hc => ?_) (fun hc => ?_))))
 ·try replace hc := odT hc
  refine aZ (dZ (bV underlying235 (by intro _ h; cases h) J) ?_)
  exact vV J (jX (jV 3 ⟨by omega, rfl⟩ J iM))
 ·try replace hc := odF hc
  refine uZ (bZ (cZ (aZ (eZ J (dZ (by first | exact cQ underlying3 J J wO | exact cQ underlying3 J J J) ?_)))))
  exact gZ J (fZ (bZ (rZ (tV (yZ J J () (by omega) J iM)))))
end
abbrev w32 (n : Int) : Int := IntKind.u32.wrap n
abbrev mG (cl : Nat) (x : HP) (a b c rg : Nat) (cp ef : Int) (S : HS) (R : List Value) (qs : List Int) (σ : St) (Fr : List HProp) : List HProp := clB cl x a b c rg cp ef :: blk rg R 31 :: hG x S qs σ Fr
structure HK (qs : List Int) (rt : Nat → Option Nat) (σ : St) (cc : Nat) (x : HP) (S : HS) (qk : Int) : Prop where
 L : Lk 64 qs rt S.o cc σ
 hq : ∀ q ∈ qs, 0 ≤ q ∧ q ≤ 1024
 hqk : qs[0]? = some qk
 hk : rt 0 = some x.r
 hc : cc ≤ 100000000000
 q : S.q < 256
 p : S.p < 256
 told : S.d.told.length ≤ 4294967296
def Meth (W0 : World) (Fr : List HProp) (F : FuncId) (cl : Nat) (x : HP) (a b c rg : Nat) (S : HS) (R : List Value) (qs : List Int) (rt : Nat → Option Nat) (σ : St) (cc : Nat) (oc : Nat ⊕ MO) : Prop :=
 CtrX prog W0 F [.pointer (some ⟨cl, 0, none⟩)] (mG cl x a b c rg 0 0 S R qs σ Fr)
  (fun y : St × MO => oc = .inr y.2 ∧ Lk 64 qs rt y.2.S.o (cc + 8192) y.1) (fun y => .int .u32 y.2.ans) (fun y => mG cl x a b c rg y.2.cp y.2.ef y.2.S y.2.R qs y.1 Fr)
  (fun y : St × Nat => oc = .inl y.2 ∧ Lk 64 qs rt S.o (cc + 8192) y.1) (fun y => .iface 235 (.int .i64 y.2)) (fun y => mG cl x a b c rg 0 0 S R qs y.1 Fr)
/-! ### outcomes -/
def ocMap (qk : Int) (S : HS) (R : List Value) (a b : Nat) : Nat ⊕ MO := let r := mapO qk S.o 0 a b; if r.1 = 0 then .inr ⟨0, 0, 0, { S with o := r.2 }, R⟩ else .inl (errC r.1)
def ocUnmap (S : HS) (R : List Value) (a : Nat) : Nat ⊕ MO := let r := unmapO S.o 0 a; if r.1 = 0 then .inr ⟨0, 0, 0, { S with o := r.2 }, R⟩ else .inl (errC r.1)
def ocProt (S : HS) (R : List Value) (a b : Nat) : Nat ⊕ MO := let r := protO S.o 0 a b; if r.1 = 0 then .inr ⟨0, 0, 0, { S with o := r.2 }, R⟩ else .inl (errC r.1)
def wrO (S : HS) (ds : B) : HS := { S with out := S.out ++ ds.take (64 - S.out.length) }
def ocWrite (S : HS) (R : List Value) (a b : Nat) : Nat ⊕ MO := if 64 < b then .inl 3 else let r := inO S.o 0 a b; if r.2 = 0 then .inr ⟨(min r.1.length (64 - S.out.length) : Nat), (min r.1.length (64 - S.out.length) : Nat), 0, wrO S r.1, R⟩ else .inl (errC r.2)
def ocRead (S : HS) (R : List Value) (a b : Nat) : Nat ⊕ MO := if 64 < b then .inl 3 else let r := outR S.o 0 a (S.inn.take b); if r.1 = 0 then .inr ⟨(S.inn.take b).length, (S.inn.take b).length, 0, { S with o := r.2, inn := S.inn.drop b }, R⟩ else .inl (errC r.1)
def roomO (o : Ob) (ad n : Nat) : Bool := (List.range n).all fun i => decide (ad + i < 1048576) && decide (Go.bits .and .i64 (prmO o 0 (((ad + i) / 256 : Nat) : Int)) 2 ≠ 0)
def ocDiskR (S : HS) (R : List Value) (a b : Nat) : Nat ⊕ MO := if roomO S.o b 64 then let r := subP S.d false a b [] S.major; (if r.2.1 = 0 then .inr ⟨r.1, 0, 0, { S with d := r.2.2 }, R⟩ else .inl (errC r.2.1)) else .inl 2
def ocDiskW (S : HS) (R : List Value) (a b : Nat) : Nat ⊕ MO := let q := inO S.o 0 b ((64 : Nat) : Int); if q.2 = 0 then let r := subP S.d true a b q.1 S.major; (if r.2.1 = 0 then .inr ⟨r.1, q.1.length, 0, { S with d := r.2.2 }, R⟩ else .inl (errC r.2.1)) else .inl (errC q.2)
def ocSend (S : HS) (R : List Value) (a b c : Nat) : Nat ⊕ MO := if 64 < c then .inl 3 else let q := inO S.o 0 b c; if q.2 = 0 then let r := sndP S.acs 0 a q.1; (if r.1 = 0 then .inr ⟨0, q.1.length, 0, { S with acs := r.2 }, R⟩ else .inl (errC r.1)) else .inl (errC q.2)
def ocRecv (S : HS) (R : List Value) (a b c : Nat) : Nat ⊕ MO := if 64 < c then .inl 3 else let q := rcvP S.acs 0 a; if q.1 = 0 then (if c < q.2.1.length then .inl 3 else let r := outR S.o 0 b q.2.1; if r.1 = 0 then .inr ⟨w32 q.2.1.length, q.2.1.length, 0, { S with o := r.2, acs := q.2.2 }, R⟩ else .inl (errC r.1)) else .inl (errC q.1)
def ocTime (S : HS) (R : List Value) : Nat ⊕ MO := .inr ⟨w32 S.time, 0, 0, S, R.set 2 (.int .u32 (w32 (S.time / 2 ^ 32)))⟩
def tmN (a b : Nat) : Int := Go.bits .or .i64 (IntKind.i64.wrap ((b : Int) * 2 ^ 32)) a
def tmB (t : Int) : Bool := decide (0 ≤ t ∧ t ≤ 281474976710656)
def ocTimer (S : HS) (R : List Value) (a b : Nat) : Nat ⊕ MO := if 65536 < b then .inl 3 else if tmB (tmN a b) = true then .inr ⟨0, 0, 0, { S with at' := tmN a b, set := true }, R⟩ else .inl 3
def ocAck (S : HS) (R : List Value) (a : Nat) : Nat ⊕ MO := .inr ⟨0, 0, 0, { S with p := Vi.clr S.p a }, R⟩
def ocInfo (S : HS) (R : List Value) (a : Nat) : Nat ⊕ MO :=
 if a = 0 then .inr ⟨0, 0, 0, S, R⟩ else if a = 1 then .inr ⟨w32 S.major, 0, 0, S, R⟩ else if a = 2 then .inr ⟨w32 (S.d.asks.map Vd.Ak.tag).length, 0, 0, S, R⟩
 else if a = 3 then .inr ⟨(S.d.told.getLast?).getD 0, 0, 0, S, R⟩ else if a = 4 then .inr ⟨w32 S.inn.length, 0, 0, S, R⟩ else if a = 5 then .inr ⟨w32 (IntKind.i64.wrap (64 - (S.out.length : Int))), 0, 0, S, R⟩ else .inl 3
theorem sub_same {s : Vd.Ds} {write : Bool} {sector addr major : Int} {data : B} (h : (subP s write sector addr data major).2.1 ≠ 0) : (subP s write sector addr data major).2.2 = s := by
 unfold subP at h ⊢; split at h
 ·exact absurd J h
 ·rename_i q; rw [if_neg q]
theorem snd_same {acs : List Po.AC} {part n : Int} {bs : B} (h : (sndP acs part n bs).1 ≠ 0) : (sndP acs part n bs).2 = acs := by
 unfold sndP at h ⊢
 by_cases h0 : 0 ≤ n
 ·rw [if_pos h0] at h ⊢
  cases hac : acs[n.toNat]? with
  | none => rfl
  | some ac =>
   rw [hac] at h
   simp only at h ⊢
   have hs : (Po.sendR ac part bs).2 = ac := by
    unfold Po.sendR at h ⊢
    split
    ·rfl
    ·rename_i k1; rw [if_neg k1] at h
     split
     ·rfl
     ·rename_i k2; rw [if_neg k2] at h
      split
      ·rename_i k3; rw [if_pos k3] at h; exact absurd J h
      ·rename_i k3; rw [if_neg k3] at h
       split
       ·rfl
       ·rename_i k4; rw [if_neg k4] at h; exact absurd J h
   rw [hs]; exact Po.set_self hac
 ·rw [if_neg h0]
theorem out_same {o : Ob} {k ad : Nat} {b : B} (h : (outR o k ad b).1 ≠ 0) : (outR o k ad b).2 = o := by
 unfold outR at h ⊢
 split
 ·rfl
 ·rename_i k1; rw [if_neg k1] at h
  split
  ·rename_i k2; rw [if_pos k2] at h; exact absurd J h
  ·rfl
theorem unmap_same {o : Ob} {k : Nat} {p : Int} (h : (unmapO o k p).1 ≠ 0) : (unmapO o k p).2 = o := by
 unfold unmapO at h ⊢
 split
 ·rfl
 ·rename_i k1; rw [if_neg k1] at h
  split
  ·rename_i k2; rw [if_pos k2] at h; exact absurd J h
  ·rfl
theorem prot_same {o : Ob} {k : Nat} {p pm : Int} (h : (protO o k p pm).1 ≠ 0) : (protO o k p pm).2 = o := by
 unfold protO at h ⊢
 split
 ·rfl
 ·rename_i k1; rw [if_neg k1] at h
  cases hx : o.vw k p.toNat with
  | none => rfl
  | some y => rw [hx] at h; exact absurd J h
theorem roomO_succ {o : Ob} {ad n : Nat} : roomO o ad (n + 1) = (roomO o ad n && (decide (ad + n < 1048576) && decide (Go.bits .and .i64 (prmO o 0 (((ad + n) / 256 : Nat) : Int)) 2 ≠ 0))) := by unfold roomO; rw [List.range_succ, List.all_append]; simp
theorem roomO_no {o : Ob} {ad n m : Nat} (h : n ≤ m) (hn : roomO o ad n = false) : roomO o ad m = false := by
 induction m with
 | zero => obtain rfl : n = 0 := by omega
           exact hn
 | succ m ih =>
  by_cases q : n = m + 1
  ·subst q; exact hn
  ·rw [roomO_succ, ih (by omega)]; rfl
theorem inO_le (o : Ob) (k ad : Nat) (n : Nat) : (inO o k ad n).1.length ≤ 4096 := by
 unfold inO
 split
 ·simp
 ·split
  ·rw [bufI_len]; omega
  ·simp
section
variable (W0 : World) (Fr : List HProp)
theorem prm_c {n : Nat} {qs : List Int} {rt : Nat → Option Nat} {o : Ob} {c : Nat} {σ : St} {k r s m f t : Nat} (L : Lk n qs rt o c σ) (hk : rt k = some r) (p : Int) : Ctr prog W0 29 [.pointer (some ⟨s, 0, none⟩), .int .i64 p] (WG m f t n qs σ (sb s k r m f t :: Fr)) (fun _ : Unit => True) (fun _ => .int .i64 (prmO o k p)) (fun _ => WG m f t n qs σ (sb s k r m f t :: Fr)) := by
 obtain ⟨A, rfl, h0, G, rfl, hcc⟩ := L
 have h := perm_spec W0 Fr (s := s) (m := m) (f := f) (t := t) (σ := σ) (qs := qs) G.rep hk p
 have e : (match vp A k p with | some x => (x.2 : Int) | none => 0) = prmO (obs A σ) k p := by
  unfold prmO vI vp
  by_cases hp : 0 ≤ p ∧ p < 4096
  ·rw [if_pos hp, if_pos hp, vw_obs]; cases A.pg k p.toNat <;> rfl
  ·rw [if_neg hp, if_neg hp]
 rw [← e]
 exact h
variable {x : HP} {S : HS} {qs : List Int} {rt : Nat → Option Nat} {σ : St} {cc cl a b c rg : Nat} {qk : Int} {R : List Value}
theorem atMostT {n : Nat} (hn : n < 4294967296) : CtrX prog W0 214 [.int .u32 n, .int .i64 65536] Fr (fun _ : Unit => n ≤ 65536) (fun _ => .int .i64 n) (fun _ => Fr) (fun y : Nat => ¬ n ≤ 65536 ∧ y = 3) (fun y => .iface 235 (.int .i64 y)) (fun _ => Fr) := by
 have h := atMost_spec W0 Fr (n := n) (most := 65536) hn (by decide)
 rw [show ((65536 : Nat) : Int) = 65536 by simp] at h
 exact h
theorem timer_ok {v q p : Nat} {a' : Int} {s : Bool} {n : Int} (hn : 0 ≤ n ∧ n ≤ 281474976710656) : Ctr prog W0 217 [.pointer (some ⟨v, 0, none⟩), .int .i64 n] (Vi.V v q p a' s :: Fr) (fun _ : Unit => True) (fun _ => .int .i64 0) (fun _ => Vi.V v q p n true :: Fr) := by
 have h := Vi.timer_spec W0 Fr (v := v) (q := q) (p := p) (a := a') (s := s) n
 rw [if_pos hn] at h
 simp only [if_pos hn] at h
 exact h
theorem timer_bad {v q p : Nat} {a' : Int} {s : Bool} {n : Int} (hn : ¬ (0 ≤ n ∧ n ≤ 281474976710656)) : Ctr prog W0 217 [.pointer (some ⟨v, 0, none⟩), .int .i64 n] (Vi.V v q p a' s :: Fr) (fun _ : Unit => True) (fun _ => .int .i64 2) (fun _ => Vi.V v q p a' s :: Fr) := by
 have h := Vi.timer_spec W0 Fr (v := v) (q := q) (p := p) (a := a') (s := s) n
 rw [if_neg hn] at h
 simp only [if_neg hn] at h
 exact h
theorem in_c (h : HK qs rt σ cc x S qk) {ad n : Nat} (had : ad < 4294967296) (hn : n ≤ 4096) : CtrX prog W0 213 [.pointer (some ⟨cl, 0, none⟩), .int .u32 ad, .int .i64 n] (mG cl x a b c rg 0 0 S R qs σ Fr)
 (fun z : BA => (inO S.o 0 ad n).2 = 0 ∧ z.b = (inO S.o 0 ad n).1 ∧ Lk 64 qs rt S.o (cc + 4096) z.σ) (fun z => .slice z.a z.b.length z.c) (fun z => oby 5 z.a z.c z.b :: mG cl x a b c rg 0 0 S R qs z.σ Fr)
 (fun y : St × Nat => (inO S.o 0 ad n).2 ≠ 0 ∧ y.2 = errC (inO S.o 0 ad n).2 ∧ Lk 64 qs rt S.o (cc + 4096) y.1) (fun y => .iface 235 (.int .i64 y.2)) (fun y => mG cl x a b c rg 0 0 S R qs y.1 Fr) := by
 have hcc := h.hc
 refine CtrX.of_body func213 J ntmps213 J ?_
 dsimp only [mG, hG, WG, heB, clB]
 refine cZ (aZ (gZ J (fZ (bZ (cZ (aZ (eZ J (zZ J (pZ fa137_0 J (dZ (iZ ti25 J) ?_))))))))))
 refine zZ J (pZ fa83_1 J (dZ (iZ ti53 J) ?_))
 refine eZ J (eZ J (oZ call30 J (iM) (in_spec W0 _ (s := x.s) (m := x.m) (f := x.f) (t := x.t) (k := 0) (r := x.r) h.L h.hk (by omega) (ad := ad) had (n : Int)) J ?_))
 rintro ⟨ia, ic, ib, σ2⟩ ⟨hib, L2⟩
 dsimp only [WG] at hib L2 ⊢
 refine eZ J (dZ (xZ J J) (dZ (xZ J J) (gZ J (gZ J (fZ (bZ (cZ (aZ (eZ J (OG.callx call210 J (Imp.refl _) (check_spec W0 _ (inO S.o 0 ad n).2) J (fun y hy => ?_) ?_))))))))))
 ·exact jX (jV (σ2, y) ⟨hy.1, hy.2, L2⟩ J iM)
 rintro ⟨⟩ h0
 exact fZ (bZ (cZ (aZ (eZ J (gZ J (fZ (bZ (rZ (tV (yZ J J (⟨ia, ic, ib, σ2⟩ : BA) ⟨h0, hib, L2⟩ J iM))))))))))
theorem open_c (h : HK qs rt σ cc x S qk) {ad : Nat} (had : ad < 4294967296) : CtrX prog W0 215 [.pointer (some ⟨cl, 0, none⟩), .int .u32 ad] (mG cl x a b c rg 0 0 S R qs σ Fr)
 (fun _ : Unit => roomO S.o ad 64 = true) (fun _ => .tuple #[]) (fun _ => mG cl x a b c rg 0 0 S R qs σ Fr)
 (fun y : Nat => roomO S.o ad 64 = false ∧ y = 2) (fun y => .iface 235 (.int .i64 y)) (fun y => mG cl x a b c rg 0 0 S R qs σ Fr) := by
 refine CtrX.of_body func215 J ntmps215 J ?_
 dsimp only [mG, hG, WG, heB, clB]
 refine cZ (aZ (eZ J (fZ (bZ (mQ (mX (fun i : Nat => i ≤ 64 ∧ roomO S.o ad i = true) (fun i => [(0, .pointer (some ⟨cl, 0, none⟩)), (1, .int .u32 ad), (6, .int .i64 i)]) (fun _ => mG cl x a b c rg 0 0 S R qs σ Fr) (fun i => 64 - i) 0 ⟨Nat.zero_le _, rfl⟩ eS iM ?_))))))
 rintro i ⟨hi, hro⟩
 dsimp only [mG, hG, WG, heB, clB]
 have hrs := roomO_succ (o := S.o) (ad := ad) (n := i)
 rw [hro, Bool.true_and] at hrs
 refine cZ (aZ (dZ eQ ?_))
 refine fZ (bZ (cZ (lQ J (fun hc => ?_) (fun hc => ?_))))
 ·try replace hc := odT hc
  refine uZ (bZ (cZ (mQ (cZ (aZ (eZ J (gZ J (fZ (bZ (cZ (aZ (eZ J (dZ (by first | exact cQ underlying3 J J wO | exact cQ underlying3 J J J) ?_)))))))))))))
  refine eZ J (dZ (hQ J J wO) (gZ J (fZ (bZ (cZ ?_)))))
  rcases (show 1048576 ≤ ad + i ∨ (ad + i < 1048576 ∧ Go.bits .and .i64 (prmO S.o 0 (((ad + i) / 256 : Nat) : Int)) 2 = 0) ∨ (ad + i < 1048576 ∧ Go.bits .and .i64 (prmO S.o 0 (((ad + i) / 256 : Nat) : Int)) 2 ≠ 0) by by_cases q1 : 1048576 ≤ ad + i <;> by_cases q2 : Go.bits .and .i64 (prmO S.o 0 (((ad + i) / 256 : Nat) : Int)) 2 = 0 <;> simp [q1, q2] <;> omega) with q | q | q
  ·refine aZ (eZ J (dZ (oQ (oV J J) (v' := .bool true) (bT (by omega))) ?_))
   refine eZ J (gQ J J J J J (gQ J J J J J (gQ J J J J J (gQ J J J J J (gQ J J J J J (gQ J J J J J (gQ J J J J J (gQ J J J J J (gQ J J J J J (gQ J J J J J (gQ J J J J J (gQ J J J J J (dZ mZ ?_)))))))))))))
   refine fZ (bZ (fQ J (aZ (dZ (bV underlying235 (by intro _ h; cases h) J) ?_))))
   exact vV J (lV (jX (jX (lV (jV 2 ⟨roomO_no (n := i + 1) (by omega) (by rw [hrs]; first | (rw [decide_eq_false (by omega)]; rfl) | (rw [decide_eq_true q.1, decide_eq_false (not_not_intro q.2)]; rfl)), rfl⟩ J iM)))))
  ·refine aZ (eZ J (dZ (oQ (oV J J) (v' := .bool false) (bF (by omega))) ?_))
   refine eZ J (kZ J J (eZ J (kZ J J (zZ J (kZ J J (pZ fa137_0 J (kZ J J (dZ (iZ ti25 J) ?_))))))))
   refine kZ J J (zZ J (kZ J J (pZ fa83_1 J (kZ J J (dZ (iZ ti53 J) ?_)))))
   refine kZ J J (eZ J (kZ J J (dZ (oQ (dV J J (by omega) (tdiv_pos (by omega) (by omega) (by omega))) (v' := .int .i64 (((ad + i) / 256 : Nat) : Int)) (by rw [show (ad : Int) + (i : Int) = ((ad + i : Nat) : Int) by omega]; congr 1)) ?_)))
   refine kZ J J (oZ call29 J (iM) (prm_c W0 _ (s := x.s) (m := x.m) (f := x.f) (t := x.t) (k := 0) (r := x.r) h.L h.hk (((ad + i) / 256 : Nat) : Int)) J ?_)
   rintro ⟨⟩ -
   refine kZ J J (dZ (cV J J J J) (kZ J J (dZ (oQ (yQ J J) (v' := .bool true) (bT q.2)) (dZ mZ ?_))))
   refine fZ (bZ (fQ J (aZ (dZ (bV underlying235 (by intro _ h; cases h) J) ?_))))
   exact vV J (lV (jX (jX (lV (jV 2 ⟨roomO_no (n := i + 1) (by omega) (by rw [hrs]; first | (rw [decide_eq_false (by omega)]; rfl) | (rw [decide_eq_true q.1, decide_eq_false (not_not_intro q.2)]; rfl)), rfl⟩ J iM)))))
  ·refine aZ (eZ J (dZ (oQ (oV J J) (v' := .bool false) (bF (by omega))) ?_))
   refine eZ J (kZ J J (eZ J (kZ J J (zZ J (kZ J J (pZ fa137_0 J (kZ J J (dZ (iZ ti25 J) ?_))))))))
   refine kZ J J (zZ J (kZ J J (pZ fa83_1 J (kZ J J (dZ (iZ ti53 J) ?_)))))
   refine kZ J J (eZ J (kZ J J (dZ (oQ (dV J J (by omega) (tdiv_pos (by omega) (by omega) (by omega))) (v' := .int .i64 (((ad + i) / 256 : Nat) : Int)) (by rw [show (ad : Int) + (i : Int) = ((ad + i : Nat) : Int) by omega]; congr 1)) ?_)))
   refine kZ J J (oZ call29 J (iM) (prm_c W0 _ (s := x.s) (m := x.m) (f := x.f) (t := x.t) (k := 0) (r := x.r) h.L h.hk (((ad + i) / 256 : Nat) : Int)) J ?_)
   rintro ⟨⟩ -
   refine kZ J J (dZ (cV J J J J) (kZ J J (dZ (oQ (yQ J J) (v' := .bool false) (bF q.2)) (dZ mZ ?_))))
   exact fZ (bZ (vZ J (uZ (tZ (bZ (aZ (dZ (hQ J J wO) (eZ J (fZ (gX (i + 1) ⟨by omega, by rw [hrs, decide_eq_true q.1, decide_eq_true q.2]; rfl⟩ (by omega) eS iM))))))))))
 ·try replace hc := odF hc
  refine iX (bQ (bQ (tQ ?_)))
  obtain rfl : i = 64 := by omega
  exact tV (qX J () hro J iM)
theorem m_yield (h : HK qs rt σ cc x S qk) (ha : a < 4294967296) (hb : b < 4294967296) (hc : c < 4294967296) : Meth W0 Fr 172 cl x a b c rg S R qs rt σ cc (.inr ⟨0, 0, 1, S, R⟩) := by
 have hcc := h.hc
 unfold Meth
 refine CtrX.of_body func172 J ntmps172 J ?_
 dsimp only [mG, hG, WG, heB, clB]
 refine cZ (aZ (gZ J (fZ (bZ (cZ (aZ (eZ J (zZ J (pZ fa137_6 J (sQ (uQ ti3 J J fC J (by first | (simp; done) | decide)) J ?_))))))))))
 rintro ⟨⟩ -
 exact fZ (bZ (cZ (aZ (gZ J (fZ (bZ (rZ (tV (yZ J J (σ, ⟨0, 0, 1, S, R⟩) ⟨rfl, h.L.mono (by omega)⟩ J iM)))))))))
theorem m_map (h : HK qs rt σ cc x S qk) (ha : a < 4294967296) (hb : b < 4294967296) (hc : c < 4294967296) : Meth W0 Fr 173 cl x a b c rg S R qs rt σ cc (ocMap qk S R a b) := by
 have hcc := h.hc
 unfold Meth
 refine CtrX.of_body func173 J ntmps173 J ?_
 dsimp only [mG, hG, WG, heB, clB]
 refine cZ (aZ (gZ J (fZ (bZ (cZ (qQ (.lo 0 1 (.lo 1 1 (.lo 2 1 (.lo 3 1 (.lo 4 1 (.lo 5 1 (.lo 6 1 (.lo 7 1 (.lo 8 1 (.lo 9 1 (.lo 10 1 (.lo 11 1 (.lo 12 1 (.lo 13 1 (.lo 14 1 (.lo 15 1 (.lo 16 1 (.eff1 17 false (.eff1 18 false (.done)))))))))))))))))))) [17, 18] [] ([]) ([]) mixed (by kernel_rfl) (Imp.none _) (Imp.none _) (nZ J J (dQ J J (wZ J fa137_0 J (hZ J (iZ ti25 J) ?_))))))))))
 refine dQ J J (wZ J fa83_1 J (hZ J (iZ ti53 J) ?_))
 refine nZ J J (dQ J J (wZ J fa137_1 J (hZ J (iZ ti27 J) ?_)))
 refine hZ J (by first | exact cQ underlying3 J J wO | exact cQ underlying3 J J J) ?_
 refine nZ J J (dQ J J (wZ J fa137_2 J (hZ J (iZ ti27 J) ?_)))
 refine hZ J (by first | exact cQ underlying3 J J wO | exact cQ underlying3 J J J) ?_
 refine aQ (rQ J J call72 J (iM) (map_spec W0 _ (s := x.s) (m := x.m) (f := x.f) (t := x.t) (k := 0) (r := x.r) h.L h.hq h.hqk h.hk (a : Int) (b : Int)) J (fun _ => iM) (fun _ => Imp.refl _) (fun _ => iM) ?_)
 rintro σ2 L2
 refine aQ (yV J J call210 J (Imp.refl _) (check_spec W0 _ (mapO qk S.o 0 a b).1) J (fun _ => iM) (fun _ => Imp.refl _) (fun _ => iM) (fun y hy => ?_) ?_)
 ·exact jX (jV (σ2, y) ⟨by unfold ocMap; dsimp only; rw [if_neg hy.1, hy.2], by have L3 := L2; rw [map_same hy.1] at L3; exact L3.mono (by omega)⟩ J iM)
 rintro ⟨⟩ h0
 exact pQ (bZ (cZ (aZ (gZ J (fZ (bZ (rZ (tV (yZ J J (σ2, ⟨0, 0, 0, { S with o := (mapO qk S.o 0 a b).2 }, R⟩) ⟨by unfold ocMap; dsimp only; rw [if_pos h0], L2.mono (by omega)⟩ J iM)))))))))
theorem m_unmap (h : HK qs rt σ cc x S qk) (ha : a < 4294967296) (hb : b < 4294967296) (hc : c < 4294967296) : Meth W0 Fr 174 cl x a b c rg S R qs rt σ cc (ocUnmap S R a) := by
 have hcc := h.hc
 unfold Meth
 refine CtrX.of_body func174 J ntmps174 J ?_
 dsimp only [mG, hG, WG, heB, clB]
 refine cZ (aZ (gZ J (fZ (bZ (cZ (qQ (.lo 0 1 (.lo 1 1 (.lo 2 1 (.lo 3 1 (.lo 4 1 (.lo 5 1 (.lo 6 1 (.lo 7 1 (.lo 8 1 (.lo 9 1 (.lo 10 1 (.lo 11 1 (.eff1 12 false (.eff1 13 false (.done))))))))))))))) [12, 13] [] ([]) ([]) mixed (by kernel_rfl) (Imp.none _) (Imp.none _) (nZ J J (dQ J J (wZ J fa137_0 J (hZ J (iZ ti25 J) ?_))))))))))
 refine dQ J J (wZ J fa83_1 J (hZ J (iZ ti53 J) ?_))
 refine nZ J J (dQ J J (wZ J fa137_1 J (hZ J (iZ ti27 J) ?_)))
 refine hZ J (by first | exact cQ underlying3 J J wO | exact cQ underlying3 J J J) ?_
 refine aQ (rQ J J call211 J (iM) (unmap_spec W0 _ (s := x.s) (m := x.m) (f := x.f) (t := x.t) (k := 0) (r := x.r) h.L h.hqk h.hk (a : Int)) J (fun _ => iM) (fun _ => Imp.refl _) (fun _ => iM) ?_)
 rintro σ2 L2
 refine aQ (yV J J call210 J (Imp.refl _) (check_spec W0 _ (unmapO S.o 0 a).1) J (fun _ => iM) (fun _ => Imp.refl _) (fun _ => iM) (fun y hy => ?_) ?_)
 ·exact jX (jV (σ2, y) ⟨by unfold ocUnmap; dsimp only; rw [if_neg hy.1, hy.2], by have L3 := L2; rw [unmap_same hy.1] at L3; exact L3.mono (by omega)⟩ J iM)
 rintro ⟨⟩ h0
 exact pQ (bZ (cZ (aZ (gZ J (fZ (bZ (rZ (tV (yZ J J (σ2, ⟨0, 0, 0, { S with o := (unmapO S.o 0 a).2 }, R⟩) ⟨by unfold ocUnmap; dsimp only; rw [if_pos h0], L2.mono (by omega)⟩ J iM)))))))))
theorem m_prot (h : HK qs rt σ cc x S qk) (ha : a < 4294967296) (hb : b < 4294967296) (hc : c < 4294967296) : Meth W0 Fr 175 cl x a b c rg S R qs rt σ cc (ocProt S R a b) := by
 have hcc := h.hc
 unfold Meth
 refine CtrX.of_body func175 J ntmps175 J ?_
 dsimp only [mG, hG, WG, heB, clB]
 refine cZ (aZ (gZ J (fZ (bZ (cZ (qQ (.lo 0 1 (.lo 1 1 (.lo 2 1 (.lo 3 1 (.lo 4 1 (.lo 5 1 (.lo 6 1 (.lo 7 1 (.lo 8 1 (.lo 9 1 (.lo 10 1 (.lo 11 1 (.lo 12 1 (.lo 13 1 (.lo 14 1 (.lo 15 1 (.lo 16 1 (.eff1 17 false (.eff1 18 false (.done)))))))))))))))))))) [17, 18] [] ([]) ([]) mixed (by kernel_rfl) (Imp.none _) (Imp.none _) (nZ J J (dQ J J (wZ J fa137_0 J (hZ J (iZ ti25 J) ?_))))))))))
 refine dQ J J (wZ J fa83_1 J (hZ J (iZ ti53 J) ?_))
 refine nZ J J (dQ J J (wZ J fa137_1 J (hZ J (iZ ti27 J) ?_)))
 refine hZ J (by first | exact cQ underlying3 J J wO | exact cQ underlying3 J J J) ?_
 refine nZ J J (dQ J J (wZ J fa137_2 J (hZ J (iZ ti27 J) ?_)))
 refine hZ J (by first | exact cQ underlying3 J J wO | exact cQ underlying3 J J J) ?_
 refine aQ (rQ J J call212 J (iM) (protect_spec W0 _ (s := x.s) (m := x.m) (f := x.f) (t := x.t) (k := 0) (r := x.r) h.L h.hk (a : Int) (b : Int)) J (fun _ => iM) (fun _ => Imp.refl _) (fun _ => iM) ?_)
 rintro σ2 L2
 refine aQ (yV J J call210 J (Imp.refl _) (check_spec W0 _ (protO S.o 0 a b).1) J (fun _ => iM) (fun _ => Imp.refl _) (fun _ => iM) (fun y hy => ?_) ?_)
 ·exact jX (jV (σ2, y) ⟨by unfold ocProt; dsimp only; rw [if_neg hy.1, hy.2], by have L3 := L2; rw [prot_same hy.1] at L3; exact L3.mono (by omega)⟩ J iM)
 rintro ⟨⟩ h0
 exact pQ (bZ (cZ (aZ (gZ J (fZ (bZ (rZ (tV (yZ J J (σ2, ⟨0, 0, 0, { S with o := (protO S.o 0 a b).2 }, R⟩) ⟨by unfold ocProt; dsimp only; rw [if_pos h0], L2.mono (by omega)⟩ J iM)))))))))
theorem m_write (h : HK qs rt σ cc x S qk) (ha : a < 4294967296) (hb : b < 4294967296) (hc : c < 4294967296) : Meth W0 Fr 176 cl x a b c rg S R qs rt σ cc (ocWrite S R a b) := by
 have hcc := h.hc
 unfold Meth
 refine CtrX.of_body func176 J ntmps176 J ?_
 dsimp only [mG, hG, WG, heB, clB]
 refine cZ (aZ (gZ J (fZ (bZ (cZ (qQ (.lo 0 0 (.lo 1 0 (.lo 2 0 (.lo 3 0 (.lo 4 0 (.lo 5 1 (.lo 6 1 (.lo 7 1 (.lo 8 1 (.eff1 9 false (.eff1 10 false (.lo 11 1 (.done))))))))))))) [9, 10] [] ([clB cl x a b c rg 0 0]) ([]) mixed (by kernel_rfl) iM (Imp.none _) ?_))))))
 refine nZ J J (nZ J J (dQ J J (wZ J fa137_1 J (hZ J (iZ ti27 J) ?_))))
 refine nZ J J (dQ J J (wZ J fa137_2 J (hZ J (iZ ti27 J) ?_)))
 refine aQ (yV J J call214 J (Imp.refl _) (atMost_spec W0 _ (n := b) (most := 64) hb (by decide)) J (fun _ => iM) (fun _ => Imp.refl _) (fun _ => iM) (fun y hy => ?_) ?_)
 ·exact jX (jV (σ, 3) ⟨by unfold ocWrite; rw [if_pos (by omega)], h.L.mono (by omega)⟩ (by rw [hy.2]) iM)
 rintro ⟨⟩ hm
 refine aQ (yV J J call213 J (iM) (in_c W0 _ (cl := cl) (a := a) (b := b) (c := c) (rg := rg) (R := R) h (ad := a) (n := b) ha (by omega)) J (fun _ => iM) (fun _ => Imp.refl _) (fun _ => iM) (fun y hy => ?_) ?_)
 ·exact jX (jV y ⟨by unfold ocWrite; dsimp only; rw [if_neg (by omega), if_neg hy.1, hy.2.1], hy.2.2.mono (by omega)⟩ J iM)
 rintro ⟨ia, ic, ib, σ2⟩ ⟨h0, hib, L2⟩
 dsimp only [mG, hG, WG, heB, clB] at h0 hib L2 ⊢
 refine hZ J (jQ J) (pQ (bZ (cZ (aZ (eZ J (eZ J (zZ J (pZ fa137_0 J (dZ (iZ ti25 J) ?_)))))))))
 refine zZ J (pZ fa83_3 J (dZ (iZ ti55 J) ?_))
 refine eZ J (oZ call20 J (iM) (Vc.writeB W0 _ (g := x.k) (out := S.out) (inn := S.inn) (ds := ib) (a2 := ia) (c2 := ic) (by exact RdB.of_osl (E := 5) eX J J) (by rw [hib]; have := inO_le S.o 0 a b; omega)) J ?_)
 rintro ⟨⟩ -
 refine zZ J (pZ fa137_5 J (sQ (uQ ti3 J J fC J (by first | (simp; done) | decide)) J ?_))
 rintro ⟨⟩ -
 refine fZ (bZ (cZ (aZ (eZ J (zZ J (pZ fa137_5 J (dZ (iZ ti3 J) ?_)))))))
 refine dZ (cQ (c := ((min ib.length (64 - S.out.length) : Nat) : Int)) underlying27 J J (wu32 (by omega) (by omega))) ?_
 refine gZ J (fZ (bZ (rZ ?_)))
 subst hib
 exact tV (yZ J J (σ2, ⟨_, _, 0, wrO S (inO S.o 0 a b).1, R⟩) ⟨by unfold ocWrite; dsimp only; rw [if_neg (by omega), if_pos h0], L2.mono (by omega)⟩ J iM)
theorem m_read (h : HK qs rt σ cc x S qk) (ha : a < 4294967296) (hb : b < 4294967296) (hc : c < 4294967296) : Meth W0 Fr 177 cl x a b c rg S R qs rt σ cc (ocRead S R a b) := by
 have hcc := h.hc
 unfold Meth
 refine CtrX.of_body func177 J ntmps177 J ?_
 dsimp only [mG, hG, WG, heB, clB]
 refine cZ (aZ (gZ J (fZ (bZ (cZ (aZ (eZ J (zZ J (pZ fa137_2 J (dZ (iZ ti27 J) ?_))))))))))
 refine OG.callx call214 J (Imp.refl _) (atMost_spec W0 _ (n := b) (most := 64) hb (by decide)) J (fun y hy => ?_) ?_
 ·exact jX (jV (σ, 3) ⟨by unfold ocRead; rw [if_pos (by omega)], h.L.mono (by omega)⟩ (by rw [hy.2]) iM)
 rintro ⟨⟩ hm
 refine gZ J (fZ (bZ (cZ (aZ (eZ J (zZ J (pZ fa137_0 J (dZ (iZ ti25 J) ?_))))))))
 refine zZ J (pZ fa83_3 J (dZ (iZ ti55 J) ?_))
 refine oZ call36 J (iM) (Vc.in_spec W0 _ (g := x.k) (out := S.out) (inn := S.inn)) J ?_
 rintro ⟨ia, ic⟩ -
 dsimp only
 refine gZ J (fZ (bZ (cZ (lX (fun w hw => (osl_facts (W0 := W0) (E := 5) (sz := 1) (a := ia) (c := ic) (m := S.inn.length) (xs := bytesV S.inn) eX w hw).2) ?_))))
 intro hcap
 have htk : (S.inn.take b).length = min b S.inn.length := List.length_take
 refine aZ (eZ J (eZ J (eZ J (dZ (sZ underlying32 J J) (dZ (oQ (mV J J) (v' := .int .i64 ((S.inn.take b).length : Nat)) (by rw [htk, show min (b : Int) (S.inn.length : Int) = ((min b S.inn.length : Nat) : Int) by omega])) ?_)))))
 refine dZ (oQ (sV underlying32 ti5 J (Bound.some J) (by omega) (by omega)) (v' := .slice ia (S.inn.take b).length ic) (by rw [Int.toNat_natCast])) ?_
 refine gZ J (fZ (bZ (cZ (qQ (.lo 0 1 (.lo 1 1 (.lo 2 1 (.lo 3 1 (.lo 4 1 (.lo 5 1 (.lo 6 1 (.lo 7 1 (.lo 8 1 (.lo 9 1 (.lo 10 1 (.lo 11 1 (.eff1 12 false (.eff1 13 false (.done))))))))))))))) [12, 13] [] ([]) ([]) mixed (by kernel_rfl) (Imp.none _) (Imp.none _) (nZ J J (dQ J J (wZ J fa137_0 J (hZ J (iZ ti25 J) ?_))))))))
 refine dQ J J (wZ J fa83_1 J (hZ J (iZ ti53 J) ?_))
 refine nZ J J (dQ J J (wZ J fa137_1 J (hZ J (iZ ti27 J) ?_)))
 refine nZ J J (aQ (rQ J J call32 J (iM) (out_of W0 _ (s := x.s) (m := x.m) (f := x.f) (t := x.t) (k := 0) (r := x.r) (ba := ia) (bc := ic) (b := S.inn.take b) (by exact RdB.of_slR (SlR.takeB (SlR.of_osl (E := 5) (a := ia) eX) b) (by omega)) h.L h.hk (by omega) (ad := a) ha) J (fun _ => iM) (fun _ => Imp.refl _) (fun _ => iM) ?_))
 rintro σ2 L2
 refine aQ (yV J J call210 J (Imp.refl _) (check_spec W0 _ (outR S.o 0 a (S.inn.take b)).1) J (fun _ => iM) (fun _ => Imp.refl _) (fun _ => iM) (fun y hy => ?_) ?_)
 ·refine jX ?_
  exact jV (σ2, y) ⟨by unfold ocRead; dsimp only; rw [if_neg (by omega), if_neg hy.1, hy.2], by have L3 := L2; rw [out_same hy.1] at L3; exact L3⟩ J iM
 rintro ⟨⟩ h0
 refine pQ (bZ (cZ (aZ (eZ J (eZ J (zZ J (pZ fa137_0 J (dZ (iZ ti25 J) ?_))))))))
 refine zZ J (pZ fa83_3 J (dZ (iZ ti55 J) ?_))
 refine eZ J (dZ (sZ underlying32 J J) (oZ call26 J (iM) (Vc.readB W0 _ (g := x.k) (out := S.out) (inn := S.inn) ((S.inn.take b).length : Int)) J ?_))
 rintro ⟨ja, jc⟩ -
 have hko : Vc.kOf ((S.inn.take b).length : Int) S.inn.length = (S.inn.take b).length := by unfold Vc.kOf; omega
 have htt : S.inn.take (S.inn.take b).length = S.inn.take b := by rw [htk, List.take_eq_take_iff]; omega
 have hdd : S.inn.drop (S.inn.take b).length = S.inn.drop b := by
  rw [htk]
  by_cases q : b ≤ S.inn.length
  ·rw [Nat.min_eq_left q]
  ·rw [Nat.min_eq_right (by omega), List.drop_length, List.drop_eq_nil_of_le (by omega)]
 rw [hko, htt, hdd]
 refine dZ (sZ underlying32 J J) (zZ J (pZ fa137_5 J (sQ (uQ ti3 J J fC J (by first | (simp; done) | decide)) J ?_)))
 rintro ⟨⟩ -
 refine fZ (bZ (cZ (aZ (eZ J (zZ J (pZ fa137_5 J (dZ (iZ ti3 J) ?_)))))))
 refine dZ (cQ (c := ((S.inn.take b).length : Int)) underlying27 J J (wu32 (by omega) (by omega))) ?_
 exact gZ J (fZ (bZ (rZ (tV (yZ J J (σ2, ⟨_, _, 0, { S with o := (outR S.o 0 a (S.inn.take b)).2, inn := S.inn.drop b }, R⟩) ⟨by unfold ocRead; dsimp only; rw [if_neg (by omega), if_pos h0], L2⟩ J iM)))))
theorem m_diskR (h : HK qs rt σ cc x S qk) (ha : a < 4294967296) (hb : b < 4294967296) (hc : c < 4294967296) : Meth W0 Fr 178 cl x a b c rg S R qs rt σ cc (ocDiskR S R a b) := by
 have hcc := h.hc
 unfold Meth
 refine CtrX.of_body func178 J ntmps178 J ?_
 dsimp only [mG, hG, WG, heB, clB]
 refine cZ (aZ (gZ J (fZ (bZ (cZ (aZ (eZ J (eZ J (zZ J (pZ fa137_2 J (dZ (iZ ti27 J) ?_)))))))))))
 refine OG.callx call215 J (iM) (open_c W0 _ (cl := cl) (a := a) (b := b) (c := c) (rg := rg) (R := R) h (ad := b) hb) J (fun y hy => ?_) ?_
 ·exact jX (jV (σ, 2) ⟨by unfold ocDiskR; rw [hy.1]; rfl, h.L.mono (by omega)⟩ (by rw [hy.2]) iM)
 rintro ⟨⟩ hro
 dsimp only [mG, hG, WG, heB, clB]
 refine fZ (bZ (cZ (qQ (.lo 0 1 (.lo 1 1 (.lo 2 1 (.lo 3 1 (.lo 4 1 (.lo 5 1 (.lo 6 1 (.lo 7 1 (.lo 8 1 (.lo 9 1 (.lo 10 1 (.lo 11 1 (.lo 12 1 (.lo 13 1 (.lo 14 1 (.lo 15 1 (.lo 16 1 (.lo 17 1 (.lo 18 1 (.lo 19 1 (.lo 20 1 (.lo 21 1 (.lo 22 1 (.eff1 23 false (.lo 24 1 (.lo 25 1 (.lo 26 1 (.lo 27 1 (.lo 28 1 (.done)))))))))))))))))))))))))))))) [23] [] ([]) ([]) mixed (by kernel_rfl) (Imp.none _) (Imp.none _) (nZ J J (dQ J J (wZ J fa137_0 J (hZ J (iZ ti25 J) ?_)))))))
 refine dQ J J (wZ J fa83_4 J (hZ J (iZ ti56 J) ?_))
 refine nZ J J (dQ J J (wZ J fa137_1 J (hZ J (iZ ti27 J) ?_)))
 refine hZ J (by first | exact cQ underlying3 J J wO | exact cQ underlying3 J J J) ?_
 refine nZ J J (dQ J J (wZ J fa137_2 J (hZ J (iZ ti27 J) ?_)))
 refine nZ J J (dQ J J (wZ J fa137_0 J (hZ J (iZ ti25 J) ?_)))
 refine dQ J J (wZ J fa83_7 J (hZ J (iZ ti3 J) ?_))
 refine aQ (rQ J J call91 J (iM) (sub_spec W0 _ (d := x.d) (s := S.d) (write := false) (sector := a) (addr := b) (major := S.major) (da := none) (dc := 0) (data := []) (RdB.of_slR SlR.nil (Nat.le_refl _)) (by decide)) J (fun _ => iM) (fun _ => Imp.refl _) (fun _ => iM) ?_)
 rintro ⟨⟩ -
 refine nZ J J (hZ J (xZ J J) (hZ J (xZ J J) (hZ J (jQ J) (hZ J (jQ J) (pQ (bZ (cZ (aZ (eZ J (OG.callx call210 J (Imp.refl _) (check_spec W0 _ (subP S.d false a b [] S.major).2.1) J (fun y hy => ?_) ?_))))))))))
 ·exact jX (jV (σ, y) ⟨by unfold ocDiskR; dsimp only; rw [if_pos hro, if_neg hy.1, hy.2], h.L.mono (by omega)⟩ J (by rw [sub_same hy.1]; exact iM))
 rintro ⟨⟩ h0
 exact fZ (bZ (cZ (aZ (eZ J (gZ J (fZ (bZ (rZ (tV (yZ J J (σ, ⟨_, 0, 0, { S with d := (subP S.d false a b [] S.major).2.2 }, R⟩) ⟨by unfold ocDiskR; dsimp only; rw [if_pos hro, if_pos h0], h.L.mono (by omega)⟩ J iM))))))))))
theorem m_diskW (h : HK qs rt σ cc x S qk) (ha : a < 4294967296) (hb : b < 4294967296) (hc : c < 4294967296) : Meth W0 Fr 179 cl x a b c rg S R qs rt σ cc (ocDiskW S R a b) := by
 have hcc := h.hc
 unfold Meth
 refine CtrX.of_body func179 J ntmps179 J ?_
 dsimp only [mG, hG, WG, heB, clB]
 refine cZ (aZ (gZ J (fZ (bZ (cZ (aZ (eZ J (eZ J (zZ J (pZ fa137_2 J (dZ (iZ ti27 J) ?_)))))))))))
 refine OG.callx call213 J (iM) (in_c W0 _ (cl := cl) (a := a) (b := b) (c := c) (rg := rg) (R := R) h (ad := b) (n := 64) hb (by decide)) J (fun y hy => ?_) ?_
 ·exact jX (jV y ⟨by unfold ocDiskW; dsimp only; rw [if_neg hy.1, hy.2.1], hy.2.2.mono (by omega)⟩ J iM)
 rintro ⟨ia, ic, ib, σ2⟩ ⟨h0, hib, L2⟩
 dsimp only [mG, hG, WG, heB, clB] at h0 hib L2 ⊢
 subst hib
 refine gZ J (fZ (bZ (cZ (qQ (.lo 0 1 (.lo 1 1 (.lo 2 1 (.lo 3 1 (.lo 4 1 (.lo 5 1 (.lo 6 1 (.lo 7 1 (.lo 8 1 (.lo 9 1 (.lo 10 1 (.lo 11 1 (.lo 12 1 (.lo 13 1 (.lo 14 1 (.lo 15 1 (.lo 16 1 (.lo 17 1 (.lo 18 1 (.lo 19 1 (.lo 20 1 (.lo 21 1 (.lo 22 1 (.lo 23 1 (.eff1 24 false (.lo 25 1 (.lo 26 1 (.lo 27 1 (.lo 28 1 (.lo 29 1 (.done))))))))))))))))))))))))))))))) [24] [] ([]) ([]) mixed (by kernel_rfl) (Imp.none _) (Imp.none _) (nZ J J (dQ J J (wZ J fa137_0 J (hZ J (iZ ti25 J) ?_))))))))
 refine dQ J J (wZ J fa83_4 J (hZ J (iZ ti56 J) ?_))
 refine nZ J J (dQ J J (wZ J fa137_1 J (hZ J (iZ ti27 J) ?_)))
 refine hZ J (by first | exact cQ underlying3 J J wO | exact cQ underlying3 J J J) ?_
 refine nZ J J (dQ J J (wZ J fa137_2 J (hZ J (iZ ti27 J) ?_)))
 refine nZ J J (nZ J J (dQ J J (wZ J fa137_0 J (hZ J (iZ ti25 J) ?_))))
 refine dQ J J (wZ J fa83_7 J (hZ J (iZ ti3 J) ?_))
 refine aQ (rQ J J call91 J (iM) (sub_spec W0 _ (d := x.d) (s := S.d) (write := true) (sector := a) (addr := b) (major := S.major) (da := ia) (dc := ic) (data := (inO S.o 0 b ((64 : Nat) : Int)).1) (by exact RdB.of_osl (E := 5) eX J J) (by have := inO_le S.o 0 b 64; omega)) J (fun _ => iM) (fun _ => Imp.refl _) (fun _ => iM) ?_)
 rintro ⟨⟩ -
 refine nZ J J (hZ J (xZ J J) (hZ J (xZ J J) (hZ J (jQ J) (hZ J (jQ J) (pQ (bZ (cZ (aZ (eZ J (OG.callx call210 J (Imp.refl _) (check_spec W0 _ (subP S.d true a b (inO S.o 0 b ((64 : Nat) : Int)).1 S.major).2.1) J (fun y hy => ?_) ?_))))))))))
 ·exact jX (jV (σ2, y) ⟨by unfold ocDiskW; dsimp only; rw [if_pos h0, if_neg hy.1, hy.2], L2.mono (by omega)⟩ J (by rw [sub_same hy.1]; exact iM))
 rintro ⟨⟩ h1
 refine fZ (bZ (cZ (aZ (eZ J (eZ J (dZ (sZ underlying32 J J) (zZ J (pZ fa137_5 J (sQ (uQ ti3 J J fC J (by first | (simp; done) | decide)) J ?_)))))))))
 rintro ⟨⟩ -
 exact fZ (bZ (cZ (aZ (eZ J (gZ J (fZ (bZ (rZ (tV (yZ J J (σ2, ⟨_, _, 0, { S with d := (subP S.d true a b (inO S.o 0 b ((64 : Nat) : Int)).1 S.major).2.2 }, R⟩) ⟨by unfold ocDiskW; dsimp only; rw [if_pos h0, if_pos h1], L2.mono (by omega)⟩ J iM))))))))))
theorem m_send (h : HK qs rt σ cc x S qk) (ha : a < 4294967296) (hb : b < 4294967296) (hc : c < 4294967296) : Meth W0 Fr 180 cl x a b c rg S R qs rt σ cc (ocSend S R a b c) := by
 have hcc := h.hc
 unfold Meth
 refine CtrX.of_body func180 J ntmps180 J ?_
 dsimp only [mG, hG, WG, heB, clB]
 refine cZ (aZ (gZ J (fZ (bZ (cZ (qQ (.lo 0 0 (.lo 1 0 (.lo 2 0 (.lo 3 0 (.lo 4 0 (.lo 5 1 (.lo 6 1 (.lo 7 1 (.lo 8 1 (.eff1 9 false (.eff1 10 false (.lo 11 1 (.done))))))))))))) [9, 10] [] ([clB cl x a b c rg 0 0]) ([]) mixed (by kernel_rfl) iM (Imp.none _) ?_))))))
 refine nZ J J (nZ J J (dQ J J (wZ J fa137_2 J (hZ J (iZ ti27 J) ?_))))
 refine nZ J J (dQ J J (wZ J fa137_3 J (hZ J (iZ ti27 J) ?_)))
 refine aQ (yV J J call214 J (Imp.refl _) (atMost_spec W0 _ (n := c) (most := 64) hc (by decide)) J (fun _ => iM) (fun _ => Imp.refl _) (fun _ => iM) (fun y hy => ?_) ?_)
 ·exact jX (jV (σ, 3) ⟨by unfold ocSend; rw [if_pos (by omega)], h.L.mono (by omega)⟩ (by rw [hy.2]) iM)
 rintro ⟨⟩ hm
 refine aQ (yV J J call213 J (iM) (in_c W0 _ (cl := cl) (a := a) (b := b) (c := c) (rg := rg) (R := R) h (ad := b) (n := c) hb (by omega)) J (fun _ => iM) (fun _ => Imp.refl _) (fun _ => iM) (fun y hy => ?_) ?_)
 ·exact jX (jV y ⟨by unfold ocSend; dsimp only; rw [if_neg (by omega), if_neg hy.1, hy.2.1], hy.2.2.mono (by omega)⟩ J iM)
 rintro ⟨ia, ic, ib, σ2⟩ ⟨h0, hib, L2⟩
 dsimp only [mG, hG, WG, heB, clB] at h0 hib L2 ⊢
 subst hib
 refine hZ J (jQ J) (pQ (bZ (cZ (qQ (.lo 0 1 (.lo 1 1 (.lo 2 1 (.lo 3 1 (.lo 4 1 (.lo 5 1 (.lo 6 1 (.lo 7 1 (.lo 8 1 (.lo 9 1 (.lo 10 1 (.lo 11 1 (.lo 12 1 (.lo 13 1 (.lo 14 1 (.lo 15 1 (.lo 16 1 (.lo 17 1 (.lo 18 1 (.lo 19 1 (.eff1 20 false (.eff1 21 false (.done))))))))))))))))))))))) [20, 21] [] ([]) ([]) mixed (by kernel_rfl) (Imp.none _) (Imp.none _) (nZ J J (dQ J J (wZ J fa137_0 J (hZ J (iZ ti25 J) ?_))))))))
 refine dQ J J (wZ J fa83_5 J (hZ J (iZ ti62 J) ?_))
 refine nZ J J (dQ J J (wZ J fa137_0 J (hZ J (iZ ti25 J) ?_)))
 refine dQ J J (wZ J fa83_0 J (hZ J (iZ ti3 J) ?_))
 refine nZ J J (dQ J J (wZ J fa137_1 J (hZ J (iZ ti27 J) ?_)))
 refine hZ J (by first | exact cQ underlying3 J J wO | exact cQ underlying3 J J J) ?_
 refine nZ J J (aQ (rQ J J call44 J (iM) (snd_spec W0 _ (p := x.p) (acs := S.acs) 0 (a : Int) (a := ia) (c := ic) (bs := (inO S.o 0 b (c : Int)).1) (SlR.of_osl (E := 5) (a := ia) eX) (by have := inO_le S.o 0 b c; omega)) J (fun _ => iM) (fun _ => Imp.refl _) (fun _ => iM) ?_))
 rintro ⟨⟩ -
 refine aQ (yV J J call210 J (Imp.refl _) (check_spec W0 _ (sndP S.acs 0 (a : Int) (inO S.o 0 b (c : Int)).1).1) J (fun _ => iM) (fun _ => Imp.refl _) (fun _ => iM) (fun y hy => ?_) ?_)
 ·exact jX (jV (σ2, y) ⟨by unfold ocSend; dsimp only; rw [if_neg (by omega), if_pos h0, if_neg hy.1, hy.2], L2.mono (by omega)⟩ J (by rw [snd_same hy.1]; exact iM))
 rintro ⟨⟩ h1
 refine pQ (bZ (cZ (aZ (eZ J (eZ J (dZ (sZ underlying32 J J) (zZ J (pZ fa137_5 J (sQ (uQ ti3 J J fC J (by first | (simp; done) | decide)) J ?_)))))))))
 rintro ⟨⟩ -
 exact fZ (bZ (cZ (aZ (gZ J (fZ (bZ (rZ (tV (yZ J J (σ2, ⟨_, _, 0, { S with acs := (sndP S.acs 0 (a : Int) (inO S.o 0 b (c : Int)).1).2 }, R⟩) ⟨by unfold ocSend; dsimp only; rw [if_neg (by omega), if_pos h0, if_pos h1], L2.mono (by omega)⟩ J iM)))))))))
theorem m_recv (h : HK qs rt σ cc x S qk) (ha : a < 4294967296) (hb : b < 4294967296) (hc : c < 4294967296) : Meth W0 Fr 181 cl x a b c rg S R qs rt σ cc (ocRecv S R a b c) := by
 have hcc := h.hc
 unfold Meth
 refine CtrX.of_body func181 J ntmps181 J ?_
 dsimp only [mG, hG, WG, heB, clB]
 refine cZ (aZ (gZ J (fZ (bZ (cZ (aZ (eZ J (zZ J (pZ fa137_3 J (dZ (iZ ti27 J) ?_))))))))))
 refine OG.callx call214 J (Imp.refl _) (atMost_spec W0 _ (n := c) (most := 64) hc (by decide)) J (fun y hy => ?_) ?_
 ·exact jX (jV (σ, 3) ⟨by unfold ocRecv; rw [if_pos (by omega)], h.L.mono (by omega)⟩ (by rw [hy.2]) iM)
 rintro ⟨⟩ hm
 refine gZ J (fZ (bZ (cZ (qQ (.lo 0 1 (.lo 1 1 (.lo 2 1 (.lo 3 1 (.lo 4 1 (.lo 5 1 (.lo 6 1 (.lo 8 0 (.lo 9 0 (.lo 10 0 (.lo 11 0 (.lo 12 0 (.lo 13 0 (.lo 14 0 (.lo 15 0 (.lo 16 0 (.lo 17 0 (.lo 18 0 (.lo 19 0 (.eff1 7 false (.eff1 20 false (.lo 21 1 (.lo 22 1 (.lo 23 1 (.lo 24 1 (.lo 25 1 (.done))))))))))))))))))))))))))) [7, 20] [] ([clB cl x a b c rg 0 0, heB x S]) ([]) mixed (by kernel_rfl) iM (Imp.none _) ?_))))
 refine nZ J J (dQ J J (wZ J fa137_0 J (hZ J (iZ ti25 J) ?_)))
 refine dQ J J (wZ J fa83_5 J (hZ J (iZ ti62 J) ?_))
 refine nZ J J (dQ J J (wZ J fa137_0 J (hZ J (iZ ti25 J) ?_)))
 refine dQ J J (wZ J fa83_0 J (hZ J (iZ ti3 J) ?_))
 refine nZ J J (dQ J J (wZ J fa137_1 J (hZ J (iZ ti27 J) ?_)))
 refine hZ J (by first | exact cQ underlying3 J J wO | exact cQ underlying3 J J J) ?_
 refine aQ (rQ J J call216 J (iM) (Po.clone_spec W0 _ (p := x.p) (acs := S.acs)) J (fun _ => iM) (fun _ => Imp.refl _) (fun _ => iM) ?_)
 rintro u -
 refine aQ (rQ J J call59 J (iM) (rcv_spec W0 _ (p := u) (acs := S.acs) 0 (a : Int)) J (fun _ => iM) (fun _ => Imp.refl _) (fun _ => iM) ?_)
 rintro ⟨ba, bc, bb⟩ hbb
 dsimp only at hbb ⊢
 have hbl : bb.length ≤ 64 ∨ True := .inr trivial
 refine nZ J J (hZ J (xZ J J) (hZ J (xZ J J) (hZ J (jQ J) (hZ J (jQ J) (pQ (bZ (cZ (aZ (eZ J (OG.callx call210 J (Imp.refl _) (check_spec W0 _ (rcvP S.acs 0 (a : Int)).1) J (fun y hy => ?_) ?_))))))))))
 ·exact jX (jV (σ, y) ⟨by unfold ocRecv; dsimp only; rw [if_neg (by omega), if_neg hy.1, hy.2], h.L.mono (by omega)⟩ J iM)
 rintro ⟨⟩ h0
 refine fZ (bZ (cZ (cZ (aZ (eZ J (dZ (sZ underlying32 J J) (eZ J (dZ (qV J J) (fZ (bZ (lQ J (fun hc => ?_) (fun hc => ?_))))))))))))
 ·try replace hc := odT hc
  refine aZ (dZ (bV underlying235 (by intro _ h; cases h) J) ?_)
  exact vV J (jX (jV (σ, 3) ⟨by unfold ocRecv; dsimp only; rw [if_neg (by omega), if_pos h0, if_pos (by rw [← hbb]; omega)], h.L.mono (by omega)⟩ J iM))
 ·try replace hc := odF hc
  refine uZ (bZ (cZ (qQ (.lo 0 1 (.lo 1 1 (.lo 2 1 (.lo 3 1 (.lo 4 1 (.lo 5 1 (.lo 6 1 (.lo 7 1 (.lo 8 1 (.lo 9 1 (.lo 10 1 (.lo 11 1 (.eff1 12 false (.eff1 13 false (.done))))))))))))))) [12, 13] [] ([]) ([]) mixed (by kernel_rfl) (Imp.none _) (Imp.none _) (nZ J J (dQ J J (wZ J fa137_0 J (hZ J (iZ ti25 J) ?_)))))))
  refine dQ J J (wZ J fa83_1 J (hZ J (iZ ti53 J) ?_))
  refine nZ J J (dQ J J (wZ J fa137_2 J (hZ J (iZ ti27 J) ?_)))
  refine nZ J J (aQ (rQ J J call32 J (iM) (out_of W0 _ (s := x.s) (m := x.m) (f := x.f) (t := x.t) (k := 0) (r := x.r) (ba := ba) (bc := bc) (b := bb) (by exact RdB.of_osl (E := 5) eX J J) h.L h.hk (by omega) (ad := b) hb) J (fun _ => iM) (fun _ => Imp.refl _) (fun _ => iM) ?_))
  rintro σ2 L2
  refine aQ (yV J J call210 J (Imp.refl _) (check_spec W0 _ (outR S.o 0 b bb).1) J (fun _ => iM) (fun _ => Imp.refl _) (fun _ => iM) (fun y hy => ?_) ?_)
  ·refine jX ?_
   exact jV (σ2, y) ⟨by unfold ocRecv; dsimp only; rw [if_neg (by omega), if_pos h0, if_neg (by rw [← hbb]; omega), ← hbb, if_neg hy.1, hy.2], by have L3 := L2; rw [out_same hy.1] at L3; exact L3⟩ J iM
  rintro ⟨⟩ h1
  refine pQ (bZ (cZ (qQ (.lo 0 1 (.lo 1 1 (.lo 2 1 (.lo 3 1 (.lo 4 1 (.lo 5 1 (.lo 6 1 (.lo 7 1 (.lo 8 1 (.lo 9 1 (.lo 10 1 (.lo 11 1 (.lo 12 1 (.lo 13 1 (.lo 14 1 (.lo 15 1 (.lo 16 1 (.lo 17 1 (.lo 18 1 (.eff1 19 false (.done))))))))))))))))))))) [19] [] ([]) ([]) mixed (by kernel_rfl) (Imp.none _) (Imp.none _) (nZ J J (dQ J J (wZ J fa137_0 J (hZ J (iZ ti25 J) ?_)))))))
  refine dQ J J (wZ J fa83_5 J (hZ J (iZ ti62 J) ?_))
  refine nZ J J (dQ J J (wZ J fa137_0 J (hZ J (iZ ti25 J) ?_)))
  refine dQ J J (wZ J fa83_0 J (hZ J (iZ ti3 J) ?_))
  refine nZ J J (dQ J J (wZ J fa137_1 J (hZ J (iZ ti27 J) ?_)))
  refine hZ J (by first | exact cQ underlying3 J J wO | exact cQ underlying3 J J J) ?_
  refine aQ (rQ J J call59 J (iM) (rcv_spec W0 _ (p := x.p) (acs := S.acs) 0 (a : Int)) J (fun _ => iM) (fun _ => Imp.refl _) (fun _ => iM) ?_)
  rintro ⟨ba2, bc2, bb2⟩ hbb2
  dsimp only at hbb2 ⊢
  refine pQ (bZ (cZ (aZ (eZ J (eZ J (dZ (sZ underlying32 J J) (zZ J (pZ fa137_5 J (sQ (uQ ti3 J J fC J (by first | (simp; done) | decide)) J ?_)))))))))
  rintro ⟨⟩ -
  exact fZ (bZ (cZ (aZ (eZ J (dZ (sZ underlying32 J J) (dZ (cQ (c := w32 (bb.length : Int)) underlying27 J J J) (gZ J (fZ (bZ (rZ (tV (yZ J J (σ2, ⟨w32 (bb.length : Int), (bb.length : Int), 0, { S with o := (outR S.o 0 b bb).2, acs := (rcvP S.acs 0 (a : Int)).2.2 }, R⟩) ⟨by unfold ocRecv; dsimp only; rw [if_neg (by omega), if_pos h0, if_neg (by rw [← hbb]; omega), ← hbb, if_pos h1], L2⟩ J iM))))))))))))
theorem m_time (h : HK qs rt σ cc x S qk) (ha : a < 4294967296) (hb : b < 4294967296) (hc : c < 4294967296) (hR : R.length = 25) : Meth W0 Fr 182 cl x a b c rg S R qs rt σ cc (ocTime S R) := by
 have hcc := h.hc
 unfold Meth
 refine CtrX.of_body func182 J ntmps182 J ?_
 dsimp only [mG, hG, WG, heB, clB]
 refine cZ (aZ (gZ J (fZ (bZ (cZ (qQ (.lo 0 1 (.lo 1 1 (.lo 2 1 (.lo 3 1 (.lo 4 1 (.lo 5 1 (.lo 6 1 (.lo 7 1 (.lo 8 1 (.lo 9 1 (.lo 10 1 (.lo 11 1 (.lo 12 1 (.lo 13 1 (.lo 14 1 (.lo 15 1 (.eff1 16 false (.done)))))))))))))))))) [16] [] ([]) ([]) mixed (by kernel_rfl) (Imp.none _) (Imp.none _) (nZ J J (dQ J J (wZ J fa137_4 J (hZ J (iZ ti135 J) ?_))))))))))
 refine nZ J J (dQ J J (wZ J fa137_0 J (hZ J (iZ ti25 J) ?_)))
 refine dQ J J (wZ J fa83_6 J (hZ J (iZ ti3 J) ?_))
 refine hZ J (Yield.shr (m := 32) (c := S.time / 2 ^ 32) J J J (by decide) J) (hZ J (cQ (c := w32 (S.time / 2 ^ 32)) underlying27 J J J) (dQ J J (wZ J fa31_0 J (hZ J (bX underlying28 ti27 J J (by omega) (by omega)) ?_))))
 refine aQ (wQ J J (uQ ti27 J J fC J (by rw [hR]; decide)) J (fun _ => iM) (fun _ => Imp.refl _) (fun _ => iM) ?_)
 rintro ⟨⟩ -
 refine pQ (bZ (cZ (aZ (eZ J (zZ J (pZ fa137_0 J (dZ (iZ ti25 J) ?_)))))))
 refine zZ J (pZ fa83_6 J (dZ (iZ ti3 J) ?_))
 exact dZ (cQ (c := w32 S.time) underlying27 J J J) (gZ J (fZ (bZ (rZ (tV (yZ J J (σ, ⟨_, 0, 0, S, R.set 2 (.int .u32 (w32 (S.time / 2 ^ 32)))⟩) ⟨rfl, h.L.mono (by omega)⟩ J iM))))))
theorem m_timer (h : HK qs rt σ cc x S qk) (ha : a < 4294967296) (hb : b < 4294967296) (hc : c < 4294967296) : Meth W0 Fr 183 cl x a b c rg S R qs rt σ cc (ocTimer S R a b) := by
 have hcc := h.hc
 obtain ⟨tm, htm⟩ : ∃ t : Int, t = tmN a b := ⟨_, rfl⟩
 have hot : ocTimer S R a b = if 65536 < b then .inl 3 else if tmB tm = true then .inr ⟨0, 0, 0, { S with at' := tm, set := true }, R⟩ else .inl 3 := by rw [htm]; rfl
 rw [hot]
 unfold Meth
 refine CtrX.of_body func183 J ntmps183 J ?_
 dsimp only [mG, hG, WG, heB, clB]
 refine cZ (aZ (gZ J (fZ (bZ (cZ (aZ (eZ J (zZ J (pZ fa137_2 J (dZ (iZ ti27 J) ?_))))))))))
 refine OG.callx call214 J (Imp.refl _) (atMostT W0 _ (n := b) hb) J (fun y hy => ?_) ?_
 ·exact jX (jV (σ, 3) ⟨by rw [if_pos (by omega)], h.L.mono (by omega)⟩ (by rw [hy.2]) iM)
 rintro ⟨⟩ hm
 refine gZ J (fZ (bZ (cZ ?_)))
 by_cases hf2 : (tmB tm = true)
 ·refine qQ (.lo 0 1 (.lo 1 1 (.lo 2 1 (.lo 3 1 (.lo 4 1 (.lo 5 1 (.lo 6 1 (.lo 7 1 (.lo 8 1 (.lo 9 1 (.lo 10 1 (.lo 11 1 (.lo 12 1 (.lo 13 1 (.lo 14 1 (.eff1 15 false (.eff1 16 false (.done)))))))))))))))))) [15, 16] [] ([]) ([]) mixed (by kernel_rfl) (Imp.none _) (Imp.none _) (nZ J J (dQ J J (wZ J fa137_0 J (hZ J (iZ ti25 J) ?_))))
  refine dQ J J (wZ J fa83_2 J (hZ J (iZ ti54 J) ?_))
  refine nZ J J (hZ J (zV (m := 32) (c := IntKind.i64.wrap ((b : Int) * 2 ^ 32)) J J J (by decide) J) (nZ J J (dQ J J (wZ J fa137_1 J (hZ J (iZ ti27 J) ?_)))))
  refine hZ J (by first | exact cQ underlying3 J J wO | exact cQ underlying3 J J J) ?_
  refine hZ J (cV (c := tm) J J J (by rw [htm]; rfl)) ?_
  refine aQ (rQ J J call217 J (iM) (timer_ok W0 _ (v := x.v) (q := S.q) (p := S.p) (a' := S.at') (s := S.set) (of_decide_eq_true hf2)) J (fun _ => iM) (fun _ => Imp.refl _) (fun _ => iM) ?_)
  rintro ⟨⟩ -
  refine aQ (yV J J call210 J (Imp.refl _) (check_spec W0 _ 0) J (fun _ => iM) (fun _ => Imp.refl _) (fun _ => iM) (fun y hy => ?_) ?_)
  ·exact jX (absurd J hy.1)
  rintro ⟨⟩ h0
  exact pQ (bZ (cZ (aZ (gZ J (fZ (bZ (rZ (tV (yZ J J (σ, ⟨0, 0, 0, { S with at' := tm, set := true }, R⟩) ⟨by rw [if_neg (by omega), if_pos hf2], h.L.mono (by omega)⟩ J iM)))))))))
 ·refine qQ (.lo 0 1 (.lo 1 1 (.lo 2 1 (.lo 3 1 (.lo 4 1 (.lo 5 1 (.lo 6 1 (.lo 7 1 (.lo 8 1 (.lo 9 1 (.lo 10 1 (.lo 11 1 (.lo 12 1 (.lo 13 1 (.lo 14 1 (.eff1 15 false (.eff1 16 false (.done)))))))))))))))))) [15, 16] [] ([]) ([]) mixed (by kernel_rfl) (Imp.none _) (Imp.none _) (nZ J J (dQ J J (wZ J fa137_0 J (hZ J (iZ ti25 J) ?_))))
  refine dQ J J (wZ J fa83_2 J (hZ J (iZ ti54 J) ?_))
  refine nZ J J (hZ J (zV (m := 32) (c := IntKind.i64.wrap ((b : Int) * 2 ^ 32)) J J J (by decide) J) (nZ J J (dQ J J (wZ J fa137_1 J (hZ J (iZ ti27 J) ?_)))))
  refine hZ J (by first | exact cQ underlying3 J J wO | exact cQ underlying3 J J J) ?_
  refine hZ J (cV (c := tm) J J J (by rw [htm]; rfl)) ?_
  refine aQ (rQ J J call217 J (iM) (timer_bad W0 _ (v := x.v) (q := S.q) (p := S.p) (a' := S.at') (s := S.set) (fun q => hf2 (decide_eq_true q))) J (fun _ => iM) (fun _ => Imp.refl _) (fun _ => iM) ?_)
  rintro ⟨⟩ -
  refine aQ (yV J J call210 J (Imp.refl _) (check_spec W0 _ 2) J (fun _ => iM) (fun _ => Imp.refl _) (fun _ => iM) (fun y hy => ?_) ?_)
  ·exact jX (jV (σ, 3) ⟨by rw [if_neg (by omega), if_neg hf2], h.L.mono (by omega)⟩ (by rw [hy.2]; rfl) iM)
  rintro ⟨⟩ h0
  exact pQ (bZ (cZ (aZ (gZ J (fZ (bZ (rZ (absurd h0 (by decide)))))))))
theorem m_ack (h : HK qs rt σ cc x S qk) (ha : a < 4294967296) (hb : b < 4294967296) (hc : c < 4294967296) : Meth W0 Fr 184 cl x a b c rg S R qs rt σ cc (ocAck S R a) := by
 have hcc := h.hc
 unfold Meth
 refine CtrX.of_body func184 J ntmps184 J ?_
 dsimp only [mG, hG, WG, heB, clB]
 refine cZ (aZ (gZ J (fZ (bZ (cZ (qQ (.lo 0 1 (.lo 1 1 (.lo 2 1 (.lo 3 1 (.lo 4 1 (.lo 5 1 (.lo 6 1 (.lo 7 1 (.lo 8 1 (.lo 9 1 (.lo 10 1 (.eff1 11 false (.done))))))))))))) [11] [] ([]) ([]) mixed (by kernel_rfl) (Imp.none _) (Imp.none _) (nZ J J (dQ J J (wZ J fa137_0 J (hZ J (iZ ti25 J) ?_))))))))))
 refine dQ J J (wZ J fa83_2 J (hZ J (iZ ti54 J) ?_))
 refine nZ J J (dQ J J (wZ J fa137_1 J (hZ J (iZ ti27 J) ?_)))
 refine aQ (rQ J J call218 J (iM) (Vi.ack_spec W0 _ (v := x.v) (q := S.q) (p := S.p) (a := S.at') (s := S.set) (m := a) h.p ha) J (fun _ => iM) (fun _ => Imp.refl _) (fun _ => iM) ?_)
 rintro ⟨⟩ -
 exact pQ (bZ (cZ (aZ (gZ J (fZ (bZ (rZ (tV (yZ J J (σ, ⟨0, 0, 0, { S with p := Vi.clr S.p a }, R⟩) ⟨rfl, h.L.mono (by omega)⟩ J iM)))))))))
theorem m_info (h : HK qs rt σ cc x S qk) (ha : a < 4294967296) (hb : b < 4294967296) (hc : c < 4294967296) : Meth W0 Fr 185 cl x a b c rg S R qs rt σ cc (ocInfo S R a) := by
 have hcc := h.hc
 unfold Meth
 refine CtrX.of_body func185 J ntmps185 J ?_
 dsimp only [mG, hG, WG, heB, clB]
 refine cZ (aZ (gZ J (fZ (bZ (cZ (cZ (aZ (eZ J (zZ J (pZ fa137_1 J (dZ (iZ ti27 J) ?_)))))))))))
 refine fZ (bZ (mQ (cZ (aZ (dZ (yQ J J) (gZ J (fZ (bZ (lQ J (fun hc => ?_) (fun hc => ?_))))))))))
 ·try replace hc := odT hc
  refine cZ (aZ (eZ J (zZ J (pZ fa137_0 J (dZ (iZ ti25 J) ?_)))))
  refine zZ J (pZ fa83_0 J (dZ (iZ ti3 J) ?_))
  refine dZ (by first | exact cQ underlying27 J J (wu32 (by omega) (by omega)) | exact cQ underlying27 J J J) ?_
  refine gZ J (fZ (bZ (rZ (nQ (qZ ?_)))))
  obtain rfl : a = 0 := by omega
  exact tV (yZ J J (σ, ⟨0, 0, 0, S, R⟩) ⟨rfl, h.L.mono (by omega)⟩ J iM)
 ·try replace hc := odF hc
  have k1 : ¬ a = 0 := by omega
  refine cZ (aZ (dZ (yQ J J) (gZ J (fZ (bZ (lQ J (fun hc => ?_) (fun hc => ?_)))))))
  ·try replace hc := odT hc
   refine cZ (aZ (eZ J (zZ J (pZ fa137_0 J (dZ (iZ ti25 J) ?_)))))
   refine zZ J (pZ fa83_7 J (dZ (iZ ti3 J) ?_))
   refine dZ (cQ (c := w32 S.major) underlying27 J J J) (gZ J (fZ (bZ (rZ (nQ (qZ ?_))))))
   obtain rfl : a = 1 := by omega
   exact tV (yZ J J (σ, ⟨_, 0, 0, S, R⟩) ⟨rfl, h.L.mono (by omega)⟩ J iM)
  ·try replace hc := odF hc
   have k2 : ¬ a = 1 := by omega
   refine cZ (aZ (dZ (yQ J J) (gZ J (fZ (bZ (lQ J (fun hc => ?_) (fun hc => ?_)))))))
   ·try replace hc := odT hc
    refine cZ (aZ (eZ J (zZ J (pZ fa137_0 J (dZ (iZ ti25 J) ?_)))))
    refine zZ J (pZ fa83_4 J (dZ (iZ ti56 J) ?_))
    refine oZ call38 J (iM) (Vd.waiting_spec W0 _ (d := x.d) (s := S.d)) J ?_
    rintro ⟨ja, jc⟩ -
    refine dZ (sZ underlying37 J J) (dZ (cQ (c := w32 (S.d.asks.map Vd.Ak.tag).length) underlying27 J J J) (gZ J (fZ (bZ (rZ (nQ (qZ ?_)))))))
    obtain rfl : a = 2 := by omega
    exact tV (yZ J J (σ, ⟨_, 0, 0, S, R⟩) ⟨rfl, h.L.mono (by omega)⟩ J iM)
   ·try replace hc := odF hc
    have k3 : ¬ a = 2 := by omega
    refine cZ (aZ (dZ (yQ J J) (gZ J (fZ (bZ (lQ J (fun hc => ?_) (fun hc => ?_)))))))
    ·try replace hc := odT hc
     refine cZ (aZ (eZ J (zZ J (pZ fa137_0 J (dZ (iZ ti25 J) ?_)))))
     refine zZ J (pZ fa83_4 J (dZ (iZ ti56 J) ?_))
     refine oZ call39 J (iM) (Vd.told_spec W0 _ (d := x.d) (s := S.d)) J ?_
     rintro ⟨ja, jc⟩ -
     dsimp only
     refine gZ J (fZ (bZ (cZ (cZ (aZ (eZ J (dZ (sZ underlying37 J J) (dZ (yQ J J) (fZ (bZ (lQ J (fun hc => ?_) (fun hc => ?_))))))))))))
     ·try replace hc := odT hc
      refine cZ (aZ (gZ J (fZ (bZ (rZ (qZ (nQ (qZ ?_))))))))
      obtain rfl : a = 3 := by omega
      have hnil : S.d.told = [] := List.length_eq_zero_iff.1 (by omega)
      exact tV (yZ J J (σ, ⟨0, 0, 0, S, R⟩) ⟨by unfold ocInfo; simp [hnil], h.L.mono (by omega)⟩ J iM)
     ·try replace hc := odF hc
      obtain ⟨lst, hls⟩ : ∃ lst, S.d.told.getLast? = some lst := by
       cases hg : S.d.told.getLast? with
       | some y => exact ⟨y, rfl⟩
       | none => rw [List.getLast?_eq_none_iff.1 hg] at hc; exact absurd J hc
      have hgl : S.d.told[S.d.told.length - 1]? = some lst := by rw [← List.getLast?_eq_getElem?]; exact hls
      refine lX (fun w hw => SlR.shape (SlR.of_osl (W0 := W0) (E := 27) (a := ja) (c := jc) eX) (fun q => by have := congrArg List.length q; simp only [Ms.intsV, List.length_map, List.length_nil] at this; omega) w hw) ?_
      rintro ⟨jl, jo, rfl⟩
      have hto := h.told
      refine uZ (bZ (cZ (aZ (eZ J (eZ J (dZ (sZ underlying37 J J) (dZ (yX (c := ((S.d.told.length - 1 : Nat) : Int)) J J (by rw [show (S.d.told.length : Int) - 1 = ((S.d.told.length - 1 : Nat) : Int) by omega]; exact w64 (by omega) (by omega))) ?_)))))))
      refine dZ (lZ underlying37 ti27 J J (by omega) (by omega)) ?_
      refine dZ (jZ (v := .int .u32 lst) ti27 J (by rw [show jo + ((S.d.told.length - 1 : Nat) : Int).toNat * 1 = jo + (S.d.told.length - 1) by omega]; exact (SlR.of_osl (W0 := W0) (E := 27) (a := some ⟨jl, jo, none⟩) (c := jc) eX).cel (Ms.intsV_get hgl))) ?_
      refine gZ J (fZ (bZ (rZ (nQ (qZ ?_)))))
      obtain rfl : a = 3 := by omega
      exact tV (yZ J J (σ, ⟨lst, 0, 0, S, R⟩) ⟨by unfold ocInfo; simp [hls], h.L.mono (by omega)⟩ J iM)
    ·try replace hc := odF hc
     have k4 : ¬ a = 3 := by omega
     refine cZ (aZ (dZ (yQ J J) (gZ J (fZ (bZ (lQ J (fun hc => ?_) (fun hc => ?_)))))))
     ·try replace hc := odT hc
      refine cZ (aZ (eZ J (zZ J (pZ fa137_0 J (dZ (iZ ti25 J) ?_)))))
      refine zZ J (pZ fa83_3 J (dZ (iZ ti55 J) ?_))
      refine oZ call36 J (iM) (Vc.in_spec W0 _ (g := x.k) (out := S.out) (inn := S.inn)) J ?_
      rintro ⟨ja, jc⟩ -
      dsimp only
      refine dZ (sZ underlying32 J J) (dZ (cQ (c := w32 S.inn.length) underlying27 J J J) (gZ J (fZ (bZ (rZ (nQ (qZ ?_)))))))
      obtain rfl : a = 4 := by omega
      exact tV (yZ J J (σ, ⟨_, 0, 0, S, R⟩) ⟨rfl, h.L.mono (by omega)⟩ J iM)
     ·try replace hc := odF hc
      have k5 : ¬ a = 4 := by omega
      refine cZ (aZ (dZ (yQ J J) (gZ J (fZ (bZ (lQ J (fun hc => ?_) (fun hc => ?_)))))))
      ·try replace hc := odT hc
       refine cZ (aZ (eZ J (zZ J (pZ fa137_0 J (dZ (iZ ti25 J) ?_)))))
       refine zZ J (pZ fa83_3 J (dZ (iZ ti55 J) ?_))
       refine oZ call21 J (iM) (Vc.out_spec W0 _ (g := x.k) (out := S.out) (inn := S.inn)) J ?_
       rintro ⟨ja, jc⟩ -
       dsimp only
       refine dZ (sZ underlying32 J J) (dZ (yX (c := IntKind.i64.wrap (64 - (S.out.length : Int))) J J J) (dZ (cQ (c := w32 (IntKind.i64.wrap (64 - (S.out.length : Int)))) underlying27 J J J) (gZ J (fZ (bZ (rZ (nQ (qZ ?_))))))))
       obtain rfl : a = 5 := by omega
       exact tV (yZ J J (σ, ⟨_, 0, 0, S, R⟩) ⟨rfl, h.L.mono (by omega)⟩ J iM)
      ·try replace hc := odF hc
       have k6 : ¬ a = 5 := by omega
       refine uZ (tZ (bZ (aZ (dZ (bV underlying235 (by intro _ h; cases h) J) ?_))))
       exact vV J (jV (σ, 3) ⟨by unfold ocInfo; rw [if_neg k1, if_neg k2, if_neg k3, if_neg k4, if_neg k5, if_neg k6], h.L.mono (by omega)⟩ J iM)
end
def fin (S : HS) (R : List Value) : Nat ⊕ MO → MO
 | .inl k => ⟨IntKind.u32.wrap (0 - (k : Int)), 0, 0, S, R⟩
 | .inr m => m
def fnv (F cl : Nat) : Value := .func (.func F) #[.pointer (some ⟨cl, 0, none⟩)] #[]
def mths (cl : Nat) : List Value := [.nilFunc, fnv 172 cl, fnv 173 cl, fnv 174 cl, fnv 175 cl, fnv 176 cl, fnv 177 cl, fnv 178 cl, fnv 179 cl, fnv 180 cl, fnv 181 cl, fnv 182 cl, fnv 183 cl, fnv 184 cl, fnv 185 cl]
theorem DCtr.imp {P : Program} {W0 : World} {f : FuncId} {args : List Value} {u u' : FrameMode} {G G1 : List HProp} {α : Type} {φ : α → Prop} {G' : α → List HProp} (h : Imp G G1) (k : DCtr P W0 f args u u' G1 φ G') : DCtr P W0 f args u u' G φ G' := fun w hw => k w (hw.imp h)
def ocOf (qk : Int) (S : HS) (R : List Value) (n a b c : Nat) : Nat ⊕ MO :=
 match n with
 | 1 => .inr ⟨0, 0, 1, S, R⟩
 | 2 => ocMap qk S R a b
 | 3 => ocUnmap S R a
 | 4 => ocProt S R a b
 | 5 => ocWrite S R a b
 | 6 => ocRead S R a b
 | 7 => ocDiskR S R a b
 | 8 => ocDiskW S R a b
 | 9 => ocSend S R a b c
 | 10 => ocRecv S R a b c
 | 11 => ocTime S R
 | 12 => ocTimer S R a b
 | 13 => ocAck S R a
 | 14 => ocInfo S R a
 | _ => .inl 1
section
variable (W0 : World) (Fr : List HProp)
theorem calls_spec {cl : Nat} : Ctr prog W0 127 [.pointer (some ⟨cl, 0, none⟩)] Fr (fun _ : Nat => True) (fun z => .slice (some ⟨z, 0, none⟩) 15 15) (fun z => osl 92 1 (some ⟨z, 0, none⟩) 15 15 (mths cl) :: Fr) := by
 refine Ctr.of_body func127 J ntmps127 J (cZ (aZ (gZ J (fZ (bZ (cZ (aZ (eZ J (dZ (tX (first := [.tmp 3]) (cap := []) J J) (eZ J (dZ (tX (first := [.tmp 5]) (cap := []) J J) (eZ J (dZ (tX (first := [.tmp 7]) (cap := []) J J) (eZ J (dZ (tX (first := [.tmp 9]) (cap := []) J J) (eZ J (dZ (tX (first := [.tmp 11]) (cap := []) J J) (eZ J (dZ (tX (first := [.tmp 13]) (cap := []) J J) (eZ J (dZ (tX (first := [.tmp 15]) (cap := []) J J) (eZ J (dZ (tX (first := [.tmp 17]) (cap := []) J J) ?_)))))))))))))))))))))))
 refine eZ J (dZ (tX (first := [.tmp 19]) (cap := []) J J) (eZ J (dZ (tX (first := [.tmp 21]) (cap := []) J J) (eZ J (dZ (tX (first := [.tmp 23]) (cap := []) J J) (eZ J (dZ (tX (first := [.tmp 25]) (cap := []) J J) (eZ J (dZ (tX (first := [.tmp 27]) (cap := []) J J) (eZ J (dZ (tX (first := [.tmp 29]) (cap := []) J J) (kQ (aV [.const .nilFunc, .tmp 4, .tmp 6, .tmp 8, .tmp 10, .tmp 12, .tmp 14, .tmp 16, .tmp 18, .tmp 20, .tmp 22, .tmp 24, .tmp 26, .tmp 28, .tmp 30] (vs := mths cl) (cells := mths cl) underlying236 ti92 J J J J (by decide) (by simp [mths, fnv, Value.cells]) (by simp [mths, fnv, Value.cells])) J ?_))))))))))))
 rintro b31 -
 exact gZ J (fZ (bZ (rZ (yZ J J b31 trivial J iM))))
theorem do1_ret {c2 c4 : Nat} : DCtr prog W0 126 [.pointer (some ⟨c2, 0, none⟩), .pointer (some ⟨c4, 0, none⟩)] .returning .returning Fr (fun _ : Unit => True) (fun _ => Fr) := by
 exact DCtr.of_body func126 J ntmps126 J J J (mQ (cZ (aZ (dZ (Yield.nil_is underlying20 J) (fZ (bZ (fQ J (aZ (gZ J (fZ (tZ (qX J () trivial J iM))))))))))))
theorem do1_pan {c2 c4 cl k : Nat} {x : HP} {a b c rg : Nat} {cp ef old : Int} : DCtr prog W0 126 [.pointer (some ⟨c2, 0, none⟩), .pointer (some ⟨c4, 0, none⟩)] (.panicking (pnc (.iface 235 (.int .i64 k)))) (.panicking [{ v := .iface 235 (.int .i64 k), recovered := true }])
 (blk c2 [.pointer (some ⟨cl, 0, none⟩)] 134 :: blk c4 [.int .u32 old] 27 :: clB cl x a b c rg cp ef :: Fr) (fun _ : Unit => True) (fun _ => blk c2 [.pointer (some ⟨cl, 0, none⟩)] 134 :: blk c4 [.int .u32 (IntKind.u32.wrap (0 - IntKind.u32.wrap k))] 27 :: clB cl x a b c rg 0 ef :: Fr) := by
 refine DCtr.of_body func126 J ntmps126 J J J ?_
 dsimp only [clB]
 refine mQ (cZ (aZ (dZ (Yield.nil_not underlying20 J) (fZ (bZ (vZ J (cZ (aZ (dZ (Yield.assert underlying235 (by intro _ h; cases h) J) ?_)))))))))
 refine dZ (xZ J J) (dZ (xZ J J) (fZ (bZ (fQ J (cZ (aZ (gZ J (fZ (bZ (cZ (aZ (dZ (iZ ti134 J) ?_))))))))))))
 refine zZ J (pZ fa137_5 J (sQ (uQ ti3 J J fC J (by first | (simp; done) | decide)) J ?_))
 rintro ⟨⟩ -
 refine fZ (bZ (aZ (eZ J (dZ (cQ (c := IntKind.u32.wrap k) underlying27 J J J) (dZ (Yield.neg (c := IntKind.u32.wrap (0 - IntKind.u32.wrap k)) J J) (sQ (uQ ti27 J J fC J (by first | (simp; done) | decide)) J ?_))))))
 rintro ⟨⟩ -
 exact fZ (tZ (qX J () trivial J iM))
variable {x : HP} {S : HS} {qs : List Int} {rt : Nat → Option Nat} {σ : St} {cc cl a b c rg : Nat} {qk : Int} {R : List Value}
theorem errw {k : Nat} (hk : k < 4294967296) : IntKind.u32.wrap (0 - IntKind.u32.wrap k) = IntKind.u32.wrap (0 - (k : Int)) := by rw [show IntKind.u32.wrap (k : Int) = k from wu32 (by omega) (by omega)]
def Named (W0 : World) (x : HP) (S : HS) (R : List Value) (qs : List Int) (rt : Nat → Option Nat) (σ : St) (cc cl a b c rg n : Nat) (oc : Nat ⊕ MO) : Prop :=
 (n = 0 ∧ oc = .inl 1) ∨ (15 ≤ n ∧ oc = .inl 1) ∨ (1 ≤ n ∧ n < 15 ∧ ∃ F, (mths cl)[n]? = some (fnv F cl) ∧ CallOK prog F ∧ ∀ Fr, Meth W0 Fr F cl x a b c rg S R qs rt σ cc oc)
theorem do_spec {n : Nat} {oc : Nat ⊕ MO} (hn : n < 4294967296) (h : HK qs rt σ cc x S qk) (hm : Named W0 x S R qs rt σ cc cl a b c rg n oc) (hoc : ∀ k, oc = .inl k → k < 4294967296) :
 Ctr prog W0 66 [.pointer (some ⟨cl, 0, none⟩), .int .u32 n] (mG cl x a b c rg 0 0 S R qs σ Fr) (fun y : St => Lk 64 qs rt (fin S R oc).S.o (cc + 8192) y) (fun _ => .int .u32 (fin S R oc).ans) (fun y => mG cl x a b c rg (fin S R oc).cp (fin S R oc).ef (fin S R oc).S (fin S R oc).R qs y Fr) := by
 refine Ctr.of_bodyD func66 J ntmps66 J (cZ (aZ (kQ (uX J) J ?_)))
 rintro b2 -
 refine kQ (pX ti27) J ?_
 rintro b4 -
 refine fZ (bZ (cZ (aZ (dZ (tX (first := []) (cap := [.tmp 2, .tmp 4]) J J) (OG.defer J J (fZ (bZ (cZ (aZ (dZ (iZ ti134 J) ?_))))))))))
 refine oZ call127 J (iM) (calls_spec W0 _ (cl := cl)) J ?_
 rintro fb -
 refine gZ J (fZ (bZ (cZ (cZ ?_))))
 rcases hm with ⟨hn0, he⟩ | ⟨hn0, he⟩ | ⟨hn1, hn2, F, hF, hcF, hM⟩
 ·refine aZ (eZ J (dZ (oQ (yQ J J) (v' := .bool true) (bT (by omega))) ?_))
  refine eZ J (gQ J J J J J (gQ J J J J J (gQ J J J J J (gQ J J J J J (gQ J J J J J (gQ J J J J J (dZ mZ ?_)))))))
  refine fZ (bZ (fQ J (aZ (dZ (bV underlying235 (by intro _ h; cases h) J) ?_))))
  refine vV J (jX ?_)
  subst he
  exact QG.leave_panic call126 (DCtr.imp iM (do1_pan W0 (blk rg R 31 :: hG x S qs σ Fr) (cl := cl) (k := 1) (x := x) (a := a) (b := b) (c := c) (rg := rg) (cp := 0) (ef := 0) (old := 0))) (fun _ => [.int .u32 (IntKind.u32.wrap (0 - IntKind.u32.wrap ((1 : Nat) : Int)))]) J (fun _ _ => ⟨ResP.cell ti27 J (Cel.of_blk eX J), trivial⟩) (fun _ _ => ⟨σ, h.L.mono (by omega), congrArg (Value.int .u32) (errw (by omega)).symm, iM⟩)
 ·refine aZ (eZ J (dZ (oQ (yQ J J) (v' := .bool false) (bF (by omega))) ?_))
  refine eZ J (kZ J J (eZ J (kZ J J (dZ (cQ (c := (n : Int)) underlying24 J J (wu64 (by omega) (by omega))) ?_))))
  refine kZ J J (eZ J (kZ J J (dZ (sZ underlying236 J J) (kZ J J (dZ (cQ (c := ((15 : Nat) : Int)) underlying24 J J (by decide)) (kZ J J (dZ (oQ (oV J J) (v' := .bool true) (bT (by omega))) ?_)))))))
  refine dZ mZ ?_
  refine fZ (bZ (fQ J (aZ (dZ (bV underlying235 (by intro _ h; cases h) J) ?_))))
  refine vV J (jX ?_)
  subst he
  exact QG.leave_panic call126 (DCtr.imp iM (do1_pan W0 (blk rg R 31 :: hG x S qs σ Fr) (cl := cl) (k := 1) (x := x) (a := a) (b := b) (c := c) (rg := rg) (cp := 0) (ef := 0) (old := 0))) (fun _ => [.int .u32 (IntKind.u32.wrap (0 - IntKind.u32.wrap ((1 : Nat) : Int)))]) J (fun _ _ => ⟨ResP.cell ti27 J (Cel.of_blk eX J), trivial⟩) (fun _ _ => ⟨σ, h.L.mono (by omega), congrArg (Value.int .u32) (errw (by omega)).symm, iM⟩)
 ·refine aZ (eZ J (dZ (oQ (yQ J J) (v' := .bool false) (bF (by omega))) ?_))
  refine eZ J (kZ J J (eZ J (kZ J J (dZ (cQ (c := (n : Int)) underlying24 J J (wu64 (by omega) (by omega))) ?_))))
  refine kZ J J (eZ J (kZ J J (dZ (sZ underlying236 J J) (kZ J J (dZ (cQ (c := ((15 : Nat) : Int)) underlying24 J J (by decide)) (kZ J J (dZ (oQ (oV J J) (v' := .bool false) (bF (by omega))) ?_)))))))
  refine dZ mZ ?_
  refine fZ (bZ (vZ J (uZ (bZ (cZ (aZ (eZ J (eZ J (dZ (lZ underlying236 ti92 J J (by omega) (by omega)) ?_)))))))))
  refine dZ (jZ (v := fnv F cl) ti92 J (by rw [show 0 + (n : Int).toNat * 1 = 0 + n by omega]; exact (SlR.of_osl (W0 := W0) (E := 92) (a := some ⟨fb, 0, none⟩) (c := 15) eX).cel hF)) ?_
  refine OG.callvx (hcF) J J (iM) (hM _) J (fun y hy => ?_) ?_
  ·refine jX ?_
   obtain ⟨σ2, k⟩ := y
   obtain ⟨he, L2⟩ := hy
   have hk := hoc _ he
   dsimp only at he L2 hk ⊢
   subst he
   dsimp only [mG, hG, WG, heB, clB]
   exact QG.leave_panic call126 (DCtr.imp iM (do1_pan W0 (blk rg R 31 :: hG x S qs σ2 Fr) (cl := cl) (k := k) (x := x) (a := a) (b := b) (c := c) (rg := rg) (cp := 0) (ef := 0) (old := 0))) (fun _ => [.int .u32 (IntKind.u32.wrap (0 - IntKind.u32.wrap ((k : Nat) : Int)))]) J (fun _ _ => ⟨ResP.cell ti27 J (Cel.of_blk eX J), trivial⟩) (fun _ _ => ⟨σ2, L2, congrArg (Value.int .u32) (errw hk).symm, iM⟩)
  rintro ⟨σ2, m⟩ ⟨he, L2⟩
  subst he
  dsimp only [mG, hG, WG, heB, clB] at L2 ⊢
  refine sQ (uQ ti27 J J fC J (by first | (simp; done) | decide)) J ?_
  rintro ⟨⟩ -
  exact fZ (bZ (rZ (QG.leave_ret call126 (do1_ret W0 _) (fun _ => [.int .u32 m.ans]) J (fun _ _ => ⟨ResP.cell ti27 J (Cel.of_blk eX J), trivial⟩) (fun _ _ => ⟨σ2, L2, rfl, iM⟩))))
theorem regs_set {R R1 : List Value} (h : R1 = R ∨ ∃ v : Int, R1 = R.set 2 (.int .u32 v)) (hl : R.length = 25) (ho : ∀ v ∈ R, one v = true) : R1.length = 25 ∧ (∀ v ∈ R1, one v = true) ∧ R1[24]? = R[24]? := by
 rcases h with rfl | ⟨v, rfl⟩
 ·exact ⟨hl, ho, rfl⟩
 ·refine ⟨by rw [List.length_set]; exact hl, fun u hu => ?_, by rw [List.getElem?_set_ne (by decide)]⟩
  rcases List.mem_or_eq_of_mem_set hu with q | rfl
  ·exact ho _ q
  ·rfl
theorem one_set {R : List Value} {i : Nat} {k : IntKind} {v : Int} (ho : ∀ v ∈ R, one v = true) : ∀ u ∈ R.set i (.int k v), one u = true := fun u hu => by
 rcases List.mem_or_eq_of_mem_set hu with q | rfl
 ·exact ho _ q
 ·rfl
def regsA (R1 : List Value) (ans pc : Int) : List Value := (R1.set 1 (.int .u32 ans)).set 24 (.int .u32 (w32 (pc + 4)))
def costA (cp : Int) : Int := IntKind.i64.wrap (20 + IntKind.i64.wrap ((IntKind.i64.wrap (cp + 3)).tdiv 4))
theorem Do_spec {n : Nat} {pc : Int} {oc : Nat ⊕ MO} (hn : n < 4294967296) (h : HK qs rt σ cc x S qk) (hm : ∀ cl rg, Named W0 x S R qs rt σ cc cl a b c rg n oc) (hoc : ∀ k, oc = .inl k → k < 4294967296)
 (hl : R.length = 25) (ho : ∀ v ∈ R, one v = true) (h1 : R[1]? = some (.int .u32 n)) (h2 : R[2]? = some (.int .u32 a)) (h3 : R[3]? = some (.int .u32 b)) (h4 : R[4]? = some (.int .u32 c)) (h24 : R[24]? = some (.int .u32 pc))
 (hR : (fin S R oc).R = R ∨ ∃ v : Int, (fin S R oc).R = R.set 2 (.int .u32 v)) :
 Ctr prog W0 16 [.pointer (some ⟨x.e, 0, none⟩), .agg R.toArray] (hG x S qs σ Fr) (fun y : St => Lk 64 qs rt (fin S R oc).S.o (cc + 8192) y)
  (fun _ => .tuple #[.agg (regsA (fin S R oc).R (fin S R oc).ans pc).toArray, .int .i64 (costA (fin S R oc).cp), .int .i64 (fin S R oc).ef]) (fun y => hG x (fin S R oc).S qs y Fr) := by
 obtain ⟨r1, r2, r3⟩ := regs_set hR hl ho
 rw [h24] at r3
 refine Ctr.of_body func16 J ntmps16 J (cZ (aZ (kQ (uX J) J ?_)))
 rintro b3 -
 refine kQ (pX ti31) J ?_
 rintro b4 -
 refine gZ J (gZ J (fZ (bZ (cZ (aZ (eZ J (pZ fa31_0 J (dZ (bX underlying28 ti27 J J (by omega) (by omega)) ?_))))))))
 refine dZ (jZ ti27 J (Cel.of_blk eX h2)) ?_
 refine pZ fa31_0 J (dZ (bX underlying28 ti27 J J (by omega) (by omega)) ?_)
 refine dZ (jZ ti27 J (Cel.of_blk eX h3)) ?_
 refine pZ fa31_0 J (dZ (bX underlying28 ti27 J J (by omega) (by omega)) ?_)
 refine dZ (jZ ti27 J (Cel.of_blk eX h4)) ?_
 refine dZ (aX bu137 ti137 J (cells := [_, _, _, _, _, _, _]) J) (kQ (uX J) J ?_)
 rintro b20 -
 refine gZ J (fZ (bZ (cZ (aZ (eZ J (pZ fa31_0 J (dZ (bX underlying28 ti27 J J (by omega) (by omega)) ?_)))))))
 refine dZ (jZ ti27 J (Cel.of_blk eX h1)) ?_
 refine oZ call66 J (iM) (do_spec W0 (blk b4 _ 31 :: Fr) (cl := b20) (rg := b3) (a := a) (b := b) (c := c) (R := R) hn h (hm _ _) hoc) J ?_
 rintro σ2 L2
 dsimp only [mG, clB] at L2 ⊢
 refine gZ J (fZ (bZ (cZ (aZ (eZ J (pZ fa31_0 J (dZ (bX underlying28 ti27 J J (by omega) (by omega)) ?_)))))))
 refine sQ (uQ ti27 J J fC J (by rw [r1]; decide)) J ?_
 rintro ⟨⟩ -
 refine fZ (bZ (cZ (aZ (pZ fa31_2 J (dZ (jZ ti27 J (Cel.of_blk eX (by rw [List.getElem?_set_ne (by decide)]; exact r3))) ?_)))))
 refine dZ (hQ (c := w32 (pc + 4)) J J J) (pZ fa31_2 J (sQ (uQ ti27 J J fC J (by rw [List.length_set, r1]; decide)) J ?_))
 rintro ⟨⟩ -
 refine fZ (bZ (cZ (qQ (.lo 0 1 (.lo 1 0 (.lo 2 0 (.lo 3 0 (.lo 4 0 (.lo 5 0 (.lo 6 0 (.lo 7 0 (.lo 8 0 (.lo 9 0 (.lo 10 0 (.lo 11 0 (.eff1 12 false (.lo 13 1 (.lo 14 1 (.done)))))))))))))))) [12] [] ([clB b20 x a b c b3 (fin S R oc).cp (fin S R oc).ef]) ([]) mixed (by kernel_rfl) iM (Imp.none _) ?_)))
 refine hZ J (zQ (vs := regsA (fin S R oc).R (fin S R oc).ans pc) ti31 J (by unfold regsA; rw [List.length_set, List.length_set]; exact r1) (fun j v hj => Cel.of_blk eX (by rw [Nat.zero_add j]; exact hj))) ?_
 refine nZ J J (dQ J J (wZ J fa137_5 J (hZ J (iZ ti3 J) ?_)))
 refine hZ J (hQ (c := IntKind.i64.wrap ((fin S R oc).cp + 3)) J J J) (hZ J (dV (c := IntKind.i64.wrap ((IntKind.i64.wrap ((fin S R oc).cp + 3)).tdiv 4)) J J (by decide) J) (hZ J (hQ (c := costA (fin S R oc).cp) J J J) (nZ J J (dQ J J (wZ J fa137_6 J (hZ J (iZ ti3 J) ?_))))))
 refine aQ (wQ J J (xQ ti31 J J fC (by unfold regsA; rw [List.length_set, List.length_set]; exact r1) (one_set (one_set r2)) J) J (fun _ => iM) (fun _ => Imp.refl _) (fun _ => iM) ?_)
 rintro ⟨⟩ -
 exact hZ J (jQ J) (hZ J (jQ J) (pQ (bZ (rZ (hX [.agg (regsA (fin S R oc).R (fin S R oc).ans pc).toArray, .int .i64 (costA (fin S R oc).cp), .int .i64 (fin S R oc).ef] J ⟨ResP.agg ti31 J (by unfold regsA; rw [List.length_set, List.length_set]; exact r1) (fun j v hj => Cel.of_blk eX (by rw [Nat.zero_add j]; exact hj)), rfl, rfl, trivial⟩ σ2 L2 J iM)))))
end
end Go.Proofs.YtphljkplokjonaaGreat.Hc
namespace Go.Sl
open Go Go.RowKit
theorem Opn.arr {P : Program} {W : World} {t e n : Nat} {k : IntKind} (hu : P.underlying t = some (.array n e)) (hue : P.underlying e = some (.int k)) (hsz : P.cellsOf e = 1) (hc : P.cellsOf t = n) :
 Opn P W t (fun cs => ∃ xs : List Int, cs = xs.map (.int k) ∧ xs.length = n ∧ ∀ x ∈ xs, (Lit.int k x).wf = true) := fun H enc m cs x h hw => by
 obtain ⟨xs, n', rfl, rfl, hl, hxl, hf⟩ := DataW.trod_array hu h
 rw [hc] at hl
 have key : ∀ i < n, ∃ z, cs[i]? = some (.int k z) ∧ (Lit.int k z).wf = true := fun i hi => by
  have h1 := hf i hi
  rw [hsz, Nat.mul_one, List.getElem?_eq_getElem (by omega : i < xs.length)] at h1
  obtain ⟨z, e1, _, e2⟩ := DataW.trod_int hue h1
  have h2 : ((cs.drop i).take 1)[0]? = some (.int k z) := by rw [e1]; rfl
  exact ⟨z, by simpa using h2, e2⟩
 refine ⟨cs.map (fun v => match v with | .int _ z => z | _ => 0), ?_, by simpa using hl, ?_⟩
 ·apply List.ext_getElem?
  intro i
  rw [List.getElem?_map, List.getElem?_map]
  by_cases hi : i < n
  ·obtain ⟨z, e, _⟩ := key i hi; rw [e]; rfl
  ·rw [List.getElem?_eq_none (by omega)]; rfl
 ·intro y hy
  rw [List.mem_map] at hy
  obtain ⟨v, hv, rfl⟩ := hy
  obtain ⟨i, hi, rfl⟩ := List.getElem_of_mem hv
  obtain ⟨z, e, wz⟩ := key i (by omega)
  rw [List.getElem?_eq_getElem hi] at e
  rw [Option.some.inj e]; exact wz
end Go.Sl
namespace Go.Proofs.YtphljkplokjonaaGreat.Hc
open Go Go.Sl Go.RowKit Go.Proofs Go.Proofs.YtphljkplokjonaaGreat.T Go.Proofs.YtphljkplokjonaaGreat.Sp Tryz
structure Rg where
 rs : List Int
 fs : List Int
 pc : Int
 lr : rs.length = 16
 lf : fs.length = 8
def Rg.v (g : Rg) : List Value := g.rs.map (.int .u32) ++ g.fs.map (.int .u64) ++ [.int .u32 g.pc]
theorem Rg.len (g : Rg) : g.v.length = 25 := by unfold Rg.v; simp [g.lr, g.lf]
theorem Rg.ones (g : Rg) : ∀ v ∈ g.v, one v = true := by
 intro v hv
 unfold Rg.v at hv
 simp only [List.mem_append, List.mem_map, List.mem_singleton] at hv
 rcases hv with (⟨_, _, rfl⟩ | ⟨_, _, rfl⟩) | rfl <;> rfl
theorem Rg.r {g : Rg} {i : Nat} {z : Int} (h : g.rs[i]? = some z) : g.v[i]? = some (.int .u32 z) := by
 have hi : i < g.rs.length := by rcases List.getElem?_eq_some_iff.1 h with ⟨hi, _⟩; exact hi
 unfold Rg.v
 rw [List.getElem?_append_left (by simp; omega), List.getElem?_append_left (by simp; omega), List.getElem?_map, h]; rfl
theorem Rg.p (g : Rg) : g.v[24]? = some (.int .u32 g.pc) := by
 unfold Rg.v
 rw [List.getElem?_append_right (by simp [g.lr, g.lf])]; simp [g.lr, g.lf]
structure Rg.OK (g : Rg) : Prop where
 r : ∀ x ∈ g.rs, 0 ≤ x ∧ x < 4294967296
 p : 0 ≤ g.pc ∧ g.pc < 4294967296
theorem u32_of {z : Int} (h : (Lit.int .u32 z).wf = true) : 0 ≤ z ∧ z < 4294967296 := by
 have := bounds_u32 h; omega
theorem Rg.opn (W : World) : Opn prog W 31 (fun cs => ∃ g : Rg, cs = g.v ∧ g.OK) :=
 (Opn.of_fields underlying31 (by kernel_rfl) (by kernel_rfl) (.cons (s := 16) (Opn.arr underlying28 underlying27 (by kernel_rfl) (by kernel_rfl)) (.cons (s := 8) (Opn.arr underlying29 underlying24 (by kernel_rfl) (by kernel_rfl)) (.cons (s := 1) (Opn.int underlying27) .nil)))).mono fun cs h => by
  obtain ⟨_, _, rfl, _, ⟨rs, rfl, lr, wr⟩, _, _, rfl, _, ⟨fs, rfl, lf, wf⟩, _, _, rfl, _, ⟨pc, rfl, wp⟩, rfl⟩ := h
  exact ⟨⟨rs, fs, pc, lr, lf⟩, by simp [Rg.v], ⟨fun x hx => u32_of (wr x hx), u32_of wp⟩⟩
structure HAct where
 Kind : Int
 g : Rg
 N : Int
 Ba : Option Go.Addr
 Bc : Nat
 B : List UInt8
def HAct.cells (o : HAct) : List Value := .int .i64 o.Kind :: (o.g.v ++ [.int .i64 o.N, .slice o.Ba o.B.length o.Bc])
structure HAct.OK (W : World) (o : HAct) : Prop where
 g : o.g.OK
 Bc : o.B.length ≤ o.Bc
 B : SlAt W 1 o.Ba o.B.length (bytesV o.B)
 Bm : o.B.length ≤ reachBytes
 N : (Lit.int .i64 o.N).wf = true
theorem HAct.len (o : HAct) : o.cells.length = 28 := by unfold HAct.cells; simp [Rg.len]
theorem HAct.opn (W : World) : Opn prog W 34 (fun cs => ∃ o : HAct, cs = o.cells ∧ o.OK W) :=
 (Opn.of_fields underlying34 (by kernel_rfl) (by kernel_rfl) (.cons (s := 1) (Opn.int underlying3) (.cons (s := 25) (Rg.opn W) (.cons (s := 1) (Opn.int underlying3) (.cons (s := 1) (Opn.bytes underlying32 underlying5 (by kernel_rfl) (by kernel_rfl)) .nil))))).mono fun cs h => by
  obtain ⟨_, _, rfl, _, ⟨kd, rfl, _⟩, _, _, rfl, _, ⟨g, rfl, wg⟩, _, _, rfl, _, ⟨n, rfl, wn⟩, _, _, rfl, _, ⟨ba, bc, bs, rfl, h1, h2, h3⟩, rfl⟩ := h
  exact ⟨⟨kd, g, n, ba, bc, bs⟩, by simp [HAct.cells], ⟨wg, h1, h2, h3, wn⟩⟩
theorem HAct.list (W : World) : Opn prog W 22 (fun cs => ∃ a c, ∃ xs : List HAct, cs = [.slice a xs.length c] ∧ xs.length ≤ c ∧ (∀ x ∈ xs, x.OK W) ∧ SlAt W 28 a xs.length ((xs.map HAct.cells).flatten) ∧ xs.length * 176 ≤ reachBytes) :=
 Opn.recs (sz := 28) (by' := 176) underlying22 (by kernel_rfl) (by decide) (by kernel_rfl) (HAct.opn W)
theorem named_of {W0 : World} {x : HP} {S : HS} {qs : List Int} {rt : Nat → Option Nat} {σ : St} {cc a b c n : Nat} {qk : Int} {R : List Value} (h : HK qs rt σ cc x S qk) (ha : a < 4294967296) (hb : b < 4294967296) (hc : c < 4294967296) (hR : R.length = 25) (cl rg : Nat) :
 Named W0 x S R qs rt σ cc cl a b c rg n (ocOf qk S R n a b c) := by
 by_cases h0 : n = 0
 ·exact .inl ⟨h0, by subst h0; rfl⟩
 by_cases h1 : 15 ≤ n
 ·refine .inr (.inl ⟨h1, ?_⟩)
  obtain ⟨k, rfl⟩ : ∃ k, n = k + 15 := ⟨n - 15, by omega⟩
  rfl
 refine .inr (.inr ⟨by omega, by omega, ?_⟩)
 have : n = 1 ∨ n = 2 ∨ n = 3 ∨ n = 4 ∨ n = 5 ∨ n = 6 ∨ n = 7 ∨ n = 8 ∨ n = 9 ∨ n = 10 ∨ n = 11 ∨ n = 12 ∨ n = 13 ∨ n = 14 := by omega
 rcases this with rfl | rfl | rfl | rfl | rfl | rfl | rfl | rfl | rfl | rfl | rfl | rfl | rfl | rfl
 ·exact ⟨172, rfl, call172, fun Fr => m_yield W0 Fr h ha hb hc⟩
 ·exact ⟨173, rfl, call173, fun Fr => m_map W0 Fr h ha hb hc⟩
 ·exact ⟨174, rfl, call174, fun Fr => m_unmap W0 Fr h ha hb hc⟩
 ·exact ⟨175, rfl, call175, fun Fr => m_prot W0 Fr h ha hb hc⟩
 ·exact ⟨176, rfl, call176, fun Fr => m_write W0 Fr h ha hb hc⟩
 ·exact ⟨177, rfl, call177, fun Fr => m_read W0 Fr h ha hb hc⟩
 ·exact ⟨178, rfl, call178, fun Fr => m_diskR W0 Fr h ha hb hc⟩
 ·exact ⟨179, rfl, call179, fun Fr => m_diskW W0 Fr h ha hb hc⟩
 ·exact ⟨180, rfl, call180, fun Fr => m_send W0 Fr h ha hb hc⟩
 ·exact ⟨181, rfl, call181, fun Fr => m_recv W0 Fr h ha hb hc⟩
 ·exact ⟨182, rfl, call182, fun Fr => m_time W0 Fr h ha hb hc hR⟩
 ·exact ⟨183, rfl, call183, fun Fr => m_timer W0 Fr h ha hb hc⟩
 ·exact ⟨184, rfl, call184, fun Fr => m_ack W0 Fr h ha hb hc⟩
 ·exact ⟨185, rfl, call185, fun Fr => m_info W0 Fr h ha hb hc⟩
theorem fin_R {qk : Int} {S : HS} {R : List Value} {n a b c : Nat} : (fin S R (ocOf qk S R n a b c)).R = R ∨ ∃ v : Int, (fin S R (ocOf qk S R n a b c)).R = R.set 2 (.int .u32 v) := by
 unfold ocOf
 split
 case h_11 => exact .inr ⟨_, rfl⟩
 all_goals left
 all_goals first | rfl | (unfold ocMap; dsimp only; split <;> rfl) | (unfold ocUnmap; dsimp only; split <;> rfl) | (unfold ocProt; dsimp only; split <;> rfl) | (unfold ocWrite; dsimp only; split <;> (try split) <;> rfl) | (unfold ocRead; dsimp only; split <;> (try split) <;> rfl) | (unfold ocDiskR; dsimp only; split <;> (try split) <;> rfl) | (unfold ocDiskW; dsimp only; split <;> (try split) <;> rfl) | (unfold ocSend; dsimp only; split <;> (try split) <;> (try split) <;> rfl) | (unfold ocRecv; dsimp only; split <;> (try split) <;> (try split) <;> (try split) <;> rfl) | (unfold ocTimer; split <;> (try split) <;> rfl) | (unfold ocInfo; split <;> (try split) <;> (try split) <;> (try split) <;> (try split) <;> (try split) <;> rfl)
theorem code_lt {qk : Int} {S : HS} {R : List Value} {n a b c k : Nat} (h : ocOf qk S R n a b c = .inl k) : 1 ≤ k ∧ k ≤ 8 := by
 have he := errC_rng
 unfold ocOf at h
 split at h
 case h_1 => cases h
 case h_2 => unfold ocMap at h; dsimp only at h; split at h <;> cases h; have := he (mapO qk S.o 0 a b).1; omega
 case h_3 => unfold ocUnmap at h; dsimp only at h; split at h <;> cases h; have := he (unmapO S.o 0 a).1; omega
 case h_4 => unfold ocProt at h; dsimp only at h; split at h <;> cases h; have := he (protO S.o 0 a b).1; omega
 case h_5 => unfold ocWrite at h; dsimp only at h; split at h <;> (try split at h) <;> cases h <;> first | omega | (have := he (inO S.o 0 a b).2; omega)
 case h_6 => unfold ocRead at h; dsimp only at h; split at h <;> (try split at h) <;> cases h <;> first | omega | (have := he (outR S.o 0 a (S.inn.take b)).1; omega)
 case h_7 => unfold ocDiskR at h; dsimp only at h; split at h <;> (try split at h) <;> cases h <;> first | omega | (have := he (subP S.d false a b [] S.major).2.1; omega)
 case h_8 => unfold ocDiskW at h; dsimp only at h; split at h <;> (try split at h) <;> cases h <;> first | omega | (have := he (subP S.d true a b (inO S.o 0 b ((64 : Nat) : Int)).1 S.major).2.1; omega) | (have := he (inO S.o 0 b ((64 : Nat) : Int)).2; omega)
 case h_9 => unfold ocSend at h; dsimp only at h; split at h <;> (try split at h) <;> (try split at h) <;> cases h <;> first | omega | (have := he (sndP S.acs 0 a (inO S.o 0 b c).1).1; omega) | (have := he (inO S.o 0 b c).2; omega)
 case h_10 => unfold ocRecv at h; dsimp only at h; split at h <;> (try split at h) <;> (try split at h) <;> (try split at h) <;> cases h <;> first | omega | (have := he (outR S.o 0 b (rcvP S.acs 0 a).2.1).1; omega) | (have := he (rcvP S.acs 0 a).1; omega)
 case h_11 => cases h
 case h_12 => unfold ocTimer at h; split at h <;> (try split at h) <;> cases h <;> omega
 case h_13 => cases h
 case h_14 => unfold ocInfo at h; split at h <;> (try split at h) <;> (try split at h) <;> (try split at h) <;> (try split at h) <;> (try split at h) <;> cases h <;> omega
 case h_15 => cases h; omega
section
variable (W0 : World) (Fr : List HProp)
theorem num_spec (e : Int) : Ctr prog W0 31 [.int .i64 e] Fr (fun _ : Unit => True) (fun _ => .int .i64 e) (fun _ => Fr) := by
 exact Ctr.of_body func31 J ntmps31 J (cZ (aZ (gZ J (fZ (bZ (cZ (aZ (eZ J (gZ J (fZ (bZ (rZ (yZ J J () trivial J iM)))))))))))))
end
def chans : List Po.Cf := [⟨2, 0, 1, 8, 2⟩, ⟨2, 1, 0, 64, 2⟩, ⟨1, 0, 1, 16, 1⟩, ⟨1, 1, 0, 16, 1⟩]
def HS0 : HS := ⟨⟨fun _ _ => none, fun _ _ => false, 63⟩, 0, 0, 0, false, [], [], ⟨0, 4, 6, 2, 0, [], []⟩, chans.map Po.Cf.ac, 0, 0⟩
def rt0 (r : Nat) (k : Nat) : Option Nat := if k = 0 then some r else none
section
variable (W0 : World) (Fr : List HProp)
theorem channels_spec : Ctr prog W0 57 [] Fr (fun _ : Nat => True) (fun b => .slice (some ⟨b, 0, none⟩) 4 4) (fun b => osl 156 5 (some ⟨b, 0, none⟩) 4 4 ((chans.map Po.Cf.cells).flatten) :: Fr) := by
 refine Ctr.of_body func57 J ntmps57 J (cZ (aZ (gZ J (fZ (bZ (cZ (aZ (dZ (aX bu156 ti156 J (cells := Po.Cf.cells ⟨2, 0, 1, 8, 2⟩) J) (dZ (aX bu156 ti156 J (cells := Po.Cf.cells ⟨2, 1, 0, 64, 2⟩) J) (dZ (aX bu156 ti156 J (cells := Po.Cf.cells ⟨1, 0, 1, 16, 1⟩) J) (dZ (aX bu156 ti156 J (cells := Po.Cf.cells ⟨1, 1, 0, 16, 1⟩) J) (kQ (aV [.tmp 1, .tmp 2, .tmp 3, .tmp 4] (vs := chans.map fun x => .agg x.cells.toArray) (cells := (chans.map Po.Cf.cells).flatten) underlying72 ti156 J J J J (by decide) (by simp [chans, Value.cells, Po.Cf.cells]) (by simp [chans, Value.cells, Po.Cf.cells])) J ?_))))))))))))
 rintro b5 -
 exact gZ J (fZ (bZ (rZ (yZ J J b5 trivial J iM))))
theorem program_spec {q : Int} (h1 : 1 ≤ q) (h2 : q ≤ 30) : Ctr prog W0 13 [.int .i64 q] Fr (fun z : HP × St => Lk 64 [q, 8] (rt0 z.1.r) HS0.o 0 z.2) (fun z => .pointer (some ⟨z.1.e, 0, none⟩)) (fun z => hG z.1 HS0 [q, 8] z.2 Fr) := by
 have hne : Fz.nerr (64 : Nat) [q, 8] = 0 := by
  unfold Fz.nerr
  rw [if_neg (by decide), if_neg (by simp), if_neg, if_neg]
  ·rw [show [q, 8].sum = q + 8 by simp]; omega
  ·rintro ⟨z, hz, h⟩
   simp only [List.mem_cons, List.not_mem_nil, or_false] at hz
   rcases hz with rfl | rfl <;> omega
 obtain ⟨hn, hql, hq, hsum⟩ := Fz.nerr_ok hne
 obtain ⟨G0, e0⟩ := Good.start (n := 64) (m := 4) (Fz.inv_new hne) (by decide)
 have L0 := Lk.intro (c := 0) G0 J J e0 (Nat.le_refl 0)
 refine Ctr.of_body func13 J ntmps13 J (cZ (aZ (gZ J (fZ (bZ (cZ (aZ (oZ call50 J (Imp.refl _) (Me.new_spec W0 _ (n := 64) (by decide) (by decide)) J ?_))))))))
 rintro m -
 refine eZ J (dZ (xZ J J) (dZ (xZ J J) (gZ J (gZ J (fZ (bZ (cZ (aZ (eZ J (kQ (aV [.tmp 21, .const (.int .i64 8)] (vs := Fz.iv [q, 8]) (cells := Fz.iv [q, 8]) underlying80 ti3 J J J J (by decide) (by simp [Value.cells, Fz.iv]) (by simp [Value.cells, Fz.iv])) J ?_))))))))))
 rintro b22 -
 refine oZ call51 J (Imp.refl _) (Fz.new_ok W0 _ (total := 64) (qs := [q, 8]) (by exact SlR.of_osl (E := 3) (a := some ⟨b22, 0, none⟩) (c := 2) eX) hne) J ?_
 rintro f -
 refine eZ J (dZ (xZ J J) (dZ (xZ J J) (gZ J (gZ J (fZ (bZ (cZ (aZ (oZ call52 J (Imp.refl _) (Tl.new_spec W0 _ (n := 4) (by decide) (by decide)) J ?_)))))))))
 rintro t -
 refine eZ J (dZ (xZ J J) (dZ (xZ J J) (gZ J (gZ J (fZ (bZ (cZ (cZ (aZ (eZ J (oZ call31 J (Imp.refl _) (num_spec W0 _ 0) J ?_)))))))))))
 rintro ⟨⟩ -
 refine dZ vQ ?_
 refine eZ J (kZ J J (eZ J (kZ J J (oZ call31 J (Imp.refl _) (num_spec W0 _ 0) J ?_))))
 rintro ⟨⟩ -
 refine kZ J J (dZ vQ ?_)
 refine dZ mZ ?_
 refine eZ J (kZ J J (eZ J (kZ J J (oZ call31 J (Imp.refl _) (num_spec W0 _ 0) J ?_))))
 rintro ⟨⟩ -
 refine kZ J J (dZ vQ ?_)
 refine dZ mZ ?_
 refine eZ J (kZ J J (eZ J (kZ J J (dZ (by first | exact wX underlying111 J J | exact vX underlying111 J J) ?_))))
 refine dZ mZ ?_
 refine eZ J (kZ J J (eZ J (kZ J J (dZ (by first | exact wX underlying114 J J | exact vX underlying114 J J) ?_))))
 refine dZ mZ ?_
 refine eZ J (kZ J J (eZ J (kZ J J (dZ (by first | exact wX underlying117 J J | exact vX underlying117 J J) ?_))))
 refine dZ mZ ?_
 refine fZ (bZ (vZ J (uZ (bZ (cZ (aZ (eZ J (eZ J (eZ J (oZ call53 J (iM) (new_ok W0 Fr (m := m) (f := f) (t := t) L0 hq (k := 0) (qk := q) J J (by omega)) J ?_))))))))))
 rintro ⟨s, r, σ⟩ L1
 dsimp only [WG] at L1 ⊢
 refine eZ J (dZ (xZ J J) (dZ (xZ J J) (gZ J (gZ J (fZ (bZ (cZ (aZ (oZ call54 J (Imp.refl _) (Vi.new_spec W0 _) J ?_)))))))))
 rintro v -
 refine oZ call55 J (Imp.refl _) (Vc.new_spec W0 _) J ?_
 rintro k -
 refine oZ call57 J (Imp.refl _) (channels_spec W0 _) J ?_
 rintro b64 -
 refine oZ call56 J (Imp.refl _) (Po.new_spec W0 _ (l := chans) (by exact SlR.of_osl (E := 156) (a := some ⟨b64, 0, none⟩) (c := 4) eX) (by decide)) J ?_
 rintro p -
 refine gZ J (gZ J (gZ J (fZ (bZ (cZ (aZ (oZ call58 J (Imp.refl _) (Vd.new_ok W0 _ (part := 0) (first := 4) (count := 6) (latency := 2) (by decide)) J ?_)))))))
 rintro d -
 refine eZ J (dZ (xZ J J) (dZ (xZ J J) (gZ J (gZ J (fZ (bZ (cZ (cZ (aZ (eZ J (oZ call31 J (Imp.refl _) (num_spec W0 _ 0) J ?_)))))))))))
 rintro ⟨⟩ -
 refine dZ vQ ?_
 refine eZ J (kZ J J (eZ J (kZ J J (oZ call31 J (Imp.refl _) (num_spec W0 _ 0) J ?_))))
 rintro ⟨⟩ -
 refine kZ J J (dZ vQ ?_)
 refine dZ mZ ?_
 refine eZ J (kZ J J (eZ J (kZ J J (dZ (by first | exact wX underlying53 J J | exact vX underlying53 J J) ?_))))
 refine dZ mZ ?_
 refine eZ J (kZ J J (eZ J (kZ J J (dZ (by first | exact wX underlying54 J J | exact vX underlying54 J J) ?_))))
 refine dZ mZ ?_
 refine eZ J (kZ J J (eZ J (kZ J J (dZ (by first | exact wX underlying55 J J | exact vX underlying55 J J) ?_))))
 refine dZ mZ ?_
 refine eZ J (kZ J J (eZ J (kZ J J (dZ (by first | exact wX underlying62 J J | exact vX underlying62 J J) ?_))))
 refine dZ mZ ?_
 refine eZ J (kZ J J (eZ J (kZ J J (dZ (by first | exact wX underlying56 J J | exact vX underlying56 J J) ?_))))
 refine dZ mZ ?_
 refine fZ (bZ (vZ J (uZ (bZ (cZ (aZ (eZ J (eZ J (eZ J (eZ J (eZ J (dZ (aX bu83 ti83 J (cells := [.int .i64 0, .pointer (some ⟨s, 0, none⟩), .pointer (some ⟨v, 0, none⟩), .pointer (some ⟨k, 0, none⟩), .pointer (some ⟨d, 0, none⟩), .pointer (some ⟨p, 0, none⟩), .int .i64 0, .int .i64 0]) J) (kQ (uX J) J ?_)))))))))))))
 rintro b104 -
 exact gZ J (fZ (bZ (rZ (yZ J J (⟨b104, s, v, k, d, p, m, f, t, r⟩, σ) L1 J iM))))
end
end Go.Proofs.YtphljkplokjonaaGreat.Hc
namespace Go.Proofs.YtphljkplokjonaaGreat.Vi
open Go Go.Sl Go.RowKit Go.Proofs Go.Proofs.YtphljkplokjonaaGreat.T
end Go.Proofs.YtphljkplokjonaaGreat.Vi
namespace Go.Proofs.YtphljkplokjonaaGreat.Hc
open Go Go.Sl Go.RowKit Go.Proofs Go.Proofs.YtphljkplokjonaaGreat.T Go.Proofs.YtphljkplokjonaaGreat.Sp Tryz
def md (k x : Int) : Int := IntKind.u64.wrap x % k
theorem md_range {k : Int} (h : 0 < k) (x : Int) : 0 ≤ md k x ∧ md k x < k := ⟨Int.emod_nonneg _ (by omega), Int.emod_lt_of_pos _ h⟩
def adO (n : Int) : Nat := (w32 n).toNat
theorem adO_eq (n : Int) : ((adO n : Nat) : Int) = w32 n := by
 have := wrap_u32_range n
 unfold adO w32; omega
theorem adO_lt (n : Int) : adO n < 4294967296 := by
 have := wrap_u32_range n
 unfold adO w32; omega
def padS (b : B) : B := b.take 64 ++ List.replicate (64 - b.length) 0
theorem padS_len (b : B) : (padS b).length = 64 := by unfold padS; simp; omega
theorem over_sec {D : B} : Sl.over (bytesV (List.replicate 64 0)) 0 ((bytesV D).take (min D.length 64)) = bytesV (padS D) := by
 unfold Sl.over padS bytesV
 simp only [List.take_zero, List.nil_append, Nat.zero_add, List.map_append, List.map_take, List.map_replicate, List.length_take, List.length_map, List.drop_replicate]
 by_cases h : D.length ≤ 64
 ·rw [List.take_of_length_le (by simp; omega), List.take_of_length_le (by simp; omega), show min (min D.length 64) D.length = D.length by omega]
 ·rw [show min D.length 64 = 64 by omega, show 64 - D.length = 0 by omega, show 64 - min 64 D.length = 0 by omega]
def comN (b : B) (rs : List Vd.Rq) (s : Vd.Ds) : Vd.Ds := rs.foldl (fun s r => (Vd.comR s r.tag (padS b)).2) s
theorem comN_succ {b : B} {rs : List Vd.Rq} {s : Vd.Ds} {i : Nat} {r : Vd.Rq} (h : rs[i]? = some r) : comN b (rs.take (i + 1)) s = (Vd.comR (comN b (rs.take i) s) r.tag (padS b)).2 := by
 have hi : i < rs.length := by rcases List.getElem?_eq_some_iff.1 h with ⟨hi, _⟩; exact hi
 have hr : rs[i] = r := by rw [List.getElem?_eq_getElem hi] at h; exact Option.some.inj h
 unfold comN; rw [List.take_succ_eq_append_getElem hi, List.foldl_append, hr]; rfl
def nowS (n : Int) : Int := md 281474976710656 n
def outs (S : HS) (a : HAct) : HS :=
 if a.Kind = 1 then { S with acs := (sndP S.acs 1 a.N a.B).2 }
 else if a.Kind = 2 then { S with acs := (rcvP S.acs 1 a.N).2.2 }
 else if a.Kind = 3 then { S with acs := S.acs.map Po.AC.tr }
 else if a.Kind = 4 then { S with inn := S.inn ++ a.B.take (64 - S.inn.length) }
 else if a.Kind = 5 then { S with out := [] }
 else if a.Kind = 6 then { S with q := if 0 ≤ a.N ∧ a.N < 8 then Vi.setBit S.q a.N.toNat true else S.q }
 else if a.Kind = 7 then { S with q := 0, p := S.p ||| (if Vi.due S.at' S.set a.N then Vi.setBit S.q 0 true else S.q), at' := if Vi.due S.at' S.set a.N then 0 else S.at', set := S.set && !Vi.due S.at' S.set a.N }
 else if a.Kind = 8 then { S with d := comN a.B (Vd.issR S.d) (Vd.issS S.d) }
 else if a.Kind = 9 then { S with d := Vd.rdyS S.d a.N }
 else if a.Kind = 10 then { S with o := (outR S.o 0 (adO a.N) a.B).2 }
 else if a.Kind = 11 then { S with time := nowS a.N, major := nowS a.N % 1000 }
 else S
theorem HAct.c0 (a : HAct) : a.cells[0]? = some (.int .i64 a.Kind) := rfl
theorem HAct.c26 (a : HAct) : a.cells[26]? = some (.int .i64 a.N) := by
 unfold HAct.cells
 rw [List.getElem?_cons_succ, List.getElem?_append_right (by rw [Rg.len]; omega), Rg.len]; rfl
theorem HAct.c27 (a : HAct) : a.cells[27]? = some (.slice a.Ba a.B.length a.Bc) := by
 unfold HAct.cells
 rw [List.getElem?_cons_succ, List.getElem?_append_right (by rw [Rg.len]; omega), Rg.len]; rfl
section
variable (W0 : World) (Fr : List HProp)
variable {x : HP} {S S' : HS} {qs : List Int} {rt : Nat → Option Nat} {σ : St} {cc : Nat} {qk : Int} {a : HAct}
set_option maxHeartbeats 8000000 in
theorem outside_spec (h : HK qs rt σ cc x S qk) (hB : RdB W0 Fr a.Ba a.Bc a.B) (hBm : a.B.length ≤ 140737488351232) (hS : outs S a = S') :
 Ctr prog W0 14 [.pointer (some ⟨x.e, 0, none⟩), .agg a.cells.toArray] (hG x S qs σ Fr) (fun σ' : St => Lk 64 qs rt S'.o (cc + 8192) σ') (fun _ => .tuple #[]) (fun σ' => hG x S' qs σ' Fr) := by
 have hcc := h.hc
 refine Ctr.pure (ψ := S.d.OK) (fun w hw => Vd.d_facts (d := x.d) eX w hw) fun hdok => ?_
 have hdl := hdok.asks
 refine Ctr.of_body func14 J ntmps14 J ?_
 dsimp only [hG, WG, heB]
 refine cZ (aZ (kQ (uX J) J ?_))
 rintro b3 -
 refine fZ (bZ (cZ (aZ (pZ fa34_0 J (dZ (jZ (v := .int .i64 a.Kind) ti3 J (Cel.of_blk eX (HAct.c0 a))) ?_)))))
 refine fZ (bZ (mQ (cZ (aZ (dZ (yQ J J) (gZ J (fZ (bZ (lQ J (fun hc => ?_) (fun hc => ?_))))))))))
 ·try replace hc := odT hc
  obtain rfl : { S with acs := (sndP S.acs 1 a.N a.B).2 } = S' := by rw [← hS]; unfold outs; rw [hc]; rfl
  refine qQ (.lo 0 0 (.lo 1 0 (.lo 2 0 (.lo 3 0 (.lo 4 0 (.lo 5 0 (.lo 7 0 (.lo 8 0 (.eff1 6 false (.eff1 9 false (.eff1 10 false (.done)))))))))))) [6, 9, 10] [] ([blk b3 a.cells 34, heB x S]) ([]) mixed (by kernel_rfl) iM (Imp.none _) ?_
  refine nZ J J (dQ J J (wZ J fa83_5 J (hZ J (iZ ti62 J) ?_)))
  refine wZ J fa34_2 J (hZ J (jZ (v := .int .i64 a.N) ti3 J (Cel.of_blk eX (HAct.c26 a))) ?_)
  refine wZ J fa34_3 J (hZ J (jZ (v := .slice a.Ba a.B.length a.Bc) ti32 J (Cel.of_blk eX (HAct.c27 a))) ?_)
  refine aQ (wQ J J (sX underlying32 ti5 J) J (fun _ => iM) (fun _ => Imp.refl _) (fun _ => iM) ?_)
  rintro b17 -
  refine aQ (wQ J J (nV J J J underlying32 underlying32 ti5 (by decide) fC (hB.slR.imp iM) (by omega)) J (fun _ => iM) (fun _ => Imp.refl _) (fun _ => iM) ?_)
  rintro ⟨a20, c20⟩ -
  refine aQ (rQ J J call44 J (iM) (snd_spec W0 _ (p := x.p) (acs := S.acs) 1 a.N (a := a20) (c := c20) (bs := a.B) (SlR.of_osl (E := 5) (a := a20) eX) (by omega)) J (fun _ => iM) (fun _ => Imp.refl _) (fun _ => iM) ?_)
  rintro ⟨⟩ -
  exact pQ (tZ (qX J σ (h.L.mono (by omega)) J iM))
 ·try replace hc := odF hc
  have k1 := hc
  refine cZ (aZ (dZ (yQ J J) (gZ J (fZ (bZ (lQ J (fun hc => ?_) (fun hc => ?_)))))))
  ·try replace hc := odT hc
   obtain rfl : { S with acs := (rcvP S.acs 1 a.N).2.2 } = S' := by rw [← hS]; unfold outs; rw [hc]; rfl
   refine qQ (.lo 0 1 (.lo 1 1 (.lo 2 1 (.lo 3 1 (.lo 4 1 (.lo 5 1 (.eff1 6 false (.done)))))))) [6] [] ([]) ([]) mixed (by kernel_rfl) (Imp.none _) (Imp.none _) (nZ J J (dQ J J (wZ J fa83_5 J (hZ J (iZ ti62 J) ?_))))
   refine wZ J fa34_2 J (hZ J (jZ (v := .int .i64 a.N) ti3 J (Cel.of_blk eX (HAct.c26 a))) ?_)
   refine aQ (rQ J J call59 J (iM) (rcv_spec W0 _ (p := x.p) (acs := S.acs) 1 a.N) J (fun _ => iM) (fun _ => Imp.refl _) (fun _ => iM) ?_)
   rintro ⟨ba, bc, bb⟩ -
   exact pQ (tZ (qX J σ (h.L.mono (by omega)) J iM))
  ·try replace hc := odF hc
   have k2 := hc
   refine cZ (aZ (dZ (yQ J J) (gZ J (fZ (bZ (lQ J (fun hc => ?_) (fun hc => ?_)))))))
   ·try replace hc := odT hc
    obtain rfl : { S with acs := S.acs.map Po.AC.tr } = S' := by rw [← hS]; unfold outs; rw [hc]; rfl
    refine aZ (eZ J (zZ J (pZ fa83_5 J (dZ (iZ ti62 J) ?_))))
    refine oZ call45 J (iM) (Po.transfer_spec W0 _ (p := x.p) (acs := S.acs)) J ?_
    rintro ⟨ja, jc⟩ -
    exact fZ (tZ (qX J σ (h.L.mono (by omega)) J iM))
   ·try replace hc := odF hc
    have k3 := hc
    refine cZ (aZ (dZ (yQ J J) (gZ J (fZ (bZ (lQ J (fun hc => ?_) (fun hc => ?_)))))))
    ·try replace hc := odT hc
     obtain rfl : { S with inn := S.inn ++ a.B.take (64 - S.inn.length) } = S' := by rw [← hS]; unfold outs; rw [hc]; rfl
     refine qQ (.lo 0 0 (.lo 1 0 (.lo 2 0 (.lo 3 0 (.lo 5 0 (.lo 6 0 (.eff1 4 false (.eff1 7 false (.eff1 8 false (.done)))))))))) [4, 7, 8] [] ([blk b3 a.cells 34, heB x S]) ([]) mixed (by kernel_rfl) iM (Imp.none _) ?_
     refine nZ J J (dQ J J (wZ J fa83_3 J (hZ J (iZ ti55 J) ?_)))
     refine wZ J fa34_3 J (hZ J (jZ (v := .slice a.Ba a.B.length a.Bc) ti32 J (Cel.of_blk eX (HAct.c27 a))) ?_)
     refine aQ (wQ J J (sX underlying32 ti5 J) J (fun _ => iM) (fun _ => Imp.refl _) (fun _ => iM) ?_)
     rintro b44 -
     refine aQ (wQ J J (nV J J J underlying32 underlying32 ti5 (by decide) fC (hB.slR.imp iM) (by omega)) J (fun _ => iM) (fun _ => Imp.refl _) (fun _ => iM) ?_)
     rintro ⟨a47, c47⟩ -
     refine aQ (rQ J J call60 J (iM) (Vc.feedB W0 _ (g := x.k) (out := S.out) (inn := S.inn) (ds := a.B) (a2 := a47) (c2 := c47) (by exact RdB.of_osl (E := 5) eX J J) (by omega)) J (fun _ => iM) (fun _ => Imp.refl _) (fun _ => iM) ?_)
     rintro ⟨⟩ -
     exact pQ (tZ (qX J σ (h.L.mono (by omega)) J iM))
    ·try replace hc := odF hc
     have k4 := hc
     refine cZ (aZ (dZ (yQ J J) (gZ J (fZ (bZ (lQ J (fun hc => ?_) (fun hc => ?_)))))))
     ·try replace hc := odT hc
      obtain rfl : { S with out := [] } = S' := by rw [← hS]; unfold outs; rw [hc]; rfl
      refine aZ (eZ J (zZ J (pZ fa83_3 J (dZ (iZ ti55 J) ?_))))
      refine oZ call61 J (iM) (Vc.drain_spec W0 _ (g := x.k) (out := S.out) (inn := S.inn)) J ?_
      rintro ⟨ja, jc⟩ -
      exact fZ (tZ (qX J σ (h.L.mono (by omega)) J iM))
     ·try replace hc := odF hc
      have k5 := hc
      refine cZ (aZ (dZ (yQ J J) (gZ J (fZ (bZ (lQ J (fun hc => ?_) (fun hc => ?_)))))))
      ·try replace hc := odT hc
       obtain rfl : { S with q := if 0 ≤ a.N ∧ a.N < 8 then Vi.setBit S.q a.N.toNat true else S.q } = S' := by rw [← hS]; unfold outs; rw [hc]; rfl
       refine qQ (.lo 0 1 (.lo 1 1 (.lo 2 1 (.lo 3 1 (.lo 4 1 (.lo 5 1 (.eff1 6 false (.done)))))))) [6] [] ([]) ([]) mixed (by kernel_rfl) (Imp.none _) (Imp.none _) (nZ J J (dQ J J (wZ J fa83_2 J (hZ J (iZ ti54 J) ?_))))
       refine wZ J fa34_2 J (hZ J (jZ (v := .int .i64 a.N) ti3 J (Cel.of_blk eX (HAct.c26 a))) ?_)
       refine aQ (rQ J J call62 J (iM) (Vi.queue_spec W0 _ (v := x.v) (q := S.q) (p := S.p) (a := S.at') (s := S.set) a.N) J (fun _ => iM) (fun _ => Imp.refl _) (fun _ => iM) ?_)
       rintro ⟨⟩ -
       exact pQ (tZ (qX J σ (h.L.mono (by omega)) J iM))
      ·try replace hc := odF hc
       have k6 := hc
       refine cZ (aZ (dZ (yQ J J) (gZ J (fZ (bZ (lQ J (fun hc => ?_) (fun hc => ?_)))))))
       ·try replace hc := odT hc
        obtain rfl : { S with q := 0, p := S.p ||| (if Vi.due S.at' S.set a.N then Vi.setBit S.q 0 true else S.q), at' := if Vi.due S.at' S.set a.N then 0 else S.at', set := S.set && !Vi.due S.at' S.set a.N } = S' := by rw [← hS]; unfold outs; rw [hc]; rfl
        refine qQ (.lo 0 1 (.lo 1 1 (.lo 2 1 (.lo 3 1 (.lo 4 1 (.lo 5 1 (.eff1 6 false (.done)))))))) [6] [] ([]) ([]) mixed (by kernel_rfl) (Imp.none _) (Imp.none _) (nZ J J (dQ J J (wZ J fa83_2 J (hZ J (iZ ti54 J) ?_))))
        refine wZ J fa34_2 J (hZ J (jZ (v := .int .i64 a.N) ti3 J (Cel.of_blk eX (HAct.c26 a))) ?_)
        refine aQ (rQ J J call27 J (iM) (Vi.release_spec W0 _ (v := x.v) (q := S.q) (p := S.p) (a := S.at') (s := S.set) a.N h.q h.p) J (fun _ => iM) (fun _ => Imp.refl _) (fun _ => iM) ?_)
        rintro ⟨⟩ -
        exact pQ (tZ (qX J σ (h.L.mono (by omega)) J iM))
       ·try replace hc := odF hc
        have k7 := hc
        refine cZ (aZ (dZ (yQ J J) (gZ J (fZ (bZ (lQ J (fun hc => ?_) (fun hc => ?_)))))))
        ·try replace hc := odT hc
         obtain rfl : { S with d := comN a.B (Vd.issR S.d) (Vd.issS S.d) } = S' := by rw [← hS]; unfold outs; rw [hc]; rfl
         refine cZ (aZ (eZ J (zZ J (pZ fa83_4 J (dZ (iZ ti56 J) ?_)))))
         refine oZ call42 J (iM) (Vd.issue_spec W0 _ (d := x.d) (s := S.d)) J ?_
         rintro ⟨l, la, lc⟩ hl
         dsimp only [Vd.Rqs.G, Vd.Rqs.ms, Vd.Rqs.cell, List.cons_append, List.nil_append] at hl ⊢
         have hll : l.length ≤ 4 := by
          have e1 : (l.map Vd.CR.abs).length = (Vd.issR S.d).length := by rw [hl]
          unfold Vd.issR at e1
          rw [List.length_map, List.length_map] at e1
          have := List.length_filter_le (fun a : Vd.Ak => a.st == 0) S.d.asks
          omega
         refine gZ J (fZ (bZ (cZ (aZ (gZ J (fZ (bZ (mQ (mX (fun i : Nat => i ≤ l.length) (fun i => [(0, .pointer (some ⟨x.e, 0, none⟩)), (3, .pointer (some ⟨b3, 0, none⟩)), (4, .slice la l.length lc), (5, .int .i64 i)]) (fun i => Vd.oreqs la lc l :: blk b3 a.cells 34 :: hG x { S with d := comN a.B ((Vd.issR S.d).take i) (Vd.issS S.d) } qs σ Fr) (fun i => l.length - i) 0 (Nat.zero_le _) eS iM ?_)))))))))
         rintro i hi
         dsimp only [hG, WG, heB]
         refine cZ (cZ (aZ (eZ J (eZ J (dZ (sZ underlying98 J J) (dZ eQ ?_))))))
         refine fZ (bZ (lQ J (fun hc => ?_) (fun hc => ?_)))
         ·try replace hc := odT hc
          have hi' : i < l.length := by omega
          have hget : l[i]? = some l[i] := by simp [hi']
          generalize l[i] = cr at hget
          have hr : (Vd.issR S.d)[i]? = some cr.abs := by rw [← hl, List.getElem?_map, hget]; rfl
          have hps := padS_len a.B
          refine lX (fun w hw => SlR.elem_shape (i := i) (SlR.of_osl (W0 := W0) (E := 101) (a := la) (c := lc) eX) Vd.CR.len (by decide) hi' w hw) ?_
          rintro ⟨bl, ol, rfl⟩
          refine uZ (bZ (cZ (mQ (cZ (aZ (eZ J (eZ J (dZ (lZ underlying98 ti101 J J (by omega) (by omega)) ?_))))))))
          refine dZ (zQ (vs := Vd.CR.cells cr) ti101 J J (by rw [show ol + (i : Int).toNat * 5 = ol + i * 5 by omega]; exact SlR.elem (SlR.of_osl (E := 101) (a := some ⟨bl, ol, none⟩) (c := lc) eX) Vd.CR.len hget)) ?_
          refine kQ (pX ti101) J ?_
          rintro b6 -
          refine sQ (xQ ti101 J J fC J (by simp [Vd.CR.cells, one, Ms.Msg.cell]) J) J ?_
          rintro ⟨⟩ -
          refine fZ (bZ (cZ (aZ (kQ (Eff.makeB 64 underlying32 ti5 J J (by decide)) J ?_))))
          rintro b91 -
          rw [List.length_replicate]
          refine pZ fa101_4 J (sQ (uQ ti32 J J fC J (by rw [Vd.CR.len]; decide)) J ?_)
          rintro ⟨⟩ -
          refine fZ (bZ (cZ (aZ (pZ fa101_4 J (dZ (jZ (v := .slice (some ⟨b91, 0, none⟩) 64 64) ti32 J (Cel.of_blk eX J)) ?_)))))
          refine pZ fa34_3 J (dZ (jZ (v := .slice a.Ba a.B.length a.Bc) ti32 J (Cel.of_blk eX (HAct.c27 a))) ?_)
          refine kQ (Eff.copyIn (b := b91) (o := 0) (j := 0) (n := 64) (cn := 64) (k := a.B.length) (ys := bytesV a.B) J J J underlying32 ti5 fC (by decide) (hB.slR.imp iM) bytesV_one) J ?_
          rintro ⟨⟩ -
          rw [over_sec]
          refine fZ (bZ (qQ (.lo 0 1 (.lo 1 1 (.lo 2 1 (.lo 3 1 (.lo 4 1 (.eff1 5 false (.done))))))) [5] [] ([]) ([]) mixed (by kernel_rfl) (Imp.none _) (Imp.none _) (nZ J J (dQ J J (wZ J fa83_4 J (hZ J (iZ ti56 J) ?_))))))
          refine hZ J (zQ (vs := Vd.CR.cells { cr with m := ⟨some ⟨b91, 0, none⟩, 64, padS a.B⟩ }) ti101 J J (Row.of_blk (b := b6) eX (by simp [Vd.CR.cells, Ms.Msg.cell, hps]))) ?_
          refine aQ (rQ J J call63 J (iM) (Vd.complete_spec W0 _ (d := x.d) (s := comN a.B ((Vd.issR S.d).take i) (Vd.issS S.d)) (r := { cr with m := ⟨some ⟨b91, 0, none⟩, 64, padS a.B⟩ }) (by exact RdB.of_osl (E := 5) (a := some ⟨b91, 0, none⟩) eX (by simp [hps]) J) (by show (padS a.B).length ≤ _; omega)) J (fun _ => iM) (fun _ => Imp.refl _) (fun _ => iM) ?_)
          rintro ⟨⟩ -
          rw [show (Vd.comR (comN a.B ((Vd.issR S.d).take i) (Vd.issS S.d)) cr.tag (padS a.B)).2 = comN a.B ((Vd.issR S.d).take (i + 1)) (Vd.issS S.d) from (comN_succ hr).symm]
          exact pQ (tZ (bZ (aZ (eZ J (dZ (hQ J J wO) (gZ J (fZ (gX (i + 1) (show i + 1 ≤ l.length by omega) (show l.length - (i + 1) < l.length - i by omega) eS iM))))))))
         ·try replace hc := odF hc
          refine iX (bQ (bQ (tQ (tZ ?_))))
          obtain rfl : i = l.length := by omega
          rw [show (Vd.issR S.d).take l.length = Vd.issR S.d by rw [← hl, ← List.length_map (f := Vd.CR.abs), List.take_length]]
          exact qX J σ (h.L.mono (by omega)) J iM
        ·try replace hc := odF hc
         have k8 := hc
         refine cZ (aZ (dZ (yQ J J) (gZ J (fZ (bZ (lQ J (fun hc => ?_) (fun hc => ?_)))))))
         ·try replace hc := odT hc
          obtain rfl : { S with d := Vd.rdyS S.d a.N } = S' := by rw [← hS]; unfold outs; rw [hc]; rfl
          refine qQ (.lo 0 1 (.lo 1 1 (.lo 2 1 (.lo 3 1 (.lo 4 1 (.lo 5 1 (.eff1 6 false (.done)))))))) [6] [] ([]) ([]) mixed (by kernel_rfl) (Imp.none _) (Imp.none _) (nZ J J (dQ J J (wZ J fa83_4 J (hZ J (iZ ti56 J) ?_))))
          refine wZ J fa34_2 J (hZ J (jZ (v := .int .i64 a.N) ti3 J (Cel.of_blk eX (HAct.c26 a))) ?_)
          refine aQ (rQ J J call64 J (iM) (Vd.ready_spec W0 _ (d := x.d) (s := S.d) a.N) J (fun _ => iM) (fun _ => Imp.refl _) (fun _ => iM) ?_)
          rintro ⟨l, la, lc⟩ -
          dsimp only [Vd.Dns.G, List.cons_append, List.nil_append]
          exact pQ (tZ (qX J σ (h.L.mono (by omega)) J iM))
         ·try replace hc := odF hc
          have k9 := hc
          refine cZ (aZ (dZ (yQ J J) (gZ J (fZ (bZ (lQ J (fun hc => ?_) (fun hc => ?_)))))))
          ·try replace hc := odT hc
           obtain rfl : { S with o := (outR S.o 0 (adO a.N) a.B).2 } = S' := by rw [← hS]; unfold outs; rw [hc]; rfl
           refine qQ (.lo 0 0 (.lo 1 0 (.lo 2 0 (.lo 3 0 (.lo 4 0 (.lo 5 0 (.lo 6 0 (.lo 8 0 (.lo 9 0 (.eff1 7 false (.eff1 10 false (.eff1 11 false (.done))))))))))))) [7, 10, 11] [] ([blk b3 a.cells 34, heB x S]) ([]) mixed (by kernel_rfl) iM (Imp.none _) ?_
           refine nZ J J (dQ J J (wZ J fa83_1 J (hZ J (iZ ti53 J) ?_)))
           refine wZ J fa34_2 J (hZ J (jZ (v := .int .i64 a.N) ti3 J (Cel.of_blk eX (HAct.c26 a))) ?_)
           refine hZ J (oQ (cQ (c := w32 a.N) underlying27 J J J) (v' := .int .u32 (adO a.N : Nat)) (by rw [adO_eq])) ?_
           refine wZ J fa34_3 J (hZ J (jZ (v := .slice a.Ba a.B.length a.Bc) ti32 J (Cel.of_blk eX (HAct.c27 a))) ?_)
           refine aQ (wQ J J (sX underlying32 ti5 J) J (fun _ => iM) (fun _ => Imp.refl _) (fun _ => iM) ?_)
           rintro b122 -
           refine aQ (wQ J J (nV J J J underlying32 underlying32 ti5 (by decide) fC (hB.slR.imp iM) (by omega)) J (fun _ => iM) (fun _ => Imp.refl _) (fun _ => iM) ?_)
           rintro ⟨a125, c125⟩ -
           refine aQ (rQ J J call32 J (iM) (out_of W0 _ (s := x.s) (m := x.m) (f := x.f) (t := x.t) (k := 0) (r := x.r) (ba := a125) (bc := c125) (b := a.B) (by exact RdB.of_osl (E := 5) eX J J) h.L h.hk (by omega) (ad := adO a.N) (adO_lt _)) J (fun _ => iM) (fun _ => Imp.refl _) (fun _ => iM) ?_)
           rintro σ2 L2
           dsimp only [WG] at L2 ⊢
           exact pQ (tZ (qX J σ2 L2 J iM))
          ·try replace hc := odF hc
           have k10 := hc
           refine cZ (aZ (dZ (yQ J J) (gZ J (fZ (bZ (lQ J (fun hc => ?_) (fun hc => ?_)))))))
           ·try replace hc := odT hc
            obtain rfl : { S with time := nowS a.N, major := nowS a.N % 1000 } = S' := by rw [← hS]; unfold outs; rw [hc]; rfl
            refine cZ (aZ (eZ J (pZ fa34_2 J (dZ (jZ (v := .int .i64 a.N) ti3 J (Cel.of_blk eX (HAct.c26 a))) ?_))))
            refine dZ (cQ (c := IntKind.u64.wrap a.N) underlying24 J J J) (dZ (xX (c := nowS a.N) J J (by decide) (tmod_pos (wrap_u64_range a.N).1 (by decide))) (dZ (cQ (c := nowS a.N) underlying3 J J (w64 (by have := md_range (k := 281474976710656) (by decide) a.N; unfold nowS; omega) (by have := md_range (k := 281474976710656) (by decide) a.N; unfold nowS; omega))) ?_))
            refine zZ J (pZ fa83_6 J (sQ (uQ ti3 J J fC J (by first | (simp; done) | decide)) J ?_))
            rintro ⟨⟩ -
            refine fZ (bZ (aZ (eZ J (eZ J (zZ J (pZ fa83_6 J (dZ (iZ ti3 J) ?_)))))))
            refine dZ (xX (c := nowS a.N % 1000) J J (by decide) (tmod_pos (by have := md_range (k := 281474976710656) (by decide) a.N; unfold nowS; omega) (by decide))) ?_
            refine zZ J (pZ fa83_7 J (sQ (uQ ti3 J J fC J (by first | (simp; done) | decide)) J ?_))
            rintro ⟨⟩ -
            exact fZ (tZ (qX J σ (h.L.mono (by omega)) J iM))
           ·try replace hc := odF hc
            obtain rfl : S = S' := by rw [← hS]; unfold outs; rw [if_neg k1, if_neg k2, if_neg k3, if_neg k4, if_neg k5, if_neg k6, if_neg k7, if_neg k8, if_neg k9, if_neg k10, if_neg hc]
            exact uZ (tZ (qX J σ (h.L.mono (by omega)) J iM))
end
theorem inO_len {o : Ob} {k ad n : Nat} (h : (inO o k ad n).2 = 0) : (inO o k ad n).1.length = n := by
 unfold inO at h ⊢
 split
 ·rename_i q; rw [if_pos q] at h; exact absurd h (by decide)
 ·rename_i q; rw [if_neg q] at h
  split
  ·rw [bufI_len, Int.toNat_natCast]
  ·rename_i q2; rw [if_neg q2] at h; exact absurd h (by decide)
inductive Way (S : HS) (R : List Value) (n : Nat) : Nat ⊕ MO → Prop
 | bad (k : Nat) : 1 ≤ k → k ≤ 8 → n ≠ 1 → n ≠ 11 → Way S R n (.inl k)
 | ok (ans cp ef : Int) (S' : HS) (R' : List Value) : 0 ≤ cp → cp ≤ 64 → (ef = if n = 1 then 1 else 0) → (n ≠ 11 → R' = R) → (n = 11 → R' = R.set 2 (.int .u32 (w32 (S.time / 2 ^ 32)))) → S'.q = S.q → (S'.p = S.p ∨ ∃ m, S'.p = Vi.clr S.p m) → S'.time = S.time → S'.major = S.major → Way S R n (.inr ⟨ans, cp, ef, S', R'⟩)
theorem way_of {qk : Int} {S : HS} {R : List Value} {n a b c : Nat} : Way S R n (ocOf qk S R n a b c) := by
 have he := errC_rng
 unfold ocOf
 split
 case h_1 => exact .ok _ _ _ _ _ (by decide) (by decide) J (fun _ => rfl) (fun q => absurd q (by decide)) J (.inl J) J J
 case h_2 =>
  unfold ocMap; dsimp only; split
  ·exact .ok _ _ _ _ _ (by decide) (by decide) J (fun _ => rfl) (fun q => absurd q (by decide)) J (.inl J) J J
  ·have := he (mapO qk S.o 0 a b).1; exact .bad _ (by omega) (by omega) (by decide) (by decide)
 case h_3 =>
  unfold ocUnmap; dsimp only; split
  ·exact .ok _ _ _ _ _ (by decide) (by decide) J (fun _ => rfl) (fun q => absurd q (by decide)) J (.inl J) J J
  ·have := he (unmapO S.o 0 a).1; exact .bad _ (by omega) (by omega) (by decide) (by decide)
 case h_4 =>
  unfold ocProt; dsimp only; split
  ·exact .ok _ _ _ _ _ (by decide) (by decide) J (fun _ => rfl) (fun q => absurd q (by decide)) J (.inl J) J J
  ·have := he (protO S.o 0 a b).1; exact .bad _ (by omega) (by omega) (by decide) (by decide)
 case h_5 =>
  unfold ocWrite; dsimp only; split
  ·exact .bad _ (by omega) (by omega) (by decide) (by decide)
  ·split
   ·exact .ok _ _ _ _ _ (by omega) (by omega) J (fun _ => rfl) (fun q => absurd q (by decide)) J (.inl J) J J
   ·have := he (inO S.o 0 a b).2; exact .bad _ (by omega) (by omega) (by decide) (by decide)
 case h_6 =>
  unfold ocRead; dsimp only; split
  ·exact .bad _ (by omega) (by omega) (by decide) (by decide)
  ·split
   ·exact .ok _ _ _ _ _ (by omega) (by rw [List.length_take]; omega) J (fun _ => rfl) (fun q => absurd q (by decide)) J (.inl J) J J
   ·have := he (outR S.o 0 a (S.inn.take b)).1; exact .bad _ (by omega) (by omega) (by decide) (by decide)
 case h_7 =>
  unfold ocDiskR; dsimp only; split
  ·split
   ·exact .ok _ _ _ _ _ (by decide) (by decide) J (fun _ => rfl) (fun q => absurd q (by decide)) J (.inl J) J J
   ·have := he (subP S.d false a b [] S.major).2.1; exact .bad _ (by omega) (by omega) (by decide) (by decide)
  ·exact .bad _ (by omega) (by omega) (by decide) (by decide)
 case h_8 =>
  unfold ocDiskW; dsimp only; split
  ·rename_i q
   have hl := inO_len q
   split
   ·exact .ok _ _ _ _ _ (by omega) (by omega) J (fun _ => rfl) (fun q => absurd q (by decide)) J (.inl J) J J
   ·have := he (subP S.d true a b (inO S.o 0 b ((64 : Nat) : Int)).1 S.major).2.1; exact .bad _ (by omega) (by omega) (by decide) (by decide)
  ·have := he (inO S.o 0 b ((64 : Nat) : Int)).2; exact .bad _ (by omega) (by omega) (by decide) (by decide)
 case h_9 =>
  unfold ocSend; dsimp only; split
  ·exact .bad _ (by omega) (by omega) (by decide) (by decide)
  ·split
   ·rename_i q
    have hl := inO_len q
    split
    ·exact .ok _ _ _ _ _ (by omega) (by omega) J (fun _ => rfl) (fun q => absurd q (by decide)) J (.inl J) J J
    ·have := he (sndP S.acs 0 a (inO S.o 0 b c).1).1; exact .bad _ (by omega) (by omega) (by decide) (by decide)
   ·have := he (inO S.o 0 b c).2; exact .bad _ (by omega) (by omega) (by decide) (by decide)
 case h_10 =>
  unfold ocRecv; dsimp only; split
  ·exact .bad _ (by omega) (by omega) (by decide) (by decide)
  ·split
   ·split
    ·exact .bad _ (by omega) (by omega) (by decide) (by decide)
    ·split
     ·exact .ok _ _ _ _ _ (by omega) (by omega) J (fun _ => rfl) (fun q => absurd q (by decide)) J (.inl J) J J
     ·have := he (outR S.o 0 b (rcvP S.acs 0 a).2.1).1; exact .bad _ (by omega) (by omega) (by decide) (by decide)
   ·have := he (rcvP S.acs 0 a).1; exact .bad _ (by omega) (by omega) (by decide) (by decide)
 case h_11 => exact .ok _ _ _ _ _ (by decide) (by decide) J (fun q => absurd J q) (fun _ => rfl) J (.inl J) J J
 case h_12 =>
  unfold ocTimer; split
  ·exact .bad _ (by omega) (by omega) (by decide) (by decide)
  ·split
   ·exact .ok _ _ _ _ _ (by decide) (by decide) J (fun _ => rfl) (fun q => absurd q (by decide)) J (.inl J) J J
   ·exact .bad _ (by omega) (by omega) (by decide) (by decide)
 case h_13 => exact .ok _ _ _ _ _ (by decide) (by decide) J (fun _ => rfl) (fun q => absurd q (by decide)) J (.inr ⟨_, rfl⟩) J J
 case h_14 =>
  unfold ocInfo
  repeat' split
  all_goals first | exact .ok _ _ _ _ _ (by decide) (by decide) J (fun _ => rfl) (fun q => absurd q (by decide)) J (.inl J) J J | exact .bad _ (by omega) (by omega) (by decide) (by decide)
 case h_15 => exact .bad _ (by omega) (by omega) (by omega) (by omega)
structure HI (q0 : Int) (x : HP) (S : HS) (σ : St) (cc : Nat) : Prop where
 L : Lk 64 [q0, 8] (rt0 x.r) S.o cc σ
 h1 : 1 ≤ q0
 h2 : q0 ≤ 30
 q : S.q < 256
 p : S.p < 256
 t0 : 0 ≤ S.time
 t1 : S.time < 281474976710656
 m0 : 0 ≤ S.major
 m1 : S.major < 1000
theorem HI.hk {q0 : Int} {x : HP} {S : HS} {σ : St} {cc : Nat} (h : HI q0 x S σ cc) (hc : cc ≤ 100000000000) (ht : S.d.told.length ≤ 4) : HK [q0, 8] (rt0 x.r) σ cc x S q0 :=
 ⟨h.L, by
  intro q hq
  have h1 := h.h1
  have h2 := h.h2
  simp only [List.mem_cons, List.not_mem_nil, or_false] at hq
  rcases hq with rfl | rfl <;> omega, rfl, rfl, hc, h.q, h.p, by omega⟩
theorem HI.new {q0 : Int} {x : HP} {σ : St} (h1 : 1 ≤ q0) (h2 : q0 ≤ 30) (L : Lk 64 [q0, 8] (rt0 x.r) HS0.o 0 σ) : HI q0 x HS0 σ 0 := ⟨L, h1, h2, by decide, by decide, by decide, by decide, by decide, by decide⟩
def HQ (S : HS) : Prop := S.q < 256 ∧ S.p < 256 ∧ 0 ≤ S.time ∧ S.time < 281474976710656 ∧ 0 ≤ S.major ∧ S.major < 1000
theorem outs_HQ {S : HS} (h : HQ S) (a : HAct) : HQ (outs S a) := by
 obtain ⟨hq, hp, h0, h1, h2, h3⟩ := h
 have hs : Vi.setBit S.q 0 true < 256 := Vi.setBit_lt hq (by decide) true
 unfold Hc.outs
 by_cases k1 : a.Kind = 1
 ·rw [if_pos k1]
  exact ⟨hq, hp, h0, h1, h2, h3⟩
 rw [if_neg k1]
 by_cases k2 : a.Kind = 2
 ·rw [if_pos k2]
  exact ⟨hq, hp, h0, h1, h2, h3⟩
 rw [if_neg k2]
 by_cases k3 : a.Kind = 3
 ·rw [if_pos k3]
  exact ⟨hq, hp, h0, h1, h2, h3⟩
 rw [if_neg k3]
 by_cases k4 : a.Kind = 4
 ·rw [if_pos k4]
  exact ⟨hq, hp, h0, h1, h2, h3⟩
 rw [if_neg k4]
 by_cases k5 : a.Kind = 5
 ·rw [if_pos k5]
  exact ⟨hq, hp, h0, h1, h2, h3⟩
 rw [if_neg k5]
 by_cases k6 : a.Kind = 6
 ·rw [if_pos k6]
  refine ⟨?_, hp, h0, h1, h2, h3⟩
  show (if 0 ≤ a.N ∧ a.N < 8 then Vi.setBit S.q a.N.toNat true else S.q) < 256
  by_cases q : 0 ≤ a.N ∧ a.N < 8
  ·rw [if_pos q]; exact Vi.setBit_lt hq (by omega) true
  ·rw [if_neg q]; exact hq
 rw [if_neg k6]
 by_cases k7 : a.Kind = 7
 ·rw [if_pos k7]
  refine ⟨(show (0 : Nat) < 256 by decide), ?_, h0, h1, h2, h3⟩
  show S.p ||| (if Vi.due S.at' S.set a.N then Vi.setBit S.q 0 true else S.q) < 256
  cases Vi.due S.at' S.set a.N
  ·exact Vi.or_lt hp hq
  ·exact Vi.or_lt hp hs
 rw [if_neg k7]
 by_cases k8 : a.Kind = 8
 ·rw [if_pos k8]
  exact ⟨hq, hp, h0, h1, h2, h3⟩
 rw [if_neg k8]
 by_cases k9 : a.Kind = 9
 ·rw [if_pos k9]
  exact ⟨hq, hp, h0, h1, h2, h3⟩
 rw [if_neg k9]
 by_cases k10 : a.Kind = 10
 ·rw [if_pos k10]
  exact ⟨hq, hp, h0, h1, h2, h3⟩
 rw [if_neg k10]
 by_cases k11 : a.Kind = 11
 ·rw [if_pos k11]
  exact ⟨hq, hp, (md_range (by decide) _).1, (md_range (by decide) _).2, Int.emod_nonneg _ (by decide), Int.emod_lt_of_pos _ (by decide)⟩
 rw [if_neg k11]
 exact ⟨hq, hp, h0, h1, h2, h3⟩
theorem HI.outs {q0 : Int} {x : HP} {S : HS} {σ σ' : St} {cc cc' : Nat} (h : HI q0 x S σ cc) (a : HAct) (L : Lk 64 [q0, 8] (rt0 x.r) (outs S a).o cc' σ') : HI q0 x (outs S a) σ' cc' := by
 obtain ⟨a1, a2, a3, a4, a5, a6⟩ := outs_HQ (S := S) ⟨h.q, h.p, h.t0, h.t1, h.m0, h.m1⟩ a
 exact ⟨L, h.h1, h.h2, a1, a2, a3, a4, a5, a6⟩
theorem HI.call {q0 : Int} {x : HP} {S : HS} {σ σ' : St} {cc cc' n a b c : Nat} {R : List Value} (h : HI q0 x S σ cc) (L : Lk 64 [q0, 8] (rt0 x.r) (fin S R (ocOf q0 S R n a b c)).S.o cc' σ') : HI q0 x (fin S R (ocOf q0 S R n a b c)).S σ' cc' := by
 have hw := way_of (qk := q0) (S := S) (R := R) (n := n) (a := a) (b := b) (c := c)
 generalize ocOf q0 S R n a b c = oc at L hw
 cases hw with
 | bad k _ _ _ _ => exact ⟨L, h.h1, h.h2, h.q, h.p, h.t0, h.t1, h.m0, h.m1⟩
 | ok ans cp ef S' R' _ _ _ _ _ e1 e2 e3 e4 =>
  refine ⟨L, h.h1, h.h2, by show S'.q < 256; rw [e1]; exact h.q, ?_, by show 0 ≤ S'.time; rw [e3]; exact h.t0, by show S'.time < _; rw [e3]; exact h.t1, by show 0 ≤ S'.major; rw [e4]; exact h.m0, by show S'.major < _; rw [e4]; exact h.m1⟩
  show S'.p < 256
  rcases e2 with e2 | ⟨m, e2⟩
  ·rw [e2]; exact h.p
  ·rw [e2]; exact Vi.clr_lt h.p m
def Rg.ans (g : Rg) (n : Nat) (tm v : Int) : Rg := ⟨(if n = 11 then g.rs.set 2 (w32 (tm / 2 ^ 32)) else g.rs).set 1 v, g.fs, w32 (g.pc + 4), by split <;> simp [g.lr], g.lf⟩
theorem Rg.set_r (g : Rg) {i : Nat} (hi : i < 16) (z : Int) : g.v.set i (.int .u32 z) = (⟨g.rs.set i z, g.fs, g.pc, by simp [g.lr], g.lf⟩ : Rg).v := by
 unfold Rg.v
 rw [List.set_append_left _ _ (by simp [g.lr, g.lf]; omega), List.set_append_left _ _ (by simp [g.lr]; omega), List.map_set]
theorem Rg.set_p (g : Rg) (z : Int) : g.v.set 24 (.int .u32 z) = (⟨g.rs, g.fs, z, g.lr, g.lf⟩ : Rg).v := by
 unfold Rg.v
 rw [List.set_append_right _ _ (by simp [g.lr, g.lf])]
 simp [g.lr, g.lf]
theorem regs_ans {S : HS} {g : Rg} {n : Nat} {oc : Nat ⊕ MO} (hw : Way S g.v n oc) : regsA (fin S g.v oc).R (fin S g.v oc).ans g.pc = (g.ans n S.time (fin S g.v oc).ans).v := by
 have h0 : ∀ z, n ≠ 11 → regsA g.v z g.pc = (g.ans n S.time z).v := fun z hn => by
  unfold regsA Rg.ans
  rw [Rg.set_r g (by decide), Rg.set_p]
  simp only [if_neg hn]
 cases hw with
 | bad k _ _ _ hn => exact h0 _ hn
 | ok ans cp ef S' R' _ _ _ e1 e2 _ _ _ _ =>
  show regsA R' ans g.pc = _
  by_cases hn : n = 11
  ·rw [e2 hn]
   show _ = (g.ans n S.time ans).v
   unfold regsA Rg.ans
   rw [Rg.set_r g (by decide), Rg.set_r _ (by decide), Rg.set_p]
   simp only [if_pos hn]
  ·rw [e1 hn]; exact h0 _ hn
def costN (cp : Int) : Int := 20 + (cp + 3) / 4
theorem cost_of {cp : Int} (h0 : 0 ≤ cp) (h1 : cp ≤ 64) : costA cp = costN cp ∧ 20 ≤ costN cp ∧ costN cp ≤ 36 := by
 unfold costA costN
 rw [w64 (x := cp + 3) (by omega) (by omega), tdiv_pos (by omega) (by omega) (by omega), w64 (by omega) (by omega)]
 omega
theorem fin_cost {S : HS} {R : List Value} {n : Nat} {oc : Nat ⊕ MO} (hw : Way S R n oc) : costA (fin S R oc).cp = costN (fin S R oc).cp ∧ 20 ≤ costN (fin S R oc).cp ∧ costN (fin S R oc).cp ≤ 36 := by
 cases hw with
 | bad => exact cost_of (cp := 0) (by decide) (by decide)
 | ok ans cp ef S' R' h0 h1 => exact cost_of h0 h1
section
variable (W0 : World) (Fr : List HProp)
theorem Do_c {x : HP} {S : HS} {q0 : Int} {σ : St} {cc n a b c : Nat} {g : Rg} (h : HI q0 x S σ cc) (hc : cc ≤ 100000000000) (ha : a < 4294967296) (hb : b < 4294967296) (hcl : c < 4294967296) (hn : n < 4294967296)
 (h1 : g.rs[1]? = some (n : Int)) (h2 : g.rs[2]? = some (a : Int)) (h3 : g.rs[3]? = some (b : Int)) (h4 : g.rs[4]? = some (c : Int)) :
 Ctr prog W0 16 [.pointer (some ⟨x.e, 0, none⟩), .agg g.v.toArray] (hG x S [q0, 8] σ Fr) (fun y : St => HI q0 x (fin S g.v (ocOf q0 S g.v n a b c)).S y (cc + 8192))
  (fun _ => .tuple #[.agg (g.ans n S.time (fin S g.v (ocOf q0 S g.v n a b c)).ans).v.toArray, .int .i64 (costN (fin S g.v (ocOf q0 S g.v n a b c)).cp), .int .i64 (fin S g.v (ocOf q0 S g.v n a b c)).ef]) (fun y => hG x (fin S g.v (ocOf q0 S g.v n a b c)).S [q0, 8] y Fr) := by
 refine Ctr.pure (ψ := S.d.OK) (fun w hw => Vd.d_facts (d := x.d) eX w hw) fun hdok => ?_
 have hk := h.hk hc hdok.told
 have hw := way_of (qk := q0) (S := S) (R := g.v) (n := n) (a := a) (b := b) (c := c)
 have hd := Do_spec W0 Fr (pc := g.pc) hn hk (fun cl rg => named_of hk ha hb hcl g.len cl rg) (fun k hk' => by have := code_lt hk'; omega) g.len g.ones (g.r h1) (g.r h2) (g.r h3) (g.r h4) g.p fin_R
 rw [regs_ans hw, (fin_cost hw).1] at hd
 exact hd.to id (fun y L => h.call L) (fun _ => rfl) (fun _ => Imp.refl _)
end
end Go.Proofs.YtphljkplokjonaaGreat.Hc
namespace Go.Proofs.YtphljkplokjonaaGreat.Hc
open Go Go.Sl Go.RowKit Go.Proofs Go.Proofs.YtphljkplokjonaaGreat.T Go.Proofs.YtphljkplokjonaaGreat.Sp
theorem fitK_ints {k : IntKind} : ∀ (l : List Int), fitK (List.replicate l.length (some k)) (l.map (.int k)) = true
 | [] => rfl
 | x :: l => by
  rw [List.length_cons, List.replicate_succ, List.map_cons]
  simp only [fitK, kindB, decide_true, Bool.true_and]
  exact fitK_ints l
theorem eqC_ints {k : IntKind} : ∀ (l : List Int), eqCells (l.map (.int k)) (l.map (.int k)) = true
 | [] => rfl
 | x :: l => by
  rw [List.map_cons]
  simp only [eqCells, cellEq, beq_self_eq_true, Bool.true_and]
  exact eqC_ints l
theorem fitK_app : ∀ {a b : List (Option IntKind)} {xs ys : List Value}, fitK a xs = true → fitK b ys = true → fitK (a ++ b) (xs ++ ys) = true
 | [], b, [], ys, _, h => by simpa using h
 | k :: a, b, x :: xs, ys, h1, h2 => by
  simp only [List.cons_append, fitK, Bool.and_eq_true] at h1 ⊢
  exact ⟨h1.1, fitK_app h1.2 h2⟩
 | [], _, _ :: _, _, h, _ => by cases h
 | _ :: _, _, [], _, h, _ => by cases h
theorem fit16 {l : List Int} (h : l.length = 16) : fitK (List.replicate 16 (some .u32)) (l.map (.int .u32)) = true := by have := fitK_ints (k := .u32) l; rw [h] at this; exact this
theorem fit8 {l : List Int} (h : l.length = 8) : fitK (List.replicate 8 (some .u64)) (l.map (.int .u64)) = true := by have := fitK_ints (k := .u64) l; rw [h] at this; exact this
theorem Rg.fit (g : Rg) : fitK (List.replicate 16 (some .u32) ++ List.replicate 8 (some .u64) ++ [some .u32]) g.v = true := fitK_app (fitK_app (fit16 g.lr) (fit8 g.lf)) J
theorem Rg.eqc (g : Rg) : eqCells g.v g.v = true := by
 unfold Rg.v
 rw [eqCells_append J, eqCells_append J, eqC_ints, eqC_ints]
 simp [eqCells, cellEq]
theorem Rg.get {g : Rg} (h : g.OK) {i : Nat} (hi : i < 16) : ∃ z : Nat, g.rs[i]? = some (z : Int) ∧ z < 4294967296 := by
 have hl := g.lr
 have hm := h.r g.rs[i] (List.getElem_mem (by omega))
 exact ⟨g.rs[i].toNat, by rw [List.getElem?_eq_getElem (by omega)]; congr 1; omega, by omega⟩
end Go.Proofs.YtphljkplokjonaaGreat.Hc
