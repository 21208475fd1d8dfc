/- Rules for steps of the model, and what functions of the program do. -/
import Derived.Test.YtphljkplokjonaaGreatZa6
set_option linter.unusedVariables false
set_option linter.unusedSimpArgs false
set_option linter.unusedSectionVars false
set_option maxRecDepth 100000
namespace Go.Proofs.YtphljkplokjonaaGreat.Io
open Go Go.Sl Go.RowKit Go.Proofs Go.Proofs.YtphljkplokjonaaGreat.T Go.Proofs.YtphljkplokjonaaGreat.Sp Tryz
open Go.Proofs.YtphljkplokjonaaGreat.Hc (md md_range)
/-! ### What holds of a world all the time -/
structure Wk (n : Nat) (z : WA) (S : IW) (σ : St) : Prop where
 xl : z.xs.length = 3
 yl : S.ys.length = 3
 L : Lk 64 [8, 8, 8] (rtX z.xs) S.o (98304 * n) σ
 acs : S.acs.length = 4
 uq : S.uq.length ≤ 40
 us : S.us.length ≤ 40 * n
 tk : S.bs.taken ≤ 12 * n
 ok : ∀ y ∈ S.ys, y.OK
abbrev iwG (z : WA) (S : IW) (σ : St) (G : List HProp) : List HProp := wldG z S.ys S.uq S.us S.bs S.acs σ G
theorem Wk.mono {n m : Nat} {z : WA} {S : IW} {σ : St} (h : Wk n z S σ) (hm : n ≤ m) : Wk m z S σ :=
 ⟨h.xl, h.yl, h.L.mono (by omega), h.acs, h.uq, Nat.le_trans h.us (by omega), by have := h.tk; omega, h.ok⟩
theorem sndP_len {acs : List Po.AC} {part n : Int} {bs : B} : (Hc.sndP acs part n bs).2.length = acs.length := by
 unfold Hc.sndP
 split
 ·split
  ·simp
  ·rfl
 ·rfl
theorem rcvP_len {acs : List Po.AC} {part n : Int} : (Hc.rcvP acs part n).2.2.length = acs.length := by
 unfold Hc.rcvP
 split
 ·split
  ·split
   ·rfl
   ·split
    ·rfl
    ·simp
  ·rfl
 ·rfl
theorem sb_lt {q i : Nat} (h : q < 256) (hi : i < 8) : Vi.setBit q i true < 256 := Vi.setBit_lt h hi true
theorem ok_com {r : Vd.Rq} (y : PS) (h : y.OK) : (comY r y).OK := by
 refine ⟨h.q, h.p, ?_⟩
 show ∀ a ∈ (Vd.comR y.d r.tag r.data).2.asks, _
 unfold Vd.comR
 split
 ·exact h.ad
 ·split
  ·exact h.ad
  ·rename_i b hb
   split
   ·exact h.ad
   ·intro a ha
    rcases List.mem_or_eq_of_mem_set ha with c | c
    ·exact h.ad a c
    ·rw [c]; exact h.ad b (List.mem_of_getElem? hb)
theorem ok_coms : ∀ (rs : List Vd.Rq) {ys : List PS}, (∀ y ∈ ys, y.OK) → ∀ y ∈ rs.foldl comP ys, y.OK
 | [], _, h => h
 | r :: rs, ys, h => ok_coms rs (ys := comP ys r) (by
  unfold comP; split
  ·exact mod_all h ok_com
  ·exact h)
theorem ok_map {ys : List PS} {f : PS → PS} (h : ∀ y ∈ ys, y.OK) (hf : ∀ y, y.OK → (f y).OK) : ∀ y ∈ ys.map f, y.OK := fun y hy => by
 rw [List.mem_map] at hy
 obtain ⟨z, hz, rfl⟩ := hy
 exact hf z (h z hz)
theorem ok_isu (y : PS) (h : y.OK) : (isu y).OK := ⟨h.q, h.p, fun a ha => by
 have ha' : a ∈ y.d.asks.map Vd.iss := ha
 rw [List.mem_map] at ha'
 obtain ⟨b, hb, rfl⟩ := ha'
 have := h.ad b hb
 by_cases q : b.st = 0
 ·rw [Vd.iss_one q]; exact this
 ·rw [Vd.iss_no q]; exact this⟩
theorem ok_ser {ys : List PS} {now : Int} {bs : Bk.Bs} (h : ∀ y ∈ ys, y.OK) : ∀ y ∈ serY now ys bs, y.OK := ok_coms _ (ok_map (ok_map h fun y hy => ⟨hy.q, hy.p, hy.ad⟩) ok_isu)
theorem ok_quP {line : Int} (y : PS) (h : y.OK) : (quP line y).OK := ⟨by
 show (if 0 ≤ line ∧ line < 8 then _ else _) < 256
 split
 ·exact sb_lt h.q (by omega)
 ·exact h.q, h.p, h.ad⟩
theorem ok_fed {b : B} (y : PS) (h : y.OK) : (fedP b y).OK := ⟨by
 show (if 0 < min b.length (64 - y.inn.length) then _ else _) < 256
 split
 ·exact sb_lt h.q (by decide)
 ·exact h.q, h.p, h.ad⟩
theorem ok_rdY {M : Int} (y : PS) (h : y.OK) : (rdY M y).OK := ⟨by
 show (if (Vd.rdyL y.d M).length = 0 then y.q else Vi.setBit y.q 2 true) < 256
 split
 ·exact h.q
 ·exact sb_lt h.q (by decide), h.p, fun a ha => h.ad a (List.mem_filter.1 (show a ∈ y.d.asks.filter _ from ha)).1⟩
theorem ok_beg {ys : List PS} {M : Int} {cfs : List Po.Cf} {acs : List Po.AC} {ins : List Inp} (h : ∀ y ∈ ys, y.OK) : ∀ y ∈ begY M cfs acs ins ys, y.OK :=
 ok_map (feeds_all (P := PS.OK) (fun y b hy => ok_fed y hy) ins (telCs_all (P := PS.OK) (fun y hy => ok_quP y hy) _ h)) ok_rdY
theorem ok_rel {n : Int} (y : PS) (h : y.OK) : (relC n y).OK := ⟨by show 0 < 256; decide, Vi.or_lt h.p (by
 split
 ·exact sb_lt h.q (by decide)
 ·exact h.q), h.ad⟩
theorem ok_sub {a : IAct} (ha : 0 ≤ a.Addr ∧ a.Addr < 4294967296) (y : PS) (h : y.OK) : (subC a y).OK := by
 unfold subC Hc.subP
 split
 ·refine ⟨h.q, h.p, fun b hb => ?_⟩
  rcases List.mem_append.1 (show b ∈ y.d.asks ++ [_] from hb) with c | c
  ·exact h.ad b c
  ·rw [List.mem_singleton.1 c]; exact ha
 ·exact h
theorem wk_do {n : Nat} {z : WA} {S S' : IW} {σ σ' : St} {a : IAct} {ins : List Inp} (h : Wk n z S σ) (hd : ∀ y ∈ S.ys, y.d.OK) (ha : 0 ≤ a.Addr ∧ a.Addr < 4294967296) (hS : doW a ins S = S') (hL : Lk 64 [8, 8, 8] (rtX z.xs) S'.o (98304 * (n + 1)) σ') : Wk (n + 1) z S' σ' := by
 subst hS
 have hu := h.us
 have ht := h.tk
 have hq := h.uq
 obtain ⟨S1, hS1⟩ : ∃ S1, S1 = doW a ins S := ⟨_, rfl⟩
 rw [← hS1] at hL ⊢
 refine ⟨h.xl, ?_, hL, ?_, ?_, ?_, ?_, ?_⟩ <;> (rw [hS1]; unfold doW)
 ·repeat' split
  all_goals first | exact h.yl | (show (serY _ _ _).length = 3; rw [serY_len]; exact h.yl) | (show (begY _ _ _ _ _).length = 3; rw [begY_len]; exact h.yl) | (show (List.modify _ _ _).length = 3; rw [List.length_modify]; exact h.yl)
 ·repeat' split
  all_goals first | exact h.acs | (show (List.map _ _).length = 4; rw [List.length_map]; exact h.acs) | (show (Hc.sndP _ _ _ _).2.length = 4; rw [sndP_len]; exact h.acs) | (show (Hc.rcvP _ _ _).2.2.length = 4; rw [rcvP_len]; exact h.acs)
 ·repeat' split
  all_goals first | exact hq | exact Nat.zero_le _
 ·repeat' split
  all_goals first | (show S.us.length ≤ _; omega) | (have := sndAll_len (sz := 40) (S.ys.map PS.out) hq; show (S.us ++ _).length ≤ _; rw [List.length_append]; omega)
 ·have h2 := issB_taken (now := a.N) S.ys (b := S.bs) (fun y hy => by have h1 := issR_len (s := y.d); have := (hd y hy).asks; omega)
  rw [h.yl] at h2
  repeat' split
  all_goals first | (show S.bs.taken ≤ _; omega) | (show (issB a.N S.bs S.ys).taken ≤ _; omega)
 ·repeat' split
  all_goals first | exact h.ok | exact ok_ser h.ok | exact ok_beg h.ok | exact mod_all h.ok (fun y hy => ⟨hy.q, hy.p, hy.ad⟩) | exact mod_all h.ok (ok_sub ha) | exact mod_all h.ok ok_rel
section
variable (W0 : World) (Fr : List HProp)
set_option maxHeartbeats 8000000 in
theorem do_spec {z : WA} {S S' : IW} {σ : St} {n : Nat} {a : IAct} {ins : List Inp} {ia : Option Addr} {ic : Nat} (h : Wk n z S σ) (hn : n ≤ 1000) (hB : RdB W0 Fr a.Ba a.Bc a.B) (hBm : a.B.length ≤ 140737488351232)
 (his : SlR W0 Fr 3 ia ins.length ((ins.map Inp.cells).flatten)) (hib : ∀ x ∈ ins, RdB W0 Fr x.Bytesa x.Bytesc x.Bytes ∧ x.Bytes.length ≤ 2 ^ 48) (hin : ins.length ≤ 2 ^ 60) (hS : doW a ins S = S') :
 Ctr prog W0 33 [.pointer (some ⟨z.e, 0, none⟩), .agg a.cells.toArray, .slice ia ins.length ic] (iwG z S σ Fr) (fun q : Value × St => Lk 64 [8, 8, 8] (rtX z.xs) S'.o (98304 * (n + 1)) q.2) (fun q => q.1) (fun q => iwG z S' q.2 Fr) := by
 obtain ⟨we, u, bk, p, m, f, t, xs, la, lc⟩ := z
 obtain ⟨hxl, hyl, hL, hacs, huq, hus, htk, hok⟩ := h
 dsimp only at hxl hL
 have hmd := md_range (k := 3) (by decide) a.Part
 have hwx := wrap_u64_range a.Part
 obtain ⟨pp, hpt⟩ : ∃ q : Nat, ptI a = q := ⟨_, rfl⟩
 have hpp : (pp : Int) = md 3 a.Part := by rw [← hpt]; unfold ptI; omega
 have hp3 : pp < 3 := by omega
 obtain ⟨x, hx⟩ : ∃ x, xs[pp]? = some x := ⟨xs[pp]'(by omega), List.getElem?_eq_getElem (by omega)⟩
 obtain ⟨y, hy⟩ : ∃ y, S.ys[pp]? = some y := ⟨S.ys[pp]'(by omega), List.getElem?_eq_getElem (by omega)⟩
 have hyo := hok y (List.mem_of_getElem? hy)
 have hL1 := hL.mono (d := 98304 * (n + 1)) (by omega)
 have had : ∀ y ∈ S.ys, AdOK y := fun y hy => (hok y hy).ad
 dsimp only [wldG, wldE, wldL, WG]
 refine Ctr.pure (fun w hw => SlR.elem_shape (i := 0) (SlR.of_osl (W0 := W0) (E := 58) (a := la) (c := lc) eX) PA.len (by decide) (by show 0 < xs.length; omega) w hw) ?_
 rintro ⟨lb, lo, rfl⟩
 refine Ctr.of_body func33 J ntmps33 J (eZ (aZ (jQ (sX J) J ?_)))
 rintro b4 -
 refine gZ J (fZ (bZ (eZ (sQ (.lo 0 0 (.lo 1 0 (.lo 2 0 (.lo 3 0 (.lo 4 0 (.lo 5 0 (.lo 6 0 (.lo 7 0 (.lo 8 0 (.lo 9 0 (.lo 10 0 (.eff1 11 false (.eff1 12 false (.done)))))))))))))) [11, 12] [] ([blk b4 a.cells 52, wldE ⟨we, u, bk, p, m, f, t, xs, some ⟨lb, lo, none⟩, lc⟩, wldL ⟨we, u, bk, p, m, f, t, xs, some ⟨lb, lo, none⟩, lc⟩]) ([]) mixed (by kernel_rfl) iM (Imp.none _) ?_))))
 refine mZ J J (rQ J J (aQ J fa64_0 J (kZ J (hZ (v := .slice (some ⟨lb, lo, none⟩) xs.length lc) ti59 J (Cel.of_blk (b := we) eX J)) ?_)))
 refine aQ J fa52_1 J (kZ J (hZ (v := .int .i64 a.Part) ti3 J (Cel.of_blk (b := b4) eX J)) ?_)
 refine kZ J (uQ underlying24 J J J) (kZ J (tX (c := md 3 a.Part) J J (by decide) (tmod_pos (by omega) (by omega))) ?_)
 refine kZ J (uQ (c := (pp : Int)) underlying3 J J (by rw [hpp]; exact w64 (by omega) (by omega))) ?_
 refine kZ J (nZ underlying59 ti58 J J (by omega) (by omega)) ?_
 refine kZ J (tQ (vs := PA.cells x) ti58 J J (by rw [show lo + (pp : Int).toNat * 4 = lo + pp * 4 by omega]; exact (SlR.of_osl (E := 58) (a := some ⟨lb, lo, none⟩) (c := lc) eX).elem PA.len hx)) ?_
 refine zZ (vQ J J (lX ti58) J (fun _ => iM) (fun _ => Imp.refl _) (fun _ => iM) ?_)
 rintro b7 -
 refine zZ (vQ J J (gX ti58 J J fC J (PA.ones _) J) J (fun _ => iM) (fun _ => Imp.refl _) (fun _ => iM) ?_)
 rintro ⟨⟩ -
 refine qQ (bZ (eZ (aZ (pZ fa52_1 J (cZ (hZ (v := .int .i64 a.Part) ti3 J (Cel.of_blk (b := b4) eX J)) ?_)))))
 refine cZ (uQ underlying24 J J J) (cZ (tX (c := md 3 a.Part) J J (by decide) (tmod_pos (by omega) (by omega))) ?_)
 refine cZ (uQ (c := (pp : Int)) underlying3 J J (by rw [hpp]; exact w64 (by omega) (by omega))) ?_
 refine gZ J (fZ (bZ (eZ (eZ (aZ (pZ fa52_0 J (cZ (hZ (v := .int .i64 a.Kind) ti3 J (Cel.of_blk (b := b4) eX J)) ?_)))))))
 refine fZ (bZ (fQ (eZ (aZ (cZ (bX J J) (gZ J (fZ (bZ (wQ J (fun hc => ?_) (fun hc => ?_))))))))))
 ·try replace hc := odT hc
  obtain rfl : { S with ys := serY a.N S.ys S.bs, uq := [], us := S.us ++ sndAll 40 S.uq (S.ys.map PS.out), bs := serB a.N S.ys S.bs } = S' := by rw [← hS]; unfold doW; rw [hc]; rfl
  refine eZ (sQ (.lo 0 1 (.lo 1 1 (.lo 2 1 (.lo 3 1 (.lo 4 1 (.lo 5 1 (.lo 6 1 (.lo 7 1 (.lo 8 1 (.lo 9 1 (.lo 10 1 (.lo 11 1 (.lo 12 1 (.lo 13 1 (.eff1 14 false (.lo 15 1 (.done))))))))))))))))) [14] [] ([]) ([]) mixed (by kernel_rfl) (Imp.none _) (Imp.none _) (mZ J J (rQ J J (aQ J fa64_0 J (kZ J (hZ (v := .slice (some ⟨lb, lo, none⟩) xs.length lc) ti59 J (Cel.of_blk (b := we) eX J)) ?_)))))
  refine mZ J J (rQ J J (aQ J fa64_1 J (kZ J (hZ (v := .pointer (some ⟨u, 0, none⟩)) ti60 J (Cel.of_blk (b := we) eX J)) ?_)))
  refine mZ J J (rQ J J (aQ J fa64_2 J (kZ J (hZ (v := .pointer (some ⟨bk, 0, none⟩)) ti61 J (Cel.of_blk (b := we) eX J)) ?_)))
  refine aQ J fa52_2 J (kZ J (hZ (v := .int .i64 a.N) ti3 J (Cel.of_blk (b := b4) eX J)) ?_)
  refine zZ (kQ J J call22 J (iM) (serve_spec W0 (wldL ⟨we, u, bk, p, m, f, t, xs, some ⟨lb, lo, none⟩, lc⟩ :: wldE ⟨we, u, bk, p, m, f, t, xs, some ⟨lb, lo, none⟩, lc⟩ :: Po.Po p S.acs :: SL m f t xs :: WG m f t 64 [8, 8, 8] σ Fr) (u := u) (b := bk) (lc := lc) (sz := 40) (xs := xs) (ys := S.ys) (uq := S.uq) (us := S.us) (bs := S.bs) (now := a.N) (SlR.of_osl (E := 58) (a := some ⟨lb, lo, none⟩) (c := lc) Ext.here) (by omega) (by omega) huq (by decide) (by omega) (by rw [hxl]; omega)) J (fun _ => iM) (fun _ => Imp.refl _) (fun _ => iM) ?_)
  rintro ⟨ya, yc, yms⟩ hyb
  dsimp only [WG, wldL, wldE, Po.End.cell] at hyb ⊢
  exact kZ J (hQ J) (qQ (bZ (tZ (mQ (vZ (xZ J J (Value.slice ya yms.length yc, σ) hL1 J iM))))))
 ·try replace hc := odF hc
  have k1 := hc
  refine eZ (aZ (cZ (bX J J) (gZ J (fZ (bZ (wQ J (fun hc => ?_) (fun hc => ?_)))))))
  ·try replace hc := odT hc
   obtain rfl : { S with ys := begY a.N chs S.acs ins S.ys, acs := S.acs.map Po.AC.tr, o := begO a.N chs S.acs ins S.ys S.o } = S' := by rw [← hS]; unfold doW; rw [hc]; rfl
   refine sQ (.lo 0 0 (.lo 1 0 (.lo 2 0 (.lo 3 0 (.lo 5 0 (.lo 6 0 (.lo 7 0 (.lo 8 0 (.lo 9 0 (.lo 10 0 (.lo 11 0 (.eff1 4 false (.eff1 12 false (.done)))))))))))))) [4, 12] [] ([blk b4 a.cells 52, wldE ⟨we, u, bk, p, m, f, t, xs, some ⟨lb, lo, none⟩, lc⟩]) ([]) mixed (by kernel_rfl) iM (Imp.none _) ?_
   refine mZ J J (rQ J J (aQ J fa64_0 J (kZ J (hZ (v := .slice (some ⟨lb, lo, none⟩) xs.length lc) ti59 J (Cel.of_blk (b := we) eX J)) ?_)))
   refine mZ J J (rQ J J (aQ J fa64_3 J (kZ J (hZ (v := .pointer (some ⟨p, 0, none⟩)) ti62 J (Cel.of_blk (b := we) eX J)) ?_)))
   refine mZ J J (aQ J fa52_2 J (kZ J (hZ (v := .int .i64 a.N) ti3 J (Cel.of_blk (b := b4) eX J)) ?_))
   refine zZ (kQ J J call25 J (Imp.refl _) (channels_spec W0 _) J (fun _ => iM) (fun _ => Imp.refl _) (fun _ => iM) ?_)
   rintro b50 -
   refine zZ (kQ J J call24 J (iM) (begin_spec W0 (blk b4 a.cells 52 :: wldL ⟨we, u, bk, p, m, f, t, xs, some ⟨lb, lo, none⟩, lc⟩ :: osl 156 5 (some ⟨b50, 0, none⟩) 4 4 ((chs.map Po.Cf.cells).flatten) :: wldE ⟨we, u, bk, p, m, f, t, xs, some ⟨lb, lo, none⟩, lc⟩ :: Ua.U u 40 S.uq S.us :: Bk.Bl bk S.bs :: Fr) (p := p) (lc := lc) (cc := 4) (m := m) (f := f) (t := t) (n := 64) (c := 98304 * n) (ic := ic) (ia := ia) (xs := xs) (ys := S.ys) (cfs := chs) (acs := S.acs) (ins := ins) (qs := [8, 8, 8]) (o := S.o) (σ := σ) a.N (SlR.of_osl (E := 58) (a := some ⟨lb, lo, none⟩) (c := lc) eX) (SlR.of_osl (E := 156) (a := some ⟨b50, 0, none⟩) (c := 4) eX) (his.imp iM) (fun x hx => ⟨(hib x hx).1.imp iM, (hib x hx).2⟩) hin (by omega) (by omega) (by decide) (by omega) had hL (by omega)) J (fun _ => iM) (fun _ => Imp.refl _) (fun _ => iM) ?_)
   rintro σ1 L1
   dsimp only [WG, wldL, wldE] at L1 ⊢
   exact qQ (sZ (bZ (eZ (aZ (gZ J (fZ (bZ (tZ (xZ J J (Value.slice none 0 0, σ1) (L1.mono (by rw [hxl]; omega)) J iM)))))))))
  ·try replace hc := odF hc
   have k2 := hc
   refine eZ (aZ (cZ (bX J J) (gZ J (fZ (bZ (wQ J (fun hc => ?_) (fun hc => ?_)))))))
   ·try replace hc := odT hc
    obtain rfl : { S with ys := S.ys.set pp (wrC a.B y) } = S' := by rw [← hS]; unfold doW; rw [hc, hpt, mod_at (f := wrC a.B) hy]; rfl
    refine mX (Imp.trans (B := PL xs S.ys :: _) iM (pl_open hx hy)) ?_
    refine sQ (.lo 0 0 (.lo 1 0 (.lo 3 0 (.lo 4 0 (.eff1 2 false (.eff1 5 false (.eff1 6 false (.done)))))))) [2, 5, 6] [] ([blk b4 a.cells 52, blk b7 x.cells 58]) ([]) mixed (by kernel_rfl) iM (Imp.none _) ?_
    refine aQ J fa58_2 J (kZ J (hZ (v := .pointer (some ⟨x.k, 0, none⟩)) ti55 J (Cel.of_blk (b := b7) eX J)) ?_)
    refine aQ J fa52_3 J (kZ J (hZ (v := .slice a.Ba a.B.length a.Bc) ti32 J (Cel.of_blk (b := b4) eX J)) ?_)
    refine zZ (vQ J J (lV underlying32 ti5 J) J (fun _ => iM) (fun _ => Imp.refl _) (fun _ => iM) ?_)
    rintro b63 -
    refine zZ (vQ J J (Eff.appendB0 J J J underlying32 underlying32 ti5 (by decide) fC (hB.slR.imp iM) (by omega)) J (fun _ => iM) (fun _ => Imp.refl _) (fun _ => iM) ?_)
    rintro ⟨a66, c66⟩ -
    refine zZ (kQ J J call20 J (iM) (Vc.writeB W0 _ (g := x.k) (out := y.out) (inn := y.inn) (ds := a.B) (a2 := a66) (c2 := c66) (by exact RdB.of_osl (E := 5) eX J J) (by omega)) J (fun _ => iM) (fun _ => Imp.refl _) (fun _ => iM) ?_)
    rintro ⟨⟩ -
    exact qQ (sZ (bZ (eZ (aZ (gZ J (fZ (bZ (tZ (xZ J J (Value.slice none 0 0, σ) hL1 J (Imp.trans (Imp.trans iM (pl_shut (wrC a.B y) hx hy)) iM))))))))))
   ·try replace hc := odF hc
    have k3 := hc
    refine eZ (aZ (cZ (bX J J) (gZ J (fZ (bZ (wQ J (fun hc => ?_) (fun hc => ?_)))))))
    ·try replace hc := odT hc
     obtain rfl : { S with ys := S.ys.set pp (rdC a.N y) } = S' := by rw [← hS]; unfold doW; rw [hc, hpt, mod_at (f := rdC a.N) hy]; rfl
     refine mX (Imp.trans (B := PL xs S.ys :: _) iM (pl_open hx hy)) ?_
     refine aZ (pZ fa58_2 J (cZ (hZ (v := .pointer (some ⟨x.k, 0, none⟩)) ti55 J (Cel.of_blk (b := b7) eX J)) ?_))
     refine pZ fa52_2 J (cZ (hZ (v := .int .i64 a.N) ti3 J (Cel.of_blk (b := b4) eX J)) ?_)
     refine oZ call26 J (iM) (Vc.readB W0 _ (g := x.k) (out := y.out) (inn := y.inn) a.N) J ?_
     rintro ⟨ja, jc⟩ -
     exact fZ (sZ (bZ (eZ (aZ (gZ J (fZ (bZ (tZ (xZ J J (Value.slice none 0 0, σ) hL1 J (Imp.trans (Imp.trans iM (pl_shut (rdC a.N y) hx hy)) iM))))))))))
    ·try replace hc := odF hc
     have k4 := hc
     refine eZ (aZ (cZ (bX J J) (gZ J (fZ (bZ (wQ J (fun hc => ?_) (fun hc => ?_)))))))
     ·try replace hc := odT hc
      obtain rfl : { S with ys := S.ys.set pp (subC a y) } = S' := by rw [← hS]; unfold doW; rw [hc, hpt, mod_at (f := subC a) hy]; rfl
      refine mX (Imp.trans (B := PL xs S.ys :: _) iM (pl_open hx hy)) ?_
      refine sQ (.lo 0 0 (.lo 1 0 (.lo 2 0 (.lo 3 0 (.lo 4 0 (.lo 5 0 (.lo 6 0 (.lo 7 0 (.lo 9 0 (.lo 10 0 (.lo 12 0 (.lo 13 0 (.eff1 8 false (.eff1 11 false (.eff1 14 false (.done)))))))))))))))) [8, 11, 14] [] ([blk b4 a.cells 52, blk b7 x.cells 58]) ([]) mixed (by kernel_rfl) iM (Imp.none _) ?_
      refine aQ J fa58_3 J (kZ J (hZ (v := .pointer (some ⟨x.d, 0, none⟩)) ti56 J (Cel.of_blk (b := b7) eX J)) ?_)
      refine aQ J fa52_4 J (kZ J (hZ (v := .bool a.Write) ti4 J (Cel.of_blk (b := b4) eX J)) ?_)
      refine aQ J fa52_5 J (kZ J (hZ (v := .int .i64 a.Sector) ti3 J (Cel.of_blk (b := b4) eX J)) ?_)
      refine aQ J fa52_6 J (kZ J (hZ (v := .int .u32 a.Addr) ti27 J (Cel.of_blk (b := b4) eX J)) ?_)
      refine aQ J fa52_3 J (kZ J (hZ (v := .slice a.Ba a.B.length a.Bc) ti32 J (Cel.of_blk (b := b4) eX J)) ?_)
      refine aQ J fa52_2 J (kZ J (hZ (v := .int .i64 a.N) ti3 J (Cel.of_blk (b := b4) eX J)) ?_)
      refine zZ (vQ J J (lV underlying32 ti5 J) J (fun _ => iM) (fun _ => Imp.refl _) (fun _ => iM) ?_)
      rintro b85 -
      refine zZ (vQ J J (Eff.appendB0 J J J underlying32 underlying32 ti5 (by decide) fC (hB.slR.imp iM) (by omega)) J (fun _ => iM) (fun _ => Imp.refl _) (fun _ => iM) ?_)
      rintro ⟨a88, c88⟩ -
      refine zZ (kQ J J call91 J (iM) (Hc.sub_spec W0 _ (d := x.d) (s := y.d) (write := a.Write) (sector := a.Sector) (addr := a.Addr) (major := a.N) (da := a88) (dc := c88) (data := a.B) (by exact RdB.of_osl (E := 5) eX J J) (by omega)) J (fun _ => iM) (fun _ => Imp.refl _) (fun _ => iM) ?_)
      rintro ⟨⟩ -
      exact qQ (sZ (bZ (eZ (aZ (gZ J (fZ (bZ (tZ (xZ J J (Value.slice none 0 0, σ) hL1 J (Imp.trans (Imp.trans iM (pl_shut (subC a y) hx hy)) iM))))))))))
     ·try replace hc := odF hc
      have k5 := hc
      refine eZ (aZ (cZ (bX J J) (gZ J (fZ (bZ (wQ J (fun hc => ?_) (fun hc => ?_)))))))
      ·try replace hc := odT hc
       obtain rfl : { S with acs := (Hc.sndP S.acs pp a.N a.B).2 } = S' := by rw [← hS]; unfold doW; rw [hc, hpt]; rfl
       refine sQ (.lo 0 0 (.lo 1 0 (.lo 2 0 (.lo 3 0 (.lo 4 0 (.lo 5 0 (.lo 6 0 (.lo 8 0 (.lo 9 0 (.eff1 7 false (.eff1 10 false (.eff1 11 false (.done))))))))))))) [7, 10, 11] [] ([blk b4 a.cells 52, wldE ⟨we, u, bk, p, m, f, t, xs, some ⟨lb, lo, none⟩, lc⟩]) ([]) mixed (by kernel_rfl) iM (Imp.none _) ?_
       refine mZ J J (rQ J J (aQ J fa64_3 J (kZ J (hZ (v := .pointer (some ⟨p, 0, none⟩)) ti62 J (Cel.of_blk (b := we) eX J)) ?_)))
       refine mZ J J (aQ J fa52_2 J (kZ J (hZ (v := .int .i64 a.N) ti3 J (Cel.of_blk (b := b4) eX J)) ?_))
       refine aQ J fa52_3 J (kZ J (hZ (v := .slice a.Ba a.B.length a.Bc) ti32 J (Cel.of_blk (b := b4) eX J)) ?_)
       refine zZ (vQ J J (lV underlying32 ti5 J) J (fun _ => iM) (fun _ => Imp.refl _) (fun _ => iM) ?_)
       rintro b101 -
       refine zZ (vQ J J (Eff.appendB0 J J J underlying32 underlying32 ti5 (by decide) fC (hB.slR.imp iM) (by omega)) J (fun _ => iM) (fun _ => Imp.refl _) (fun _ => iM) ?_)
       rintro ⟨a104, c104⟩ -
       refine zZ (kQ J J call44 J (iM) (Hc.snd_spec W0 _ (p := p) (acs := S.acs) pp a.N (a := a104) (c := c104) (bs := a.B) (SlR.of_osl (E := 5) (a := a104) eX) (by omega)) J (fun _ => iM) (fun _ => Imp.refl _) (fun _ => iM) ?_)
       rintro ⟨⟩ -
       exact qQ (sZ (bZ (eZ (aZ (gZ J (fZ (bZ (tZ (xZ J J (Value.slice none 0 0, σ) hL1 J iM)))))))))
      ·try replace hc := odF hc
       have k6 := hc
       refine eZ (aZ (cZ (bX J J) (gZ J (fZ (bZ (wQ J (fun hc => ?_) (fun hc => ?_)))))))
       ·try replace hc := odT hc
        obtain rfl : { S with acs := (Hc.rcvP S.acs pp a.N).2.2 } = S' := by rw [← hS]; unfold doW; rw [hc, hpt]; rfl
        refine sQ (.lo 0 1 (.lo 1 1 (.lo 2 1 (.lo 3 1 (.lo 4 1 (.lo 5 1 (.lo 6 1 (.eff1 7 false (.done))))))))) [7] [] ([]) ([]) mixed (by kernel_rfl) (Imp.none _) (Imp.none _) (mZ J J (rQ J J (aQ J fa64_3 J (kZ J (hZ (v := .pointer (some ⟨p, 0, none⟩)) ti62 J (Cel.of_blk (b := we) eX J)) ?_))))
        refine mZ J J (aQ J fa52_2 J (kZ J (hZ (v := .int .i64 a.N) ti3 J (Cel.of_blk (b := b4) eX J)) ?_))
        refine zZ (kQ J J call59 J (iM) (Hc.rcv_spec W0 _ (p := p) (acs := S.acs) pp a.N) J (fun _ => iM) (fun _ => Imp.refl _) (fun _ => iM) ?_)
        rintro ⟨ba, bc, bb⟩ -
        exact qQ (sZ (bZ (eZ (aZ (gZ J (fZ (bZ (tZ (xZ J J (Value.slice none 0 0, σ) hL1 J iM)))))))))
       ·try replace hc := odF hc
        have k7 := hc
        refine eZ (aZ (cZ (bX J J) (gZ J (fZ (bZ (wQ J (fun hc => ?_) (fun hc => ?_)))))))
        ·try replace hc := odT hc
         obtain rfl : { S with ys := S.ys.set pp (relC a.N y) } = S' := by rw [← hS]; unfold doW; rw [hc, hpt, mod_at (f := relC a.N) hy]; rfl
         refine mX (Imp.trans (B := PL xs S.ys :: _) iM (pl_open hx hy)) ?_
         refine aZ (pZ fa58_1 J (cZ (hZ (v := .pointer (some ⟨x.v, 0, none⟩)) ti54 J (Cel.of_blk (b := b7) eX J)) ?_))
         refine pZ fa52_2 J (cZ (hZ (v := .int .i64 a.N) ti3 J (Cel.of_blk (b := b4) eX J)) ?_)
         refine oZ call27 J (iM) (Vi.release_spec W0 _ (v := x.v) (q := y.q) (p := y.p) (a := y.at') (s := y.set) a.N hyo.q hyo.p) J ?_
         rintro ⟨⟩ -
         exact fZ (sZ (bZ (eZ (aZ (gZ J (fZ (bZ (tZ (xZ J J (Value.slice none 0 0, σ) hL1 J (Imp.trans (Imp.trans iM (pl_shut (relC a.N y) hx hy)) iM))))))))))
        ·try replace hc := odF hc
         obtain rfl : S = S' := by rw [← hS]; unfold doW; rw [if_neg k1, if_neg k2, if_neg k3, if_neg k4, if_neg k5, if_neg k6, if_neg k7, if_neg hc]
         exact wZ (sZ (bZ (eZ (aZ (gZ J (fZ (bZ (tZ (xZ J J (Value.slice none 0 0, σ) hL1 J iM)))))))))
theorem do_c {z : WA} {S S' : IW} {σ : St} {n : Nat} {a : IAct} {ins : List Inp} {ia : Option Addr} {ic : Nat} (h : Wk n z S σ) (hn : n ≤ 1000) (ha : 0 ≤ a.Addr ∧ a.Addr < 4294967296) (hB : RdB W0 Fr a.Ba a.Bc a.B) (hBm : a.B.length ≤ 140737488351232)
 (his : SlR W0 Fr 3 ia ins.length ((ins.map Inp.cells).flatten)) (hib : ∀ x ∈ ins, RdB W0 Fr x.Bytesa x.Bytesc x.Bytes ∧ x.Bytes.length ≤ 2 ^ 48) (hin : ins.length ≤ 2 ^ 60) (hS : doW a ins S = S') :
 Ctr prog W0 33 [.pointer (some ⟨z.e, 0, none⟩), .agg a.cells.toArray, .slice ia ins.length ic] (iwG z S σ Fr) (fun q : Value × St => Wk (n + 1) z S' q.2 ∧ ∀ y ∈ S.ys, y.d.OK) (fun q => q.1) (fun q => iwG z S' q.2 Fr) :=
 Ctr.pure (ψ := ∀ y ∈ S.ys, y.d.OK) (fun w hw => fun y hy => (pl_facts (xs := z.xs) (ys := S.ys) (h.xl.trans h.yl.symm) (by unfold iwG wldG; exact Ext.there (Ext.there Ext.here)) w hw y hy).1) fun hd =>
  Ctr.re (do_spec W0 Fr h hn hB hBm his hib hin hS) id (fun q hq => ⟨wk_do h hd ha hS hq, hd⟩) (fun _ _ => rfl) (fun _ _ => Imp.refl _)
end
end Go.Proofs.YtphljkplokjonaaGreat.Io
namespace Go.Proofs.YtphljkplokjonaaGreat.Hc
open Go Go.Sl Go.RowKit Go.Proofs Go.Proofs.YtphljkplokjonaaGreat.T Go.Proofs.YtphljkplokjonaaGreat.Sp
end Go.Proofs.YtphljkplokjonaaGreat.Hc
namespace Go.Proofs.YtphljkplokjonaaGreat.Sp
open Go Go.Sl Go.RowKit Go.Proofs Go.Proofs.YtphljkplokjonaaGreat.T Go.Proofs.YtphljkplokjonaaGreat.Me Go.Proofs.YtphljkplokjonaaGreat.Pe Go.Proofs.YtphljkplokjonaaGreat.Pg Tryz
section
variable (W0 : World) (Fr : List HProp)
set_option maxHeartbeats 4000000 in
theorem samePages_spec {a1 a2 : Option Addr} {c1 c2 : Nat} {l1 l2 : List PV} (h1 : PVr W0 Fr a1 l1) (h2 : PVr W0 Fr a2 l2) (hlen : l1.length ≤ 1000000) :
 Ctr prog W0 40 [.slice a1 l1.length c1, .slice a2 l2.length c2] Fr (fun _ : Unit => True) (fun _ => .bool (decide (l1.map PV.v = l2.map PV.v))) (fun _ => Fr) := by
 refine Ctr.of_body func40 J ntmps40 J (eZ (aZ (gZ J (fZ (bZ (eZ (eZ (aZ (dZ J (cZ (lZ underlying36 J J) (dZ J (cZ (lZ underlying36 J J) (cZ nQ ?_)))))))))))))
 refine fZ (bZ (wQ J (fun hc => ?_) (fun hc => ?_)))
 ·try replace hc := odT hc
  refine eZ (aZ (gZ J (fZ (bZ (tZ (vZ (xZ J J () trivial ?_ (Imp.refl _))))))))
  rw [decide_eq_false (fun e => by have := congrArg List.length e; rw [List.length_map, List.length_map] at this; omega)]
 ·try replace hc := odF hc
  refine wZ (bZ (eZ (eZ (aZ (gZ J (fZ (bZ (fQ (iX (fun i : Nat => i ≤ l1.length ∧ (l1.map PV.v).take i = (l2.map PV.v).take i) (fun i => [(0, .slice a1 l1.length c1), (1, .slice a2 l2.length c2), (5, .int .i64 i)]) (fun _ => Fr) (fun i => l1.length - i) 0 ⟨Nat.zero_le _, rfl⟩ eS (Imp.refl _) ?_)))))))))
  rintro i ⟨hi, hp⟩
  refine eZ (eZ (aZ (dZ J (dZ J (cZ (lZ underlying36 J J) (cZ bQ ?_))))))
  refine fZ (bZ (wQ J (fun hc => ?_) (fun hc => ?_)))
  ·try replace hc := odT hc
   obtain ⟨x, hx⟩ : ∃ x, l1[i]? = some x := ⟨_, List.getElem?_eq_getElem (by omega)⟩
   obtain ⟨y, hy⟩ : ∃ y, l2[i]? = some y := ⟨_, List.getElem?_eq_getElem (by omega)⟩
   have hxv : (l1.map PV.v)[i]? = some x.v := by rw [List.getElem?_map, hx]; rfl
   have hyv : (l2.map PV.v)[i]? = some y.v := by rw [List.getElem?_map, hy]; rfl
   have hno : x.v ≠ y.v → l1.map PV.v ≠ l2.map PV.v := fun q e => q (by rw [e, hyv] at hxv; exact (Option.some.inj hxv).symm)
   refine kX (fun w hw => SlR.elem_shape (W0 := W0) (f := PV.cells) (xs := l1) (i := i) h1.cells PV.len (by decide) (by omega) w hw) ?_
   rintro ⟨b1, o1, rfl⟩
   refine kX (fun w hw => SlR.elem_shape (W0 := W0) (f := PV.cells) (xs := l2) (i := i) h2.cells PV.len (by decide) (by omega) w hw) ?_
   rintro ⟨b2, o2, rfl⟩
   have r1 := SlR.elem (f := PV.cells) (xs := l1) (i := i) h1.cells PV.len hx
   have r2 := SlR.elem (f := PV.cells) (xs := l2) (i := i) h2.cells PV.len hy
   refine wZ (bZ (eZ (fQ (eZ ?_))))
   rcases (show x.p ≠ y.p ∨ (x.p = y.p ∧ x.pm ≠ y.pm) ∨ (x.p = y.p ∧ x.pm = y.pm ∧ x.b ≠ y.b) ∨ (x.p = y.p ∧ x.pm = y.pm ∧ x.b = y.b) by by_cases e1 : x.p = y.p <;> by_cases e2 : x.pm = y.pm <;> by_cases e3 : x.b = y.b <;> simp [e1, e2, e3]) with q | ⟨q1, q⟩ | ⟨q1, q2, q⟩ | ⟨q1, q2, q3⟩
   ·refine sQ (.lo 0 1 (.lo 1 1 (.lo 2 1 (.lo 3 1 (.lo 4 1 (.lo 5 1 (.lo 6 1 (.lo 7 1 (.lo 8 1 (.lo 9 1 (.lo 10 1 (.lo 11 1 (.lo 12 1 (.lo 13 1 (.lo 14 1 (.lo 15 1 (.lo 16 1 (.lo 17 1 (.lo 18 1 (.lo 19 1 (.lo 20 1 (.lo 21 1 (.lo 22 1 (.lo 23 1 (.lo 24 1 (.lo 25 1 (.lo 26 1 (.lo 27 1 (.lo 28 1 (.lo 29 1 (.lo 30 1 (.lo 31 1 (.lo 32 1 (.lo 33 1 (.lo 34 1 (.lo 35 1 (.lo 36 1 (.lo 37 1 (.lo 38 1 (.done)))))))))))))))))))))))))))))))))))))))) [] [] ([]) ([]) mixed (by kernel_rfl) (Imp.none _) (Imp.none _) (mZ J J (mZ J J (kZ J (nZ underlying36 ti180 J J (by omega) (by omega)) ?_)))
    refine aQ J fa180_0 J (kZ J (hZ (v := .int .i64 x.p) ti3 J (by rw [show o1 + (i : Int).toNat * 3 = o1 + i * 3 by omega]; exact r1 0 _ J)) ?_)
    refine mZ J J (mZ J J (kZ J (nZ underlying36 ti180 J J (by omega) (by omega)) ?_))
    refine aQ J fa180_0 J (kZ J (hZ (v := .int .i64 y.p) ti3 J (by rw [show o2 + (i : Int).toNat * 3 = o2 + i * 3 by omega]; exact r2 0 _ J)) ?_)
    refine kZ J nQ ?_
    refine mZ J J (lQ J J J (lQ J J J (lQ J J J (lQ J J J (lQ J J J (lQ J J J (lQ J J J (lQ J J J (lQ J J J (lQ J J J (lQ J J J (kZ J jZ ?_))))))))))))
    refine mZ J J (lQ J J J (lQ J J J (lQ J J J (lQ J J J (lQ J J J (lQ J J J (lQ J J J (lQ J J J (lQ J J J (lQ J J J (lQ J J J (lQ J J J (lQ J J J (kZ J jZ ?_))))))))))))))
    exact qQ (bZ (gQ J (eZ (aZ (gZ J (fZ (bZ (tZ (mQ (vZ (vZ (mQ (vZ (xZ J J () trivial (by rw [decide_eq_false (hno (fun e => q (congrArg (·.1) e)))]) (Imp.refl _)))))))))))))))
   ·refine sQ (.lo 0 1 (.lo 1 1 (.lo 2 1 (.lo 3 1 (.lo 4 1 (.lo 5 1 (.lo 6 1 (.lo 7 1 (.lo 8 1 (.lo 9 1 (.lo 10 1 (.lo 11 1 (.lo 12 1 (.lo 13 1 (.lo 14 1 (.lo 15 1 (.lo 16 1 (.lo 17 1 (.lo 18 1 (.lo 19 1 (.lo 20 1 (.lo 21 1 (.lo 22 1 (.lo 23 1 (.lo 24 1 (.lo 25 1 (.lo 26 1 (.lo 27 1 (.lo 28 1 (.lo 29 1 (.lo 30 1 (.lo 31 1 (.lo 32 1 (.lo 33 1 (.lo 34 1 (.lo 35 1 (.lo 36 1 (.lo 37 1 (.lo 38 1 (.done)))))))))))))))))))))))))))))))))))))))) [] [] ([]) ([]) mixed (by kernel_rfl) (Imp.none _) (Imp.none _) (mZ J J (mZ J J (kZ J (nZ underlying36 ti180 J J (by omega) (by omega)) ?_)))
    refine aQ J fa180_0 J (kZ J (hZ (v := .int .i64 x.p) ti3 J (by rw [show o1 + (i : Int).toNat * 3 = o1 + i * 3 by omega]; exact r1 0 _ J)) ?_)
    refine mZ J J (mZ J J (kZ J (nZ underlying36 ti180 J J (by omega) (by omega)) ?_))
    refine aQ J fa180_0 J (kZ J (hZ (v := .int .i64 y.p) ti3 J (by rw [show o2 + (i : Int).toNat * 3 = o2 + i * 3 by omega]; exact r2 0 _ J)) ?_)
    refine kZ J nQ ?_
    refine mZ J J (mZ J J (mZ J J (kZ J (nZ underlying36 ti180 J J (by omega) (by omega)) ?_)))
    refine aQ J fa180_1 J (kZ J (hZ (v := .int .i64 x.pm) ti3 J (by rw [show o1 + (i : Int).toNat * 3 = o1 + i * 3 by omega]; exact r1 1 _ J)) ?_)
    refine mZ J J (mZ J J (kZ J (nZ underlying36 ti180 J J (by omega) (by omega)) ?_))
    refine aQ J fa180_1 J (kZ J (hZ (v := .int .i64 y.pm) ti3 J (by rw [show o2 + (i : Int).toNat * 3 = o2 + i * 3 by omega]; exact r2 1 _ J)) ?_)
    refine kZ J nQ ?_
    refine kZ J jZ ?_
    refine mZ J J (lQ J J J (lQ J J J (lQ J J J (lQ J J J (lQ J J J (lQ J J J (lQ J J J (lQ J J J (lQ J J J (lQ J J J (lQ J J J (lQ J J J (lQ J J J (kZ J jZ ?_))))))))))))))
    exact qQ (bZ (gQ J (eZ (aZ (gZ J (fZ (bZ (tZ (mQ (vZ (vZ (mQ (vZ (xZ J J () trivial (by rw [decide_eq_false (hno (fun e => q (congrArg (·.2.1) e)))]) (Imp.refl _)))))))))))))))
   ·refine sQ (.lo 0 1 (.lo 1 1 (.lo 2 1 (.lo 3 1 (.lo 4 1 (.lo 5 1 (.lo 6 1 (.lo 7 1 (.lo 8 1 (.lo 9 1 (.lo 10 1 (.lo 11 1 (.lo 12 1 (.lo 13 1 (.lo 14 1 (.lo 15 1 (.lo 16 1 (.lo 17 1 (.lo 18 1 (.lo 19 1 (.lo 20 1 (.lo 21 1 (.lo 22 1 (.lo 23 1 (.lo 24 1 (.lo 25 1 (.lo 26 1 (.lo 27 1 (.lo 28 1 (.lo 29 1 (.lo 30 1 (.lo 31 1 (.lo 32 1 (.lo 33 1 (.lo 34 1 (.lo 35 1 (.lo 36 1 (.lo 37 1 (.lo 38 1 (.done)))))))))))))))))))))))))))))))))))))))) [] [] ([]) ([]) mixed (by kernel_rfl) (Imp.none _) (Imp.none _) (mZ J J (mZ J J (kZ J (nZ underlying36 ti180 J J (by omega) (by omega)) ?_)))
    refine aQ J fa180_0 J (kZ J (hZ (v := .int .i64 x.p) ti3 J (by rw [show o1 + (i : Int).toNat * 3 = o1 + i * 3 by omega]; exact r1 0 _ J)) ?_)
    refine mZ J J (mZ J J (kZ J (nZ underlying36 ti180 J J (by omega) (by omega)) ?_))
    refine aQ J fa180_0 J (kZ J (hZ (v := .int .i64 y.p) ti3 J (by rw [show o2 + (i : Int).toNat * 3 = o2 + i * 3 by omega]; exact r2 0 _ J)) ?_)
    refine kZ J nQ ?_
    refine mZ J J (mZ J J (mZ J J (kZ J (nZ underlying36 ti180 J J (by omega) (by omega)) ?_)))
    refine aQ J fa180_1 J (kZ J (hZ (v := .int .i64 x.pm) ti3 J (by rw [show o1 + (i : Int).toNat * 3 = o1 + i * 3 by omega]; exact r1 1 _ J)) ?_)
    refine mZ J J (mZ J J (kZ J (nZ underlying36 ti180 J J (by omega) (by omega)) ?_))
    refine aQ J fa180_1 J (kZ J (hZ (v := .int .i64 y.pm) ti3 J (by rw [show o2 + (i : Int).toNat * 3 = o2 + i * 3 by omega]; exact r2 1 _ J)) ?_)
    refine kZ J nQ ?_
    refine kZ J jZ ?_
    refine mZ J J (mZ J J (mZ J J (kZ J (nZ underlying36 ti180 J J (by omega) (by omega)) ?_)))
    refine aQ J fa180_2 J (kZ J (hZ (v := .slice x.a x.b.length x.c) ti32 J (by rw [show o1 + (i : Int).toNat * 3 = o1 + i * 3 by omega]; exact r1 2 _ J)) ?_)
    refine kZ J (oX (bs := x.b) underlying32 underlying9 underlying5 J (h1.bytes x (List.mem_of_getElem? hx))) (mZ J J (mZ J J (kZ J (nZ underlying36 ti180 J J (by omega) (by omega)) ?_)))
    refine aQ J fa180_2 J (kZ J (hZ (v := .slice y.a y.b.length y.c) ti32 J (by rw [show o2 + (i : Int).toNat * 3 = o2 + i * 3 by omega]; exact r2 2 _ J)) ?_)
    refine kZ J (oX (bs := y.b) underlying32 underlying9 underlying5 J (h2.bytes y (List.mem_of_getElem? hy))) (kZ J (dQ (Yield.str_neq J J) (v' := .bool true) (by rw [strOf_toList, strOf_toList]; simp [q])) ?_)
    refine kZ J jZ ?_
    exact qQ (bZ (gQ J (eZ (aZ (gZ J (fZ (bZ (tZ (mQ (vZ (vZ (mQ (vZ (xZ J J () trivial (by rw [decide_eq_false (hno (fun e => q (congrArg (·.2.2) e)))]) (Imp.refl _)))))))))))))))
   ·refine sQ (.lo 0 1 (.lo 1 1 (.lo 2 1 (.lo 3 1 (.lo 4 1 (.lo 5 1 (.lo 6 1 (.lo 7 1 (.lo 8 1 (.lo 9 1 (.lo 10 1 (.lo 11 1 (.lo 12 1 (.lo 13 1 (.lo 14 1 (.lo 15 1 (.lo 16 1 (.lo 17 1 (.lo 18 1 (.lo 19 1 (.lo 20 1 (.lo 21 1 (.lo 22 1 (.lo 23 1 (.lo 24 1 (.lo 25 1 (.lo 26 1 (.lo 27 1 (.lo 28 1 (.lo 29 1 (.lo 30 1 (.lo 31 1 (.lo 32 1 (.lo 33 1 (.lo 34 1 (.lo 35 1 (.lo 36 1 (.lo 37 1 (.lo 38 1 (.done)))))))))))))))))))))))))))))))))))))))) [] [] ([]) ([]) mixed (by kernel_rfl) (Imp.none _) (Imp.none _) (mZ J J (mZ J J (kZ J (nZ underlying36 ti180 J J (by omega) (by omega)) ?_)))
    refine aQ J fa180_0 J (kZ J (hZ (v := .int .i64 x.p) ti3 J (by rw [show o1 + (i : Int).toNat * 3 = o1 + i * 3 by omega]; exact r1 0 _ J)) ?_)
    refine mZ J J (mZ J J (kZ J (nZ underlying36 ti180 J J (by omega) (by omega)) ?_))
    refine aQ J fa180_0 J (kZ J (hZ (v := .int .i64 y.p) ti3 J (by rw [show o2 + (i : Int).toNat * 3 = o2 + i * 3 by omega]; exact r2 0 _ J)) ?_)
    refine kZ J nQ ?_
    refine mZ J J (mZ J J (mZ J J (kZ J (nZ underlying36 ti180 J J (by omega) (by omega)) ?_)))
    refine aQ J fa180_1 J (kZ J (hZ (v := .int .i64 x.pm) ti3 J (by rw [show o1 + (i : Int).toNat * 3 = o1 + i * 3 by omega]; exact r1 1 _ J)) ?_)
    refine mZ J J (mZ J J (kZ J (nZ underlying36 ti180 J J (by omega) (by omega)) ?_))
    refine aQ J fa180_1 J (kZ J (hZ (v := .int .i64 y.pm) ti3 J (by rw [show o2 + (i : Int).toNat * 3 = o2 + i * 3 by omega]; exact r2 1 _ J)) ?_)
    refine kZ J nQ ?_
    refine kZ J jZ ?_
    refine mZ J J (mZ J J (mZ J J (kZ J (nZ underlying36 ti180 J J (by omega) (by omega)) ?_)))
    refine aQ J fa180_2 J (kZ J (hZ (v := .slice x.a x.b.length x.c) ti32 J (by rw [show o1 + (i : Int).toNat * 3 = o1 + i * 3 by omega]; exact r1 2 _ J)) ?_)
    refine kZ J (oX (bs := x.b) underlying32 underlying9 underlying5 J (h1.bytes x (List.mem_of_getElem? hx))) (mZ J J (mZ J J (kZ J (nZ underlying36 ti180 J J (by omega) (by omega)) ?_)))
    refine aQ J fa180_2 J (kZ J (hZ (v := .slice y.a y.b.length y.c) ti32 J (by rw [show o2 + (i : Int).toNat * 3 = o2 + i * 3 by omega]; exact r2 2 _ J)) ?_)
    refine kZ J (oX (bs := y.b) underlying32 underlying9 underlying5 J (h2.bytes y (List.mem_of_getElem? hy))) (kZ J (dQ (Yield.str_neq J J) (v' := .bool false) (by rw [strOf_toList, strOf_toList]; simp [q3])) ?_)
    refine kZ J jZ ?_
    exact qQ (bZ (qZ J (wZ (sZ (bZ (aZ (dZ J (cZ (eQ J J wO) (gZ J (fZ (yQ (i + 1) ⟨by omega, take_eq hp hxv hyv (by unfold PV.v; rw [q1, q2, q3])⟩ (by first | omega | (simp only; omega)) eS (Imp.refl _))))))))))))
  ·try replace hc := odF hc
   refine dX (yZ (yZ (oQ (bZ (eZ (aZ (gZ J (fZ (bZ (tZ ?_))))))))))
   obtain rfl : i = l1.length := by omega
   refine xZ J J () trivial ?_ (Imp.refl _)
   rw [decide_eq_true (show l1.map PV.v = l2.map PV.v by rw [List.take_of_length_le (by rw [List.length_map]; omega), List.take_of_length_le (by rw [List.length_map]; omega)] at hp; exact hp)]
end
end Go.Proofs.YtphljkplokjonaaGreat.Sp
namespace Go.Proofs.YtphljkplokjonaaGreat.Hc
open Go Go.Sl Go.RowKit Go.Proofs Go.Proofs.YtphljkplokjonaaGreat.T Go.Proofs.YtphljkplokjonaaGreat.Ms Tryz
end Go.Proofs.YtphljkplokjonaaGreat.Hc
namespace Go.Proofs.YtphljkplokjonaaGreat.Io
open Go Go.Sl Go.RowKit Go.Proofs Go.Proofs.YtphljkplokjonaaGreat.T Go.Proofs.YtphljkplokjonaaGreat.Sp Go.Proofs.YtphljkplokjonaaGreat.Ms Tryz
open Go.Proofs.YtphljkplokjonaaGreat.Hc (md md_range)
def d9 (l : List Int) (i : Nat) : List Int := (l.take i).map (md 9)
theorem d9_len {l : List Int} {i : Nat} (h : i ≤ l.length) : (d9 l i).length = i := by unfold d9; simp; omega
theorem d9_range {l : List Int} {i : Nat} : ∀ x ∈ d9 l i, 0 ≤ x ∧ x ≤ 8 := fun x hx => by
 obtain ⟨y, _, rfl⟩ := List.mem_map.1 hx
 have := md_range (k := 9) (by decide) y
 omega
theorem d9_step {l : List Int} {i : Nat} {x : Int} (h : l[i]? = some x) : d9 l (i + 1) = d9 l i ++ [md 9 x] := by
 obtain ⟨hlt, rfl⟩ := List.getElem?_eq_some_iff.1 h
 unfold d9; rw [List.take_succ_eq_append_getElem hlt, List.map_append]; rfl
theorem newE_9 {ds : List Int} (h : ∀ x ∈ ds, 0 ≤ x ∧ x ≤ 8) : Bk.newE ((32 : Nat) : Int) 8 ds = 0 := by
 have hb : ds.any Bk.badD = false := by
  rw [List.any_eq_false]
  intro x hx
  have := h x hx
  unfold Bk.badD
  rw [decide_eq_false (by omega), decide_eq_false (by omega)]; decide
 unfold Bk.newE
 rw [hb, if_neg (by simp), if_neg (by decide)]
def actK (k p n : Int) : IAct := ⟨k, p, n, none, 0, [], false, 0, 0⟩
theorem adK {k p n : Int} : 0 ≤ (actK k p n).Addr ∧ (actK k p n).Addr < 4294967296 := ⟨Int.le_refl _, by show (0 : Int) < 4294967296; decide⟩
def opN (M : Int) (a : IAct) : IAct := if a.Kind = 4 then { a with N := M } else a
theorem opN_is (M : Int) (a : IAct) : (opN M a).Kind = a.Kind ∧ (opN M a).Part = a.Part ∧ (opN M a).Ba = a.Ba ∧ (opN M a).Bc = a.Bc ∧ (opN M a).B = a.B ∧ (opN M a).Addr = a.Addr ∧ ((opN M a).Kind = 4 → (opN M a).N = M) := by
 unfold opN; split
 ·exact ⟨rfl, rfl, rfl, rfl, rfl, rfl, fun _ => rfl⟩
 ·rename_i h; exact ⟨rfl, rfl, rfl, rfl, rfl, rfl, fun q => absurd q h⟩
theorem wk_new {z : WA} {σ : St} {ds : List Int} (hx : z.xs.length = 3) (L : Lk 64 [8, 8, 8] (rtX z.xs) (obM 3) 0 σ) : Wk 0 z ⟨ysN 3, [], [], bs0 ds, chs.map Po.Cf.ac, obM 3⟩ σ :=
 ⟨hx, rfl, L, rfl, Nat.zero_le _, Nat.zero_le _, by show (0 : Int) ≤ 12 * ((0 : Nat) : Int); decide, fun y hy => by
  have had := adN y hy
  unfold ysN at hy
  rw [List.mem_map] at hy
  obtain ⟨i, _, rfl⟩ := hy
  exact ⟨by show 0 < 256; decide, by show 0 < 256; decide, had⟩⟩
theorem pvTo_vw {o o' : Ob} {k : Nat} (h : o.vw k = o'.vw k) : ∀ n, pvTo o k n = pvTo o' k n
 | 0 => rfl
 | n + 1 => by show pvTo o k n ++ _ = pvTo o' k n ++ _; rw [pvTo_vw h n, h]
theorem sim_like {M : Int} {S T : IW} {v : VA} (h : Sim M S v) (g : Sim M T v) : ∃ (a : PS) (d : Vd.Ds), S.ys[2]? = some a ∧ T.ys[2]? = some { a with d := d } ∧ d.asks.map Vd.Ak.tag = a.d.asks.map Vd.Ak.tag ∧ d.told = a.d.told ∧ T.o.vw 2 = S.o.vw 2 := by
 obtain ⟨a, _, _, _, h, rfl⟩ := h
 obtain ⟨b, _, _, _, g, e⟩ := g
 unfold viewY at e
 have e1 : absY (reg T.bs.bytes) b = absY (reg S.bs.bytes) a := congrArg VA.y e
 have e2 : T.o.vw 2 = S.o.vw 2 := congrArg VA.vw e
 have t1 := congrArg (fun y : PS => y.d.asks.map Vd.Ak.tag) e1
 have t2 := congrArg (fun y : PS => y.d.told) e1
 have q1 := congrArg PS.q e1
 have q2 := congrArg PS.p e1
 have q3 := congrArg PS.at' e1
 have q4 := congrArg PS.set e1
 have q5 := congrArg PS.out e1
 have q6 := congrArg PS.inn e1
 unfold absY at t1 t2 q1 q2 q3 q4 q5 q6
 dsimp only at t1 t2 q1 q2 q3 q4 q5 q6
 rw [absL_tags, absL_tags] at t1
 obtain ⟨bq, bp, ba, bs, bo, bi, bd⟩ := b
 obtain ⟨aq, ap, aa, as', ao, ai, ad⟩ := a
 dsimp only at t1 t2 q1 q2 q3 q4 q5 q6
 subst q1 q2 q3 q4 q5 q6
 exact ⟨_, bd, h.y2, g.y2, t1, t2, e2⟩
section
variable (W0 : World) (Fr : List HProp)
theorem sameTags_spec {a a2 : Option Addr} {c c2 : Nat} {l : List Int} (h1 : SlR W0 Fr 1 a l.length (intsV .u32 l)) (h2 : SlR W0 Fr 1 a2 l.length (intsV .u32 l)) (hl : l.length ≤ 2 ^ 20) : Ctr prog W0 37 [.slice a l.length c, .slice a2 l.length c2] Fr (fun _ : Unit => True) (fun _ => .bool true) (fun _ => Fr) := by
 have hol := intsV_len .u32 l
 refine Ctr.of_body func37 J ntmps37 J (eZ (aZ (gZ J (fZ (bZ (eZ (eZ (aZ (dZ J (cZ (lZ underlying37 J J) (dZ J (cZ (lZ underlying37 J J) (cZ nQ ?_)))))))))))))
 refine fZ (bZ (qZ J (wZ (bZ (eZ (eZ (aZ (gZ J (fZ (bZ (fQ (iX (fun i : Nat => i ≤ l.length) (fun i => [(0, .slice a l.length c), (1, .slice a2 l.length c2), (5, .int .i64 i)]) (fun _ => Fr) (fun i => l.length - i) 0 (Nat.zero_le _) eS (Imp.refl _) ?_))))))))))))
 intro i hi
 refine eZ (eZ (aZ (dZ J (dZ J (cZ (lZ underlying37 J J) (cZ bQ ?_))))))
 refine fZ (bZ (wQ J (fun hc => ?_) (fun hc => ?_)))
 ·try replace hc := odT hc
  have hi' : i < l.length := by omega
  have hget : l[i]? = some l[i] := by simp [hi']
  generalize l[i] = y at hget
  refine kX (fun w hw => SlR.shape h1 (by intro h; rw [h] at hol; simp only [List.length_nil] at hol; omega) w hw) ?_
  rintro ⟨b, o, rfl⟩
  refine kX (fun w hw => SlR.shape h2 (by intro h; rw [h] at hol; simp only [List.length_nil] at hol; omega) w hw) ?_
  rintro ⟨b2, o2, rfl⟩
  refine wZ (bZ (eZ (fQ (eZ (sQ (.lo 0 1 (.lo 1 1 (.lo 2 1 (.lo 3 1 (.lo 4 1 (.lo 5 1 (.lo 6 1 (.lo 7 1 (.lo 8 1 (.done)))))))))) [] [] ([]) ([]) mixed (by kernel_rfl) (Imp.none _) (Imp.none _) (mZ J J (mZ J J (kZ J (nZ underlying37 ti27 J J (by omega) (by omega)) ?_))))))))
  refine kZ J (hZ (v := .int .u32 y) ti27 J (by rw [show o + (i : Int).toNat * 1 = o + i by omega]; exact h1.cel (intsV_get hget))) ?_
  refine mZ J J (mZ J J (kZ J (nZ underlying37 ti27 J J (by omega) (by omega)) ?_))
  refine kZ J (hZ (v := .int .u32 y) ti27 J (by rw [show o2 + (i : Int).toNat * 1 = o2 + i by omega]; exact h2.cel (intsV_get hget))) ?_
  exact kZ J (dQ (xX J J) (bF (not_not_intro J))) (qQ (bZ (qZ J (wZ (sZ (bZ (aZ (dZ J (cZ (eQ J J wO) (gZ J (fZ (yQ (i + 1) (show i + 1 ≤ l.length by omega) (show l.length - (i + 1) < l.length - i by omega) eS iM))))))))))))
 ·try replace hc := odF hc
  exact dX (yZ (yZ (oQ (bZ (eZ (aZ (gZ J (fZ (bZ (tZ (xZ J J () trivial J iM)))))))))))
end
end Go.Proofs.YtphljkplokjonaaGreat.Io
