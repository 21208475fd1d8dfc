/- SpaceAll: a copy or an image is there as a whole, or not at all: the law returns true and changes nothing that was there. -/
import Derived.Test.YtmlfcfbblfcpdaaGreatAll5
set_option linter.unusedSimpArgs false
set_option linter.unusedVariables false
/- The laws' world: an act of both. -/
namespace Go.Proofs.YtmlfcfbblfcpdaaGreat.Sp
open Go Go.Sl Go.RowKit Go.Proofs Go.Proofs.YtmlfcfbblfcpdaaGreat.T Go.Proofs.YtmlfcfbblfcpdaaGreat.Me Go.Proofs.YtmlfcfbblfcpdaaGreat.Pe Go.Proofs.YtmlfcfbblfcpdaaGreat.Pg
open Go.Proofs.YtmlfcfbblfcpdaaGreat.Fz (iv oiv iv_append iv_ones iv_get iv_len cnt free_frame left left_in nerr nerr_ok)
set_option maxRecDepth 100000
theorem cel_at {W0 : World} {G R : List HProp} {E c m b o i : Nat} {a : Option Addr} {xs : List Value} {v : Value} (ha : a = some ⟨b, o, none⟩) (hi : xs[i]? = some v) (hx : Ext G (osl E 1 a c m xs) R) : Cel W0 G ⟨b, o + i, none⟩ v := by
  subst ha; exact (SlR.of_osl hx).cel hi
theorem ZOk.mono {n : Nat} {qs : List Int} {o : Ob} {c d : Nat} {z : ZS} (h : ZOk n qs o c z) (hd : c ≤ d) : ZOk n qs o d z := ⟨h.ks, h.lk.mono hd, h.ts⟩
theorem zo_close0 {n : Nat} {qs : List Int} {o o' : Ob} {c : Nat} {z : ZS} {j : Nat} {e : SpE} {qk : Int} {ts' : List Int} {σ' : St} {Fr : List HProp} (h : ZOk n qs o c z) (hj : z.sl[j]? = some e) (hf : Fct n qs o c z e qk) (S : Stp o o' e.k) (hd : dO o o' e.k = 0) :
    Imp (ZO n qs z e (s1F z j) (s2F o z j) (RS e.b z.bw e.k (pvs o' e.k) ts') (RW z.bw o.fr (lefO qs (rtOf z.sl) o)) σ' Fr) (ZG n qs o' (z.upd e.k ts' σ') Fr) := by
  have := zo_close (ts' := ts') (σ' := σ') (Fr := Fr) h hj hf.hq S
  rw [rwd_zero hf.get hd] at this
  exact this
theorem secR_old {W0 : World} {G R : List HProp} {op : SOp} (hop : op.OK W0) (x : Ext G (old W0) R) : SecR W0 G op.I_Sectionsa op.I_Sections :=
  ⟨hop.I_Sections.old x, fun s hs => (hop.I_Sectionsk s hs).Bytesm, fun s hs => RdB.of_slR ((hop.I_Sectionsk s hs).Bytes.old x) (hop.I_Sectionsk s hs).Bytesc⟩
theorem chkL_congr : ∀ {l l' : List SSec} {t e : Int}, l.map SSec.v = l'.map SSec.v → chkL l t e = chkL l' t e
  | [], [], _, _, _ => rfl
  | [], _ :: _, _, _, h => by cases h
  | _ :: _, [], _, _, h => by cases h
  | x :: l, y :: l', t, e, h => by
    rw [List.map_cons, List.map_cons, List.cons.injEq] at h
    have e1 : x.Page = y.Page := congrArg (·.1) h.1
    have e2 : x.Perm = y.Perm := congrArg (·.2.1) h.1
    have e3 : x.Bytes = y.Bytes := congrArg (·.2.2) h.1
    have ih := fun t e => chkL_congr (t := t) (e := e) h.2
    unfold chkL
    have hs : ∀ a b, sectE x a b = sectE y a b := fun a b => by unfold sectE badS endS; rw [e1, e2, e3]
    rw [hs, e3, ih, show endS x = endS y by unfold endS; rw [e1, e3]]
theorem imgP_congr : ∀ {l l' : List SSec}, l.map SSec.v = l'.map SSec.v → imgP l = imgP l'
  | [], [], _ => rfl
  | [], _ :: _, h => by cases h
  | _ :: _, [], h => by cases h
  | x :: l, y :: l', h => by
    rw [List.map_cons, List.map_cons, List.cons.injEq] at h
    have e1 : x.Page = y.Page := congrArg (·.1) h.1
    have e2 : x.Perm = y.Perm := congrArg (·.2.1) h.1
    have e3 : x.Bytes = y.Bytes := congrArg (·.2.2) h.1
    show secP x (npg x) ++ imgP l = secP y (npg y) ++ imgP l'
    rw [imgP_congr h.2]
    unfold secP npg endS
    rw [e1, e2, e3]
theorem load_congr {qk : Int} {o : Ob} {k : Nat} {en : Int} {l l' : List SSec} (h : l.map SSec.v = l'.map SSec.v) : loadO qk o k en l = loadO qk o k en l' := by
  have hl : l.length = l'.length := by have := congrArg List.length h; rwa [List.length_map, List.length_map] at this
  have hc : chk en l = chk en l' := by unfold chk; rw [hl, chkL_congr h]
  rw [load_all, load_all, hc, imgP_congr h]
/-- What stays of a section when its bytes are written over. -/
def SSec.sk (s : SSec) : Int × Int × Nat := (s.Page, s.Perm, s.Bytes.length)
theorem sec_upd {a : Option Addr} {c k : Nat} {l : List SSec} {y y' : SSec} {G : List HProp} (hy : l[k]? = some y) (hc : y'.cells = y.cells) :
    Imp (secB y' :: Star ((l.map secB).eraseIdx k) :: osl 82 3 a c l.length ((l.map SSec.cells).flatten) :: G) (ISO a c (l.set k y') ++ G) := by
  refine Imp.trans (star_put (i := k) (A := secB y) (by rw [List.getElem?_map, hy]; rfl)) ?_
  dsimp only [ISO, List.cons_append, List.nil_append]
  rw [List.length_set, List.map_set, List.map_set, hc, Ms.set_self (l := l.map SSec.cells) (by rw [List.getElem?_map, hy]; rfl)]
  exact iM
section
variable (W0 : World) (Fr : List HProp)
variable {n : Nat} {qs : List Int} {o : Ob} {c : Nat} {z : ZS}
set_option maxHeartbeats 16000000 in
theorem act_spec {op : SOp} (hop : op.OK W0) (h : ZOk n qs o c z) (hq : ∀ q ∈ qs, 0 ≤ q ∧ q ≤ 1024) (hql : qs.length ≤ 8) (hn : n ≤ 1024) (hzl : z.sl.length ≤ 1024) (hc8 : c ≤ 100000000000) : Ctr Tryz.prog W0 7 [.pointer (some ⟨z.bx, 0, none⟩), .agg op.cells.toArray] (ZG n qs o z (old W0 :: Fr)) (fun y : Ob × ZS => ZOk n qs y.1 (c + 8192) y.2 ∧ y.2.bx = z.bx ∧ y.2.sl.length = z.sl.length) (fun _ => .bool true) (fun y => ZG n qs y.1 y.2 (old W0 :: Fr)) := by
  obtain ⟨hA0, hA1⟩ := wf_u32 hop.Addr
  obtain ⟨hV0, hV1⟩ := wf_u64 hop.V
  obtain ⟨hE0, hE1⟩ := wf_u32 hop.I_Entry
  obtain ⟨v, hv⟩ : ∃ v : Nat, op.V = (v : Int) := ⟨op.V.toNat, by omega⟩
  obtain ⟨ad, had⟩ : ∃ v : Nat, op.Addr = (v : Int) := ⟨op.Addr.toNat, by omega⟩
  have hBm := hop.Bm
  unfold reachBytes at hBm
  have hwr := wrap_u64_range op.Who
  refine Ctr.of_body Tryz.func7 rfl Tryz.ntmps7 rfl ?_
  dsimp only [ZG, bxF, WG]
  refine CG.seq ?_
  refine CG.region ?_
  refine OG.effd (Eff.box rfl) rfl ?_
  rintro b3 -
  refine OG.sg rfl rfl ?_
  refine OG.nil ?_
  refine QG.then ?_
  refine CG.seq ?_
  refine CG.seq ?_
  rcases (show z.sl.length = 0 ∨ 0 < z.sl.length by omega) with h0 | h0
  · skip
    refine CG.region ?_
    refine OG.mv rfl rfl ?_
    refine OG.yield (Yield.nilCheck rfl) rfl ?_
    refine OG.yield (Yield.fieldAddr fa47_3 rfl) rfl ?_
    refine OG.yield (Yield.loadA ti43 rfl) rfl ?_
    refine OG.yield (Yield.len_slice Tryz.underlying43 rfl rfl) rfl ?_
    refine OG.yield Yield.eqlA rfl ?_
    refine OG.nil ?_
    refine QG.then ?_
    refine CG.cond_t rfl ?_
    refine CG.seq ?_
    refine CG.region ?_
    refine OG.sg rfl rfl ?_
    refine OG.nil ?_
    refine QG.then ?_
    refine CG.ret ?_
    refine QG.pass_ret ?_
    exact QG.ret1 rfl rfl (o, z) ⟨h.mono (by omega), rfl, rfl⟩ rfl iM
  · skip
    refine CG.region ?_
    refine OG.mv rfl rfl ?_
    refine OG.yield (Yield.nilCheck rfl) rfl ?_
    refine OG.yield (Yield.fieldAddr fa47_3 rfl) rfl ?_
    refine OG.yield (Yield.loadA ti43 rfl) rfl ?_
    refine OG.yield (Yield.len_slice Tryz.underlying43 rfl rfl) rfl ?_
    refine OG.yield Yield.eqlA rfl ?_
    refine OG.nil ?_
    refine QG.then ?_
    refine CG.cond_f rfl ?_
    refine CG.skip ?_
    refine QG.then ?_
    refine CG.seq ?_
    obtain ⟨j, hjl, hjm⟩ : ∃ j : Nat, j < z.sl.length ∧ Int.tmod (IntKind.u64.wrap op.Who) (z.sl.length : Int) = (j : Int) := by
      have h1 := Int.emod_nonneg (IntKind.u64.wrap op.Who) (show (z.sl.length : Int) ≠ 0 by omega)
      have h2 := Int.emod_lt_of_pos (IntKind.u64.wrap op.Who) (show (0 : Int) < z.sl.length by omega)
      exact ⟨(IntKind.u64.wrap op.Who % (z.sl.length : Int)).toNat, by omega, by rw [Int.tmod_eq_emod_of_nonneg hwr.1]; omega⟩
    refine CG.draw (.look 0 1 (.look 1 1 (.look 2 1 (.look 3 1 (.look 4 1 (.look 5 1 (.look 6 1 (.look 7 1 (.look 8 1 (.look 9 1 (.look 10 1 (.look 11 1 (.done))))))))))))) [] [] ([]) ([]) mixed (by kernel_rfl) (Imp.none _) (Imp.none _) ?_
    refine DG.look rfl rfl (Yield.fieldAddr fa37_1 rfl) rfl ?_
    refine DG.look rfl rfl (Yield.load (v := .int .i64 op.Who) ti3 rfl (Cel.of_blk (b := b3) eX rfl)) rfl ?_
    refine DG.look rfl rfl (by first | exact Yield.conv Tryz.underlying31 rfl rfl (wu64 (by omega) (by omega)) | exact Yield.conv Tryz.underlying31 rfl rfl rfl) rfl ?_
    refine DG.look rfl rfl (Yield.move rfl) rfl ?_
    refine DG.look rfl rfl (Yield.nilCheck rfl) rfl ?_
    refine DG.look rfl rfl (Yield.fieldAddr fa47_3 rfl) rfl ?_
    refine DG.look rfl rfl (Yield.loadA ti43 rfl) rfl ?_
    refine DG.look rfl rfl (Yield.len_slice Tryz.underlying43 rfl rfl) rfl ?_
    refine DG.look rfl rfl (by first | exact Yield.conv Tryz.underlying31 rfl rfl (wu64 (by omega) (by omega)) | exact Yield.conv Tryz.underlying31 rfl rfl rfl) rfl ?_
    refine DG.look rfl rfl (Yield.rem (c := (j : Int)) rfl rfl (by omega) hjm) rfl ?_
    refine DG.look rfl rfl (by first | exact Yield.conv Tryz.underlying3 rfl rfl (w64 (by omega) (by omega)) | exact Yield.conv Tryz.underlying3 rfl rfl rfl) rfl ?_
    refine DG.look rfl rfl (Yield.assign rfl) rfl ?_
    refine DG.done ?_
    refine QG.then ?_
    refine CG.seq ?_
    obtain ⟨e, hj⟩ : ∃ e, z.sl[j]? = some e := ⟨_, List.getElem?_eq_getElem hjl⟩
    obtain ⟨qk, hf⟩ := h.fct hj
    have hpos := hf.pos
    have hu := hf.used
    have hfr := hf.fr
    have hle := hf.le
    have hll : (lefO qs (rtOf z.sl) o).length ≤ 1024 := by rw [lefO_len]; omega
    refine CG.pure (fun w hw => SlR.shape (SlR.of_osl (W0 := W0) (E := 48) (a := z.sa) (c := z.sc) eX) (ptrs_ne hj) w hw) ?_
    rintro ⟨sb', so, hsa⟩
    refine CG.pure (fun w hw => SlR.shape (SlR.of_osl (W0 := W0) (E := 73) (a := z.ra) (c := z.rc) eX) (ptrs_ne hj) w hw) ?_
    rintro ⟨rb, ro, hra⟩
    refine CG.imp (Imp.trans (B := ZG n qs o z (blk b3 op.cells 37 :: old W0 :: Fr)) iM (zo_open hj)) ?_
    dsimp only [ZO, bxF, WG, rsF]
    refine CG.draw (.look 0 1 (.look 1 1 (.look 2 1 (.look 3 1 (.look 4 1 (.look 5 1 (.look 6 1 (.look 7 1 (.look 8 1 (.look 9 1 (.look 10 1 (.look 11 1 (.look 12 1 (.look 13 1 (.look 14 1 (.look 15 1 (.done))))))))))))))))) [] [] ([]) ([]) mixed (by kernel_rfl) (Imp.none _) (Imp.none _) ?_
    refine DG.look rfl rfl (Yield.move rfl) rfl ?_
    refine DG.look rfl rfl (Yield.nilCheck rfl) rfl ?_
    refine DG.look rfl rfl (Yield.fieldAddr fa47_3 rfl) rfl ?_
    refine DG.look rfl rfl (Yield.as (Yield.load (v := .slice z.sa z.sl.length z.sc) ti43 rfl (Cel.of_blk eX rfl)) (v' := .slice (some ⟨sb', so, none⟩) z.sl.length z.sc) (by rw [hsa])) rfl ?_
    refine DG.look rfl rfl (Yield.move rfl) rfl ?_
    refine DG.look rfl rfl (Yield.index_slice Tryz.underlying43 ti48 rfl rfl (by omega) (by omega)) rfl ?_
    refine DG.look rfl rfl (Yield.load (v := .pointer (some ⟨e.s, 0, none⟩)) ti48 rfl (by rw [show so + (j : Int).toNat * 1 = so + j by omega]; exact cel_at (E := 48) (c := z.sc) hsa (ptrs_get hj) eX)) rfl ?_
    refine DG.look rfl rfl (Yield.move rfl) rfl ?_
    refine DG.look rfl rfl (Yield.nilCheck rfl) rfl ?_
    refine DG.look rfl rfl (Yield.fieldAddr fa47_5 rfl) rfl ?_
    refine DG.look rfl rfl (Yield.as (Yield.load (v := .slice z.ra z.sl.length z.rc) ti45 rfl (Cel.of_blk eX rfl)) (v' := .slice (some ⟨rb, ro, none⟩) z.sl.length z.rc) (by rw [hra])) rfl ?_
    refine DG.look rfl rfl (Yield.move rfl) rfl ?_
    refine DG.look rfl rfl (Yield.index_slice Tryz.underlying45 ti73 rfl rfl (by omega) (by omega)) rfl ?_
    refine DG.look rfl rfl (Yield.load (v := .pointer (some ⟨e.b, 0, none⟩)) ti73 rfl (by rw [show ro + (j : Int).toNat * 1 = ro + j by omega]; exact cel_at (E := 73) (c := z.rc) hra (ptrs_get hj) eX)) rfl ?_
    refine DG.look rfl rfl (Yield.assign rfl) rfl ?_
    refine DG.look rfl rfl (Yield.assign rfl) rfl ?_
    refine DG.done ?_
    refine QG.then ?_
    refine CG.seq ?_
    refine CG.region ?_
    refine OG.effd (Eff.lit0 Tryz.underlying32 ti5 rfl) rfl ?_
    rintro b56 -
    refine OG.yield (Yield.fieldAddr fa37_7 rfl) rfl ?_
    refine OG.yield (Yield.load (v := .slice op.Ba op.B.length op.Bc) ti32 rfl (Cel.of_blk (b := b3) eX rfl)) rfl ?_
    refine OG.effd (Eff.appendB0 (ys := op.B) rfl rfl rfl Tryz.underlying32 Tryz.underlying32 ti5 (by decide) fC (hop.B.old eX) (by omega)) rfl ?_
    rintro ⟨a59, c59⟩ -
    refine OG.sg rfl rfl ?_
    refine OG.nil ?_
    refine QG.then ?_
    refine CG.seq ?_
    refine CG.seq ?_
    refine CG.region ?_
    refine OG.yield (Yield.fieldAddr fa37_0 rfl) rfl ?_
    refine OG.yield (Yield.loadA ti3 rfl) rfl ?_
    refine OG.nil ?_
    refine QG.then ?_
    refine CG.block ?_
    refine CG.seq ?_
    refine CG.region ?_
    refine OG.yield Yield.eqlA rfl ?_
    refine OG.sg rfl rfl ?_
    refine OG.nil ?_
    refine QG.then ?_
    refine CG.cond rfl (fun hc => ?_) (fun hc => ?_)
    · try replace hc := of_decide_eq_true hc
      refine CG.seq ?_
      refine CG.draw (.look 0 1 (.look 1 1 (.look 2 1 (.look 3 1 (.look 4 1 (.look 6 0 (.look 7 0 (.look 8 0 (.look 9 0 (.look 10 0 (.eff1 5 false (.eff1 11 false (.look 12 1 (.look 13 1 (.done))))))))))))))) [5, 11] [] ([blk b3 op.cells 37]) ([]) mixed (by kernel_rfl) (iM) (Imp.none _) ?_
      refine DG.look rfl rfl (Yield.move rfl) rfl ?_
      refine DG.look rfl rfl (Yield.fieldAddr fa37_2 rfl) rfl ?_
      refine DG.look rfl rfl (Yield.loadA ti3 rfl) rfl ?_
      refine DG.look rfl rfl (Yield.fieldAddr fa37_3 rfl) rfl ?_
      refine DG.look rfl rfl (Yield.loadA ti3 rfl) rfl ?_
      refine DG.look rfl rfl (Yield.move rfl) rfl ?_
      refine DG.look rfl rfl (Yield.fieldAddr fa37_2 rfl) rfl ?_
      refine DG.look rfl rfl (Yield.loadA ti3 rfl) rfl ?_
      refine DG.look rfl rfl (Yield.fieldAddr fa37_3 rfl) rfl ?_
      refine DG.look rfl rfl (Yield.loadA ti3 rfl) rfl ?_
      refine DG.eff1 ?_
      refine Chg.callo rfl rfl call24 rfl (iM) (map_spec W0 _ (s := e.s) (m := z.m) (f := z.f) (t := z.t) (k := e.k) (r := e.r) h.lk hq hf.hq hf.rt op.Page op.Perm) rfl (fun _ => iM) (fun _ => Imp.refl _) (fun _ => iM) ?_
      rintro σ2 L2
      refine DG.eff1 ?_
      refine Chg.callo rfl rfl call25 rfl (iM) (rmap_spec W0 _ (o := o) (b := e.b) (w := z.bw) (k := e.k) (ts := z.ts e.k) (fr := (o.fr : Int)) (qk := qk) (ls := lefO qs (rtOf z.sl) o) op.Page op.Perm hf.ts hf.get hll (by omega) ⟨hle, by omega⟩) rfl (fun _ => iM) (fun _ => Imp.refl _) (fun _ => iM) ?_
      rintro ts2 hT2
      refine DG.look rfl rfl Yield.eqlA rfl ?_
      refine DG.look rfl rfl (Yield.assign rfl) rfl ?_
      refine DG.done ?_
      refine QG.then ?_
      refine CG.ret ?_
      refine QG.block_ret ?_
      refine QG.pass_ret ?_
      exact QG.ret1 rfl rfl ((mapO qk o e.k op.Page op.Perm).2, z.upd e.k (ts2) σ2) ⟨(zo_ok h hj (stp_map hf.le) L2 hT2).mono (by omega), rfl, rfl⟩ rfl (Imp.trans (B := ZO n qs z e (s1F z j) (s2F o z j) (RS e.b z.bw e.k (pvs (mapO qk o e.k op.Page op.Perm).2 e.k) (ts2)) (RWd z.bw e.k o (mapO qk o e.k op.Page op.Perm).2 o.fr (qk - used o e.k) (lefO qs (rtOf z.sl) o)) σ2 (old W0 :: Fr)) iM (zo_close h hj hf.hq (stp_map hf.le)))
    · try replace hc := of_decide_eq_false hc
      refine CG.seq ?_
      refine CG.region ?_
      refine OG.yield Yield.eqlA rfl ?_
      refine OG.sg rfl rfl ?_
      refine OG.nil ?_
      refine QG.then ?_
      refine CG.cond rfl (fun hc => ?_) (fun hc => ?_)
      · try replace hc := of_decide_eq_true hc
        refine CG.seq ?_
        refine CG.draw (.look 0 1 (.look 1 1 (.look 2 1 (.look 4 0 (.look 5 0 (.look 6 0 (.eff1 3 false (.eff1 7 false (.look 8 1 (.look 9 1 (.done))))))))))) [3, 7] [] ([blk b3 op.cells 37]) ([]) mixed (by kernel_rfl) (iM) (Imp.none _) ?_
        refine DG.look rfl rfl (Yield.move rfl) rfl ?_
        refine DG.look rfl rfl (Yield.fieldAddr fa37_2 rfl) rfl ?_
        refine DG.look rfl rfl (Yield.loadA ti3 rfl) rfl ?_
        refine DG.look rfl rfl (Yield.move rfl) rfl ?_
        refine DG.look rfl rfl (Yield.fieldAddr fa37_2 rfl) rfl ?_
        refine DG.look rfl rfl (Yield.loadA ti3 rfl) rfl ?_
        refine DG.eff1 ?_
        refine Chg.callo rfl rfl call26 rfl (iM) (unmap_spec W0 _ (s := e.s) (m := z.m) (f := z.f) (t := z.t) (k := e.k) (r := e.r) h.lk hf.hq hf.rt op.Page) rfl (fun _ => iM) (fun _ => Imp.refl _) (fun _ => iM) ?_
        rintro σ2 L2
        refine DG.eff1 ?_
        refine Chg.callo rfl rfl call27 rfl (iM) (runmap_spec W0 _ (o := o) (b := e.b) (w := z.bw) (k := e.k) (ts := z.ts e.k) (fr := (o.fr : Int)) (q := qk - used o e.k) (ls := lefO qs (rtOf z.sl) o) op.Page hf.get hll (by omega) (by omega)) rfl (fun _ => iM) (fun _ => Imp.refl _) (fun _ => iM) ?_
        rintro ⟨⟩ -
        refine DG.look rfl rfl Yield.eqlA rfl ?_
        refine DG.look rfl rfl (Yield.assign rfl) rfl ?_
        refine DG.done ?_
        refine QG.then ?_
        refine CG.ret ?_
        refine QG.block_ret ?_
        refine QG.pass_ret ?_
        exact QG.ret1 rfl rfl ((unmapO o e.k op.Page).2, z.upd e.k (z.ts e.k) σ2) ⟨(zo_ok h hj stp_unmap L2 (tsOk_unmap hf.ts)).mono (by omega), rfl, rfl⟩ rfl (Imp.trans (B := ZO n qs z e (s1F z j) (s2F o z j) (RS e.b z.bw e.k (pvs (unmapO o e.k op.Page).2 e.k) (z.ts e.k)) (RWd z.bw e.k o (unmapO o e.k op.Page).2 o.fr (qk - used o e.k) (lefO qs (rtOf z.sl) o)) σ2 (old W0 :: Fr)) iM (zo_close h hj hf.hq stp_unmap))
      · try replace hc := of_decide_eq_false hc
        refine CG.seq ?_
        refine CG.region ?_
        refine OG.yield Yield.eqlA rfl ?_
        refine OG.sg rfl rfl ?_
        refine OG.nil ?_
        refine QG.then ?_
        refine CG.cond rfl (fun hc => ?_) (fun hc => ?_)
        · try replace hc := of_decide_eq_true hc
          refine CG.seq ?_
          refine CG.draw (.look 0 1 (.look 1 1 (.look 2 1 (.look 3 1 (.look 4 1 (.look 6 0 (.look 7 0 (.look 8 0 (.look 9 0 (.look 10 0 (.eff1 5 false (.eff1 11 false (.look 12 1 (.look 13 1 (.look 14 1 (.look 15 1 (.look 16 1 (.look 18 0 (.look 19 0 (.look 20 0 (.eff1 17 false (.eff1 21 false (.look 22 1 (.look 23 1 (.look 24 1 (.done)))))))))))))))))))))))))) [5, 11, 17, 21] [] ([blk b3 op.cells 37]) ([]) mixed (by kernel_rfl) (iM) (Imp.none _) ?_
          refine DG.look rfl rfl (Yield.move rfl) rfl ?_
          refine DG.look rfl rfl (Yield.fieldAddr fa37_2 rfl) rfl ?_
          refine DG.look rfl rfl (Yield.loadA ti3 rfl) rfl ?_
          refine DG.look rfl rfl (Yield.fieldAddr fa37_3 rfl) rfl ?_
          refine DG.look rfl rfl (Yield.loadA ti3 rfl) rfl ?_
          refine DG.look rfl rfl (Yield.move rfl) rfl ?_
          refine DG.look rfl rfl (Yield.fieldAddr fa37_2 rfl) rfl ?_
          refine DG.look rfl rfl (Yield.loadA ti3 rfl) rfl ?_
          refine DG.look rfl rfl (Yield.fieldAddr fa37_3 rfl) rfl ?_
          refine DG.look rfl rfl (Yield.loadA ti3 rfl) rfl ?_
          refine DG.eff1 ?_
          refine Chg.callo rfl rfl call28 rfl (iM) (protect_spec W0 _ (s := e.s) (m := z.m) (f := z.f) (t := z.t) (k := e.k) (r := e.r) h.lk hf.rt op.Page op.Perm) rfl (fun _ => iM) (fun _ => Imp.refl _) (fun _ => iM) ?_
          rintro σ2 L2
          refine DG.eff1 ?_
          refine Chg.callo rfl rfl call29 rfl (iM) (rprotect_spec W0 _ (o := o) (b := e.b) (w := z.bw) (k := e.k) (ts := z.ts e.k) op.Page op.Perm) rfl (fun _ => iM) (fun _ => Imp.refl _) (fun _ => iM) ?_
          rintro ⟨⟩ -
          refine DG.look rfl rfl (Yield.as (Yield.eql rfl rfl) (v' := .bool true) (bT rfl)) rfl ?_
          refine DG.look rfl rfl (Yield.move rfl) rfl ?_
          refine DG.look rfl rfl (Yield.move rfl) rfl ?_
          refine DG.look rfl rfl (Yield.fieldAddr fa37_2 rfl) rfl ?_
          refine DG.look rfl rfl (Yield.loadA ti3 rfl) rfl ?_
          refine DG.look rfl rfl (Yield.move rfl) rfl ?_
          refine DG.look rfl rfl (Yield.fieldAddr fa37_2 rfl) rfl ?_
          refine DG.look rfl rfl (Yield.loadA ti3 rfl) rfl ?_
          refine DG.eff1 ?_
          refine Chg.callo rfl rfl call14 rfl (iM) (prmO_spec W0 _ (s := e.s) (m := z.m) (f := z.f) (t := z.t) (k := e.k) (r := e.r) L2 hf.rt op.Page) rfl (fun _ => iM) (fun _ => Imp.refl _) (fun _ => iM) ?_
          rintro ⟨⟩ -
          refine DG.eff1 ?_
          refine Chg.callo rfl rfl call30 rfl (iM) (rperm_spec W0 _ (o := (protO o e.k op.Page op.Perm).2) (b := e.b) (w := z.bw) (k := e.k) (ts := z.ts e.k) op.Page) rfl (fun _ => iM) (fun _ => Imp.refl _) (fun _ => iM) ?_
          rintro ⟨⟩ -
          refine DG.look rfl rfl (Yield.as (Yield.eql rfl rfl) (v' := .bool true) (bT rfl)) rfl ?_
          refine DG.look rfl rfl Yield.pickA rfl ?_
          refine DG.look rfl rfl (Yield.assign rfl) rfl ?_
          refine DG.done ?_
          refine QG.then ?_
          refine CG.ret ?_
          refine QG.block_ret ?_
          refine QG.pass_ret ?_
          exact QG.ret1 rfl rfl ((protO o e.k op.Page op.Perm).2, z.upd e.k (z.ts e.k) σ2) ⟨(zo_ok h hj stp_prot.1 L2 (tsOk_prot hf.ts)).mono (by omega), rfl, rfl⟩ rfl (Imp.trans (B := ZO n qs z e (s1F z j) (s2F o z j) (RS e.b z.bw e.k (pvs (protO o e.k op.Page op.Perm).2 e.k) (z.ts e.k)) (RW z.bw o.fr (lefO qs (rtOf z.sl) o)) σ2 (old W0 :: Fr)) iM (zo_close0 h hj hf stp_prot.1 stp_prot.2))
        · try replace hc := of_decide_eq_false hc
          refine CG.seq ?_
          refine CG.region ?_
          refine OG.yield Yield.eqlA rfl ?_
          refine OG.sg rfl rfl ?_
          refine OG.nil ?_
          refine QG.then ?_
          refine CG.cond rfl (fun hc => ?_) (fun hc => ?_)
          · try replace hc := of_decide_eq_true hc
            refine CG.seq ?_
            refine CG.region ?_
            refine OG.mv rfl rfl ?_
            refine OG.yield (Yield.fieldAddr fa37_4 rfl) rfl ?_
            refine OG.yield (Yield.as (Yield.load (v := .int .u32 op.Addr) ti30 rfl (Cel.of_blk (b := b3) eX rfl)) (v' := .int .u32 ad) (by rw [had])) rfl ?_
            refine OG.yield (Yield.fieldAddr fa37_5 rfl) rfl ?_
            refine OG.yield (Yield.loadA ti3 rfl) rfl ?_
            refine OG.yield (Yield.fieldAddr fa37_3 rfl) rfl ?_
            refine OG.yield (Yield.loadA ti3 rfl) rfl ?_
            refine OG.callo call31 rfl (iM) (read_spec W0 _ (s := e.s) (m := z.m) (f := z.f) (t := z.t) (k := e.k) (r := e.r) h.lk hf.rt (by omega) (ad := ad) (by omega) op.Size op.Perm) rfl ?_
            rintro σ2 L2
            refine OG.mv rfl rfl ?_
            refine OG.yield (Yield.extract rfl rfl) rfl ?_
            refine OG.yield (Yield.extract rfl rfl) rfl ?_
            refine OG.sg rfl rfl ?_
            refine OG.sg rfl rfl ?_
            refine OG.nil ?_
            refine QG.then ?_
            refine CG.seq ?_
            refine CG.region ?_
            refine OG.mv rfl rfl ?_
            refine OG.yield (Yield.fieldAddr fa37_4 rfl) rfl ?_
            refine OG.yield (Yield.as (Yield.load (v := .int .u32 op.Addr) ti30 rfl (Cel.of_blk (b := b3) eX rfl)) (v' := .int .u32 ad) (by rw [had])) rfl ?_
            refine OG.yield (Yield.fieldAddr fa37_5 rfl) rfl ?_
            refine OG.yield (Yield.loadA ti3 rfl) rfl ?_
            refine OG.yield (Yield.fieldAddr fa37_3 rfl) rfl ?_
            refine OG.yield (Yield.loadA ti3 rfl) rfl ?_
            refine OG.callo call32 rfl (iM) (rread_spec W0 _ (o := o) (b := e.b) (w := z.bw) (k := e.k) (ts := z.ts e.k) hf.obk (ad := ad) (sz := op.Size) (how := op.Perm) (by omega)) rfl ?_
            rintro ⟨⟩ -
            refine OG.mv rfl rfl ?_
            refine OG.yield (Yield.extract rfl rfl) rfl ?_
            refine OG.yield (Yield.extract rfl rfl) rfl ?_
            refine OG.sg rfl rfl ?_
            refine OG.sg rfl rfl ?_
            refine OG.nil ?_
            refine QG.then ?_
            refine CG.seq ?_
            refine CG.region ?_
            refine OG.mv rfl rfl ?_
            refine OG.mv rfl rfl ?_
            refine OG.yield (Yield.as (Yield.eql rfl rfl) (v' := .bool true) (bT rfl)) rfl ?_
            refine OG.mv rfl rfl ?_
            refine OG.gy rfl rfl rfl ?_
            refine OG.mv rfl rfl ?_
            refine OG.gy rfl rfl rfl ?_
            refine OG.mv rfl rfl ?_
            refine OG.gy rfl rfl rfl ?_
            refine OG.yield (Yield.as (Yield.eql rfl rfl) (v' := .bool true) (bT rfl)) rfl ?_
            refine OG.yield Yield.pickA rfl ?_
            refine OG.sg rfl rfl ?_
            refine OG.nil ?_
            refine QG.then ?_
            refine CG.ret ?_
            refine QG.block_ret ?_
            refine QG.pass_ret ?_
            exact QG.ret1 rfl rfl (o, z.upd e.k (z.ts e.k) σ2) ⟨(zo_ok h hj (⟨Stp.refl, dO_same⟩ : Stp o o e.k ∧ dO o o e.k = 0).1 L2 hf.ts).mono (by omega), rfl, rfl⟩ rfl (Imp.trans (B := ZO n qs z e (s1F z j) (s2F o z j) (RS e.b z.bw e.k (pvs o e.k) (z.ts e.k)) (RW z.bw o.fr (lefO qs (rtOf z.sl) o)) σ2 (old W0 :: Fr)) iM (zo_close0 h hj hf (⟨Stp.refl, dO_same⟩ : Stp o o e.k ∧ dO o o e.k = 0).1 (⟨Stp.refl, dO_same⟩ : Stp o o e.k ∧ dO o o e.k = 0).2))
          · try replace hc := of_decide_eq_false hc
            refine CG.seq ?_
            refine CG.region ?_
            refine OG.yield Yield.eqlA rfl ?_
            refine OG.sg rfl rfl ?_
            refine OG.nil ?_
            refine QG.then ?_
            refine CG.cond rfl (fun hc => ?_) (fun hc => ?_)
            · try replace hc := of_decide_eq_true hc
              refine CG.seq ?_
              refine CG.draw (.look 0 1 (.look 1 1 (.look 2 1 (.look 3 1 (.look 4 1 (.look 5 1 (.look 6 1 (.look 8 0 (.look 9 0 (.look 10 0 (.look 11 0 (.look 12 0 (.look 13 0 (.look 14 0 (.eff1 7 false (.eff1 15 false (.look 16 1 (.look 17 1 (.done))))))))))))))))))) [7, 15] [] ([blk b3 op.cells 37]) ([]) mixed (by kernel_rfl) (iM) (Imp.none _) ?_
              refine DG.look rfl rfl (Yield.move rfl) rfl ?_
              refine DG.look rfl rfl (Yield.fieldAddr fa37_4 rfl) rfl ?_
              refine DG.look rfl rfl (Yield.as (Yield.load (v := .int .u32 op.Addr) ti30 rfl (Cel.of_blk (b := b3) eX rfl)) (v' := .int .u32 ad) (by rw [had])) rfl ?_
              refine DG.look rfl rfl (Yield.fieldAddr fa37_5 rfl) rfl ?_
              refine DG.look rfl rfl (Yield.loadA ti3 rfl) rfl ?_
              refine DG.look rfl rfl (Yield.fieldAddr fa37_6 rfl) rfl ?_
              refine DG.look rfl rfl (Yield.as (Yield.load (v := .int .u64 op.V) ti31 rfl (Cel.of_blk (b := b3) eX rfl)) (v' := .int .u64 v) (by rw [hv])) rfl ?_
              refine DG.look rfl rfl (Yield.move rfl) rfl ?_
              refine DG.look rfl rfl (Yield.fieldAddr fa37_4 rfl) rfl ?_
              refine DG.look rfl rfl (Yield.as (Yield.load (v := .int .u32 op.Addr) ti30 rfl (Cel.of_blk (b := b3) eX rfl)) (v' := .int .u32 ad) (by rw [had])) rfl ?_
              refine DG.look rfl rfl (Yield.fieldAddr fa37_5 rfl) rfl ?_
              refine DG.look rfl rfl (Yield.loadA ti3 rfl) rfl ?_
              refine DG.look rfl rfl (Yield.fieldAddr fa37_6 rfl) rfl ?_
              refine DG.look rfl rfl (Yield.as (Yield.load (v := .int .u64 op.V) ti31 rfl (Cel.of_blk (b := b3) eX rfl)) (v' := .int .u64 v) (by rw [hv])) rfl ?_
              refine DG.eff1 ?_
              refine Chg.callo rfl rfl call33 rfl (iM) (write_spec W0 _ (s := e.s) (m := z.m) (f := z.f) (t := z.t) (k := e.k) (r := e.r) h.lk hf.rt (by omega) (ad := ad) (v := v) (by omega) (by omega) op.Size) rfl (fun _ => iM) (fun _ => Imp.refl _) (fun _ => iM) ?_
              rintro σ2 L2
              refine DG.eff1 ?_
              refine Chg.callo rfl rfl call34 rfl (iM) (rwrite_spec W0 _ (o := o) (b := e.b) (w := z.bw) (k := e.k) (ts := z.ts e.k) hf.obk (ad := ad) (v := v) (sz := op.Size) (by omega) (by omega)) rfl (fun _ => iM) (fun _ => Imp.refl _) (fun _ => iM) ?_
              rintro ⟨⟩ -
              refine DG.look rfl rfl (Yield.as (Yield.eql rfl rfl) (v' := .bool true) (bT rfl)) rfl ?_
              refine DG.look rfl rfl (Yield.assign rfl) rfl ?_
              refine DG.done ?_
              refine QG.then ?_
              refine CG.ret ?_
              refine QG.block_ret ?_
              refine QG.pass_ret ?_
              exact QG.ret1 rfl rfl ((writeO o e.k ad op.Size v).2, z.upd e.k (z.ts e.k) σ2) ⟨(zo_ok h hj stp_write.1 L2 (tsOk_write hf.ts)).mono (by omega), rfl, rfl⟩ rfl (Imp.trans (B := ZO n qs z e (s1F z j) (s2F o z j) (RS e.b z.bw e.k (pvs (writeO o e.k ad op.Size v).2 e.k) (z.ts e.k)) (RW z.bw o.fr (lefO qs (rtOf z.sl) o)) σ2 (old W0 :: Fr)) iM (zo_close0 h hj hf stp_write.1 stp_write.2))
            · try replace hc := of_decide_eq_false hc
              refine CG.seq ?_
              refine CG.region ?_
              refine OG.yield Yield.eqlA rfl ?_
              refine OG.sg rfl rfl ?_
              refine OG.nil ?_
              refine QG.then ?_
              refine CG.cond rfl (fun hc => ?_) (fun hc => ?_)
              · try replace hc := of_decide_eq_true hc
                refine CG.seq ?_
                refine CG.region ?_
                refine OG.mv rfl rfl ?_
                refine OG.yield (Yield.fieldAddr fa37_4 rfl) rfl ?_
                refine OG.yield (Yield.as (Yield.load (v := .int .u32 op.Addr) ti30 rfl (Cel.of_blk (b := b3) eX rfl)) (v' := .int .u32 ad) (by rw [had])) rfl ?_
                refine OG.yield (Yield.fieldAddr fa37_5 rfl) rfl ?_
                refine OG.yield (Yield.loadA ti3 rfl) rfl ?_
                refine OG.callo call15 rfl (iM) (in_spec W0 _ (s := e.s) (m := z.m) (f := z.f) (t := z.t) (k := e.k) (r := e.r) h.lk hf.rt (by omega) (ad := ad) (by omega) op.Size) rfl ?_
                rintro ⟨ia, ic, ib, σ2⟩ ⟨hib, L2⟩
                dsimp only at hib L2 ⊢
                refine OG.mv rfl rfl ?_
                refine OG.yield (Yield.extract rfl rfl) rfl ?_
                refine OG.yield (Yield.extract rfl rfl) rfl ?_
                refine OG.sg rfl rfl ?_
                refine OG.sg rfl rfl ?_
                refine OG.nil ?_
                refine QG.then ?_
                refine CG.seq ?_
                refine CG.region ?_
                refine OG.mv rfl rfl ?_
                refine OG.yield (Yield.fieldAddr fa37_4 rfl) rfl ?_
                refine OG.yield (Yield.as (Yield.load (v := .int .u32 op.Addr) ti30 rfl (Cel.of_blk (b := b3) eX rfl)) (v' := .int .u32 ad) (by rw [had])) rfl ?_
                refine OG.yield (Yield.fieldAddr fa37_5 rfl) rfl ?_
                refine OG.yield (Yield.loadA ti3 rfl) rfl ?_
                refine OG.callo call35 rfl (iM) (rin_spec W0 _ (o := o) (b := e.b) (w := z.bw) (k := e.k) (ts := z.ts e.k) hf.obk (ad := ad) (by omega) op.Size) rfl ?_
                rintro ⟨ja, jc, jb⟩ hjb
                dsimp only at hjb ⊢
                rw [← hib] at hjb
                subst hjb
                have hil := inO_len o e.k ad op.Size
                rw [← hib] at hil
                generalize (inO o e.k ad op.Size).2 = ie
                refine OG.mv rfl rfl ?_
                refine OG.yield (Yield.extract rfl rfl) rfl ?_
                refine OG.yield (Yield.extract rfl rfl) rfl ?_
                refine OG.sg rfl rfl ?_
                refine OG.sg rfl rfl ?_
                refine OG.nil ?_
                refine QG.then ?_
                refine CG.seq ?_
                refine CG.region ?_
                refine OG.mv rfl rfl ?_
                refine OG.mv rfl rfl ?_
                refine OG.yield (Yield.as (Yield.eql rfl rfl) (v' := .bool true) (bT rfl)) rfl ?_
                refine OG.mv rfl rfl ?_
                refine OG.gy rfl rfl rfl ?_
                refine OG.mv rfl rfl ?_
                refine OG.gy rfl rfl rfl ?_
                refine OG.yield (Yield.toStr (bs := jb) Tryz.underlying32 Tryz.underlying9 Tryz.underlying5 rfl (SlR.of_osl (E := 5) (a := ia) eX)) rfl ?_
                refine OG.gy rfl rfl rfl ?_
                refine OG.mv rfl rfl ?_
                refine OG.gy rfl rfl rfl ?_
                refine OG.yield (Yield.toStr (bs := jb) Tryz.underlying32 Tryz.underlying9 Tryz.underlying5 rfl (SlR.of_osl (E := 5) (a := ja) eX)) rfl ?_
                refine OG.gy rfl rfl rfl ?_
                refine OG.yield (by first | exact Yield.str_same rfl rfl | exact Yield.str_eql rfl rfl) rfl ?_
                refine OG.yield Yield.pickA rfl ?_
                refine OG.sg rfl rfl ?_
                refine OG.nil ?_
                refine QG.then ?_
                refine CG.seq ?_
                refine CG.seq ?_
                refine CG.region ?_
                refine OG.sg rfl rfl ?_
                refine OG.nil ?_
                refine QG.then ?_
                refine CG.block ?_
                refine CG.loop (fun y : Nat × List UInt8 => y.1 ≤ jb.length ∧ y.2.length = jb.length) (fun y => [(13, .slice ia y.2.length ic), (17, .bool true), (18, .int .i64 y.1)]) (fun y => oby 5 ia ic y.2 :: ZG n qs o (z.upd e.k (z.ts e.k) σ2) (old W0 :: Fr)) (fun y => jb.length - y.1) (0, jb) ⟨Nat.zero_le _, rfl⟩ eS (Imp.pull (A := oby 5 ia ic jb) eX (Imp.trans (B := ZO n qs z e (s1F z j) (s2F o z j) (RS e.b z.bw e.k (pvs o e.k) (z.ts e.k)) (RW z.bw o.fr (lefO qs (rtOf z.sl) o)) σ2 (old W0 :: Fr)) iM (zo_close0 h hj hf Stp.refl dO_same))) ?_
                rintro ⟨i, xs⟩ ⟨hi, hxl⟩
                dsimp only at hi hxl ⊢
                refine CG.seq ?_
                refine CG.seq ?_
                refine CG.region ?_
                refine OG.mv rfl rfl ?_
                refine OG.mv rfl rfl ?_
                refine OG.yield (Yield.len_slice Tryz.underlying32 rfl rfl) rfl ?_
                refine OG.yield Yield.lssA rfl ?_
                refine OG.nil ?_
                refine QG.then ?_
                refine CG.cond rfl (fun hc => ?_) (fun hc => ?_)
                · try replace hc := of_decide_eq_true hc
                  obtain ⟨b0, hb0⟩ : ∃ b0, xs[i]? = some b0 := ⟨_, List.getElem?_eq_getElem (by omega)⟩
                  refine CG.pure (fun w hw => SlR.shape (SlR.of_osl (W0 := W0) (E := 5) (a := ia) (c := ic) (m := xs.length) (xs := bytesV xs) eX) (fun q => by have := congrArg List.length q; rw [bytesV_length] at this; simp only [List.length_nil] at this; omega) w hw) ?_
                  rintro ⟨il, io, rfl⟩
                  refine CG.skip ?_
                  refine QG.then ?_
                  refine CG.seq ?_
                  refine CG.block ?_
                  refine CG.region ?_
                  refine OG.mv rfl rfl ?_
                  refine OG.mv rfl rfl ?_
                  refine OG.yield (Yield.index_slice Tryz.underlying32 ti5 rfl rfl (by omega) (by omega)) rfl ?_
                  refine OG.yield (Yield.load (v := byteV b0) ti5 rfl (by rw [show io + (i : Int).toNat * 1 = io + i by omega]; exact SlR.cel (i := i) (SlR.of_osl (W0 := W0) (E := 5) (a := some ⟨il, io, none⟩) (c := ic) (m := xs.length) (xs := bytesV xs) eX) (by rw [bytesV_get hb0]))) rfl ?_
                  refine OG.yield (Yield.as (Yield.add rfl rfl rfl) (v' := byteV (byteI ((b0.toNat : Int) + 1))) (by unfold byteV; rw [byteI_val])) rfl ?_
                  refine OG.yield (Yield.index_slice Tryz.underlying32 ti5 rfl rfl (by omega) (by omega)) rfl ?_
                  refine OG.eff (Eff.storeByteS (b := il) (o := io) (i := i) (bs := xs) (z := byteI ((b0.toNat : Int) + 1)) ti5 (show io + (i : Int).toNat * 1 = io + i by omega) rfl rfl fC (by omega)) rfl ?_
                  rintro ⟨⟩ -
                  refine OG.nil ?_
                  refine QG.block_normal ?_
                  refine QG.then ?_
                  refine CG.region ?_
                  refine OG.mv rfl rfl ?_
                  refine OG.yield (Yield.add rfl rfl (w64 (by omega) (by omega))) rfl ?_
                  refine OG.sg rfl rfl ?_
                  refine OG.nil ?_
                  exact QG.next (i + 1, xs.set i (byteI ((b0.toNat : Int) + 1))) ⟨by simp only; omega, by rw [List.length_set]; exact hxl⟩ (by simp only; omega) (by simp only [List.length_set]; exact eS) iM
                · try replace hc := of_decide_eq_false hc
                  refine CG.exit ?_
                  refine QG.pass_exit ?_
                  refine QG.pass_exit ?_
                  refine QG.block_exit ?_
                  refine QG.then ?_
                  refine CG.seq ?_
                  refine CG.region ?_
                  refine OG.mv rfl rfl ?_
                  refine OG.sg rfl rfl ?_
                  refine OG.nil ?_
                  refine QG.then ?_
                  refine CG.ret ?_
                  refine QG.block_ret ?_
                  refine QG.pass_ret ?_
                  exact QG.ret1 rfl rfl (o, z.upd e.k (z.ts e.k) σ2) ⟨(zo_ok h hj Stp.refl L2 hf.ts).mono (by omega), rfl, rfl⟩ rfl iM
              · try replace hc := of_decide_eq_false hc
                refine CG.seq ?_
                refine CG.region ?_
                refine OG.yield Yield.eqlA rfl ?_
                refine OG.sg rfl rfl ?_
                refine OG.nil ?_
                refine QG.then ?_
                refine CG.cond rfl (fun hc => ?_) (fun hc => ?_)
                · try replace hc := of_decide_eq_true hc
                  refine CG.seq ?_
                  refine CG.draw (.look 0 1 (.look 1 1 (.look 2 1 (.look 3 1 (.look 5 0 (.look 6 0 (.look 7 0 (.look 8 0 (.look 9 0 (.eff1 4 false (.eff1 10 false (.look 11 1 (.look 12 1 (.look 13 1 (.look 14 1 (.look 15 1 (.look 16 1 (.look 17 1 (.look 18 1 (.look 19 1 (.look 20 1 (.done)))))))))))))))))))))) [4, 10] [] ([blk b3 op.cells 37]) ([]) mixed (by kernel_rfl) (iM) (Imp.none _) ?_
                  refine DG.look rfl rfl (Yield.move rfl) rfl ?_
                  refine DG.look rfl rfl (Yield.fieldAddr fa37_4 rfl) rfl ?_
                  refine DG.look rfl rfl (Yield.as (Yield.load (v := .int .u32 op.Addr) ti30 rfl (Cel.of_blk (b := b3) eX rfl)) (v' := .int .u32 ad) (by rw [had])) rfl ?_
                  refine DG.look rfl rfl (Yield.move rfl) rfl ?_
                  refine DG.look rfl rfl (Yield.move rfl) rfl ?_
                  refine DG.look rfl rfl (Yield.fieldAddr fa37_4 rfl) rfl ?_
                  refine DG.look rfl rfl (Yield.as (Yield.load (v := .int .u32 op.Addr) ti30 rfl (Cel.of_blk (b := b3) eX rfl)) (v' := .int .u32 ad) (by rw [had])) rfl ?_
                  refine DG.look rfl rfl (Yield.fieldAddr fa37_7 rfl) rfl ?_
                  refine DG.look rfl rfl (Yield.load (v := .slice op.Ba op.B.length op.Bc) ti32 rfl (Cel.of_blk (b := b3) eX rfl)) rfl ?_
                  refine DG.eff1 ?_
                  refine Chg.callo rfl rfl call12 rfl (iM) (out_of W0 _ (s := e.s) (m := z.m) (f := z.f) (t := z.t) (k := e.k) (r := e.r) (ba := a59) (bc := c59) (b := op.B) (by exact RdB.of_osl (E := 5) eX rfl rfl) h.lk hf.rt (by omega) (ad := ad) (by omega)) rfl (fun _ => iM) (fun _ => Imp.refl _) (fun _ => iM) ?_
                  rintro σ2 L2
                  refine DG.eff1 ?_
                  refine Chg.callo rfl rfl call36 rfl (iM) (rout_spec W0 _ (o := o) (b := e.b) (w := z.bw) (k := e.k) (ts := z.ts e.k) hf.obk (ad := ad) (by omega) (ba := op.Ba) (bc := op.Bc) (bs := op.B) (by exact RdB.of_slR (hop.B.old eX) hop.Bc)) rfl (fun _ => iM) (fun _ => Imp.refl _) (fun _ => iM) ?_
                  rintro ⟨⟩ -
                  refine DG.look rfl rfl (Yield.as (Yield.eql rfl rfl) (v' := .bool true) (bT rfl)) rfl ?_
                  refine DG.look rfl rfl (Yield.move rfl) rfl ?_
                  refine DG.look rfl rfl (Yield.move rfl) rfl ?_
                  refine DG.look rfl rfl (Yield.toStr (bs := op.B) Tryz.underlying32 Tryz.underlying9 Tryz.underlying5 rfl (SlR.of_osl (E := 5) (a := a59) eX)) rfl ?_
                  refine DG.look rfl rfl (Yield.fieldAddr fa37_7 rfl) rfl ?_
                  refine DG.look rfl rfl (Yield.load (v := .slice op.Ba op.B.length op.Bc) ti32 rfl (Cel.of_blk (b := b3) eX rfl)) rfl ?_
                  refine DG.look rfl rfl (Yield.toStr (bs := op.B) Tryz.underlying32 Tryz.underlying9 Tryz.underlying5 rfl (hop.B.old eX)) rfl ?_
                  refine DG.look rfl rfl (by first | exact Yield.str_same rfl rfl | exact Yield.str_eql rfl rfl) rfl ?_
                  refine DG.look rfl rfl Yield.pickA rfl ?_
                  refine DG.look rfl rfl (Yield.assign rfl) rfl ?_
                  refine DG.done ?_
                  refine QG.then ?_
                  refine CG.seq ?_
                  refine CG.seq ?_
                  refine CG.region ?_
                  refine OG.sg rfl rfl ?_
                  refine OG.nil ?_
                  refine QG.then ?_
                  refine CG.block ?_
                  refine CG.loop (fun y : Nat × List UInt8 => y.1 ≤ op.B.length ∧ y.2.length = op.B.length) (fun y => [(8, .slice a59 y.2.length c59), (19, .bool true), (20, .int .i64 y.1)]) (fun y => oby 5 a59 c59 y.2 :: ZG n qs (outR o e.k ad op.B).2 (z.upd e.k (z.ts e.k) σ2) (old W0 :: Fr)) (fun y => op.B.length - y.1) (0, op.B) ⟨Nat.zero_le _, rfl⟩ eS (Imp.pull (A := oby 5 a59 c59 op.B) eX (Imp.trans (B := ZO n qs z e (s1F z j) (s2F o z j) (RS e.b z.bw e.k (pvs (outR o e.k ad op.B).2 e.k) (z.ts e.k)) (RW z.bw o.fr (lefO qs (rtOf z.sl) o)) σ2 (old W0 :: Fr)) iM (zo_close0 h hj hf stp_out.1 stp_out.2))) ?_
                  rintro ⟨i, xs⟩ ⟨hi, hxl⟩
                  dsimp only at hi hxl ⊢
                  refine CG.seq ?_
                  refine CG.seq ?_
                  refine CG.region ?_
                  refine OG.mv rfl rfl ?_
                  refine OG.mv rfl rfl ?_
                  refine OG.yield (Yield.len_slice Tryz.underlying32 rfl rfl) rfl ?_
                  refine OG.yield Yield.lssA rfl ?_
                  refine OG.nil ?_
                  refine QG.then ?_
                  refine CG.cond rfl (fun hc => ?_) (fun hc => ?_)
                  · try replace hc := of_decide_eq_true hc
                    refine CG.pure (fun w hw => SlR.shape (SlR.of_osl (W0 := W0) (E := 5) (a := a59) (c := c59) (m := xs.length) (xs := bytesV xs) eX) (fun q => by have := congrArg List.length q; rw [bytesV_length] at this; simp only [List.length_nil] at this; omega) w hw) ?_
                    rintro ⟨il, io, rfl⟩
                    refine CG.skip ?_
                    refine QG.then ?_
                    refine CG.seq ?_
                    refine CG.block ?_
                    refine CG.region ?_
                    refine OG.mv rfl rfl ?_
                    refine OG.mv rfl rfl ?_
                    refine OG.yield (Yield.index_slice Tryz.underlying32 ti5 rfl rfl (by omega) (by omega)) rfl ?_
                    refine OG.eff (Eff.storeByteS (b := il) (o := io) (i := i) (bs := xs) (z := 77) ti5 (show io + (i : Int).toNat * 1 = io + i by omega) rfl rfl fC (by omega)) rfl ?_
                    rintro ⟨⟩ -
                    refine OG.nil ?_
                    refine QG.block_normal ?_
                    refine QG.then ?_
                    refine CG.region ?_
                    refine OG.mv rfl rfl ?_
                    refine OG.yield (Yield.add rfl rfl (w64 (by omega) (by omega))) rfl ?_
                    refine OG.sg rfl rfl ?_
                    refine OG.nil ?_
                    exact QG.next (i + 1, xs.set i 77) ⟨by simp only; omega, by rw [List.length_set]; exact hxl⟩ (by simp only; omega) (by simp only [List.length_set]; exact eS) iM
                  · try replace hc := of_decide_eq_false hc
                    refine CG.exit ?_
                    refine QG.pass_exit ?_
                    refine QG.pass_exit ?_
                    refine QG.block_exit ?_
                    refine QG.then ?_
                    refine CG.seq ?_
                    refine CG.region ?_
                    refine OG.mv rfl rfl ?_
                    refine OG.sg rfl rfl ?_
                    refine OG.nil ?_
                    refine QG.then ?_
                    refine CG.ret ?_
                    refine QG.block_ret ?_
                    refine QG.pass_ret ?_
                    exact QG.ret1 rfl rfl ((outR o e.k ad op.B).2, z.upd e.k (z.ts e.k) σ2) ⟨(zo_ok h hj stp_out.1 L2 (tsOk_out hf.ts)).mono (by omega), rfl, rfl⟩ rfl iM
                · try replace hc := of_decide_eq_false hc
                  refine CG.seq ?_
                  refine CG.region ?_
                  refine OG.yield Yield.eqlA rfl ?_
                  refine OG.sg rfl rfl ?_
                  refine OG.nil ?_
                  refine QG.then ?_
                  refine CG.cond rfl (fun hc => ?_) (fun hc => ?_)
                  · try replace hc := of_decide_eq_true hc
                    refine CG.seq ?_
                    refine CG.region ?_
                    refine OG.yield (Yield.fieldAddr fa37_8 rfl) rfl ?_
                    refine OG.yield (Yield.load_agg (vs := [.int .u32 op.I_Entry, .slice op.I_Sectionsa op.I_Sections.length op.I_Sectionsc]) ti35 rfl rfl (Row.of_blk (b := b3) eX rfl)) rfl ?_
                    refine OG.callo call17 rfl (Imp.refl _) (rcopy_spec W0 _ (en := op.I_Entry) (a := op.I_Sectionsa) (l := op.I_Sections) (c := op.I_Sectionsc) hop.I_Sectionsm (by exact secR_old hop eX)) rfl ?_
                    rintro ⟨ca, cc, cl⟩ hcl
                    dsimp only [ISO, List.cons_append, List.nil_append] at hcl ⊢
                    have hcb : ∀ s ∈ cl, s.Bytes.length ≤ reachBytes := fun s hs => by
                      have : s.v ∈ op.I_Sections.map SSec.v := by rw [← hcl]; exact List.mem_map_of_mem hs
                      obtain ⟨x, hx, hxv⟩ := List.mem_map.1 this
                      have e1 : x.Bytes = s.Bytes := congrArg (·.2.2) hxv
                      rw [← e1]; exact (hop.I_Sectionsk x hx).Bytesm
                    have hcl2 : cl.length * 40 ≤ reachBytes := by
                      have := congrArg List.length hcl
                      rw [List.length_map, List.length_map] at this
                      rw [this]; exact hop.I_Sectionsm
                    have hld := load_congr (qk := qk) (o := o) (k := e.k) (en := op.I_Entry) hcl
                    have hSC : ∀ {G : List HProp}, Imp G [osl 82 3 ca cc cl.length ((cl.map SSec.cells).flatten), Star (cl.map secB)] → SecR W0 G ca cl := fun hi => SecR.imp (SecR.of (W0 := W0) (c := cc) (G := []) hcb) hi
                    refine OG.effd (Eff.alloc ti35) rfl ?_
                    rintro b21 -
                    refine OG.eff (Eff.storeAll (vs := [.int .u32 op.I_Entry, .slice ca cl.length cc]) ti35 rfl rfl fC rfl (by simp [one]) (by simp [Value.cells])) rfl ?_
                    rintro ⟨⟩ -
                    refine OG.nil ?_
                    refine QG.then ?_
                    refine CG.seq ?_
                    refine CG.draw (.look 0 1 (.look 1 1 (.look 3 0 (.look 4 0 (.look 5 0 (.eff1 2 false (.eff1 6 false (.look 7 1 (.look 8 1 (.look 9 1 (.look 10 1 (.look 11 1 (.eff1 12 false (.look 13 1 (.look 14 1 (.done)))))))))))))))) [2, 6, 12] [] ([blk b3 op.cells 37]) ([]) mixed (by kernel_rfl) (iM) (Imp.none _) ?_
                    refine DG.look rfl rfl (Yield.move rfl) rfl ?_
                    refine DG.look rfl rfl (Yield.load_agg (vs := [.int .u32 op.I_Entry, .slice ca cl.length cc]) ti35 rfl rfl (Row.of_blk (b := b21) eX rfl)) rfl ?_
                    refine DG.look rfl rfl (Yield.move rfl) rfl ?_
                    refine DG.look rfl rfl (Yield.fieldAddr fa37_8 rfl) rfl ?_
                    refine DG.look rfl rfl (Yield.load_agg (vs := [.int .u32 op.I_Entry, .slice op.I_Sectionsa op.I_Sections.length op.I_Sectionsc]) ti35 rfl rfl (Row.of_blk (b := b3) eX rfl)) rfl ?_
                    refine DG.eff1 ?_
                    refine Chg.callo rfl rfl call16 rfl (iM) (load_spec W0 _ (s := e.s) (m := z.m) (f := z.f) (t := z.t) (k := e.k) (r := e.r) (l := cl) (a := ca) (cc := cc) hE0 (by omega) (by exact hSC iM) h.lk hq hf.hq hf.rt) rfl (fun _ => iM) (fun _ => Imp.refl _) (fun _ => iM) ?_
                    rw [hld]
                    rintro σ2 L2
                    refine DG.eff1 ?_
                    refine Chg.callo rfl rfl call37 rfl (iM) (rload_spec W0 _ (o := o) (b := e.b) (w := z.bw) (k := e.k) (ts := z.ts e.k) (fr := (o.fr : Int)) (qk := qk) (ls := lefO qs (rtOf z.sl) o) (l := op.I_Sections) (a := op.I_Sectionsa) (c := op.I_Sectionsc) hE0 (by omega) (by exact secR_old hop eX) hf.ts hf.get hll (by omega) ⟨hle, by omega⟩) rfl (fun _ => iM) (fun _ => Imp.refl _) (fun _ => iM) ?_
                    rintro ts2 hT2
                    refine DG.look rfl rfl (Yield.as (Yield.eql rfl rfl) (v' := .bool true) (bT rfl)) rfl ?_
                    refine DG.look rfl rfl (Yield.move rfl) rfl ?_
                    refine DG.look rfl rfl (Yield.load_agg (vs := [.int .u32 op.I_Entry, .slice ca cl.length cc]) ti35 rfl rfl (Row.of_blk (b := b21) eX rfl)) rfl ?_
                    refine DG.look rfl rfl (Yield.fieldAddr fa37_8 rfl) rfl ?_
                    refine DG.look rfl rfl (Yield.load_agg (vs := [.int .u32 op.I_Entry, .slice op.I_Sectionsa op.I_Sections.length op.I_Sectionsc]) ti35 rfl rfl (Row.of_blk (b := b3) eX rfl)) rfl ?_
                    refine DG.eff1 ?_
                    refine Chg.callo rfl rfl call38 rfl (Imp.refl _) (rsame_spec W0 _ (en := op.I_Entry) (a1 := ca) (l1 := cl) (c1 := cc) (a2 := op.I_Sectionsa) (l2 := op.I_Sections) (c2 := op.I_Sectionsc) hop.I_Sectionsm (by exact hSC iM) (by exact secR_old hop eX) hcl) rfl (fun _ => iM) (fun _ => Imp.refl _) (fun _ => iM) ?_
                    rintro ⟨⟩ -
                    refine DG.look rfl rfl Yield.pickA rfl ?_
                    refine DG.look rfl rfl (Yield.assign rfl) rfl ?_
                    refine DG.done ?_
                    refine QG.then ?_
                    refine CG.seq ?_
                    refine CG.seq ?_
                    refine CG.region ?_
                    refine OG.sg rfl rfl ?_
                    refine OG.nil ?_
                    refine QG.then ?_
                    refine CG.block ?_
                    refine CG.loop (fun y : Nat × List SSec => y.1 ≤ cl.length ∧ y.2.map SSec.sk = cl.map SSec.sk) (fun y => [(21, .pointer (some ⟨b21, 0, none⟩)), (22, .bool true), (23, .int .i64 y.1)]) (fun y => blk b21 [.int .u32 op.I_Entry, .slice ca cl.length cc] 35 :: (ISO ca cc y.2 ++ ZG n qs (loadO qk o e.k op.I_Entry op.I_Sections).2 (z.upd e.k ts2 σ2) (old W0 :: Fr))) (fun y => cl.length - y.1) (0, cl) ⟨Nat.zero_le _, rfl⟩ eS (Imp.pull (A := blk b21 [.int .u32 op.I_Entry, .slice ca cl.length cc] 35) eX (Imp.pull (A := osl 82 3 ca cc cl.length ((cl.map SSec.cells).flatten)) eX (Imp.pull (A := Star (cl.map secB)) eX (Imp.trans (B := ZO n qs z e (s1F z j) (s2F o z j) (RS e.b z.bw e.k (pvs (loadO qk o e.k op.I_Entry op.I_Sections).2 e.k) (ts2)) (RWd z.bw e.k o (loadO qk o e.k op.I_Entry op.I_Sections).2 o.fr (qk - used o e.k) (lefO qs (rtOf z.sl) o)) σ2 (old W0 :: Fr)) iM (zo_close h hj hf.hq (stp_load hf.le)))))) ?_
                    rintro ⟨i, xs⟩ ⟨hi, hsk⟩
                    dsimp only [ISO, List.cons_append, List.nil_append] at hi hsk ⊢
                    have hxl : xs.length = cl.length := by have := congrArg List.length hsk; rwa [List.length_map, List.length_map] at this
                    have hxb : ∀ (i : Nat) (x : SSec), xs[i]? = some x → x.Bytes.length ≤ reachBytes := fun i x hx => by
                      have e1 : (xs.map SSec.sk)[i]? = some x.sk := by rw [List.getElem?_map, hx]; rfl
                      rw [hsk] at e1
                      obtain ⟨y, hy, hyv⟩ := List.mem_map.1 (List.mem_of_getElem? e1)
                      have e2 : y.Bytes.length = x.Bytes.length := congrArg (·.2.2) hyv
                      rw [← e2]; exact hcb y hy
                    unfold reachBytes at hcl2 hxb
                    refine CG.seq ?_
                    refine CG.seq ?_
                    refine CG.region ?_
                    refine OG.mv rfl rfl ?_
                    refine OG.yield (Yield.fieldAddr fa35_1 rfl) rfl ?_
                    refine OG.yield (Yield.loadA ti33 rfl) rfl ?_
                    refine OG.yield (Yield.len_slice Tryz.underlying33 rfl rfl) rfl ?_
                    refine OG.yield Yield.lssA rfl ?_
                    refine OG.nil ?_
                    refine QG.then ?_
                    refine CG.cond rfl (fun hc => ?_) (fun hc => ?_)
                    · try replace hc := of_decide_eq_true hc
                      obtain ⟨x0, hx0⟩ : ∃ x, xs[i]? = some x := ⟨_, List.getElem?_eq_getElem (by omega)⟩
                      refine CG.pure (fun w hw => SlR.elem_shape (W0 := W0) (f := SSec.cells) (xs := xs) (i := i) (SlR.of_osl (E := 82) (a := ca) (c := cc) eX) SSec.len (by decide) (by omega) w hw) ?_
                      rintro ⟨ol, oo, rfl⟩
                      refine CG.skip ?_
                      refine QG.then ?_
                      refine CG.seq ?_
                      refine CG.block ?_
                      refine CG.seq ?_
                      refine CG.region ?_
                      refine OG.sg rfl rfl ?_
                      refine OG.nil ?_
                      refine QG.then ?_
                      refine CG.block ?_
                      refine CG.loop (fun y : Nat × List SSec => y.2.map SSec.sk = cl.map SSec.sk ∧ y.1 ≤ x0.Bytes.length) (fun y => [(21, .pointer (some ⟨b21, 0, none⟩)), (22, .bool true), (23, .int .i64 i), (24, .int .i64 y.1)]) (fun y => blk b21 [.int .u32 op.I_Entry, .slice (some ⟨ol, oo, none⟩) cl.length cc] 35 :: (ISO (some ⟨ol, oo, none⟩) cc y.2 ++ ZG n qs (loadO qk o e.k op.I_Entry op.I_Sections).2 (z.upd e.k ts2 σ2) (old W0 :: Fr))) (fun y => x0.Bytes.length - y.1) (0, xs) ⟨hsk, Nat.zero_le _⟩ eS iM ?_
                      rintro ⟨jj, ys⟩ ⟨hsk2, hjj⟩
                      dsimp only [ISO, List.cons_append, List.nil_append] at hsk2 hjj ⊢
                      have hyl : ys.length = cl.length := by have := congrArg List.length hsk2; rwa [List.length_map, List.length_map] at this
                      obtain ⟨y, hy⟩ : ∃ y, ys[i]? = some y := ⟨_, List.getElem?_eq_getElem (by omega)⟩
                      have hyx : y.Bytes.length = x0.Bytes.length := by
                        have e1 : (xs.map SSec.sk)[i]? = some x0.sk := by rw [List.getElem?_map, hx0]; rfl
                        have e2 : (ys.map SSec.sk)[i]? = some y.sk := by rw [List.getElem?_map, hy]; rfl
                        rw [hsk] at e1
                        rw [hsk2, e1] at e2
                        exact (congrArg (·.2.2) (Option.some.inj e2)).symm
                      have hxi := hxb i x0 hx0
                      refine CG.seq ?_
                      refine CG.seq ?_
                      refine CG.region ?_
                      refine OG.mv rfl rfl ?_
                      refine OG.yield (Yield.fieldAddr fa35_1 rfl) rfl ?_
                      refine OG.yield (Yield.loadA ti33 rfl) rfl ?_
                      refine OG.mv rfl rfl ?_
                      refine OG.yield (Yield.index_slice Tryz.underlying33 ti82 rfl rfl (by omega) (by omega)) rfl ?_
                      refine OG.yield (Yield.fieldAddr fa82_2 rfl) rfl ?_
                      refine OG.yield (Yield.load (v := .slice y.Bytesa y.Bytes.length y.Bytesc) ti32 rfl (by rw [show oo + (i : Int).toNat * 3 + 2 = oo + i * 3 + 2 by omega]; exact (SlR.elem (f := SSec.cells) (xs := ys) (i := i) (SlR.of_osl (W0 := W0) (E := 82) (a := some ⟨ol, oo, none⟩) (c := cc) eX) SSec.len hy) 2 _ rfl)) rfl ?_
                      refine OG.yield (Yield.len_slice Tryz.underlying32 rfl rfl) rfl ?_
                      refine OG.yield Yield.lssA rfl ?_
                      refine OG.nil ?_
                      refine QG.then ?_
                      refine CG.cond rfl (fun hc => ?_) (fun hc => ?_)
                      · try replace hc := of_decide_eq_true hc
                        have hyS : (ys.map secB)[i]? = some (secB y) := by rw [List.getElem?_map, hy]; rfl
                        refine CG.imp (Imp.trans (B := Star (ys.map secB) :: osl 82 3 (some ⟨ol, oo, none⟩) cc ys.length ((ys.map SSec.cells).flatten) :: blk b21 [.int .u32 op.I_Entry, .slice (some ⟨ol, oo, none⟩) cl.length cc] 35 :: ZG n qs (loadO qk o e.k op.I_Entry op.I_Sections).2 (z.upd e.k ts2 σ2) (old W0 :: Fr)) iM (star_take hyS)) ?_
                        obtain ⟨yp, ypm, ya, yc, yb⟩ := y
                        dsimp only at hyx hy hc ⊢
                        refine CG.pure (fun w hw => SlR.shape (SlR.of_osl (W0 := W0) (E := 5) (a := ya) (c := yc) eX) (fun q => by have := congrArg List.length q; rw [bytesV_length] at this; simp only [List.length_nil] at this; omega) w hw) ?_
                        rintro ⟨yl, yo, rfl⟩
                        obtain ⟨b0, hb0⟩ : ∃ b0, yb[jj]? = some b0 := ⟨_, List.getElem?_eq_getElem (by omega)⟩
                        refine CG.skip ?_
                        refine QG.then ?_
                        refine CG.seq ?_
                        refine CG.block ?_
                        refine CG.region ?_
                        refine OG.yield (Yield.fieldAddr fa35_1 rfl) rfl ?_
                        refine OG.yield (Yield.loadA ti33 rfl) rfl ?_
                        refine OG.mv rfl rfl ?_
                        refine OG.yield (Yield.index_slice Tryz.underlying33 ti82 rfl rfl (by omega) (by omega)) rfl ?_
                        refine OG.yield (Yield.fieldAddr fa82_2 rfl) rfl ?_
                        refine OG.yield (Yield.load (v := .slice (some ⟨yl, yo, none⟩) yb.length yc) ti32 rfl (by rw [show oo + (i : Int).toNat * 3 + 2 = oo + i * 3 + 2 by omega]; exact (SlR.elem (f := SSec.cells) (xs := ys) (i := i) (SlR.of_osl (W0 := W0) (E := 82) (a := some ⟨ol, oo, none⟩) (c := cc) eX) SSec.len hy) 2 _ rfl)) rfl ?_
                        refine OG.mv rfl rfl ?_
                        refine OG.yield (Yield.index_slice Tryz.underlying32 ti5 rfl rfl (by omega) (by omega)) rfl ?_
                        refine OG.yield (Yield.load (v := byteV b0) ti5 rfl (by rw [show yo + (jj : Int).toNat * 1 = yo + jj by omega]; exact SlR.cel (i := jj) (SlR.of_osl (W0 := W0) (E := 5) (a := some ⟨yl, yo, none⟩) (c := yc) (m := yb.length) (xs := bytesV yb) eX) (by rw [bytesV_get hb0]))) rfl ?_
                        refine OG.yield (Yield.as (Yield.add rfl rfl rfl) (v' := byteV (byteI ((b0.toNat : Int) + 1))) (by unfold byteV; rw [byteI_val])) rfl ?_
                        refine OG.yield (Yield.index_slice Tryz.underlying32 ti5 rfl rfl (by omega) (by omega)) rfl ?_
                        refine OG.eff (Eff.storeByteS (b := yl) (o := yo) (i := jj) (bs := yb) (z := byteI ((b0.toNat : Int) + 1)) ti5 (show yo + (jj : Int).toNat * 1 = yo + jj by omega) rfl rfl fC (by omega)) rfl ?_
                        rintro ⟨⟩ -
                        refine OG.nil ?_
                        refine QG.block_normal ?_
                        refine QG.then ?_
                        refine CG.region ?_
                        refine OG.mv rfl rfl ?_
                        refine OG.yield (Yield.add rfl rfl (w64 (by omega) (by omega))) rfl ?_
                        refine OG.sg rfl rfl ?_
                        refine OG.nil ?_
                        refine QG.next (jj + 1, ys.set i ⟨yp, ypm, some ⟨yl, yo, none⟩, yc, yb.set jj (byteI ((b0.toNat : Int) + 1))⟩) ⟨?_, by simp only; omega⟩ (by simp only; omega) eS ?_
                        · dsimp only
                          rw [List.map_set, ← hsk2]
                          exact Ms.set_self (by rw [List.getElem?_map, hy]; simp [SSec.sk])
                        · exact Imp.pull (A := blk b21 [.int .u32 op.I_Entry, .slice (some ⟨ol, oo, none⟩) cl.length cc] 35) eX (Imp.trans (B := secB ⟨yp, ypm, some ⟨yl, yo, none⟩, yc, yb.set jj (byteI ((b0.toNat : Int) + 1))⟩ :: Star ((ys.map secB).eraseIdx i) :: osl 82 3 (some ⟨ol, oo, none⟩) cc ys.length ((ys.map SSec.cells).flatten) :: ZG n qs (loadO qk o e.k op.I_Entry op.I_Sections).2 (z.upd e.k ts2 σ2) (old W0 :: Fr)) iM (sec_upd (y' := ⟨yp, ypm, some ⟨yl, yo, none⟩, yc, yb.set jj (byteI ((b0.toNat : Int) + 1))⟩) hy (by simp [SSec.cells])))
                      · try replace hc := of_decide_eq_false hc
                        refine CG.exit ?_
                        refine QG.pass_exit ?_
                        refine QG.pass_exit ?_
                        refine QG.block_exit ?_
                        refine QG.block_normal ?_
                        refine QG.then ?_
                        refine CG.region ?_
                        refine OG.mv rfl rfl ?_
                        refine OG.yield (Yield.add rfl rfl (w64 (by omega) (by omega))) rfl ?_
                        refine OG.sg rfl rfl ?_
                        refine OG.nil ?_
                        exact QG.next (i + 1, ys) ⟨by simp only; omega, hsk2⟩ (by simp only; omega) eS iM
                    · try replace hc := of_decide_eq_false hc
                      refine CG.exit ?_
                      refine QG.pass_exit ?_
                      refine QG.pass_exit ?_
                      refine QG.block_exit ?_
                      refine QG.then ?_
                      refine CG.seq ?_
                      refine CG.region ?_
                      refine OG.mv rfl rfl ?_
                      refine OG.sg rfl rfl ?_
                      refine OG.nil ?_
                      refine QG.then ?_
                      refine CG.ret ?_
                      refine QG.block_ret ?_
                      refine QG.pass_ret ?_
                      exact QG.ret1 rfl rfl ((loadO qk o e.k op.I_Entry op.I_Sections).2, z.upd e.k ts2 σ2) ⟨(zo_ok h hj (stp_load hf.le) L2 hT2).mono (by omega), rfl, rfl⟩ rfl iM
                  · try replace hc := of_decide_eq_false hc
                    refine CG.skip ?_
                    refine QG.block_normal ?_
                    refine QG.then ?_
                    refine CG.seq ?_
                    refine CG.region ?_
                    refine OG.mv rfl rfl ?_
                    refine OG.callo call39 rfl ((Imp.trans (B := ZO n qs z e (s1F z j) (s2F o z j) (rsF o z.bw z.ts e) (RW z.bw o.fr (lefO qs (rtOf z.sl) o)) z.σ (old W0 :: Fr)) iM (zo_back hj))) (moves_spec W0 (old W0 :: Fr) (z := z) h hq hql hzl hc8) rfl ?_
                    rintro y ⟨hy1, hy2, hy3⟩
                    refine OG.sg rfl rfl ?_
                    refine OG.nil ?_
                    refine QG.then ?_
                    refine CG.ret ?_
                    exact QG.ret1 rfl rfl (o, y) ⟨hy1.mono (by omega), hy2, hy3⟩ rfl iM
end
end Go.Proofs.YtmlfcfbblfcpdaaGreat.Sp
/- The laws' world as it is made; how many frames and quotas. -/
namespace Go.Proofs.YtmlfcfbblfcpdaaGreat.Sp
open Go Go.Sl Go.RowKit Go.Proofs Go.Proofs.YtmlfcfbblfcpdaaGreat.T Go.Proofs.YtmlfcfbblfcpdaaGreat.Me Go.Proofs.YtmlfcfbblfcpdaaGreat.Pe Go.Proofs.YtmlfcfbblfcpdaaGreat.Pg
open Go.Proofs.YtmlfcfbblfcpdaaGreat.Fz (iv oiv iv_append iv_ones iv_get iv_len cnt free_frame left left_in nerr nerr_ok)
set_option maxRecDepth 100000
theorem star_mono {α : Type} {f g : α → HProp} : ∀ {l : List α}, (∀ e ∈ l, ∀ y, f e y → g e y) → ∀ y, Star (l.map f) y → Star (l.map g) y
  | [], _, _, h => h
  | e :: l, h, y, ⟨p, hp, hf, hs⟩ => ⟨p, hp, h e (List.mem_cons_self ..) _ hf, star_mono (l := l) (fun x hx => h x (List.mem_cons_of_mem _ hx)) _ hs⟩
abbrev ob0 (fr : Nat) : Ob := ⟨fun _ _ => none, fun _ _ => false, fr⟩
theorem pvTo_zero {fr k : Nat} : ∀ p, pvTo (ob0 fr) k p = []
  | 0 => rfl
  | p + 1 => by unfold pvTo; rw [pvTo_zero p]; rfl
theorem rs_new {b bw k fr : Nat} (y : Heaplet) (h : rsb0 b bw k y) : RS b bw k (pvs (ob0 fr) k) [] y := by
  refine ⟨⟨none, 0, [], none, 0⟩, (pvTo_zero 4096).symm, y, hle_refl y, h, ?_⟩
  have : Imp [] [osl 61 3 none 0 0 [], Star [], oiv none 0 []] := Imp.trans (osl_nil (E := 3) (sz := 1)) (Imp.trans star_nil (Imp.trans (osl_nil (E := 61) (sz := 3)) iM))
  exact this _ trivial
theorem lefO_new {n : Nat} {qs : List Int} {sl : List SpE} {fr : Nat} (hk : sl.map (·.k) = posK qs qs.length) : lefO qs (rtOf sl) (ob0 fr) = lft qs qs.length := by
  have hnd : (sl.map (·.k)).Nodup := by rw [hk]; exact posK_nodup _ _
  apply List.ext_getElem?
  intro k
  cases h : qs[k]? with
  | none => rw [List.getElem?_eq_none (by rw [lefO_len]; exact List.getElem?_eq_none_iff.1 h), List.getElem?_eq_none (by rw [lft_len]; exact List.getElem?_eq_none_iff.1 h)]
  | some q =>
    have hkl := (List.getElem?_eq_some_iff.1 h).1
    rw [lefO_get h, lft_get h, used_zero]
    by_cases hq : 0 < q
    · have hm : k ∈ sl.map (·.k) := by
        rw [hk]; unfold posK
        rw [List.mem_filter, List.mem_range, decide_eq_true_iff, List.getD_eq_getElem?_getD, h]
        exact ⟨hkl, hq⟩
      obtain ⟨e, he, rfl⟩ := List.mem_map.1 hm
      simp [rtOf_mem hnd he, hkl, hq]
    · have hno : rtOf sl k = none := rtOf_none fun x hx e => by
        have hm : x.k ∈ posK qs qs.length := by rw [← hk]; exact List.mem_map_of_mem hx
        obtain ⟨q2, h1, h2⟩ := posK_pos hm
        rw [e, h] at h1
        exact hq (by rw [Option.some.inj h1]; exact h2)
      rw [hno, if_neg (by simp), if_neg (fun c => hq c.2)]
abbrev MD.zs (z : MD) : ZS := ⟨z.m, z.f, z.t, z.bx, z.bw, z.sa, z.sc, z.ra, z.rc, z.sl, z.σ, fun _ => []⟩
theorem mg_zg {n : Nat} {qs : List Int} {z : MD} {Fr : List HProp} (hk : z.sl.map (·.k) = posK qs qs.length) (hn : z.sl.length ≤ n) : Imp (MG n qs qs.length z Fr) (ZG n qs (ob0 (n - z.sl.length)) z.zs Fr) := by
  dsimp only [MG, ZG, bxF]
  rw [lefO_new (n := n) hk, show (((n - z.sl.length : Nat) : Int)) = (n : Int) - z.sl.length by omega]
  refine Imp.trans (B := Star (z.sl.map fun e => rsb0 e.b z.bw e.k) :: blk z.bx [.pointer (some ⟨z.m, 0, none⟩), .pointer (some ⟨z.f, 0, none⟩), .pointer (some ⟨z.t, 0, none⟩), .slice z.sa z.sl.length z.sc, .pointer (some ⟨z.bw, 0, none⟩), .slice z.ra z.sl.length z.rc] 47 ::
    osl 48 1 z.sa z.sc z.sl.length (ptrs (z.sl.map (·.s))) :: osl 73 1 z.ra z.rc z.sl.length (ptrs (z.sl.map (·.b))) :: RW z.bw ((n : Int) - z.sl.length) (lft qs qs.length) :: Star (z.sl.map fun e => sb e.s e.k e.r z.m z.f z.t) :: WG z.m z.f z.t n qs z.σ Fr) iM ?_
  refine Imp.trans (Imp.head (B := Star (z.sl.map (rsF (ob0 (n - z.sl.length)) z.bw fun _ => []))) (star_mono fun e _ y hy => rs_new y hy)) ?_
  exact iM
theorem zok_new {n : Nat} {qs : List Int} {z : MD} (hk : z.sl.map (·.k) = posK qs qs.length) (L : Lk n qs (rtOf z.sl) (ob0 (n - z.sl.length)) 0 z.σ) : ZOk n qs (ob0 (n - z.sl.length)) 0 z.zs :=
  ⟨hk, L, fun e _ => ⟨fun g => by simp, by rw [show (ob0 (n - z.sl.length)).ts e.k = fun _ => false from rfl, cN_zero]; rfl⟩⟩
section
variable (W0 : World) (Fr : List HProp)
theorem made_zg {n qc : Nat} {qa : Option Addr} {qs : List Int} (hne : nerr n qs = 0) (hqs : SlR W0 Fr 1 qa qs.length (iv qs)) : Ctr Tryz.prog W0 6 [.int .i64 n, .slice qa qs.length qc] Fr
    (fun y : Ob × ZS => ZOk n qs y.1 0 y.2 ∧ y.2.sl.length ≤ 1024) (fun y => .tuple #[.pointer (some ⟨y.2.bx, 0, none⟩), .bool true]) (fun y => ZG n qs y.1 y.2 Fr) := by
  obtain ⟨hn, -⟩ := nerr_ok hne
  intro w hw
  refine (made_spec W0 Fr hne hqs w hw).mono ?_
  rintro e w' ⟨z, ⟨hk, L, hzl⟩, he, hs⟩
  exact ⟨(ob0 (n - z.sl.length), z.zs), ⟨zok_new hk L, by show z.sl.length ≤ 1024; omega⟩, he, hs.imp (mg_zg hk hzl)⟩
end
end Go.Proofs.YtmlfcfbblfcpdaaGreat.Sp
/- SpaceAll's words: what a copy or an image leaves; plain. -/
namespace Go.Sl
open Go Go.RowKit
theorem Opn.paramS {P : Program} {W : World} {r : Reach} {H : Type} {enc : TypeId × Value → H} {b0 : Nat} {t : TypeId} {fs : Array Field} {v : Value} {d : DataW H} {ps : List MemPlace} {R : List Value → Prop} (hu : P.underlying t = some (.struct fs)) (ho : Opn P W t R) (hval : Value.okWide P W r b0 t v)
    (hd : DataW.Trod enc P W 0 (fun _ => true) true t v d ps) (hw : ∀ k ∈ d.weights P t, k ≤ reachBytes) : ∃ cs : List Value, v = .agg cs.toArray ∧ R cs := by
  obtain ⟨cs, rfl, -⟩ := Go.WideShapes.okWide_struct hu hval
  obtain ⟨n, hn⟩ := hd
  exact ⟨cs.toList, rfl, ho H enc n _ _ hn hw⟩
end Go.Sl
namespace Go.Proofs.YtmlfcfbblfcpdaaGreat.Sp
open Go Go.Sl Go.RowKit Go.Proofs Go.Proofs.YtmlfcfbblfcpdaaGreat.T Go.Proofs.YtmlfcfbblfcpdaaGreat.Me Go.Proofs.YtmlfcfbblfcpdaaGreat.Pe Go.Proofs.YtmlfcfbblfcpdaaGreat.Pg
open Go.Proofs.YtmlfcfbblfcpdaaGreat.Fz (iv oiv iv_append iv_ones iv_get iv_len cnt free_frame left left_in nerr nerr_ok)
set_option maxRecDepth 100000
structure SImg where
  Entry : Int
  Sectionsa : Option Go.Addr
  Sectionsc : Nat
  Sections : List SSec
def SImg.cells (o : SImg) : List Value := [.int .u32 o.Entry, .slice o.Sectionsa o.Sections.length o.Sectionsc]
structure SImg.OK (W : World) (o : SImg) : Prop where
  mk ::
  Entry : (Lit.int .u32 o.Entry).wf = true
  Sectionsc : o.Sections.length ≤ o.Sectionsc
  Sectionsk : ∀ x ∈ o.Sections, SSec.OK W x
  Sections : SlAt W 3 o.Sectionsa o.Sections.length ((o.Sections.map SSec.cells).flatten)
  Sectionsm : o.Sections.length * 40 ≤ reachBytes
theorem SImg.opn (W : World) : Opn Tryz.prog W 35 (fun cs => ∃ o : SImg, cs = o.cells ∧ o.OK W) := (Opn.of_fields Tryz.underlying35 (by kernel_rfl) (by kernel_rfl) (.cons (s := 1) (Opn.int Tryz.underlying30) (.cons (s := 1) (Opn.recs (sz := 3) (by' := 40) Tryz.underlying33 (by kernel_rfl) (by decide) (by kernel_rfl) (SSec.opn W)) .nil))).mono fun cs h => by
  obtain ⟨_, _, rfl, _, ⟨xEntry, rfl, wEntry⟩, ⟨_, _, rfl, _, ⟨xSectionsa, xSectionsc, xSections, rfl, wSectionsc, wSectionsk, wSections, wSectionsm⟩, rfl⟩⟩ := h
  exact ⟨⟨xEntry, xSectionsa, xSectionsc, xSections⟩, rfl, ⟨wEntry, wSectionsc, wSectionsk, wSections, wSectionsm⟩⟩
theorem SImg.len (o : SImg) : o.cells.length = 2 := rfl
theorem SImg.ones (o : SImg) : ∀ v ∈ o.cells, one v = true := by simp [SImg.cells, one]
theorem secR_img {W0 : World} {G R : List HProp} {im : SImg} (hop : im.OK W0) (x : Ext G (old W0) R) : SecR W0 G im.Sectionsa im.Sections :=
  ⟨hop.Sections.old x, fun s hs => (hop.Sectionsk s hs).Bytesm, fun s hs => RdB.of_slR ((hop.Sectionsk s hs).Bytes.old x) (hop.Sectionsk s hs).Bytesc⟩
/-- May the byte be read? -/
def canF (o : Ob) (k ad i : Nat) : Bool := decide (Go.bits .and .i64 (prmO o k (((ad + i) / 256 : Nat) : Int)) 1 ≠ 0)
def canA (o : Ob) (k ad n : Nat) : Bool := (List.range n).all (canF o k ad)
theorem canA_succ {o : Ob} {k ad n : Nat} : canA o k ad (n + 1) = (canA o k ad n && canF o k ad n) := by unfold canA; rw [List.range_succ, List.all_append]; simp
theorem prmO_pm {o : Ob} {k q : Nat} (hq : q < 4096) : prmO o k (q : Int) = match pmO o k q with | some p => (p : Int) | none => 0 := by
  unfold prmO pmO; rw [vI_nat hq]; cases o.vw k q <;> rfl
theorem can_may {o : Ob} {k ad i : Nat} (h : canF o k ad i = true) : mayP (pmO o k) 1 (ad + i) = true := by
  unfold canF at h
  have h := of_decide_eq_true h
  by_cases hq : (ad + i) / 256 < 4096
  · rw [prmO_pm hq] at h
    cases hp : pmO o k ((ad + i) / 256) with
    | none => rw [hp] at h; exact absurd (show Go.bits .and .i64 0 1 = 0 by decide) h
    | some p => rw [hp] at h; rw [mayP_some (by omega) hp]; exact decide_eq_true h
  · unfold prmO vI at h
    rw [if_neg (by omega)] at h
    exact absurd (show Go.bits .and .i64 0 1 = 0 by decide) h
/-- What was copied out is there to be copied in. -/
theorem out_in {o : Ob} {k ad : Nat} {b : List UInt8} (hK : ObK o k) (h : (outR o k ad b).1 = 0) (hc : canA (outR o k ad b).2 k ad b.length = true) : inO (outR o k ad b).2 k ad b.length = (b, 0) := by
  have hb : ¬ 4096 < b.length := fun q => by unfold outR at h; rw [if_pos q] at h; cases h
  have hm : mayA o k 2 ad b.length = true := by
    cases hm : mayA o k 2 ad b.length with
    | true => rfl
    | false => unfold outR at h; rw [if_neg hb, hm] at h; cases h
  have e : outR o k ad b = (0, outO o k ad b b.length) := by unfold outR; rw [if_neg hb, if_pos hm]
  rw [e] at hc ⊢
  dsimp only at hc ⊢
  have hm1 : mayA (outO o k ad b b.length) k 1 ad b.length = true := mayA_t fun i hi => by
    unfold canA at hc
    exact can_may (List.all_eq_true.1 hc i (List.mem_range.2 hi))
  unfold inO
  rw [if_neg (by omega), Int.toNat_natCast, if_pos hm1]
  congr 1
  apply List.ext_getElem?
  intro i
  by_cases hi : i < b.length
  · rw [bufI_get hi, if_pos hi, List.getElem?_eq_getElem hi]
    congr 1
    have hmi := List.all_eq_true.1 hm i (List.mem_range.2 hi)
    cases hx : o.vw k ((ad + i) / 256) with
    | none => exact absurd hmi (by rw [mayP_none (by unfold pmO; rw [hx]; rfl)]; decide)
    | some x =>
      have hl := (hK _ _ hx).2
      unfold byteO
      rw [outO_vw hx]
      dsimp only
      have hlt : (ad + i) % 256 < x.2.length := by omega
      rw [putP_get hlt, if_pos (by omega), show (ad + i) / 256 * 256 + (ad + i) % 256 - ad = i by omega, List.getElem?_eq_getElem hi]
      rfl
  · rw [List.getElem?_eq_none (by rw [bufI_len]; omega), List.getElem?_eq_none (by omega)]
theorem pvs_lay1 {o : Ob} {k : Nat} {x : PGv} (hp : x.1 < 4096) (hn : o.vw k x.1 = none) : (pvs (lay1 o k x) k).length = (pvs o k).length + 1 := by
  have e := pvs_cut o k hp
  rw [hn] at e
  unfold lay1
  rw [pvs_upd hp, e]
  simp [optP]; omega
theorem lay_len {k : Nat} {P : Ob → Nat} (hP : ∀ (o : Ob) (x : PGv), x.1 < 4096 → o.vw k x.1 = none → P (lay1 o k x) = P o + 1) : ∀ {l : List PGv} {o : Ob} {e : Int}, Asc e l → (∀ x ∈ l, o.vw k x.1 = none) → P (layL o k l) = P o + l.length
  | [], _, _, _, _ => rfl
  | x :: l, o, e, ha, h => by
    cases ha with
    | cons a1 a2 a3 a4 a5 =>
      show P (layL (lay1 o k x) k l) = _
      rw [lay_len hP a5 (fun y hy => by
        have hm := a5.mem y hy
        show up2 o.vw k x.1 _ k y.1 = none
        rw [up2_ne (by omega)]; exact h y (List.mem_cons_of_mem _ hy)), hP o x a2 (h x (List.mem_cons_self ..)), List.length_cons]
      omega
theorem pvs_lay {k : Nat} {l : List PGv} {o : Ob} {e : Int} (ha : Asc e l) (h : ∀ x ∈ l, o.vw k x.1 = none) : (pvs (layL o k l) k).length = (pvs o k).length + l.length :=
  lay_len (P := fun o => (pvs o k).length) (fun o x h1 h2 => pvs_lay1 h1 h2) ha h
theorem layL_in {k : Nat} : ∀ {l : List PGv} {o : Ob} {e : Int}, Asc e l → ∀ x ∈ l, (layL o k l).vw k x.1 = some (x.2.1, x.2.2)
  | [], _, _, _, x, hx => by cases hx
  | y :: l, o, e, ha, x, hx => by
    cases ha with
    | cons a1 a2 a3 a4 a5 =>
      show (layL (lay1 o k y) k l).vw k x.1 = _
      rcases List.mem_cons.1 hx with rfl | hx
      · rw [layL_vw (fun z hz => by have := (a5.mem z hz).1; omega)]
        exact up2_at
      · exact layL_in a5 x hx
theorem pvs_has {k : Nat} {l : List PGv} {o : Ob} {e : Int} (ha : Asc e l) : ∀ x ∈ l, x ∈ pvs (layL o k l) k := fun x hx =>
  List.mem_of_getElem? (fnd_some (ha.mem x hx).2.1 (layL_in ha x hx)).2
/-- What Load has done. -/
theorem load_two (qk : Int) (o : Ob) (k : Nat) (en : Int) (l : List SSec) : ((loadO qk o k en l).1 ≠ 0 ∧ (loadO qk o k en l).2 = o) ∨ (loadO qk o k en l = (0, layL o k (imgP l)) ∧ chk en l = 0 ∧ ∀ x ∈ imgP l, o.vw k x.1 = none) := by
  rw [load_all]
  by_cases hc : chk en l = 0
  · rw [if_neg (fun q => q hc)]
    by_cases h1 : ∃ x ∈ imgP l, (o.vw k x.1).isSome = true
    · obtain ⟨x, hx, h⟩ := h1
      rw [(all_there (q := qk - used o k) hx h).1]
      exact .inl ⟨show (91 : Int) ≠ 0 by decide, rfl⟩
    · have h2 : ∀ x ∈ imgP l, o.vw k x.1 = none := fun x hx => by
        cases h3 : o.vw k x.1 with
        | none => rfl
        | some y => exact absurd ⟨x, hx, by rw [h3]; rfl⟩ h1
      by_cases h3 : qk - used o k < needL o k (imgP l)
      · rw [(all_quota h2 h3).1]; exact .inl ⟨show (141 : Int) ≠ 0 by decide, rfl⟩
      · rw [(all_done h2 h3).1]; exact .inr ⟨rfl, hc, h2⟩
  · rw [if_pos hc]; exact .inl ⟨hc, rfl⟩
theorem out_two (o : Ob) (k ad : Nat) (b : List UInt8) : ((outR o k ad b).1 ≠ 0 ∧ (outR o k ad b).2 = o) ∨ (outR o k ad b).1 = 0 := by
  unfold outR
  split
  · exact .inl ⟨show (2 : Int) ≠ 0 by decide, rfl⟩
  · split
    · exact .inr rfl
    · exact .inl ⟨show (90 : Int) ≠ 0 by decide, rfl⟩
theorem used_out {o : Ob} {k ad : Nat} {b : List UInt8} : used (outR o k ad b).2 k = used o k := by
  have := (stp_out (o := o) (k := k) (ad := ad) (b := b)).2
  unfold dO at this; omega
end Go.Proofs.YtmlfcfbblfcpdaaGreat.Sp
/- SpaceAll: a copy or an image is there as a whole, or not at all: the law returns true and changes nothing that was there. -/
namespace Go.Proofs.YtmlfcfbblfcpdaaGreat.spaceAll
open Go Go.Sl Go.RowKit Go.Proofs Go.Proofs.YtmlfcfbblfcpdaaGreat.T Go.Proofs.YtmlfcfbblfcpdaaGreat.Me Go.Proofs.YtmlfcfbblfcpdaaGreat.Pe Go.Proofs.YtmlfcfbblfcpdaaGreat.Pg Go.Proofs.YtmlfcfbblfcpdaaGreat.Sp
open Go.Proofs.YtmlfcfbblfcpdaaGreat.Fz (iv oiv iv_append iv_ones iv_get iv_len nerr nerr_ok flat_ints)
set_option maxRecDepth 100000
theorem pvr_at {W0 : World} {G : List HProp} {a : Option Addr} {c : Nat} {l : List PV} (h : Imp G [osl 61 3 a c l.length ((l.map PV.cells).flatten), Star (l.map obm)]) : PVr W0 G a l := PVr.at h
theorem sl_0 {l : List SpE} (h : l.map (·.k) = posK [16, 8] 2) : l.length = 2 ∧ ∃ e, l[0]? = some e ∧ e.k = 0 := by
  have hp : posK [16, 8] 2 = [0, 1] := by decide
  rw [hp] at h
  obtain ⟨s0, r0, b0, s1, r1, b1, rfl⟩ := sl_two h
  exact ⟨rfl, _, rfl, rfl⟩
set_option maxHeartbeats 8000000 in
theorem walk (W : World) {a0 a2 : Option Addr} {c0 c2 : Nat} {ops : List SOp} {addr : Int} {b : List UInt8} {im : SImg} (hops : SlAt W 10 a0 ops.length ((ops.map SOp.cells).flatten)) (hok : ∀ o ∈ ops, o.OK W)
    (had0 : 0 ≤ addr) (had1 : addr ≤ 4294967295) (hb : SlAt W 1 a2 b.length (bytesV b)) (hbm : b.length ≤ reachBytes) (him : im.OK W) :
    Ctr Tryz.prog W 4 [.slice a0 ops.length c0, .int .u32 addr, .slice a2 b.length c2, .agg im.cells.toArray] [old W] (fun _ : Unit => True) (fun _ => .bool true) (fun _ => [old W]) := by
  have hq : ∀ q ∈ ([16, 8] : List Int), 0 ≤ q ∧ q ≤ 1024 := by decide
  obtain ⟨ad, rfl⟩ := Int.eq_ofNat_of_zero_le had0
  obtain ⟨hE0, hE1⟩ := wf_u32 him.Entry
  have hbm2 := hbm
  unfold reachBytes at hbm2
  refine Ctr.of_body Tryz.func4 rfl Tryz.ntmps4 rfl ?_
  refine CG.seq ?_
  refine CG.region ?_
  refine OG.effd (Eff.box rfl) rfl ?_
  rintro b7 -
  refine OG.sg rfl rfl ?_
  refine OG.nil ?_
  refine QG.then ?_
  refine CG.seq ?_
  refine CG.seq ?_
  refine CG.region ?_
  refine OG.callo call9 rfl (Imp.refl _) (works_spec W _) rfl ?_
  rintro ⟨⟩ -
  refine OG.yield (Yield.not rfl) rfl ?_
  refine OG.nil ?_
  refine QG.then ?_
  refine CG.cond_f rfl ?_
  refine CG.skip ?_
  refine QG.then ?_
  refine CG.seq ?_
  refine CG.region ?_
  refine OG.effd (Eff.lit [.const (.int .i64 16), .const (.int .i64 8)] (vs := [.int .i64 16, .int .i64 8]) (cells := iv [16, 8]) Tryz.underlying22 ti3 rfl rfl rfl rfl (by decide) (by simp [Value.cells]) (by simp [Value.cells]; rfl)) rfl ?_
  rintro b29 -
  refine OG.callo call6 rfl (Imp.refl _) (made_zg W _ (n := 24) (qs := [16, 8]) (qa := some ⟨b29, 0, none⟩) (qc := 2) (by decide) (by exact SlR.of_osl (E := 3) (a := some ⟨b29, 0, none⟩) eX)) rfl ?_
  rintro ⟨o0, z0⟩ ⟨h0, hz0⟩
  dsimp only at h0 hz0 ⊢
  have hz2 := (sl_0 h0.ks).1
  refine OG.mv rfl rfl ?_
  refine OG.yield (Yield.extract rfl rfl) rfl ?_
  refine OG.yield (Yield.extract rfl rfl) rfl ?_
  refine OG.sg rfl rfl ?_
  refine OG.sg rfl rfl ?_
  refine OG.nil ?_
  refine QG.then ?_
  refine CG.seq ?_
  refine CG.seq ?_
  refine CG.region ?_
  refine OG.mv rfl rfl ?_
  refine OG.yield (Yield.not rfl) rfl ?_
  refine OG.mv rfl rfl ?_
  refine OG.gy rfl rfl rfl ?_
  refine OG.mv rfl rfl ?_
  refine OG.gy rfl rfl rfl ?_
  refine OG.yield (Yield.nilCheck rfl) rfl ?_
  refine OG.gy rfl rfl rfl ?_
  refine OG.yield (Yield.fieldAddr fa47_3 rfl) rfl ?_
  refine OG.gy rfl rfl rfl ?_
  refine OG.yield (Yield.loadA ti43 rfl) rfl ?_
  refine OG.gy rfl rfl rfl ?_
  refine OG.yield (Yield.len_slice Tryz.underlying43 rfl rfl) rfl ?_
  refine OG.gy rfl rfl rfl ?_
  refine OG.yield (Yield.as (Yield.neq rfl rfl) (v' := .bool false) (bF (by omega))) rfl ?_
  refine OG.yield Yield.pickA rfl ?_
  refine OG.nil ?_
  refine QG.then ?_
  refine CG.cond_f rfl ?_
  refine CG.skip ?_
  refine QG.then ?_
  refine CG.cut (fun y : Nat × Ob × ZS => y.1 ≤ 60 ∧ ZOk 24 [16, 8] y.2.1 (y.1 * 8192) y.2.2 ∧ y.2.2.bx = z0.bx) (fun y => [(1, .int .u32 ad), (2, .slice a2 b.length c2), (7, .pointer (some ⟨b7, 0, none⟩)), (9, .pointer (some ⟨z0.bx, 0, none⟩))]) (fun y => ZG 24 [16, 8] y.2.1 y.2.2 (old W :: blk b7 [.int .u32 im.Entry, .slice im.Sectionsa im.Sections.length im.Sectionsc] 35 :: [])) ?_ ?_
  · skip
    refine CG.seq ?_
    refine CG.region ?_
    refine OG.sg rfl rfl ?_
    refine OG.nil ?_
    refine QG.then ?_
    refine CG.block ?_
    refine CG.loop (fun y : Nat × Ob × ZS => y.1 ≤ 60 ∧ y.1 ≤ ops.length ∧ ZOk 24 [16, 8] y.2.1 (y.1 * 8192) y.2.2 ∧ y.2.2.bx = z0.bx) (fun y => [(0, .slice a0 ops.length c0), (1, .int .u32 ad), (2, .slice a2 b.length c2), (7, .pointer (some ⟨b7, 0, none⟩)), (9, .pointer (some ⟨z0.bx, 0, none⟩)), (11, .int .i64 y.1)]) (fun y => ZG 24 [16, 8] y.2.1 y.2.2 (old W :: blk b7 [.int .u32 im.Entry, .slice im.Sectionsa im.Sections.length im.Sectionsc] 35 :: [])) (fun y => ops.length - y.1) (0, o0, z0) ⟨Nat.zero_le _, Nat.zero_le _, h0.mono (Nat.zero_le _), rfl⟩ eS iM ?_
    rintro ⟨i, o, z⟩ ⟨hi80, hi, h, hbx⟩
    dsimp only at hi80 hi h hbx ⊢
    obtain ⟨hzl, e, hj, hek⟩ := sl_0 h.ks
    refine CG.seq ?_
    refine CG.seq ?_
    rcases loop_head (i) (ops.length) 60 with hh | hh | hh
    · skip
      refine CG.region ?_
      refine OG.mv rfl rfl ?_
      refine OG.mv rfl rfl ?_
      refine OG.yield (Yield.len_slice Tryz.underlying23 rfl rfl) rfl ?_
      refine OG.yield Yield.lssA rfl ?_
      refine OG.mv rfl rfl ?_
      refine OG.gy rfl rfl rfl ?_
      refine OG.mv rfl rfl ?_
      refine OG.gy rfl rfl rfl ?_
      refine OG.yield Yield.lssA rfl ?_
      refine OG.yield Yield.pickA rfl ?_
      refine OG.nil ?_
      refine QG.then ?_
      refine CG.cond_t rfl ?_
      refine CG.skip ?_
      refine QG.then ?_
      refine CG.seq ?_
      refine CG.block ?_
      refine CG.seq ?_
      obtain ⟨op, hop⟩ : ∃ op, ops[i]? = some op := ⟨_, List.getElem?_eq_getElem hh.1⟩
      have hopk := hok op (List.mem_of_getElem? hop)
      refine CG.pure (fun w hw => SlR.elem_shape (W0 := W) (f := SOp.cells) (xs := ops) (i := i) (hops.old eX) SOp.len (by decide) hh.1 w hw) ?_
      rintro ⟨ol, oo, rfl⟩
      refine CG.region ?_
      refine OG.yield (Yield.as (Yield.move rfl) (v' := .pointer (some ⟨z.bx, 0, none⟩)) (by rw [hbx])) rfl ?_
      refine OG.mv rfl rfl ?_
      refine OG.mv rfl rfl ?_
      refine OG.yield (Yield.index_slice Tryz.underlying23 ti37 rfl rfl (by omega) (by omega)) rfl ?_
      refine OG.yield (Yield.load_agg (vs := op.cells) ti37 rfl (SOp.len _) (by rw [show oo + (i : Int).toNat * 10 = oo + i * 10 by omega]; exact SlR.elem (f := SOp.cells) (xs := ops) (i := i) (hops.old eX) SOp.len hop)) rfl ?_
      refine OG.callo call7 rfl (iM) (act_spec W [blk b7 [.int .u32 im.Entry, .slice im.Sectionsa im.Sections.length im.Sectionsc] 35] (z := z) hopk h hq (by decide) (by decide) (by omega) (by omega)) rfl ?_
      rintro ⟨o2, z2⟩ ⟨h2, hbx2, hzl2⟩
      dsimp only at h2 hbx2 hzl2 ⊢
      rw [hbx] at hbx2
      refine OG.yield (Yield.not rfl) rfl ?_
      refine OG.nil ?_
      refine QG.then ?_
      refine CG.cond_f rfl ?_
      refine CG.skip ?_
      refine QG.block_normal ?_
      refine QG.then ?_
      refine CG.region ?_
      refine OG.mv rfl rfl ?_
      refine OG.yield (Yield.add rfl rfl (w64 (by omega) (by omega))) rfl ?_
      refine OG.sg rfl rfl ?_
      refine OG.nil ?_
      exact QG.next (i + 1, o2, z2) ⟨by simp only; omega, by simp only; omega, h2.mono (by simp only; omega), hbx2⟩ (by simp only; omega) eS iM
    · skip
      refine CG.region ?_
      refine OG.mv rfl rfl ?_
      refine OG.mv rfl rfl ?_
      refine OG.yield (Yield.len_slice Tryz.underlying23 rfl rfl) rfl ?_
      refine OG.yield Yield.lssA rfl ?_
      refine OG.mv rfl rfl ?_
      refine OG.gy rfl rfl rfl ?_
      refine OG.mv rfl rfl ?_
      refine OG.gy rfl rfl rfl ?_
      refine OG.yield Yield.lssA rfl ?_
      refine OG.yield Yield.pickA rfl ?_
      refine OG.nil ?_
      refine QG.then ?_
      refine CG.cond_f rfl ?_
      refine CG.exit ?_
      refine QG.pass_exit ?_
      refine QG.pass_exit ?_
      refine QG.block_exit ?_
      exact QG.mid (i, o, z) ⟨hi80, h, hbx⟩ eS iM
    · skip
      refine CG.region ?_
      refine OG.mv rfl rfl ?_
      refine OG.mv rfl rfl ?_
      refine OG.yield (Yield.len_slice Tryz.underlying23 rfl rfl) rfl ?_
      refine OG.yield Yield.lssA rfl ?_
      refine OG.mv rfl rfl ?_
      refine OG.gn rfl rfl rfl rfl rfl ?_
      refine OG.gn rfl rfl rfl rfl rfl ?_
      refine OG.yield Yield.pickA rfl ?_
      refine OG.nil ?_
      refine QG.then ?_
      refine CG.cond_f rfl ?_
      refine CG.exit ?_
      refine QG.pass_exit ?_
      refine QG.pass_exit ?_
      refine QG.block_exit ?_
      exact QG.mid (i, o, z) ⟨hi80, h, hbx⟩ eS iM
  rintro ⟨i, o, z⟩ ⟨hi80, h, hbx⟩
  dsimp only at hi80 h hbx ⊢
  obtain ⟨hzl, e, hj, hek⟩ := sl_0 h.ks
  obtain ⟨qk, hf⟩ := h.fct hj
  have hle := hf.le
  have hfq := hf.hq
  rw [hek] at hfq hle
  obtain rfl : (16 : Int) = qk := Option.some.inj hfq
  have hrt := hf.rt
  have hK := hf.obk
  rw [hek] at hrt hK
  refine CG.pure (fun w hw => SlR.shape (SlR.of_osl (W0 := W) (E := 48) (a := z.sa) (c := z.sc) eX) (ptrs_ne hj) w hw) ?_
  rintro ⟨sb', so, hsa⟩
  refine CG.imp (Imp.trans (B := ZG 24 [16, 8] o z (blk b7 [.int .u32 im.Entry, .slice im.Sectionsa im.Sections.length im.Sectionsc] 35 :: old W :: [])) iM (zo_open hj)) ?_
  dsimp only [ZO, bxF, WG]
  rw [hek]
  refine CG.seq ?_
  refine CG.region ?_
  refine OG.yield (Yield.as (Yield.move rfl) (v' := .pointer (some ⟨z.bx, 0, none⟩)) (by rw [hbx])) rfl ?_
  refine OG.yield (Yield.nilCheck rfl) rfl ?_
  refine OG.yield (Yield.fieldAddr fa47_3 rfl) rfl ?_
  refine OG.yield (Yield.as (Yield.load (v := .slice z.sa z.sl.length z.sc) ti43 rfl (Cel.of_blk eX rfl)) (v' := .slice (some ⟨sb', so, none⟩) z.sl.length z.sc) (by rw [hsa])) rfl ?_
  refine OG.yield (Yield.index_slice Tryz.underlying43 ti48 rfl rfl (by omega) (by omega)) rfl ?_
  refine OG.yield (Yield.load (v := .pointer (some ⟨e.s, 0, none⟩)) ti48 rfl (by show Cel W _ ⟨sb', so + 0, none⟩ _; exact cel_at (E := 48) (c := z.sc) hsa (ptrs_get hj) eX)) rfl ?_
  refine OG.sg rfl rfl ?_
  refine OG.nil ?_
  refine QG.then ?_
  refine CG.seq ?_
  refine CG.draw (.look 0 1 (.look 2 0 (.look 3 0 (.look 4 0 (.look 5 0 (.eff1 1 false (.eff1 6 false (.look 7 1 (.look 8 1 (.done)))))))))) [1, 6] [] ([bxF z]) ([]) mixed (by kernel_rfl) iM (Imp.none _) ?_
  refine DG.look rfl rfl (Yield.move rfl) rfl ?_
  refine DG.look rfl rfl (Yield.as (Yield.move rfl) (v' := .pointer (some ⟨z.bx, 0, none⟩)) (by rw [hbx])) rfl ?_
  refine DG.look rfl rfl (Yield.nilCheck rfl) rfl ?_
  refine DG.look rfl rfl (Yield.fieldAddr fa47_1 rfl) rfl ?_
  refine DG.look rfl rfl (Yield.loadA ti41 rfl) rfl ?_
  refine DG.eff1 ?_
  refine Chg.callo rfl rfl call10 rfl (iM) (pages_of W _ (s := e.s) (m := z.m) (f := z.f) (t := z.t) (k := 0) (r := e.r) h.lk hrt) rfl (fun _ => iM) (fun _ => Imp.refl _) (fun _ => iM) ?_
  rintro ⟨pa, pc, pl⟩ hpl
  dsimp only [PVL, WG, List.cons_append, List.nil_append] at hpl ⊢
  refine DG.eff1 ?_
  refine Chg.callo rfl rfl call11 rfl (iM) (left_lk W _ (m := z.m) (f := z.f) (t := z.t) (k := 0) (r := e.r) h.lk hq (qk := 16) rfl hrt) rfl (fun _ => iM) (fun _ => Imp.refl _) (fun _ => iM) ?_
  rintro ⟨⟩ -
  refine DG.look rfl rfl (Yield.assign rfl) rfl ?_
  refine DG.look rfl rfl (Yield.assign rfl) rfl ?_
  refine DG.done ?_
  refine QG.then ?_
  refine CG.seq ?_
  refine CG.region ?_
  refine OG.mv rfl rfl ?_
  refine OG.mv rfl rfl ?_
  refine OG.effd (Eff.lit0 Tryz.underlying32 ti5 rfl) rfl ?_
  rintro b75 -
  refine OG.mv rfl rfl ?_
  refine OG.effd (Eff.appendB0 (ys := b) rfl rfl rfl Tryz.underlying32 Tryz.underlying32 ti5 (by decide) fC (hb.old eX) (by omega)) rfl ?_
  rintro ⟨a77, c77⟩ -
  refine OG.callo call12 rfl (iM) (out_of W _ (s := e.s) (m := z.m) (f := z.f) (t := z.t) (k := 0) (r := e.r) (ba := a77) (bc := c77) (b := b) (by exact RdB.of_osl (E := 5) eX rfl rfl) h.lk hrt (by omega) (ad := ad) (by omega)) rfl ?_
  rintro σ1 L1
  have hK1 := obK_of L1 0
  have hot := out_two o 0 ad b
  have hoi := out_in (ad := ad) (b := b) hK
  have huo := used_out (o := o) (k := 0) (ad := ad) (b := b)
  obtain ⟨eo, heo⟩ : ∃ eo, eo = outR o 0 ad b := ⟨_, rfl⟩
  rw [← heo] at hot hoi huo L1 hK1 ⊢
  obtain ⟨e1, o1⟩ := eo
  dsimp only at hot hoi huo L1 hK1 ⊢
  refine OG.sg rfl rfl ?_
  refine OG.nil ?_
  refine QG.then ?_
  refine CG.seq ?_
  refine CG.region ?_
  refine OG.mv rfl rfl ?_
  refine OG.callo call10 rfl (iM) (pages_of W _ (s := e.s) (m := z.m) (f := z.f) (t := z.t) (k := 0) (r := e.r) L1 hrt) rfl ?_
  rintro ⟨pa1, pc1, pl1⟩ hpl1
  dsimp only [PVL, WG, List.cons_append, List.nil_append] at hpl1 ⊢
  have hpv1 := pvs_len o1 0
  have hpv0 := pvs_len o 0
  have hl0 : pl.length ≤ 4096 := by have := congrArg List.length hpl; rw [List.length_map] at this; omega
  have hl1 : pl1.length ≤ 4096 := by have := congrArg List.length hpl1; rw [List.length_map] at this; omega
  refine OG.sg rfl rfl ?_
  refine OG.nil ?_
  refine QG.then ?_
  refine CG.cut (fun _ : Unit => True) (fun _ => [(1, .int .u32 ad), (2, .slice a2 b.length c2), (7, .pointer (some ⟨b7, 0, none⟩)), (9, .pointer (some ⟨z0.bx, 0, none⟩)), (12, .pointer (some ⟨e.s, 0, none⟩)), (14, .int .i64 (16 - used o 0)), (15, .int .i64 e1), (16, .slice pa1 pl1.length pc1)]) (fun _ => osl 61 3 pa1 pc1 pl1.length ((pl1.map PV.cells).flatten) :: Star (pl1.map obm) :: WG z.m z.f z.t 24 [16, 8] σ1 (sb e.s 0 e.r z.m z.f z.t :: bxF z :: blk b7 [.int .u32 im.Entry, .slice im.Sectionsa im.Sections.length im.Sectionsc] 35 :: old W :: [])) ?_ ?_
  · skip
    refine CG.seq ?_
    rcases hot with ⟨hne, hoo⟩ | he0
    · skip
      subst hoo
      refine CG.region ?_
      refine OG.mv rfl rfl ?_
      refine OG.yield (Yield.as (Yield.neq rfl rfl) (v' := .bool true) (bT hne)) rfl ?_
      refine OG.mv rfl rfl ?_
      refine OG.gy rfl rfl rfl ?_
      refine OG.mv rfl rfl ?_
      refine OG.gy rfl rfl rfl ?_
      refine OG.mv rfl rfl ?_
      refine OG.gy rfl rfl rfl ?_
      refine OG.callo call13 rfl (Imp.refl _) (same_spec W _ (a1 := pa) (a2 := pa1) (c1 := pc) (c2 := pc1) (l1 := pl) (l2 := pl1) (pvr_at (c := pc) iM) (pvr_at (c := pc1) iM) (by omega)) rfl ?_
      rintro ⟨⟩ -
      rw [decide_eq_true (show pl.map PV.v = pl1.map PV.v by rw [hpl, hpl1])]
      refine OG.gy rfl rfl rfl ?_
      refine OG.yield (Yield.not rfl) rfl ?_
      refine OG.yield Yield.pickA rfl ?_
      refine OG.nil ?_
      refine QG.then ?_
      refine CG.cond_f rfl ?_
      refine CG.skip ?_
      exact QG.mid () trivial eS iM
    · skip
      refine CG.region ?_
      refine OG.mv rfl rfl ?_
      refine OG.yield (Yield.as (Yield.neq rfl rfl) (v' := .bool false) (bF (by simp [he0]))) rfl ?_
      refine OG.mv rfl rfl ?_
      refine OG.gn rfl rfl rfl rfl rfl ?_
      refine OG.gn rfl rfl rfl rfl rfl ?_
      refine OG.gn rfl rfl rfl rfl rfl ?_
      refine OG.gn rfl rfl rfl rfl rfl ?_
      refine OG.yield Yield.pickA rfl ?_
      refine OG.nil ?_
      refine QG.then ?_
      refine CG.cond_f rfl ?_
      refine CG.skip ?_
      exact QG.mid () trivial eS iM
  rintro ⟨⟩ -
  dsimp only [bxF, WG]
  refine CG.cut (fun σ' : St => Lk 24 [16, 8] (rtOf z.sl) o1 (i * 8192 + 8192 + 4096) σ') (fun _ => [(7, .pointer (some ⟨b7, 0, none⟩)), (9, .pointer (some ⟨z0.bx, 0, none⟩)), (12, .pointer (some ⟨e.s, 0, none⟩)), (14, .int .i64 (16 - used o 0)), (16, .slice pa1 pl1.length pc1)]) (fun σ' => osl 61 3 pa1 pc1 pl1.length ((pl1.map PV.cells).flatten) :: Star (pl1.map obm) :: WG z.m z.f z.t 24 [16, 8] σ' (sb e.s 0 e.r z.m z.f z.t :: bxF z :: blk b7 [.int .u32 im.Entry, .slice im.Sectionsa im.Sections.length im.Sectionsc] 35 :: old W :: [])) ?_ ?_
  · skip
    refine CG.seq ?_
    rcases (show e1 ≠ 0 ∨ (e1 = 0 ∧ b.length = 0) ∨ (e1 = 0 ∧ 0 < b.length) by omega) with q1 | q1 | q1
    · skip
      refine CG.region ?_
      refine OG.mv rfl rfl ?_
      refine OG.yield (Yield.as (Yield.eql rfl rfl) (v' := .bool false) (bF q1)) rfl ?_
      refine OG.mv rfl rfl ?_
      refine OG.gn rfl rfl rfl rfl rfl ?_
      refine OG.gn rfl rfl rfl rfl rfl ?_
      refine OG.gn rfl rfl rfl rfl rfl ?_
      refine OG.yield Yield.pickA rfl ?_
      refine OG.nil ?_
      refine QG.then ?_
      refine CG.cond_f rfl ?_
      refine CG.skip ?_
      first | exact QG.mid σ2 (L2.mono (by omega)) eS iM | exact QG.mid σ1 (L1.mono (by omega)) eS iM
    · skip
      refine CG.region ?_
      refine OG.mv rfl rfl ?_
      refine OG.yield (Yield.as (Yield.eql rfl rfl) (v' := .bool true) (bT q1.1)) rfl ?_
      refine OG.mv rfl rfl ?_
      refine OG.gy rfl rfl rfl ?_
      refine OG.mv rfl rfl ?_
      refine OG.gy rfl rfl rfl ?_
      refine OG.yield (Yield.len_slice Tryz.underlying32 rfl rfl) rfl ?_
      refine OG.gy rfl rfl rfl ?_
      refine OG.yield (Yield.as (Yield.gtr rfl rfl) (v' := .bool false) (bF (by omega))) rfl ?_
      refine OG.yield Yield.pickA rfl ?_
      refine OG.nil ?_
      refine QG.then ?_
      refine CG.cond_f rfl ?_
      refine CG.skip ?_
      first | exact QG.mid σ2 (L2.mono (by omega)) eS iM | exact QG.mid σ1 (L1.mono (by omega)) eS iM
    · skip
      refine CG.region ?_
      refine OG.mv rfl rfl ?_
      refine OG.yield (Yield.as (Yield.eql rfl rfl) (v' := .bool true) (bT q1.1)) rfl ?_
      refine OG.mv rfl rfl ?_
      refine OG.gy rfl rfl rfl ?_
      refine OG.mv rfl rfl ?_
      refine OG.gy rfl rfl rfl ?_
      refine OG.yield (Yield.len_slice Tryz.underlying32 rfl rfl) rfl ?_
      refine OG.gy rfl rfl rfl ?_
      refine OG.yield (Yield.as (Yield.gtr rfl rfl) (v' := .bool true) (bT (by omega))) rfl ?_
      refine OG.yield Yield.pickA rfl ?_
      refine OG.nil ?_
      refine QG.then ?_
      refine CG.cond_t rfl ?_
      refine CG.seq ?_
      refine CG.region ?_
      refine OG.sg rfl rfl ?_
      refine OG.nil ?_
      refine QG.then ?_
      refine CG.seq ?_
      refine CG.seq ?_
      refine CG.region ?_
      refine OG.sg rfl rfl ?_
      refine OG.nil ?_
      refine QG.then ?_
      refine CG.block ?_
      refine CG.loop (fun k : Nat => k ≤ b.length) (fun k => [(1, .int .u32 ad), (2, .slice a2 b.length c2), (7, .pointer (some ⟨b7, 0, none⟩)), (9, .pointer (some ⟨z0.bx, 0, none⟩)), (12, .pointer (some ⟨e.s, 0, none⟩)), (14, .int .i64 (16 - used o 0)), (15, .int .i64 e1), (16, .slice pa1 pl1.length pc1), (17, .bool (canA o1 0 ad k)), (18, .int .i64 k)]) (fun _ => osl 61 3 pa1 pc1 pl1.length ((pl1.map PV.cells).flatten) :: Star (pl1.map obm) :: WG z.m z.f z.t 24 [16, 8] σ1 (sb e.s 0 e.r z.m z.f z.t :: bxF z :: blk b7 [.int .u32 im.Entry, .slice im.Sectionsa im.Sections.length im.Sectionsc] 35 :: old W :: [])) (fun k => b.length - k) 0 (Nat.zero_le _) eS iM ?_
      rintro k hk
      dsimp only [bxF, WG]
      refine CG.seq ?_
      refine CG.seq ?_
      refine CG.region ?_
      refine OG.mv rfl rfl ?_
      refine OG.mv rfl rfl ?_
      refine OG.yield (Yield.len_slice Tryz.underlying32 rfl rfl) rfl ?_
      refine OG.yield Yield.lssA rfl ?_
      refine OG.nil ?_
      refine QG.then ?_
      refine CG.cond rfl (fun hc => ?_) (fun hc => ?_)
      · try replace hc := of_decide_eq_true hc
        have hcs := canA_succ (o := o1) (k := 0) (ad := ad) (n := k)
        refine CG.skip ?_
        refine QG.then ?_
        refine CG.seq ?_
        refine CG.block ?_
        rcases hcn : canA o1 0 ad k
        · skip
          rw [hcn] at hcs
          refine CG.region ?_
          refine OG.mv rfl rfl ?_
          refine OG.mv rfl rfl ?_
          refine OG.gn rfl rfl rfl rfl rfl ?_
          refine OG.gn rfl rfl rfl rfl rfl ?_
          refine OG.gn rfl rfl rfl rfl rfl ?_
          refine OG.gn rfl rfl rfl rfl rfl ?_
          refine OG.gn rfl rfl rfl rfl rfl ?_
          refine OG.gn rfl rfl rfl rfl rfl ?_
          refine OG.gn rfl rfl rfl rfl rfl ?_
          refine OG.gn rfl rfl rfl rfl rfl ?_
          refine OG.gn rfl rfl rfl rfl rfl ?_
          refine OG.yield Yield.pickA rfl ?_
          refine OG.sg rfl rfl ?_
          refine OG.nil ?_
          refine QG.block_normal ?_
          refine QG.then ?_
          refine CG.region ?_
          refine OG.mv rfl rfl ?_
          refine OG.yield (Yield.add rfl rfl (w64 (by omega) (by omega))) rfl ?_
          refine OG.sg rfl rfl ?_
          refine OG.nil ?_
          exact QG.next (k + 1) (by omega) (by omega) (by rw [hcs, Bool.false_and]; exact eS) iM
        · skip
          rw [hcn] at hcs
          refine CG.region ?_
          refine OG.mv rfl rfl ?_
          refine OG.mv rfl rfl ?_
          refine OG.gy rfl rfl rfl ?_
          refine OG.mv rfl rfl ?_
          refine OG.gy rfl rfl rfl ?_
          refine OG.mv rfl rfl ?_
          refine OG.gy rfl rfl rfl ?_
          refine OG.yield (by first | exact Yield.conv Tryz.underlying3 rfl rfl (w64 (by omega) (by omega)) | exact Yield.conv Tryz.underlying3 rfl rfl rfl) rfl ?_
          refine OG.gy rfl rfl rfl ?_
          refine OG.mv rfl rfl ?_
          refine OG.gy rfl rfl rfl ?_
          refine OG.yield (Yield.add rfl rfl (w64 (by omega) (by omega))) rfl ?_
          refine OG.gy rfl rfl rfl ?_
          refine OG.yield (Yield.as (Yield.quo rfl rfl (by omega) (tdiv_pos (by omega) (by omega) (by omega))) (v' := .int .i64 (((ad + k) / 256 : Nat) : Int)) (by rw [show (ad : Int) + (k : Int) = ((ad + k : Nat) : Int) by omega]; congr 1)) rfl ?_
          refine OG.gy rfl rfl rfl ?_
          refine OG.callo call14 rfl (iM) (prmO_spec W _ (s := e.s) (m := z.m) (f := z.f) (t := z.t) (k := 0) (r := e.r) L1 hrt (((ad + k) / 256 : Nat) : Int)) rfl ?_
          rintro ⟨⟩ -
          refine OG.gy rfl rfl rfl ?_
          refine OG.yield (Yield.bitop rfl rfl rfl rfl) rfl ?_
          refine OG.gy rfl rfl rfl ?_
          refine OG.yield (Yield.as (Yield.neq rfl rfl) (v' := .bool (canF o1 0 ad k)) rfl) rfl ?_
          refine OG.yield Yield.pickA rfl ?_
          refine OG.sg rfl rfl ?_
          refine OG.nil ?_
          refine QG.block_normal ?_
          refine QG.then ?_
          refine CG.region ?_
          refine OG.mv rfl rfl ?_
          refine OG.yield (Yield.add rfl rfl (w64 (by omega) (by omega))) rfl ?_
          refine OG.sg rfl rfl ?_
          refine OG.nil ?_
          exact QG.next (k + 1) (by omega) (by omega) (by rw [hcs, Bool.true_and]; exact eS) iM
      · try replace hc := of_decide_eq_false hc
        refine CG.exit ?_
        refine QG.pass_exit ?_
        refine QG.pass_exit ?_
        refine QG.block_exit ?_
        refine QG.then ?_
        obtain rfl : k = b.length := by omega
        have hoi2 := hoi q1.1
        refine CG.seq ?_
        refine CG.region ?_
        refine OG.mv rfl rfl ?_
        refine OG.mv rfl rfl ?_
        refine OG.mv rfl rfl ?_
        refine OG.yield (Yield.len_slice Tryz.underlying32 rfl rfl) rfl ?_
        refine OG.callo call15 rfl (iM) (in_spec W _ (s := e.s) (m := z.m) (f := z.f) (t := z.t) (k := 0) (r := e.r) L1 hrt (by omega) (ad := ad) (by omega) (b.length : Int)) rfl ?_
        rintro ⟨ia, ic, ib, σ2⟩ ⟨hib, L2⟩
        dsimp only at hib L2 ⊢
        refine OG.mv rfl rfl ?_
        refine OG.yield (Yield.extract rfl rfl) rfl ?_
        refine OG.yield (Yield.extract rfl rfl) rfl ?_
        refine OG.sg rfl rfl ?_
        refine OG.sg rfl rfl ?_
        refine OG.nil ?_
        refine QG.then ?_
        refine CG.seq ?_
        rcases hcn : canA o1 0 ad b.length
        · skip
          refine CG.region ?_
          refine OG.mv rfl rfl ?_
          refine OG.mv rfl rfl ?_
          refine OG.gn rfl rfl rfl rfl rfl ?_
          refine OG.gn rfl rfl rfl rfl rfl ?_
          refine OG.gn rfl rfl rfl rfl rfl ?_
          refine OG.guard_un rfl rfl rfl rfl (by decide) (by decide) ?_
          refine OG.guard_un rfl rfl rfl rfl (by decide) (by decide) ?_
          refine OG.guard_un rfl rfl rfl rfl (by decide) (by decide) ?_
          refine OG.guard_un rfl rfl rfl rfl (by decide) (by decide) ?_
          refine OG.guard_un rfl rfl rfl rfl (by decide) (by decide) ?_
          refine OG.gn rfl rfl rfl rfl rfl ?_
          refine OG.yield Yield.pickA rfl ?_
          refine OG.nil ?_
          refine QG.then ?_
          refine CG.cond_f rfl ?_
          refine CG.skip ?_
          first | exact QG.mid σ2 (L2.mono (by omega)) eS iM | exact QG.mid σ1 (L1.mono (by omega)) eS iM
        · skip
          have hoi3 := hoi2 hcn
          rw [hoi3] at hib ⊢
          dsimp only at hib ⊢
          subst hib
          refine CG.region ?_
          refine OG.mv rfl rfl ?_
          refine OG.mv rfl rfl ?_
          refine OG.gy rfl rfl rfl ?_
          refine OG.mv rfl rfl ?_
          refine OG.gy rfl rfl rfl ?_
          refine OG.yield (Yield.as (Yield.neq rfl rfl) (v' := .bool false) rfl) rfl ?_
          refine OG.gy rfl rfl rfl ?_
          refine OG.mv rfl rfl ?_
          refine OG.gy rfl rfl rfl ?_
          refine OG.mv rfl rfl ?_
          refine OG.gy rfl rfl rfl ?_
          refine OG.yield (Yield.toStr (bs := ib) Tryz.underlying32 Tryz.underlying9 Tryz.underlying5 rfl (SlR.of_osl (E := 5) (a := ia) eX)) rfl ?_
          refine OG.gy rfl rfl rfl ?_
          refine OG.mv rfl rfl ?_
          refine OG.gy rfl rfl rfl ?_
          refine OG.yield (Yield.toStr (bs := ib) Tryz.underlying32 Tryz.underlying9 Tryz.underlying5 rfl (hb.old eX)) rfl ?_
          refine OG.gy rfl rfl rfl ?_
          refine OG.yield (by first | exact Yield.str_samen rfl rfl | exact Yield.str_neq rfl rfl) rfl ?_
          refine OG.gy rfl rfl rfl ?_
          refine OG.yield Yield.pickA rfl ?_
          refine OG.yield Yield.pickA rfl ?_
          refine OG.nil ?_
          refine QG.then ?_
          refine CG.cond_f rfl ?_
          refine CG.skip ?_
          first | exact QG.mid σ2 (L2.mono (by omega)) eS iM | exact QG.mid σ1 (L1.mono (by omega)) eS iM
  rintro σ2 L2
  dsimp only [bxF, WG]
  refine CG.seq ?_
  refine CG.region ?_
  refine OG.mv rfl rfl ?_
  refine OG.yield (Yield.load_agg (vs := [.int .u32 im.Entry, .slice im.Sectionsa im.Sections.length im.Sectionsc]) ti35 rfl rfl (Row.of_blk (b := b7) eX rfl)) rfl ?_
  refine OG.callo call17 rfl (Imp.refl _) (rcopy_spec W _ (en := im.Entry) (a := im.Sectionsa) (l := im.Sections) (c := im.Sectionsc) him.Sectionsm (by exact secR_img him eX)) rfl ?_
  rintro ⟨ca, cc, cl⟩ hcl
  dsimp only [ISO, List.cons_append, List.nil_append] at hcl ⊢
  have hcb : ∀ s ∈ cl, s.Bytes.length ≤ reachBytes := fun s hs => by
    have : s.v ∈ im.Sections.map SSec.v := by rw [← hcl]; exact List.mem_map_of_mem hs
    obtain ⟨x, hx, hxv⟩ := List.mem_map.1 this
    have e1 : x.Bytes = s.Bytes := congrArg (·.2.2) hxv
    rw [← e1]; exact (him.Sectionsk x hx).Bytesm
  have hld := load_congr (qk := 16) (o := o1) (k := 0) (en := im.Entry) hcl
  have hSC : ∀ {G : List HProp}, Imp G [osl 82 3 ca cc cl.length ((cl.map SSec.cells).flatten), Star (cl.map secB)] → SecR W G ca cl := fun hi => SecR.imp (SecR.of (W0 := W) (c := cc) (G := []) hcb) hi
  refine OG.callo call16 rfl (iM) (load_spec W _ (s := e.s) (m := z.m) (f := z.f) (t := z.t) (k := 0) (r := e.r) (l := cl) (a := ca) (cc := cc) hE0 (by omega) (by exact hSC iM) L2 hq (qk := 16) rfl hrt) rfl ?_
  rw [hld]
  rintro σ3 L3
  have hlt := load_two 16 o1 0 im.Entry im.Sections
  obtain ⟨el, hel⟩ : ∃ el, el = loadO 16 o1 0 im.Entry im.Sections := ⟨_, rfl⟩
  rw [← hel] at hlt L3 ⊢
  obtain ⟨e2, o2⟩ := el
  dsimp only at hlt L3 ⊢
  refine OG.sg rfl rfl ?_
  refine OG.nil ?_
  refine QG.then ?_
  refine CG.seq ?_
  refine CG.region ?_
  refine OG.mv rfl rfl ?_
  refine OG.callo call10 rfl (iM) (pages_of W _ (s := e.s) (m := z.m) (f := z.f) (t := z.t) (k := 0) (r := e.r) L3 hrt) rfl ?_
  rintro ⟨pa2, pc2, pl2⟩ hpl2
  dsimp only [PVL, WG, List.cons_append, List.nil_append] at hpl2 ⊢
  have hpv2 := pvs_len o2 0
  have hl2 : pl2.length ≤ 4096 := by have := congrArg List.length hpl2; rw [List.length_map] at this; omega
  refine OG.sg rfl rfl ?_
  refine OG.nil ?_
  refine QG.then ?_
  refine CG.seq ?_
  refine CG.seq ?_
  rcases hlt with ⟨hne, hoo⟩ | ⟨hel2, hck, hno⟩
  · skip
    subst hoo
    refine CG.region ?_
    refine OG.mv rfl rfl ?_
    refine OG.yield (Yield.as (Yield.neq rfl rfl) (v' := .bool true) (bT hne)) rfl ?_
    refine OG.nil ?_
    refine QG.then ?_
    refine CG.cond_t rfl ?_
    refine CG.seq ?_
    refine CG.region ?_
    refine OG.mv rfl rfl ?_
    refine OG.mv rfl rfl ?_
    refine OG.callo call13 rfl (Imp.refl _) (same_spec W _ (a1 := pa1) (a2 := pa2) (c1 := pc1) (c2 := pc2) (l1 := pl1) (l2 := pl2) (pvr_at (c := pc1) iM) (pvr_at (c := pc2) iM) (by omega)) rfl ?_
    rintro ⟨⟩ -
    rw [decide_eq_true (show pl1.map PV.v = pl2.map PV.v by rw [hpl1, hpl2])]
    refine OG.mv rfl rfl ?_
    refine OG.gy rfl rfl rfl ?_
    refine OG.yield (Yield.as (Yield.move rfl) (v' := .pointer (some ⟨z.bx, 0, none⟩)) (by rw [hbx])) rfl ?_
    refine OG.gy rfl rfl rfl ?_
    refine OG.yield (Yield.nilCheck rfl) rfl ?_
    refine OG.gy rfl rfl rfl ?_
    refine OG.yield (Yield.fieldAddr fa47_1 rfl) rfl ?_
    refine OG.gy rfl rfl rfl ?_
    refine OG.yield (Yield.loadA ti41 rfl) rfl ?_
    refine OG.gy rfl rfl rfl ?_
    refine OG.callo call11 rfl (iM) (left_lk W _ (m := z.m) (f := z.f) (t := z.t) (k := 0) (r := e.r) L3 hq (qk := 16) rfl hrt) rfl ?_
    rintro ⟨⟩ -
    refine OG.gy rfl rfl rfl ?_
    refine OG.mv rfl rfl ?_
    refine OG.gy rfl rfl rfl ?_
    refine OG.yield (Yield.as (Yield.eql rfl rfl) (v' := .bool true) (bT (by omega))) rfl ?_
    refine OG.yield Yield.pickA rfl ?_
    refine OG.sg rfl rfl ?_
    refine OG.nil ?_
    refine QG.then ?_
    refine CG.ret ?_
    refine QG.pass_ret ?_
    exact QG.ret1 rfl rfl () trivial rfl iM
  · skip
    have he2 : e2 = 0 := congrArg (·.1) hel2
    have ho2 : o2 = layL o1 0 (imgP im.Sections) := congrArg (·.2) hel2
    have hA := chk_asc hck
    have ei : pagesImg im.Entry im.Sections = imgP im.Sections := if_pos hck
    have hlen := pvs_lay hA hno
    have hhas := pvs_has (k := 0) (o := o1) hA
    rw [← ho2, ← hpl2] at hlen hhas
    rw [← hpl1] at hlen
    simp only [List.length_map] at hlen
    refine CG.region ?_
    refine OG.mv rfl rfl ?_
    refine OG.yield (Yield.as (Yield.neq rfl rfl) (v' := .bool false) (bF (by simp [he2]))) rfl ?_
    refine OG.nil ?_
    refine QG.then ?_
    refine CG.cond_f rfl ?_
    refine CG.skip ?_
    refine QG.then ?_
    refine CG.seq ?_
    refine CG.region ?_
    refine OG.yield (Yield.load_agg (vs := [.int .u32 im.Entry, .slice im.Sectionsa im.Sections.length im.Sectionsc]) ti35 rfl rfl (Row.of_blk (b := b7) eX rfl)) rfl ?_
    refine OG.callo call18 rfl (Imp.refl _) (rpages_img W _ (en := im.Entry) (a := im.Sectionsa) (l := im.Sections) (c := im.Sectionsc) hE0 (by omega) (by exact secR_img him eX)) rfl ?_
    rintro ⟨ra, rc, rl⟩ hrl
    dsimp only [PLU, List.cons_append, List.nil_append] at hrl ⊢
    rw [ei] at hrl
    have hrl2 : rl.length = (imgP im.Sections).length := by have := congrArg List.length hrl; rwa [List.length_map] at this
    refine OG.sg rfl rfl ?_
    refine OG.nil ?_
    refine QG.then ?_
    refine CG.seq ?_
    refine CG.seq ?_
    refine CG.region ?_
    refine OG.mv rfl rfl ?_
    refine OG.yield (Yield.len_slice Tryz.underlying49 rfl rfl) rfl ?_
    refine OG.mv rfl rfl ?_
    refine OG.yield (Yield.len_slice Tryz.underlying49 rfl rfl) rfl ?_
    refine OG.mv rfl rfl ?_
    refine OG.yield (Yield.len_slice Tryz.underlying49 rfl rfl) rfl ?_
    refine OG.yield (Yield.add rfl rfl (w64 (by omega) (by omega))) rfl ?_
    refine OG.yield (Yield.as (Yield.neq rfl rfl) (v' := .bool false) (bF (by omega))) rfl ?_
    refine OG.nil ?_
    refine QG.then ?_
    refine CG.cond_f rfl ?_
    refine CG.skip ?_
    refine QG.then ?_
    refine CG.seq ?_
    refine CG.seq ?_
    refine CG.region ?_
    refine OG.sg rfl rfl ?_
    refine OG.nil ?_
    refine QG.then ?_
    refine CG.block ?_
    refine CG.loop (fun k : Nat => k ≤ rl.length) (fun k => [(21, .slice pa2 pl2.length pc2), (22, .slice ra rl.length rc), (23, .int .i64 k)]) (fun _ => osl 61 3 ra rc rl.length ((rl.map PV.cells).flatten) :: Star (rl.map obx) :: osl 61 3 pa2 pc2 pl2.length ((pl2.map PV.cells).flatten) :: Star (pl2.map obm) :: old W :: []) (fun k => rl.length - k) 0 (Nat.zero_le _) eS iM ?_
    rintro k hk
    refine CG.seq ?_
    refine CG.seq ?_
    refine CG.region ?_
    refine OG.mv rfl rfl ?_
    refine OG.mv rfl rfl ?_
    refine OG.yield (Yield.len_slice Tryz.underlying49 rfl rfl) rfl ?_
    refine OG.yield Yield.lssA rfl ?_
    refine OG.nil ?_
    refine QG.then ?_
    refine CG.cond rfl (fun hc => ?_) (fun hc => ?_)
    · try replace hc := of_decide_eq_true hc
      obtain ⟨x, hx⟩ : ∃ x, rl[k]? = some x := ⟨_, List.getElem?_eq_getElem (by omega)⟩
      have hkl := (List.getElem?_eq_some_iff.1 hx).1
      have hxm : x.v ∈ pl2.map PV.v := hhas x.v (by rw [← hrl]; exact List.mem_map_of_mem (List.mem_of_getElem? hx))
      have hrr : ∀ {G : List HProp}, Imp G [osl 61 3 ra rc rl.length ((rl.map PV.cells).flatten), Star (rl.map obx)] → PVr W G ra rl := fun hi => PVr.atU hi
      refine CG.pure (fun w hw => SlR.elem_shape (W0 := W) (f := PV.cells) (xs := rl) (i := k) (SlR.of_osl (E := 61) (a := ra) (c := rc) eX) PV.len (by decide) hkl w hw) ?_
      rintro ⟨o4, p4, rfl⟩
      refine CG.skip ?_
      refine QG.then ?_
      refine CG.seq ?_
      refine CG.block ?_
      refine CG.seq ?_
      refine CG.region ?_
      refine OG.sg rfl rfl ?_
      refine OG.nil ?_
      refine QG.then ?_
      refine CG.seq ?_
      refine CG.seq ?_
      refine CG.region ?_
      refine OG.sg rfl rfl ?_
      refine OG.nil ?_
      refine QG.then ?_
      refine CG.block ?_
      refine CG.loop (fun j : Nat => j ≤ pl2.length) (fun j => [(21, .slice pa2 pl2.length pc2), (22, .slice (some ⟨o4, p4, none⟩) rl.length rc), (23, .int .i64 k), (24, .bool (decide (x.v ∈ (pl2.map PV.v).take j))), (25, .int .i64 j)]) (fun _ => osl 61 3 (some ⟨o4, p4, none⟩) rc rl.length ((rl.map PV.cells).flatten) :: Star (rl.map obx) :: osl 61 3 pa2 pc2 pl2.length ((pl2.map PV.cells).flatten) :: Star (pl2.map obm) :: old W :: []) (fun j => pl2.length - j) 0 (Nat.zero_le _) (by simp only [List.take_zero, List.not_mem_nil, decide_false]; exact eS) iM ?_
      rintro j hj4
      refine CG.seq ?_
      refine CG.seq ?_
      refine CG.region ?_
      refine OG.mv rfl rfl ?_
      refine OG.mv rfl rfl ?_
      refine OG.yield (Yield.len_slice Tryz.underlying49 rfl rfl) rfl ?_
      refine OG.yield Yield.lssA rfl ?_
      refine OG.nil ?_
      refine QG.then ?_
      refine CG.cond rfl (fun hc => ?_) (fun hc => ?_)
      · try replace hc := of_decide_eq_true hc
        obtain ⟨y, hy⟩ : ∃ y, pl2[j]? = some y := ⟨_, List.getElem?_eq_getElem (by omega)⟩
        have hjl := (List.getElem?_eq_some_iff.1 hy).1
        have hyv : (pl2.map PV.v)[j]? = some y.v := by rw [List.getElem?_map, hy]; rfl
        have htk : x.v ∈ (pl2.map PV.v).take (j + 1) ↔ x.v ∈ (pl2.map PV.v).take j ∨ x.v = y.v := by rw [take_snoc' hyv]; simp
        refine CG.pure (fun w hw => SlR.elem_shape (W0 := W) (f := PV.cells) (xs := pl2) (i := j) (SlR.of_osl (E := 61) (a := pa2) (c := pc2) eX) PV.len (by decide) hjl w hw) ?_
        rintro ⟨o3, p3, rfl⟩
        refine CG.skip ?_
        refine QG.then ?_
        refine CG.seq ?_
        refine CG.block ?_
        rcases (show x.v ∈ (pl2.map PV.v).take j ∨ (¬ x.v ∈ (pl2.map PV.v).take j ∧ y.p ≠ x.p) ∨ (¬ x.v ∈ (pl2.map PV.v).take j ∧ y.p = x.p ∧ y.pm ≠ x.pm) ∨ (¬ x.v ∈ (pl2.map PV.v).take j ∧ y.p = x.p ∧ y.pm = x.pm ∧ y.b ≠ x.b) ∨ (¬ x.v ∈ (pl2.map PV.v).take j ∧ y.p = x.p ∧ y.pm = x.pm ∧ y.b = x.b) by by_cases e0 : x.v ∈ (pl2.map PV.v).take j <;> by_cases e1 : y.p = x.p <;> by_cases e2 : y.pm = x.pm <;> by_cases e3 : y.b = x.b <;> simp [e0, e1, e2, e3]) with hm | ⟨hm, n1⟩ | ⟨hm, n1, n2⟩ | ⟨hm, n1, n2, n3⟩ | ⟨hm, n1, n2, n3⟩
        · skip
          rw [decide_eq_true hm]
          refine CG.draw (.look 0 1 (.look 1 1 (.look 2 1 (.look 3 1 (.look 4 1 (.look 5 1 (.look 6 1 (.look 7 1 (.look 8 1 (.look 9 1 (.look 10 1 (.look 11 1 (.look 12 1 (.look 13 1 (.look 14 1 (.look 15 1 (.look 16 1 (.look 17 1 (.look 18 1 (.look 19 1 (.look 20 1 (.look 21 1 (.look 22 1 (.look 23 1 (.look 24 1 (.look 25 1 (.look 26 1 (.look 27 1 (.look 28 1 (.look 29 1 (.look 30 1 (.look 31 1 (.look 32 1 (.look 33 1 (.look 34 1 (.look 35 1 (.look 36 1 (.look 37 1 (.look 38 1 (.look 39 1 (.look 40 1 (.look 41 1 (.look 42 1 (.done)))))))))))))))))))))))))))))))))))))))))))) [] [] (osl 61 3 (some ⟨o4, p4, none⟩) rc rl.length ((rl.map PV.cells).flatten) :: Star (rl.map obx) :: osl 61 3 (some ⟨o3, p3, none⟩) pc2 pl2.length ((pl2.map PV.cells).flatten) :: Star (pl2.map obm) :: old W :: []) ([]) mixed (by kernel_rfl) iM (Imp.none _) ?_
          refine DG.look rfl rfl (Yield.move rfl) rfl ?_
          refine DG.look rfl rfl (Yield.move rfl) rfl ?_
          refine DG.pass rfl rfl rfl ?_
          refine DG.pass rfl rfl rfl ?_
          refine DG.pass rfl rfl rfl ?_
          refine DG.pass rfl rfl rfl ?_
          refine DG.pass rfl rfl rfl ?_
          refine DG.pass rfl rfl rfl ?_
          refine DG.pass rfl rfl rfl ?_
          refine DG.pass rfl rfl rfl ?_
          refine DG.pass rfl rfl rfl ?_
          refine DG.pass rfl rfl rfl ?_
          refine DG.pass rfl rfl rfl ?_
          refine DG.pass rfl rfl rfl ?_
          refine DG.pass rfl rfl rfl ?_
          refine DG.pass rfl rfl rfl ?_
          refine DG.pass rfl rfl rfl ?_
          refine DG.pass rfl rfl rfl ?_
          refine DG.pass rfl rfl rfl ?_
          refine DG.pass rfl rfl rfl ?_
          refine DG.pass rfl rfl rfl ?_
          refine DG.pass rfl rfl rfl ?_
          refine DG.pass rfl rfl rfl ?_
          refine DG.pass rfl rfl rfl ?_
          refine DG.pass rfl rfl rfl ?_
          refine DG.pass rfl rfl rfl ?_
          refine DG.pass rfl rfl rfl ?_
          refine DG.pass rfl rfl rfl ?_
          refine DG.pass rfl rfl rfl ?_
          refine DG.pass rfl rfl rfl ?_
          refine DG.pass rfl rfl rfl ?_
          refine DG.pass rfl rfl rfl ?_
          refine DG.pass rfl rfl rfl ?_
          refine DG.pass rfl rfl rfl ?_
          refine DG.pass rfl rfl rfl ?_
          refine DG.pass rfl rfl rfl ?_
          refine DG.pass rfl rfl rfl ?_
          refine DG.pass rfl rfl rfl ?_
          refine DG.pass rfl rfl rfl ?_
          refine DG.pass rfl rfl rfl ?_
          refine DG.pass rfl rfl rfl ?_
          refine DG.look rfl rfl Yield.pickA rfl ?_
          refine DG.look rfl rfl (Yield.assign rfl) rfl ?_
          refine DG.done ?_
          refine QG.block_normal ?_
          refine QG.then ?_
          refine CG.region ?_
          refine OG.mv rfl rfl ?_
          refine OG.yield (Yield.add rfl rfl (w64 (by omega) (by omega))) rfl ?_
          refine OG.sg rfl rfl ?_
          refine OG.nil ?_
          exact QG.next (j + 1) (by omega) (by omega) (by rw [decide_eq_true (htk.2 (.inl hm))]; exact eS) iM
        · skip
          rw [decide_eq_false hm]
          refine CG.draw (.look 0 1 (.look 1 1 (.look 2 1 (.look 3 1 (.look 4 1 (.look 5 1 (.look 6 1 (.look 7 1 (.look 8 1 (.look 9 1 (.look 10 1 (.look 11 1 (.look 12 1 (.look 13 1 (.look 14 1 (.look 15 1 (.look 16 1 (.look 17 1 (.look 18 1 (.look 19 1 (.look 20 1 (.look 21 1 (.look 22 1 (.look 23 1 (.look 24 1 (.look 25 1 (.look 26 1 (.look 27 1 (.look 28 1 (.look 29 1 (.look 30 1 (.look 31 1 (.look 32 1 (.look 33 1 (.look 34 1 (.look 35 1 (.look 36 1 (.look 37 1 (.look 38 1 (.look 39 1 (.look 40 1 (.look 41 1 (.look 42 1 (.done)))))))))))))))))))))))))))))))))))))))))))) [] [] (osl 61 3 (some ⟨o4, p4, none⟩) rc rl.length ((rl.map PV.cells).flatten) :: Star (rl.map obx) :: osl 61 3 (some ⟨o3, p3, none⟩) pc2 pl2.length ((pl2.map PV.cells).flatten) :: Star (pl2.map obm) :: old W :: []) ([]) mixed (by kernel_rfl) iM (Imp.none _) ?_
          refine DG.look rfl rfl (Yield.move rfl) rfl ?_
          refine DG.look rfl rfl (Yield.move rfl) rfl ?_
          refine DG.look rfl rfl (Yield.move rfl) rfl ?_
          refine DG.look rfl rfl (Yield.move rfl) rfl ?_
          refine DG.look rfl rfl (Yield.index_slice Tryz.underlying49 ti61 rfl rfl (by omega) (by omega)) rfl ?_
          refine DG.look rfl rfl (Yield.fieldAddr fa61_0 rfl) rfl ?_
          refine DG.look rfl rfl (Yield.load (v := .int .i64 y.p) ti3 rfl (by rw [show p3 + (j : Int).toNat * 3 = p3 + j * 3 by omega]; exact (SlR.elem (f := PV.cells) (xs := pl2) (i := j) (SlR.of_osl (W0 := W) (E := 61) (a := some ⟨o3, p3, none⟩) (c := pc2) eX) PV.len hy) 0 _ rfl)) rfl ?_
          refine DG.look rfl rfl (Yield.move rfl) rfl ?_
          refine DG.look rfl rfl (Yield.move rfl) rfl ?_
          refine DG.look rfl rfl (Yield.index_slice Tryz.underlying49 ti61 rfl rfl (by omega) (by omega)) rfl ?_
          refine DG.look rfl rfl (Yield.fieldAddr fa61_0 rfl) rfl ?_
          refine DG.look rfl rfl (Yield.load (v := .int .i64 x.p) ti3 rfl (by rw [show p4 + (k : Int).toNat * 3 = p4 + k * 3 by omega]; exact (SlR.elem (f := PV.cells) (xs := rl) (i := k) (SlR.of_osl (W0 := W) (E := 61) (a := some ⟨o4, p4, none⟩) (c := rc) eX) PV.len hx) 0 _ rfl)) rfl ?_
          refine DG.look rfl rfl (Yield.as (Yield.eql rfl rfl) (v' := .bool false) (bF (by omega))) rfl ?_
          refine DG.look rfl rfl (Yield.move rfl) rfl ?_
          refine DG.pass rfl rfl rfl ?_
          refine DG.pass rfl rfl rfl ?_
          refine DG.pass rfl rfl rfl ?_
          refine DG.pass rfl rfl rfl ?_
          refine DG.pass rfl rfl rfl ?_
          refine DG.pass rfl rfl rfl ?_
          refine DG.pass rfl rfl rfl ?_
          refine DG.pass rfl rfl rfl ?_
          refine DG.pass rfl rfl rfl ?_
          refine DG.pass rfl rfl rfl ?_
          refine DG.pass rfl rfl rfl ?_
          refine DG.look rfl rfl Yield.pickA rfl ?_
          refine DG.look rfl rfl (Yield.move rfl) rfl ?_
          refine DG.pass rfl rfl rfl ?_
          refine DG.pass rfl rfl rfl ?_
          refine DG.pass rfl rfl rfl ?_
          refine DG.pass rfl rfl rfl ?_
          refine DG.pass rfl rfl rfl ?_
          refine DG.pass rfl rfl rfl ?_
          refine DG.pass rfl rfl rfl ?_
          refine DG.pass rfl rfl rfl ?_
          refine DG.pass rfl rfl rfl ?_
          refine DG.pass rfl rfl rfl ?_
          refine DG.pass rfl rfl rfl ?_
          refine DG.pass rfl rfl rfl ?_
          refine DG.pass rfl rfl rfl ?_
          refine DG.look rfl rfl Yield.pickA rfl ?_
          refine DG.look rfl rfl Yield.pickA rfl ?_
          refine DG.look rfl rfl (Yield.assign rfl) rfl ?_
          refine DG.done ?_
          refine QG.block_normal ?_
          refine QG.then ?_
          refine CG.region ?_
          refine OG.mv rfl rfl ?_
          refine OG.yield (Yield.add rfl rfl (w64 (by omega) (by omega))) rfl ?_
          refine OG.sg rfl rfl ?_
          refine OG.nil ?_
          exact QG.next (j + 1) (by omega) (by omega) (by rw [decide_eq_false (show ¬ x.v ∈ (pl2.map PV.v).take (j + 1) from fun q => (htk.1 q).elim hm (fun q => n1 (congrArg (·.1) q).symm))]; exact eS) iM
        · skip
          rw [decide_eq_false hm]
          refine CG.draw (.look 0 1 (.look 1 1 (.look 2 1 (.look 3 1 (.look 4 1 (.look 5 1 (.look 6 1 (.look 7 1 (.look 8 1 (.look 9 1 (.look 10 1 (.look 11 1 (.look 12 1 (.look 13 1 (.look 14 1 (.look 15 1 (.look 16 1 (.look 17 1 (.look 18 1 (.look 19 1 (.look 20 1 (.look 21 1 (.look 22 1 (.look 23 1 (.look 24 1 (.look 25 1 (.look 26 1 (.look 27 1 (.look 28 1 (.look 29 1 (.look 30 1 (.look 31 1 (.look 32 1 (.look 33 1 (.look 34 1 (.look 35 1 (.look 36 1 (.look 37 1 (.look 38 1 (.look 39 1 (.look 40 1 (.look 41 1 (.look 42 1 (.done)))))))))))))))))))))))))))))))))))))))))))) [] [] (osl 61 3 (some ⟨o4, p4, none⟩) rc rl.length ((rl.map PV.cells).flatten) :: Star (rl.map obx) :: osl 61 3 (some ⟨o3, p3, none⟩) pc2 pl2.length ((pl2.map PV.cells).flatten) :: Star (pl2.map obm) :: old W :: []) ([]) mixed (by kernel_rfl) iM (Imp.none _) ?_
          refine DG.look rfl rfl (Yield.move rfl) rfl ?_
          refine DG.look rfl rfl (Yield.move rfl) rfl ?_
          refine DG.look rfl rfl (Yield.move rfl) rfl ?_
          refine DG.look rfl rfl (Yield.move rfl) rfl ?_
          refine DG.look rfl rfl (Yield.index_slice Tryz.underlying49 ti61 rfl rfl (by omega) (by omega)) rfl ?_
          refine DG.look rfl rfl (Yield.fieldAddr fa61_0 rfl) rfl ?_
          refine DG.look rfl rfl (Yield.load (v := .int .i64 y.p) ti3 rfl (by rw [show p3 + (j : Int).toNat * 3 = p3 + j * 3 by omega]; exact (SlR.elem (f := PV.cells) (xs := pl2) (i := j) (SlR.of_osl (W0 := W) (E := 61) (a := some ⟨o3, p3, none⟩) (c := pc2) eX) PV.len hy) 0 _ rfl)) rfl ?_
          refine DG.look rfl rfl (Yield.move rfl) rfl ?_
          refine DG.look rfl rfl (Yield.move rfl) rfl ?_
          refine DG.look rfl rfl (Yield.index_slice Tryz.underlying49 ti61 rfl rfl (by omega) (by omega)) rfl ?_
          refine DG.look rfl rfl (Yield.fieldAddr fa61_0 rfl) rfl ?_
          refine DG.look rfl rfl (Yield.load (v := .int .i64 x.p) ti3 rfl (by rw [show p4 + (k : Int).toNat * 3 = p4 + k * 3 by omega]; exact (SlR.elem (f := PV.cells) (xs := rl) (i := k) (SlR.of_osl (W0 := W) (E := 61) (a := some ⟨o4, p4, none⟩) (c := rc) eX) PV.len hx) 0 _ rfl)) rfl ?_
          refine DG.look rfl rfl (Yield.as (Yield.eql rfl rfl) (v' := .bool true) (bT (by omega))) rfl ?_
          refine DG.look rfl rfl (Yield.move rfl) rfl ?_
          refine DG.look rfl rfl (Yield.move rfl) rfl ?_
          refine DG.look rfl rfl (Yield.move rfl) rfl ?_
          refine DG.look rfl rfl (Yield.index_slice Tryz.underlying49 ti61 rfl rfl (by omega) (by omega)) rfl ?_
          refine DG.look rfl rfl (Yield.fieldAddr fa61_1 rfl) rfl ?_
          refine DG.look rfl rfl (Yield.load (v := .int .i64 y.pm) ti3 rfl (by rw [show p3 + (j : Int).toNat * 3 = p3 + j * 3 by omega]; exact (SlR.elem (f := PV.cells) (xs := pl2) (i := j) (SlR.of_osl (W0 := W) (E := 61) (a := some ⟨o3, p3, none⟩) (c := pc2) eX) PV.len hy) 1 _ rfl)) rfl ?_
          refine DG.look rfl rfl (Yield.move rfl) rfl ?_
          refine DG.look rfl rfl (Yield.move rfl) rfl ?_
          refine DG.look rfl rfl (Yield.index_slice Tryz.underlying49 ti61 rfl rfl (by omega) (by omega)) rfl ?_
          refine DG.look rfl rfl (Yield.fieldAddr fa61_1 rfl) rfl ?_
          refine DG.look rfl rfl (Yield.load (v := .int .i64 x.pm) ti3 rfl (by rw [show p4 + (k : Int).toNat * 3 = p4 + k * 3 by omega]; exact (SlR.elem (f := PV.cells) (xs := rl) (i := k) (SlR.of_osl (W0 := W) (E := 61) (a := some ⟨o4, p4, none⟩) (c := rc) eX) PV.len hx) 1 _ rfl)) rfl ?_
          refine DG.look rfl rfl (Yield.as (Yield.eql rfl rfl) (v' := .bool false) (bF (by omega))) rfl ?_
          refine DG.look rfl rfl Yield.pickA rfl ?_
          refine DG.look rfl rfl (Yield.move rfl) rfl ?_
          refine DG.pass rfl rfl rfl ?_
          refine DG.pass rfl rfl rfl ?_
          refine DG.pass rfl rfl rfl ?_
          refine DG.pass rfl rfl rfl ?_
          refine DG.pass rfl rfl rfl ?_
          refine DG.pass rfl rfl rfl ?_
          refine DG.pass rfl rfl rfl ?_
          refine DG.pass rfl rfl rfl ?_
          refine DG.pass rfl rfl rfl ?_
          refine DG.pass rfl rfl rfl ?_
          refine DG.pass rfl rfl rfl ?_
          refine DG.pass rfl rfl rfl ?_
          refine DG.pass rfl rfl rfl ?_
          refine DG.look rfl rfl Yield.pickA rfl ?_
          refine DG.look rfl rfl Yield.pickA rfl ?_
          refine DG.look rfl rfl (Yield.assign rfl) rfl ?_
          refine DG.done ?_
          refine QG.block_normal ?_
          refine QG.then ?_
          refine CG.region ?_
          refine OG.mv rfl rfl ?_
          refine OG.yield (Yield.add rfl rfl (w64 (by omega) (by omega))) rfl ?_
          refine OG.sg rfl rfl ?_
          refine OG.nil ?_
          exact QG.next (j + 1) (by omega) (by omega) (by rw [decide_eq_false (show ¬ x.v ∈ (pl2.map PV.v).take (j + 1) from fun q => (htk.1 q).elim hm (fun q => n2 (congrArg (·.2.1) q).symm))]; exact eS) iM
        · skip
          rw [decide_eq_false hm]
          refine CG.draw (.look 0 1 (.look 1 1 (.look 2 1 (.look 3 1 (.look 4 1 (.look 5 1 (.look 6 1 (.look 7 1 (.look 8 1 (.look 9 1 (.look 10 1 (.look 11 1 (.look 12 1 (.look 13 1 (.look 14 1 (.look 15 1 (.look 16 1 (.look 17 1 (.look 18 1 (.look 19 1 (.look 20 1 (.look 21 1 (.look 22 1 (.look 23 1 (.look 24 1 (.look 25 1 (.look 26 1 (.look 27 1 (.look 28 1 (.look 29 1 (.look 30 1 (.look 31 1 (.look 32 1 (.look 33 1 (.look 34 1 (.look 35 1 (.look 36 1 (.look 37 1 (.look 38 1 (.look 39 1 (.look 40 1 (.look 41 1 (.look 42 1 (.done)))))))))))))))))))))))))))))))))))))))))))) [] [] (osl 61 3 (some ⟨o4, p4, none⟩) rc rl.length ((rl.map PV.cells).flatten) :: Star (rl.map obx) :: osl 61 3 (some ⟨o3, p3, none⟩) pc2 pl2.length ((pl2.map PV.cells).flatten) :: Star (pl2.map obm) :: old W :: []) ([]) mixed (by kernel_rfl) iM (Imp.none _) ?_
          refine DG.look rfl rfl (Yield.move rfl) rfl ?_
          refine DG.look rfl rfl (Yield.move rfl) rfl ?_
          refine DG.look rfl rfl (Yield.move rfl) rfl ?_
          refine DG.look rfl rfl (Yield.move rfl) rfl ?_
          refine DG.look rfl rfl (Yield.index_slice Tryz.underlying49 ti61 rfl rfl (by omega) (by omega)) rfl ?_
          refine DG.look rfl rfl (Yield.fieldAddr fa61_0 rfl) rfl ?_
          refine DG.look rfl rfl (Yield.load (v := .int .i64 y.p) ti3 rfl (by rw [show p3 + (j : Int).toNat * 3 = p3 + j * 3 by omega]; exact (SlR.elem (f := PV.cells) (xs := pl2) (i := j) (SlR.of_osl (W0 := W) (E := 61) (a := some ⟨o3, p3, none⟩) (c := pc2) eX) PV.len hy) 0 _ rfl)) rfl ?_
          refine DG.look rfl rfl (Yield.move rfl) rfl ?_
          refine DG.look rfl rfl (Yield.move rfl) rfl ?_
          refine DG.look rfl rfl (Yield.index_slice Tryz.underlying49 ti61 rfl rfl (by omega) (by omega)) rfl ?_
          refine DG.look rfl rfl (Yield.fieldAddr fa61_0 rfl) rfl ?_
          refine DG.look rfl rfl (Yield.load (v := .int .i64 x.p) ti3 rfl (by rw [show p4 + (k : Int).toNat * 3 = p4 + k * 3 by omega]; exact (SlR.elem (f := PV.cells) (xs := rl) (i := k) (SlR.of_osl (W0 := W) (E := 61) (a := some ⟨o4, p4, none⟩) (c := rc) eX) PV.len hx) 0 _ rfl)) rfl ?_
          refine DG.look rfl rfl (Yield.as (Yield.eql rfl rfl) (v' := .bool true) (bT (by omega))) rfl ?_
          refine DG.look rfl rfl (Yield.move rfl) rfl ?_
          refine DG.look rfl rfl (Yield.move rfl) rfl ?_
          refine DG.look rfl rfl (Yield.move rfl) rfl ?_
          refine DG.look rfl rfl (Yield.index_slice Tryz.underlying49 ti61 rfl rfl (by omega) (by omega)) rfl ?_
          refine DG.look rfl rfl (Yield.fieldAddr fa61_1 rfl) rfl ?_
          refine DG.look rfl rfl (Yield.load (v := .int .i64 y.pm) ti3 rfl (by rw [show p3 + (j : Int).toNat * 3 = p3 + j * 3 by omega]; exact (SlR.elem (f := PV.cells) (xs := pl2) (i := j) (SlR.of_osl (W0 := W) (E := 61) (a := some ⟨o3, p3, none⟩) (c := pc2) eX) PV.len hy) 1 _ rfl)) rfl ?_
          refine DG.look rfl rfl (Yield.move rfl) rfl ?_
          refine DG.look rfl rfl (Yield.move rfl) rfl ?_
          refine DG.look rfl rfl (Yield.index_slice Tryz.underlying49 ti61 rfl rfl (by omega) (by omega)) rfl ?_
          refine DG.look rfl rfl (Yield.fieldAddr fa61_1 rfl) rfl ?_
          refine DG.look rfl rfl (Yield.load (v := .int .i64 x.pm) ti3 rfl (by rw [show p4 + (k : Int).toNat * 3 = p4 + k * 3 by omega]; exact (SlR.elem (f := PV.cells) (xs := rl) (i := k) (SlR.of_osl (W0 := W) (E := 61) (a := some ⟨o4, p4, none⟩) (c := rc) eX) PV.len hx) 1 _ rfl)) rfl ?_
          refine DG.look rfl rfl (Yield.as (Yield.eql rfl rfl) (v' := .bool true) (bT (by omega))) rfl ?_
          refine DG.look rfl rfl Yield.pickA rfl ?_
          refine DG.look rfl rfl (Yield.move rfl) rfl ?_
          refine DG.look rfl rfl (Yield.move rfl) rfl ?_
          refine DG.look rfl rfl (Yield.move rfl) rfl ?_
          refine DG.look rfl rfl (Yield.index_slice Tryz.underlying49 ti61 rfl rfl (by omega) (by omega)) rfl ?_
          refine DG.look rfl rfl (Yield.fieldAddr fa61_2 rfl) rfl ?_
          refine DG.look rfl rfl (Yield.load (v := .slice y.a y.b.length y.c) ti32 rfl (by rw [show p3 + (j : Int).toNat * 3 = p3 + j * 3 by omega]; exact (SlR.elem (f := PV.cells) (xs := pl2) (i := j) (SlR.of_osl (W0 := W) (E := 61) (a := some ⟨o3, p3, none⟩) (c := pc2) eX) PV.len hy) 2 _ rfl)) rfl ?_
          refine DG.look rfl rfl (Yield.toStr (bs := y.b) Tryz.underlying32 Tryz.underlying9 Tryz.underlying5 rfl ((pvr_at (W0 := W) (a := some ⟨o3, p3, none⟩) (c := pc2) (l := pl2) iM).bytes y (List.mem_of_getElem? hy))) rfl ?_
          refine DG.look rfl rfl (Yield.move rfl) rfl ?_
          refine DG.look rfl rfl (Yield.move rfl) rfl ?_
          refine DG.look rfl rfl (Yield.index_slice Tryz.underlying49 ti61 rfl rfl (by omega) (by omega)) rfl ?_
          refine DG.look rfl rfl (Yield.fieldAddr fa61_2 rfl) rfl ?_
          refine DG.look rfl rfl (Yield.load (v := .slice x.a x.b.length x.c) ti32 rfl (by rw [show p4 + (k : Int).toNat * 3 = p4 + k * 3 by omega]; exact (SlR.elem (f := PV.cells) (xs := rl) (i := k) (SlR.of_osl (W0 := W) (E := 61) (a := some ⟨o4, p4, none⟩) (c := rc) eX) PV.len hx) 2 _ rfl)) rfl ?_
          refine DG.look rfl rfl (Yield.toStr (bs := x.b) Tryz.underlying32 Tryz.underlying9 Tryz.underlying5 rfl ((hrr iM).bytes x (List.mem_of_getElem? hx))) rfl ?_
          refine DG.look rfl rfl (Yield.as (Yield.str_eql rfl rfl) (v' := .bool false) (by rw [strOf_toList, strOf_toList]; simp [n3])) rfl ?_
          refine DG.look rfl rfl Yield.pickA rfl ?_
          refine DG.look rfl rfl Yield.pickA rfl ?_
          refine DG.look rfl rfl (Yield.assign rfl) rfl ?_
          refine DG.done ?_
          refine QG.block_normal ?_
          refine QG.then ?_
          refine CG.region ?_
          refine OG.mv rfl rfl ?_
          refine OG.yield (Yield.add rfl rfl (w64 (by omega) (by omega))) rfl ?_
          refine OG.sg rfl rfl ?_
          refine OG.nil ?_
          exact QG.next (j + 1) (by omega) (by omega) (by rw [decide_eq_false (show ¬ x.v ∈ (pl2.map PV.v).take (j + 1) from fun q => (htk.1 q).elim hm (fun q => n3 (congrArg (·.2.2) q).symm))]; exact eS) iM
        · skip
          rw [decide_eq_false hm]
          refine CG.draw (.look 0 1 (.look 1 1 (.look 2 1 (.look 3 1 (.look 4 1 (.look 5 1 (.look 6 1 (.look 7 1 (.look 8 1 (.look 9 1 (.look 10 1 (.look 11 1 (.look 12 1 (.look 13 1 (.look 14 1 (.look 15 1 (.look 16 1 (.look 17 1 (.look 18 1 (.look 19 1 (.look 20 1 (.look 21 1 (.look 22 1 (.look 23 1 (.look 24 1 (.look 25 1 (.look 26 1 (.look 27 1 (.look 28 1 (.look 29 1 (.look 30 1 (.look 31 1 (.look 32 1 (.look 33 1 (.look 34 1 (.look 35 1 (.look 36 1 (.look 37 1 (.look 38 1 (.look 39 1 (.look 40 1 (.look 41 1 (.look 42 1 (.done)))))))))))))))))))))))))))))))))))))))))))) [] [] (osl 61 3 (some ⟨o4, p4, none⟩) rc rl.length ((rl.map PV.cells).flatten) :: Star (rl.map obx) :: osl 61 3 (some ⟨o3, p3, none⟩) pc2 pl2.length ((pl2.map PV.cells).flatten) :: Star (pl2.map obm) :: old W :: []) ([]) mixed (by kernel_rfl) iM (Imp.none _) ?_
          refine DG.look rfl rfl (Yield.move rfl) rfl ?_
          refine DG.look rfl rfl (Yield.move rfl) rfl ?_
          refine DG.look rfl rfl (Yield.move rfl) rfl ?_
          refine DG.look rfl rfl (Yield.move rfl) rfl ?_
          refine DG.look rfl rfl (Yield.index_slice Tryz.underlying49 ti61 rfl rfl (by omega) (by omega)) rfl ?_
          refine DG.look rfl rfl (Yield.fieldAddr fa61_0 rfl) rfl ?_
          refine DG.look rfl rfl (Yield.load (v := .int .i64 y.p) ti3 rfl (by rw [show p3 + (j : Int).toNat * 3 = p3 + j * 3 by omega]; exact (SlR.elem (f := PV.cells) (xs := pl2) (i := j) (SlR.of_osl (W0 := W) (E := 61) (a := some ⟨o3, p3, none⟩) (c := pc2) eX) PV.len hy) 0 _ rfl)) rfl ?_
          refine DG.look rfl rfl (Yield.move rfl) rfl ?_
          refine DG.look rfl rfl (Yield.move rfl) rfl ?_
          refine DG.look rfl rfl (Yield.index_slice Tryz.underlying49 ti61 rfl rfl (by omega) (by omega)) rfl ?_
          refine DG.look rfl rfl (Yield.fieldAddr fa61_0 rfl) rfl ?_
          refine DG.look rfl rfl (Yield.load (v := .int .i64 x.p) ti3 rfl (by rw [show p4 + (k : Int).toNat * 3 = p4 + k * 3 by omega]; exact (SlR.elem (f := PV.cells) (xs := rl) (i := k) (SlR.of_osl (W0 := W) (E := 61) (a := some ⟨o4, p4, none⟩) (c := rc) eX) PV.len hx) 0 _ rfl)) rfl ?_
          refine DG.look rfl rfl (Yield.as (Yield.eql rfl rfl) (v' := .bool true) (bT (by omega))) rfl ?_
          refine DG.look rfl rfl (Yield.move rfl) rfl ?_
          refine DG.look rfl rfl (Yield.move rfl) rfl ?_
          refine DG.look rfl rfl (Yield.move rfl) rfl ?_
          refine DG.look rfl rfl (Yield.index_slice Tryz.underlying49 ti61 rfl rfl (by omega) (by omega)) rfl ?_
          refine DG.look rfl rfl (Yield.fieldAddr fa61_1 rfl) rfl ?_
          refine DG.look rfl rfl (Yield.load (v := .int .i64 y.pm) ti3 rfl (by rw [show p3 + (j : Int).toNat * 3 = p3 + j * 3 by omega]; exact (SlR.elem (f := PV.cells) (xs := pl2) (i := j) (SlR.of_osl (W0 := W) (E := 61) (a := some ⟨o3, p3, none⟩) (c := pc2) eX) PV.len hy) 1 _ rfl)) rfl ?_
          refine DG.look rfl rfl (Yield.move rfl) rfl ?_
          refine DG.look rfl rfl (Yield.move rfl) rfl ?_
          refine DG.look rfl rfl (Yield.index_slice Tryz.underlying49 ti61 rfl rfl (by omega) (by omega)) rfl ?_
          refine DG.look rfl rfl (Yield.fieldAddr fa61_1 rfl) rfl ?_
          refine DG.look rfl rfl (Yield.load (v := .int .i64 x.pm) ti3 rfl (by rw [show p4 + (k : Int).toNat * 3 = p4 + k * 3 by omega]; exact (SlR.elem (f := PV.cells) (xs := rl) (i := k) (SlR.of_osl (W0 := W) (E := 61) (a := some ⟨o4, p4, none⟩) (c := rc) eX) PV.len hx) 1 _ rfl)) rfl ?_
          refine DG.look rfl rfl (Yield.as (Yield.eql rfl rfl) (v' := .bool true) (bT (by omega))) rfl ?_
          refine DG.look rfl rfl Yield.pickA rfl ?_
          refine DG.look rfl rfl (Yield.move rfl) rfl ?_
          refine DG.look rfl rfl (Yield.move rfl) rfl ?_
          refine DG.look rfl rfl (Yield.move rfl) rfl ?_
          refine DG.look rfl rfl (Yield.index_slice Tryz.underlying49 ti61 rfl rfl (by omega) (by omega)) rfl ?_
          refine DG.look rfl rfl (Yield.fieldAddr fa61_2 rfl) rfl ?_
          refine DG.look rfl rfl (Yield.load (v := .slice y.a y.b.length y.c) ti32 rfl (by rw [show p3 + (j : Int).toNat * 3 = p3 + j * 3 by omega]; exact (SlR.elem (f := PV.cells) (xs := pl2) (i := j) (SlR.of_osl (W0 := W) (E := 61) (a := some ⟨o3, p3, none⟩) (c := pc2) eX) PV.len hy) 2 _ rfl)) rfl ?_
          refine DG.look rfl rfl (Yield.toStr (bs := y.b) Tryz.underlying32 Tryz.underlying9 Tryz.underlying5 rfl ((pvr_at (W0 := W) (a := some ⟨o3, p3, none⟩) (c := pc2) (l := pl2) iM).bytes y (List.mem_of_getElem? hy))) rfl ?_
          refine DG.look rfl rfl (Yield.move rfl) rfl ?_
          refine DG.look rfl rfl (Yield.move rfl) rfl ?_
          refine DG.look rfl rfl (Yield.index_slice Tryz.underlying49 ti61 rfl rfl (by omega) (by omega)) rfl ?_
          refine DG.look rfl rfl (Yield.fieldAddr fa61_2 rfl) rfl ?_
          refine DG.look rfl rfl (Yield.load (v := .slice x.a x.b.length x.c) ti32 rfl (by rw [show p4 + (k : Int).toNat * 3 = p4 + k * 3 by omega]; exact (SlR.elem (f := PV.cells) (xs := rl) (i := k) (SlR.of_osl (W0 := W) (E := 61) (a := some ⟨o4, p4, none⟩) (c := rc) eX) PV.len hx) 2 _ rfl)) rfl ?_
          refine DG.look rfl rfl (Yield.toStr (bs := x.b) Tryz.underlying32 Tryz.underlying9 Tryz.underlying5 rfl ((hrr iM).bytes x (List.mem_of_getElem? hx))) rfl ?_
          refine DG.look rfl rfl (Yield.as (Yield.str_eql rfl rfl) (v' := .bool true) (by rw [strOf_toList, strOf_toList]; simp [n3])) rfl ?_
          refine DG.look rfl rfl Yield.pickA rfl ?_
          refine DG.look rfl rfl Yield.pickA rfl ?_
          refine DG.look rfl rfl (Yield.assign rfl) rfl ?_
          refine DG.done ?_
          refine QG.block_normal ?_
          refine QG.then ?_
          refine CG.region ?_
          refine OG.mv rfl rfl ?_
          refine OG.yield (Yield.add rfl rfl (w64 (by omega) (by omega))) rfl ?_
          refine OG.sg rfl rfl ?_
          refine OG.nil ?_
          exact QG.next (j + 1) (by omega) (by omega) (by rw [decide_eq_true (htk.2 (.inr (by unfold PV.v; rw [n1, n2, n3])))]; exact eS) iM
      · try replace hc := of_decide_eq_false hc
        refine CG.exit ?_
        refine QG.pass_exit ?_
        refine QG.pass_exit ?_
        refine QG.block_exit ?_
        refine QG.then ?_
        obtain rfl : j = pl2.length := by omega
        rw [List.take_of_length_le (show (pl2.map PV.v).length ≤ pl2.length by simp), decide_eq_true hxm]
        refine CG.seq ?_
        refine CG.region ?_
        refine OG.mv rfl rfl ?_
        refine OG.yield (Yield.not rfl) rfl ?_
        refine OG.nil ?_
        refine QG.then ?_
        refine CG.cond_f rfl ?_
        refine CG.skip ?_
        refine QG.block_normal ?_
        refine QG.then ?_
        refine CG.region ?_
        refine OG.mv rfl rfl ?_
        refine OG.yield (Yield.add rfl rfl (w64 (by omega) (by omega))) rfl ?_
        refine OG.sg rfl rfl ?_
        refine OG.nil ?_
        exact QG.next (k + 1) (by omega) (by omega) eS iM
    · try replace hc := of_decide_eq_false hc
      refine CG.exit ?_
      refine QG.pass_exit ?_
      refine QG.pass_exit ?_
      refine QG.block_exit ?_
      refine QG.then ?_
      refine CG.seq ?_
      refine CG.region ?_
      refine OG.sg rfl rfl ?_
      refine OG.nil ?_
      refine QG.then ?_
      refine CG.ret ?_
      exact QG.ret1 rfl rfl () trivial rfl iM
open Go.ChangeShapes Go.WideShapes Go.ChangeAt
theorem own : ownKnob Tryz.prog.godebug = none := by kernel_rfl
theorem laid : laidOutB Tryz.prog = true := by kernel_rfl
set_option maxRecDepth 100000 in
theorem lifted (os : Os) (started : os.Started) (H : Type) (enc : TypeId × Value → H) :
    ReturnsInHanded {} Tryz.checked os 4 .any (Rows.spaceAllSpec.pre6 enc Tryz.prog Tryz.f4 Rows.spaceAllRow.domain false) (Rows.spaceAllSpec.post enc Tryz.prog Tryz.f4 false true false false) := by
  refine returnsInHanded_of_change_sized (C := Tryz.checked) own started (by kernel_rfl) Tryz.func4
    (ChangeSpec.witness6 (enc := enc) (C := Tryz.checked) false ⟨#[], #[.slice none 0 0, .int .u32 0, .slice none 0 0, .agg #[.int .u32 0, .slice none 0 0]], []⟩ 8 (by kernel_rfl) (by kernel_rfl) (by kernel_rfl) (by kernel_rfl)) ?_
  intro W base args ds gs before hval0 hW hcnd hsz0 _
  have hsz : (DataW.weightsEach Tryz.prog (Tryz.f4.params.toList ++ Rows.spaceAllSpec.plain.varTypes Tryz.prog) (ds ++ gs)).all (· ≤ reachBytes) = true := hsz0
  have hval : ∀ (j : Nat) t v, Tryz.f4.params[j]? = some t → args[j]? = some v → Value.okWide Tryz.prog W .any base t v := hval0
  have hW' := hW
  obtain ⟨p, q, hA0, hV, rfl, hfz, hnd⟩ := hW
  have hA : DataW.TrodAll enc Tryz.prog W 0 (fun _ => true) true Tryz.f4.params.toList args.toList ds p := hA0
  rw [Tryz.params4] at hA hval hsz
  obtain ⟨v0, vs0, d0, ds0, p0, q0, hargs, rfl, rfl, h0, r0⟩ := trodAll_cons hA
  obtain ⟨v1, vs1, d1, ds1, p1, q1, rfl, rfl, rfl, h1, r1⟩ := trodAll_cons r0
  obtain ⟨v2, vs2, d2, ds2, p2, q2, rfl, rfl, rfl, h2, r2⟩ := trodAll_cons r1
  obtain ⟨v3, vs3, d3, ds3, p3, q3, rfl, rfl, rfl, h3, r3⟩ := trodAll_cons r2
  obtain ⟨rfl, rfl, rfl⟩ := trodAll_nil r3
  obtain rfl : args = #[v0, v1, v2, v3] := by cases args; simp_all
  obtain ⟨rfl, rfl⟩ := trodVars_none hV
  have k0 := weights_le hsz 0 (t := 23) (d := d0) rfl rfl
  have s0 := Opn.param Tryz.underlying23 (SOp.list W) (hval 0 23 v0 rfl rfl) h0 k0
  obtain ⟨x0, c0, ops, e0, l0, ok0, s0, m0⟩ := s0
  cases e0
  obtain ⟨a1, rfl, rfl, rfl, w1⟩ := open_int Tryz.underlying30 (hval 1 30 v1 rfl rfl) h1
  have k2 := weights_le hsz 2 (t := 32) (d := d2) rfl rfl
  have s2 := Opn.param Tryz.underlying32 (Opn.bytes Tryz.underlying32 Tryz.underlying5 (by kernel_rfl) (by kernel_rfl)) (hval 2 32 v2 rfl rfl) h2 k2
  obtain ⟨x2, c2, bs, e2, l2, s2, m2⟩ := s2
  cases e2
  have k3 := weights_le hsz 3 (t := 35) (d := d3) rfl rfl
  have s3 := Opn.paramS Tryz.underlying35 (SImg.opn W) (hval 3 35 v3 rfl rfl) h3 k3
  obtain ⟨cs3, e3, im, rfl, ok3⟩ := s3
  cases e3
  clear hA0 hval0 hsz0 hsz
  refine ((walk W s0 ok0 (wf_u32 w1).1 (wf_u32 w1).2 s2 m2 ok3) W (Sat.start W)).mono fun e W' he => ?_
  obtain ⟨_, _, he, hs⟩ := he
  subst he
  exact ⟨_, rfl, law_post laid (params_ok (by kernel_rfl)) rfl Tryz.underlying4 hW' rfl rfl (Sat.below eX hs)⟩
theorem over : Rows.spaceAllRow.holds Tryz.pinned (OpenSpec.ofChange Rows.spaceAllSpec) :=
  OpenClaim.holds_of_wide 4 Tryz.f4 rfl rfl rfl rfl rfl rfl rfl ⟨rfl, rfl, rfl, rfl, rfl⟩ rfl rfl rfl rfl rfl (by kernel_rfl) Tryz.func4 (by kernel_rfl)
    (of_decide_eq_true (by kernel_rfl)) (by unfold Func.isWrapper; first | (rw [if_pos (by decide +kernel)]; kernel_rfl) | (rw [if_neg (by decide +kernel)]; exact ⟨rfl, rfl⟩))
    (fun os started H enc _ => lifted os started H enc)
theorem proved : Rows.SpaceAllSaid := over
#print axioms proved
end Go.Proofs.YtmlfcfbblfcpdaaGreat.spaceAll
