/- SpacePlays: spaces of several partitions in one memory do what the chapter says: the law returns true and changes nothing that was there. -/
import Derived.Test.YtmlfcfbblfcpdaaGreatPlays5
set_option linter.unusedSimpArgs false
set_option linter.unusedVariables false
/- The laws' world: an act of both. -/
namespace Go.Proofs.YtmlfcfbblfcpdaaGreat.Sp
open Go Go.Sl Go.RowKit Go.Proofs Go.Proofs.YtmlfcfbblfcpdaaGreat.T Go.Proofs.YtmlfcfbblfcpdaaGreat.Me Go.Proofs.YtmlfcfbblfcpdaaGreat.Pe Go.Proofs.YtmlfcfbblfcpdaaGreat.Pg
open Go.Proofs.YtmlfcfbblfcpdaaGreat.Fz (iv oiv iv_append iv_ones iv_get iv_len cnt free_frame left left_in nerr nerr_ok)
set_option maxRecDepth 100000
theorem cel_at {W0 : World} {G R : List HProp} {E c m b o i : Nat} {a : Option Addr} {xs : List Value} {v : Value} (ha : a = some ⟨b, o, none⟩) (hi : xs[i]? = some v) (hx : Ext G (osl E 1 a c m xs) R) : Cel W0 G ⟨b, o + i, none⟩ v := by
  subst ha; exact (SlR.of_osl hx).cel hi
theorem ZOk.mono {n : Nat} {qs : List Int} {o : Ob} {c d : Nat} {z : ZS} (h : ZOk n qs o c z) (hd : c ≤ d) : ZOk n qs o d z := ⟨h.ks, h.lk.mono hd, h.ts⟩
theorem zo_close0 {n : Nat} {qs : List Int} {o o' : Ob} {c : Nat} {z : ZS} {j : Nat} {e : SpE} {qk : Int} {ts' : List Int} {σ' : St} {Fr : List HProp} (h : ZOk n qs o c z) (hj : z.sl[j]? = some e) (hf : Fct n qs o c z e qk) (S : Stp o o' e.k) (hd : dO o o' e.k = 0) :
    Imp (ZO n qs z e (s1F z j) (s2F o z j) (RS e.b z.bw e.k (pvs o' e.k) ts') (RW z.bw o.fr (lefO qs (rtOf z.sl) o)) σ' Fr) (ZG n qs o' (z.upd e.k ts' σ') Fr) := by
  have := zo_close (ts' := ts') (σ' := σ') (Fr := Fr) h hj hf.hq S
  rw [rwd_zero hf.get hd] at this
  exact this
theorem secR_old {W0 : World} {G R : List HProp} {op : SOp} (hop : op.OK W0) (x : Ext G (old W0) R) : SecR W0 G op.I_Sectionsa op.I_Sections :=
  ⟨hop.I_Sections.old x, fun s hs => (hop.I_Sectionsk s hs).Bytesm, fun s hs => RdB.of_slR ((hop.I_Sectionsk s hs).Bytes.old x) (hop.I_Sectionsk s hs).Bytesc⟩
theorem chkL_congr : ∀ {l l' : List SSec} {t e : Int}, l.map SSec.v = l'.map SSec.v → chkL l t e = chkL l' t e
  | [], [], _, _, _ => rfl
  | [], _ :: _, _, _, h => by cases h
  | _ :: _, [], _, _, h => by cases h
  | x :: l, y :: l', t, e, h => by
    rw [List.map_cons, List.map_cons, List.cons.injEq] at h
    have e1 : x.Page = y.Page := congrArg (·.1) h.1
    have e2 : x.Perm = y.Perm := congrArg (·.2.1) h.1
    have e3 : x.Bytes = y.Bytes := congrArg (·.2.2) h.1
    have ih := fun t e => chkL_congr (t := t) (e := e) h.2
    unfold chkL
    have hs : ∀ a b, sectE x a b = sectE y a b := fun a b => by unfold sectE badS endS; rw [e1, e2, e3]
    rw [hs, e3, ih, show endS x = endS y by unfold endS; rw [e1, e3]]
theorem imgP_congr : ∀ {l l' : List SSec}, l.map SSec.v = l'.map SSec.v → imgP l = imgP l'
  | [], [], _ => rfl
  | [], _ :: _, h => by cases h
  | _ :: _, [], h => by cases h
  | x :: l, y :: l', h => by
    rw [List.map_cons, List.map_cons, List.cons.injEq] at h
    have e1 : x.Page = y.Page := congrArg (·.1) h.1
    have e2 : x.Perm = y.Perm := congrArg (·.2.1) h.1
    have e3 : x.Bytes = y.Bytes := congrArg (·.2.2) h.1
    show secP x (npg x) ++ imgP l = secP y (npg y) ++ imgP l'
    rw [imgP_congr h.2]
    unfold secP npg endS
    rw [e1, e2, e3]
theorem load_congr {qk : Int} {o : Ob} {k : Nat} {en : Int} {l l' : List SSec} (h : l.map SSec.v = l'.map SSec.v) : loadO qk o k en l = loadO qk o k en l' := by
  have hl : l.length = l'.length := by have := congrArg List.length h; rwa [List.length_map, List.length_map] at this
  have hc : chk en l = chk en l' := by unfold chk; rw [hl, chkL_congr h]
  rw [load_all, load_all, hc, imgP_congr h]
/-- What stays of a section when its bytes are written over. -/
def SSec.sk (s : SSec) : Int × Int × Nat := (s.Page, s.Perm, s.Bytes.length)
theorem sec_upd {a : Option Addr} {c k : Nat} {l : List SSec} {y y' : SSec} {G : List HProp} (hy : l[k]? = some y) (hc : y'.cells = y.cells) :
    Imp (secB y' :: Star ((l.map secB).eraseIdx k) :: osl 82 3 a c l.length ((l.map SSec.cells).flatten) :: G) (ISO a c (l.set k y') ++ G) := by
  refine Imp.trans (star_put (i := k) (A := secB y) (by rw [List.getElem?_map, hy]; rfl)) ?_
  dsimp only [ISO, List.cons_append, List.nil_append]
  rw [List.length_set, List.map_set, List.map_set, hc, Ms.set_self (l := l.map SSec.cells) (by rw [List.getElem?_map, hy]; rfl)]
  exact iM
section
variable (W0 : World) (Fr : List HProp)
variable {n : Nat} {qs : List Int} {o : Ob} {c : Nat} {z : ZS}
set_option maxHeartbeats 16000000 in
theorem act_spec {op : SOp} (hop : op.OK W0) (h : ZOk n qs o c z) (hq : ∀ q ∈ qs, 0 ≤ q ∧ q ≤ 1024) (hql : qs.length ≤ 8) (hn : n ≤ 1024) (hzl : z.sl.length ≤ 1024) (hc8 : c ≤ 100000000000) : Ctr Tryz.prog W0 7 [.pointer (some ⟨z.bx, 0, none⟩), .agg op.cells.toArray] (ZG n qs o z (old W0 :: Fr)) (fun y : Ob × ZS => ZOk n qs y.1 (c + 8192) y.2 ∧ y.2.bx = z.bx ∧ y.2.sl.length = z.sl.length) (fun _ => .bool true) (fun y => ZG n qs y.1 y.2 (old W0 :: Fr)) := by
  obtain ⟨hA0, hA1⟩ := wf_u32 hop.Addr
  obtain ⟨hV0, hV1⟩ := wf_u64 hop.V
  obtain ⟨hE0, hE1⟩ := wf_u32 hop.I_Entry
  obtain ⟨v, hv⟩ : ∃ v : Nat, op.V = (v : Int) := ⟨op.V.toNat, by omega⟩
  obtain ⟨ad, had⟩ : ∃ v : Nat, op.Addr = (v : Int) := ⟨op.Addr.toNat, by omega⟩
  have hBm := hop.Bm
  unfold reachBytes at hBm
  have hwr := wrap_u64_range op.Who
  refine Ctr.of_body Tryz.func7 rfl Tryz.ntmps7 rfl ?_
  dsimp only [ZG, bxF, WG]
  refine CG.seq ?_
  refine CG.region ?_
  refine OG.effd (Eff.box rfl) rfl ?_
  rintro b3 -
  refine OG.sg rfl rfl ?_
  refine OG.nil ?_
  refine QG.then ?_
  refine CG.seq ?_
  refine CG.seq ?_
  rcases (show z.sl.length = 0 ∨ 0 < z.sl.length by omega) with h0 | h0
  · skip
    refine CG.region ?_
    refine OG.mv rfl rfl ?_
    refine OG.yield (Yield.nilCheck rfl) rfl ?_
    refine OG.yield (Yield.fieldAddr fa47_3 rfl) rfl ?_
    refine OG.yield (Yield.loadA ti43 rfl) rfl ?_
    refine OG.yield (Yield.len_slice Tryz.underlying43 rfl rfl) rfl ?_
    refine OG.yield Yield.eqlA rfl ?_
    refine OG.nil ?_
    refine QG.then ?_
    refine CG.cond_t rfl ?_
    refine CG.seq ?_
    refine CG.region ?_
    refine OG.sg rfl rfl ?_
    refine OG.nil ?_
    refine QG.then ?_
    refine CG.ret ?_
    refine QG.pass_ret ?_
    exact QG.ret1 rfl rfl (o, z) ⟨h.mono (by omega), rfl, rfl⟩ rfl iM
  · skip
    refine CG.region ?_
    refine OG.mv rfl rfl ?_
    refine OG.yield (Yield.nilCheck rfl) rfl ?_
    refine OG.yield (Yield.fieldAddr fa47_3 rfl) rfl ?_
    refine OG.yield (Yield.loadA ti43 rfl) rfl ?_
    refine OG.yield (Yield.len_slice Tryz.underlying43 rfl rfl) rfl ?_
    refine OG.yield Yield.eqlA rfl ?_
    refine OG.nil ?_
    refine QG.then ?_
    refine CG.cond_f rfl ?_
    refine CG.skip ?_
    refine QG.then ?_
    refine CG.seq ?_
    obtain ⟨j, hjl, hjm⟩ : ∃ j : Nat, j < z.sl.length ∧ Int.tmod (IntKind.u64.wrap op.Who) (z.sl.length : Int) = (j : Int) := by
      have h1 := Int.emod_nonneg (IntKind.u64.wrap op.Who) (show (z.sl.length : Int) ≠ 0 by omega)
      have h2 := Int.emod_lt_of_pos (IntKind.u64.wrap op.Who) (show (0 : Int) < z.sl.length by omega)
      exact ⟨(IntKind.u64.wrap op.Who % (z.sl.length : Int)).toNat, by omega, by rw [Int.tmod_eq_emod_of_nonneg hwr.1]; omega⟩
    refine CG.draw (.look 0 1 (.look 1 1 (.look 2 1 (.look 3 1 (.look 4 1 (.look 5 1 (.look 6 1 (.look 7 1 (.look 8 1 (.look 9 1 (.look 10 1 (.look 11 1 (.done))))))))))))) [] [] ([]) ([]) mixed (by kernel_rfl) (Imp.none _) (Imp.none _) ?_
    refine DG.look rfl rfl (Yield.fieldAddr fa37_1 rfl) rfl ?_
    refine DG.look rfl rfl (Yield.load (v := .int .i64 op.Who) ti3 rfl (Cel.of_blk (b := b3) eX rfl)) rfl ?_
    refine DG.look rfl rfl (by first | exact Yield.conv Tryz.underlying31 rfl rfl (wu64 (by omega) (by omega)) | exact Yield.conv Tryz.underlying31 rfl rfl rfl) rfl ?_
    refine DG.look rfl rfl (Yield.move rfl) rfl ?_
    refine DG.look rfl rfl (Yield.nilCheck rfl) rfl ?_
    refine DG.look rfl rfl (Yield.fieldAddr fa47_3 rfl) rfl ?_
    refine DG.look rfl rfl (Yield.loadA ti43 rfl) rfl ?_
    refine DG.look rfl rfl (Yield.len_slice Tryz.underlying43 rfl rfl) rfl ?_
    refine DG.look rfl rfl (by first | exact Yield.conv Tryz.underlying31 rfl rfl (wu64 (by omega) (by omega)) | exact Yield.conv Tryz.underlying31 rfl rfl rfl) rfl ?_
    refine DG.look rfl rfl (Yield.rem (c := (j : Int)) rfl rfl (by omega) hjm) rfl ?_
    refine DG.look rfl rfl (by first | exact Yield.conv Tryz.underlying3 rfl rfl (w64 (by omega) (by omega)) | exact Yield.conv Tryz.underlying3 rfl rfl rfl) rfl ?_
    refine DG.look rfl rfl (Yield.assign rfl) rfl ?_
    refine DG.done ?_
    refine QG.then ?_
    refine CG.seq ?_
    obtain ⟨e, hj⟩ : ∃ e, z.sl[j]? = some e := ⟨_, List.getElem?_eq_getElem hjl⟩
    obtain ⟨qk, hf⟩ := h.fct hj
    have hpos := hf.pos
    have hu := hf.used
    have hfr := hf.fr
    have hle := hf.le
    have hll : (lefO qs (rtOf z.sl) o).length ≤ 1024 := by rw [lefO_len]; omega
    refine CG.pure (fun w hw => SlR.shape (SlR.of_osl (W0 := W0) (E := 48) (a := z.sa) (c := z.sc) eX) (ptrs_ne hj) w hw) ?_
    rintro ⟨sb', so, hsa⟩
    refine CG.pure (fun w hw => SlR.shape (SlR.of_osl (W0 := W0) (E := 73) (a := z.ra) (c := z.rc) eX) (ptrs_ne hj) w hw) ?_
    rintro ⟨rb, ro, hra⟩
    refine CG.imp (Imp.trans (B := ZG n qs o z (blk b3 op.cells 37 :: old W0 :: Fr)) iM (zo_open hj)) ?_
    dsimp only [ZO, bxF, WG, rsF]
    refine CG.draw (.look 0 1 (.look 1 1 (.look 2 1 (.look 3 1 (.look 4 1 (.look 5 1 (.look 6 1 (.look 7 1 (.look 8 1 (.look 9 1 (.look 10 1 (.look 11 1 (.look 12 1 (.look 13 1 (.look 14 1 (.look 15 1 (.done))))))))))))))))) [] [] ([]) ([]) mixed (by kernel_rfl) (Imp.none _) (Imp.none _) ?_
    refine DG.look rfl rfl (Yield.move rfl) rfl ?_
    refine DG.look rfl rfl (Yield.nilCheck rfl) rfl ?_
    refine DG.look rfl rfl (Yield.fieldAddr fa47_3 rfl) rfl ?_
    refine DG.look rfl rfl (Yield.as (Yield.load (v := .slice z.sa z.sl.length z.sc) ti43 rfl (Cel.of_blk eX rfl)) (v' := .slice (some ⟨sb', so, none⟩) z.sl.length z.sc) (by rw [hsa])) rfl ?_
    refine DG.look rfl rfl (Yield.move rfl) rfl ?_
    refine DG.look rfl rfl (Yield.index_slice Tryz.underlying43 ti48 rfl rfl (by omega) (by omega)) rfl ?_
    refine DG.look rfl rfl (Yield.load (v := .pointer (some ⟨e.s, 0, none⟩)) ti48 rfl (by rw [show so + (j : Int).toNat * 1 = so + j by omega]; exact cel_at (E := 48) (c := z.sc) hsa (ptrs_get hj) eX)) rfl ?_
    refine DG.look rfl rfl (Yield.move rfl) rfl ?_
    refine DG.look rfl rfl (Yield.nilCheck rfl) rfl ?_
    refine DG.look rfl rfl (Yield.fieldAddr fa47_5 rfl) rfl ?_
    refine DG.look rfl rfl (Yield.as (Yield.load (v := .slice z.ra z.sl.length z.rc) ti45 rfl (Cel.of_blk eX rfl)) (v' := .slice (some ⟨rb, ro, none⟩) z.sl.length z.rc) (by rw [hra])) rfl ?_
    refine DG.look rfl rfl (Yield.move rfl) rfl ?_
    refine DG.look rfl rfl (Yield.index_slice Tryz.underlying45 ti73 rfl rfl (by omega) (by omega)) rfl ?_
    refine DG.look rfl rfl (Yield.load (v := .pointer (some ⟨e.b, 0, none⟩)) ti73 rfl (by rw [show ro + (j : Int).toNat * 1 = ro + j by omega]; exact cel_at (E := 73) (c := z.rc) hra (ptrs_get hj) eX)) rfl ?_
    refine DG.look rfl rfl (Yield.assign rfl) rfl ?_
    refine DG.look rfl rfl (Yield.assign rfl) rfl ?_
    refine DG.done ?_
    refine QG.then ?_
    refine CG.seq ?_
    refine CG.region ?_
    refine OG.effd (Eff.lit0 Tryz.underlying32 ti5 rfl) rfl ?_
    rintro b56 -
    refine OG.yield (Yield.fieldAddr fa37_7 rfl) rfl ?_
    refine OG.yield (Yield.load (v := .slice op.Ba op.B.length op.Bc) ti32 rfl (Cel.of_blk (b := b3) eX rfl)) rfl ?_
    refine OG.effd (Eff.appendB0 (ys := op.B) rfl rfl rfl Tryz.underlying32 Tryz.underlying32 ti5 (by decide) fC (hop.B.old eX) (by omega)) rfl ?_
    rintro ⟨a59, c59⟩ -
    refine OG.sg rfl rfl ?_
    refine OG.nil ?_
    refine QG.then ?_
    refine CG.seq ?_
    refine CG.seq ?_
    refine CG.region ?_
    refine OG.yield (Yield.fieldAddr fa37_0 rfl) rfl ?_
    refine OG.yield (Yield.loadA ti3 rfl) rfl ?_
    refine OG.nil ?_
    refine QG.then ?_
    refine CG.block ?_
    refine CG.seq ?_
    refine CG.region ?_
    refine OG.yield Yield.eqlA rfl ?_
    refine OG.sg rfl rfl ?_
    refine OG.nil ?_
    refine QG.then ?_
    refine CG.cond rfl (fun hc => ?_) (fun hc => ?_)
    · try replace hc := of_decide_eq_true hc
      refine CG.seq ?_
      refine CG.draw (.look 0 1 (.look 1 1 (.look 2 1 (.look 3 1 (.look 4 1 (.look 6 0 (.look 7 0 (.look 8 0 (.look 9 0 (.look 10 0 (.eff1 5 false (.eff1 11 false (.look 12 1 (.look 13 1 (.done))))))))))))))) [5, 11] [] ([blk b3 op.cells 37]) ([]) mixed (by kernel_rfl) (iM) (Imp.none _) ?_
      refine DG.look rfl rfl (Yield.move rfl) rfl ?_
      refine DG.look rfl rfl (Yield.fieldAddr fa37_2 rfl) rfl ?_
      refine DG.look rfl rfl (Yield.loadA ti3 rfl) rfl ?_
      refine DG.look rfl rfl (Yield.fieldAddr fa37_3 rfl) rfl ?_
      refine DG.look rfl rfl (Yield.loadA ti3 rfl) rfl ?_
      refine DG.look rfl rfl (Yield.move rfl) rfl ?_
      refine DG.look rfl rfl (Yield.fieldAddr fa37_2 rfl) rfl ?_
      refine DG.look rfl rfl (Yield.loadA ti3 rfl) rfl ?_
      refine DG.look rfl rfl (Yield.fieldAddr fa37_3 rfl) rfl ?_
      refine DG.look rfl rfl (Yield.loadA ti3 rfl) rfl ?_
      refine DG.eff1 ?_
      refine Chg.callo rfl rfl call24 rfl (iM) (map_spec W0 _ (s := e.s) (m := z.m) (f := z.f) (t := z.t) (k := e.k) (r := e.r) h.lk hq hf.hq hf.rt op.Page op.Perm) rfl (fun _ => iM) (fun _ => Imp.refl _) (fun _ => iM) ?_
      rintro σ2 L2
      refine DG.eff1 ?_
      refine Chg.callo rfl rfl call25 rfl (iM) (rmap_spec W0 _ (o := o) (b := e.b) (w := z.bw) (k := e.k) (ts := z.ts e.k) (fr := (o.fr : Int)) (qk := qk) (ls := lefO qs (rtOf z.sl) o) op.Page op.Perm hf.ts hf.get hll (by omega) ⟨hle, by omega⟩) rfl (fun _ => iM) (fun _ => Imp.refl _) (fun _ => iM) ?_
      rintro ts2 hT2
      refine DG.look rfl rfl Yield.eqlA rfl ?_
      refine DG.look rfl rfl (Yield.assign rfl) rfl ?_
      refine DG.done ?_
      refine QG.then ?_
      refine CG.ret ?_
      refine QG.block_ret ?_
      refine QG.pass_ret ?_
      exact QG.ret1 rfl rfl ((mapO qk o e.k op.Page op.Perm).2, z.upd e.k (ts2) σ2) ⟨(zo_ok h hj (stp_map hf.le) L2 hT2).mono (by omega), rfl, rfl⟩ rfl (Imp.trans (B := ZO n qs z e (s1F z j) (s2F o z j) (RS e.b z.bw e.k (pvs (mapO qk o e.k op.Page op.Perm).2 e.k) (ts2)) (RWd z.bw e.k o (mapO qk o e.k op.Page op.Perm).2 o.fr (qk - used o e.k) (lefO qs (rtOf z.sl) o)) σ2 (old W0 :: Fr)) iM (zo_close h hj hf.hq (stp_map hf.le)))
    · try replace hc := of_decide_eq_false hc
      refine CG.seq ?_
      refine CG.region ?_
      refine OG.yield Yield.eqlA rfl ?_
      refine OG.sg rfl rfl ?_
      refine OG.nil ?_
      refine QG.then ?_
      refine CG.cond rfl (fun hc => ?_) (fun hc => ?_)
      · try replace hc := of_decide_eq_true hc
        refine CG.seq ?_
        refine CG.draw (.look 0 1 (.look 1 1 (.look 2 1 (.look 4 0 (.look 5 0 (.look 6 0 (.eff1 3 false (.eff1 7 false (.look 8 1 (.look 9 1 (.done))))))))))) [3, 7] [] ([blk b3 op.cells 37]) ([]) mixed (by kernel_rfl) (iM) (Imp.none _) ?_
        refine DG.look rfl rfl (Yield.move rfl) rfl ?_
        refine DG.look rfl rfl (Yield.fieldAddr fa37_2 rfl) rfl ?_
        refine DG.look rfl rfl (Yield.loadA ti3 rfl) rfl ?_
        refine DG.look rfl rfl (Yield.move rfl) rfl ?_
        refine DG.look rfl rfl (Yield.fieldAddr fa37_2 rfl) rfl ?_
        refine DG.look rfl rfl (Yield.loadA ti3 rfl) rfl ?_
        refine DG.eff1 ?_
        refine Chg.callo rfl rfl call26 rfl (iM) (unmap_spec W0 _ (s := e.s) (m := z.m) (f := z.f) (t := z.t) (k := e.k) (r := e.r) h.lk hf.hq hf.rt op.Page) rfl (fun _ => iM) (fun _ => Imp.refl _) (fun _ => iM) ?_
        rintro σ2 L2
        refine DG.eff1 ?_
        refine Chg.callo rfl rfl call27 rfl (iM) (runmap_spec W0 _ (o := o) (b := e.b) (w := z.bw) (k := e.k) (ts := z.ts e.k) (fr := (o.fr : Int)) (q := qk - used o e.k) (ls := lefO qs (rtOf z.sl) o) op.Page hf.get hll (by omega) (by omega)) rfl (fun _ => iM) (fun _ => Imp.refl _) (fun _ => iM) ?_
        rintro ⟨⟩ -
        refine DG.look rfl rfl Yield.eqlA rfl ?_
        refine DG.look rfl rfl (Yield.assign rfl) rfl ?_
        refine DG.done ?_
        refine QG.then ?_
        refine CG.ret ?_
        refine QG.block_ret ?_
        refine QG.pass_ret ?_
        exact QG.ret1 rfl rfl ((unmapO o e.k op.Page).2, z.upd e.k (z.ts e.k) σ2) ⟨(zo_ok h hj stp_unmap L2 (tsOk_unmap hf.ts)).mono (by omega), rfl, rfl⟩ rfl (Imp.trans (B := ZO n qs z e (s1F z j) (s2F o z j) (RS e.b z.bw e.k (pvs (unmapO o e.k op.Page).2 e.k) (z.ts e.k)) (RWd z.bw e.k o (unmapO o e.k op.Page).2 o.fr (qk - used o e.k) (lefO qs (rtOf z.sl) o)) σ2 (old W0 :: Fr)) iM (zo_close h hj hf.hq stp_unmap))
      · try replace hc := of_decide_eq_false hc
        refine CG.seq ?_
        refine CG.region ?_
        refine OG.yield Yield.eqlA rfl ?_
        refine OG.sg rfl rfl ?_
        refine OG.nil ?_
        refine QG.then ?_
        refine CG.cond rfl (fun hc => ?_) (fun hc => ?_)
        · try replace hc := of_decide_eq_true hc
          refine CG.seq ?_
          refine CG.draw (.look 0 1 (.look 1 1 (.look 2 1 (.look 3 1 (.look 4 1 (.look 6 0 (.look 7 0 (.look 8 0 (.look 9 0 (.look 10 0 (.eff1 5 false (.eff1 11 false (.look 12 1 (.look 13 1 (.look 14 1 (.look 15 1 (.look 16 1 (.look 18 0 (.look 19 0 (.look 20 0 (.eff1 17 false (.eff1 21 false (.look 22 1 (.look 23 1 (.look 24 1 (.done)))))))))))))))))))))))))) [5, 11, 17, 21] [] ([blk b3 op.cells 37]) ([]) mixed (by kernel_rfl) (iM) (Imp.none _) ?_
          refine DG.look rfl rfl (Yield.move rfl) rfl ?_
          refine DG.look rfl rfl (Yield.fieldAddr fa37_2 rfl) rfl ?_
          refine DG.look rfl rfl (Yield.loadA ti3 rfl) rfl ?_
          refine DG.look rfl rfl (Yield.fieldAddr fa37_3 rfl) rfl ?_
          refine DG.look rfl rfl (Yield.loadA ti3 rfl) rfl ?_
          refine DG.look rfl rfl (Yield.move rfl) rfl ?_
          refine DG.look rfl rfl (Yield.fieldAddr fa37_2 rfl) rfl ?_
          refine DG.look rfl rfl (Yield.loadA ti3 rfl) rfl ?_
          refine DG.look rfl rfl (Yield.fieldAddr fa37_3 rfl) rfl ?_
          refine DG.look rfl rfl (Yield.loadA ti3 rfl) rfl ?_
          refine DG.eff1 ?_
          refine Chg.callo rfl rfl call28 rfl (iM) (protect_spec W0 _ (s := e.s) (m := z.m) (f := z.f) (t := z.t) (k := e.k) (r := e.r) h.lk hf.rt op.Page op.Perm) rfl (fun _ => iM) (fun _ => Imp.refl _) (fun _ => iM) ?_
          rintro σ2 L2
          refine DG.eff1 ?_
          refine Chg.callo rfl rfl call29 rfl (iM) (rprotect_spec W0 _ (o := o) (b := e.b) (w := z.bw) (k := e.k) (ts := z.ts e.k) op.Page op.Perm) rfl (fun _ => iM) (fun _ => Imp.refl _) (fun _ => iM) ?_
          rintro ⟨⟩ -
          refine DG.look rfl rfl (Yield.as (Yield.eql rfl rfl) (v' := .bool true) (bT rfl)) rfl ?_
          refine DG.look rfl rfl (Yield.move rfl) rfl ?_
          refine DG.look rfl rfl (Yield.move rfl) rfl ?_
          refine DG.look rfl rfl (Yield.fieldAddr fa37_2 rfl) rfl ?_
          refine DG.look rfl rfl (Yield.loadA ti3 rfl) rfl ?_
          refine DG.look rfl rfl (Yield.move rfl) rfl ?_
          refine DG.look rfl rfl (Yield.fieldAddr fa37_2 rfl) rfl ?_
          refine DG.look rfl rfl (Yield.loadA ti3 rfl) rfl ?_
          refine DG.eff1 ?_
          refine Chg.callo rfl rfl call14 rfl (iM) (prmO_spec W0 _ (s := e.s) (m := z.m) (f := z.f) (t := z.t) (k := e.k) (r := e.r) L2 hf.rt op.Page) rfl (fun _ => iM) (fun _ => Imp.refl _) (fun _ => iM) ?_
          rintro ⟨⟩ -
          refine DG.eff1 ?_
          refine Chg.callo rfl rfl call30 rfl (iM) (rperm_spec W0 _ (o := (protO o e.k op.Page op.Perm).2) (b := e.b) (w := z.bw) (k := e.k) (ts := z.ts e.k) op.Page) rfl (fun _ => iM) (fun _ => Imp.refl _) (fun _ => iM) ?_
          rintro ⟨⟩ -
          refine DG.look rfl rfl (Yield.as (Yield.eql rfl rfl) (v' := .bool true) (bT rfl)) rfl ?_
          refine DG.look rfl rfl Yield.pickA rfl ?_
          refine DG.look rfl rfl (Yield.assign rfl) rfl ?_
          refine DG.done ?_
          refine QG.then ?_
          refine CG.ret ?_
          refine QG.block_ret ?_
          refine QG.pass_ret ?_
          exact QG.ret1 rfl rfl ((protO o e.k op.Page op.Perm).2, z.upd e.k (z.ts e.k) σ2) ⟨(zo_ok h hj stp_prot.1 L2 (tsOk_prot hf.ts)).mono (by omega), rfl, rfl⟩ rfl (Imp.trans (B := ZO n qs z e (s1F z j) (s2F o z j) (RS e.b z.bw e.k (pvs (protO o e.k op.Page op.Perm).2 e.k) (z.ts e.k)) (RW z.bw o.fr (lefO qs (rtOf z.sl) o)) σ2 (old W0 :: Fr)) iM (zo_close0 h hj hf stp_prot.1 stp_prot.2))
        · try replace hc := of_decide_eq_false hc
          refine CG.seq ?_
          refine CG.region ?_
          refine OG.yield Yield.eqlA rfl ?_
          refine OG.sg rfl rfl ?_
          refine OG.nil ?_
          refine QG.then ?_
          refine CG.cond rfl (fun hc => ?_) (fun hc => ?_)
          · try replace hc := of_decide_eq_true hc
            refine CG.seq ?_
            refine CG.region ?_
            refine OG.mv rfl rfl ?_
            refine OG.yield (Yield.fieldAddr fa37_4 rfl) rfl ?_
            refine OG.yield (Yield.as (Yield.load (v := .int .u32 op.Addr) ti30 rfl (Cel.of_blk (b := b3) eX rfl)) (v' := .int .u32 ad) (by rw [had])) rfl ?_
            refine OG.yield (Yield.fieldAddr fa37_5 rfl) rfl ?_
            refine OG.yield (Yield.loadA ti3 rfl) rfl ?_
            refine OG.yield (Yield.fieldAddr fa37_3 rfl) rfl ?_
            refine OG.yield (Yield.loadA ti3 rfl) rfl ?_
            refine OG.callo call31 rfl (iM) (read_spec W0 _ (s := e.s) (m := z.m) (f := z.f) (t := z.t) (k := e.k) (r := e.r) h.lk hf.rt (by omega) (ad := ad) (by omega) op.Size op.Perm) rfl ?_
            rintro σ2 L2
            refine OG.mv rfl rfl ?_
            refine OG.yield (Yield.extract rfl rfl) rfl ?_
            refine OG.yield (Yield.extract rfl rfl) rfl ?_
            refine OG.sg rfl rfl ?_
            refine OG.sg rfl rfl ?_
            refine OG.nil ?_
            refine QG.then ?_
            refine CG.seq ?_
            refine CG.region ?_
            refine OG.mv rfl rfl ?_
            refine OG.yield (Yield.fieldAddr fa37_4 rfl) rfl ?_
            refine OG.yield (Yield.as (Yield.load (v := .int .u32 op.Addr) ti30 rfl (Cel.of_blk (b := b3) eX rfl)) (v' := .int .u32 ad) (by rw [had])) rfl ?_
            refine OG.yield (Yield.fieldAddr fa37_5 rfl) rfl ?_
            refine OG.yield (Yield.loadA ti3 rfl) rfl ?_
            refine OG.yield (Yield.fieldAddr fa37_3 rfl) rfl ?_
            refine OG.yield (Yield.loadA ti3 rfl) rfl ?_
            refine OG.callo call32 rfl (iM) (rread_spec W0 _ (o := o) (b := e.b) (w := z.bw) (k := e.k) (ts := z.ts e.k) hf.obk (ad := ad) (sz := op.Size) (how := op.Perm) (by omega)) rfl ?_
            rintro ⟨⟩ -
            refine OG.mv rfl rfl ?_
            refine OG.yield (Yield.extract rfl rfl) rfl ?_
            refine OG.yield (Yield.extract rfl rfl) rfl ?_
            refine OG.sg rfl rfl ?_
            refine OG.sg rfl rfl ?_
            refine OG.nil ?_
            refine QG.then ?_
            refine CG.seq ?_
            refine CG.region ?_
            refine OG.mv rfl rfl ?_
            refine OG.mv rfl rfl ?_
            refine OG.yield (Yield.as (Yield.eql rfl rfl) (v' := .bool true) (bT rfl)) rfl ?_
            refine OG.mv rfl rfl ?_
            refine OG.gy rfl rfl rfl ?_
            refine OG.mv rfl rfl ?_
            refine OG.gy rfl rfl rfl ?_
            refine OG.mv rfl rfl ?_
            refine OG.gy rfl rfl rfl ?_
            refine OG.yield (Yield.as (Yield.eql rfl rfl) (v' := .bool true) (bT rfl)) rfl ?_
            refine OG.yield Yield.pickA rfl ?_
            refine OG.sg rfl rfl ?_
            refine OG.nil ?_
            refine QG.then ?_
            refine CG.ret ?_
            refine QG.block_ret ?_
            refine QG.pass_ret ?_
            exact QG.ret1 rfl rfl (o, z.upd e.k (z.ts e.k) σ2) ⟨(zo_ok h hj (⟨Stp.refl, dO_same⟩ : Stp o o e.k ∧ dO o o e.k = 0).1 L2 hf.ts).mono (by omega), rfl, rfl⟩ rfl (Imp.trans (B := ZO n qs z e (s1F z j) (s2F o z j) (RS e.b z.bw e.k (pvs o e.k) (z.ts e.k)) (RW z.bw o.fr (lefO qs (rtOf z.sl) o)) σ2 (old W0 :: Fr)) iM (zo_close0 h hj hf (⟨Stp.refl, dO_same⟩ : Stp o o e.k ∧ dO o o e.k = 0).1 (⟨Stp.refl, dO_same⟩ : Stp o o e.k ∧ dO o o e.k = 0).2))
          · try replace hc := of_decide_eq_false hc
            refine CG.seq ?_
            refine CG.region ?_
            refine OG.yield Yield.eqlA rfl ?_
            refine OG.sg rfl rfl ?_
            refine OG.nil ?_
            refine QG.then ?_
            refine CG.cond rfl (fun hc => ?_) (fun hc => ?_)
            · try replace hc := of_decide_eq_true hc
              refine CG.seq ?_
              refine CG.draw (.look 0 1 (.look 1 1 (.look 2 1 (.look 3 1 (.look 4 1 (.look 5 1 (.look 6 1 (.look 8 0 (.look 9 0 (.look 10 0 (.look 11 0 (.look 12 0 (.look 13 0 (.look 14 0 (.eff1 7 false (.eff1 15 false (.look 16 1 (.look 17 1 (.done))))))))))))))))))) [7, 15] [] ([blk b3 op.cells 37]) ([]) mixed (by kernel_rfl) (iM) (Imp.none _) ?_
              refine DG.look rfl rfl (Yield.move rfl) rfl ?_
              refine DG.look rfl rfl (Yield.fieldAddr fa37_4 rfl) rfl ?_
              refine DG.look rfl rfl (Yield.as (Yield.load (v := .int .u32 op.Addr) ti30 rfl (Cel.of_blk (b := b3) eX rfl)) (v' := .int .u32 ad) (by rw [had])) rfl ?_
              refine DG.look rfl rfl (Yield.fieldAddr fa37_5 rfl) rfl ?_
              refine DG.look rfl rfl (Yield.loadA ti3 rfl) rfl ?_
              refine DG.look rfl rfl (Yield.fieldAddr fa37_6 rfl) rfl ?_
              refine DG.look rfl rfl (Yield.as (Yield.load (v := .int .u64 op.V) ti31 rfl (Cel.of_blk (b := b3) eX rfl)) (v' := .int .u64 v) (by rw [hv])) rfl ?_
              refine DG.look rfl rfl (Yield.move rfl) rfl ?_
              refine DG.look rfl rfl (Yield.fieldAddr fa37_4 rfl) rfl ?_
              refine DG.look rfl rfl (Yield.as (Yield.load (v := .int .u32 op.Addr) ti30 rfl (Cel.of_blk (b := b3) eX rfl)) (v' := .int .u32 ad) (by rw [had])) rfl ?_
              refine DG.look rfl rfl (Yield.fieldAddr fa37_5 rfl) rfl ?_
              refine DG.look rfl rfl (Yield.loadA ti3 rfl) rfl ?_
              refine DG.look rfl rfl (Yield.fieldAddr fa37_6 rfl) rfl ?_
              refine DG.look rfl rfl (Yield.as (Yield.load (v := .int .u64 op.V) ti31 rfl (Cel.of_blk (b := b3) eX rfl)) (v' := .int .u64 v) (by rw [hv])) rfl ?_
              refine DG.eff1 ?_
              refine Chg.callo rfl rfl call33 rfl (iM) (write_spec W0 _ (s := e.s) (m := z.m) (f := z.f) (t := z.t) (k := e.k) (r := e.r) h.lk hf.rt (by omega) (ad := ad) (v := v) (by omega) (by omega) op.Size) rfl (fun _ => iM) (fun _ => Imp.refl _) (fun _ => iM) ?_
              rintro σ2 L2
              refine DG.eff1 ?_
              refine Chg.callo rfl rfl call34 rfl (iM) (rwrite_spec W0 _ (o := o) (b := e.b) (w := z.bw) (k := e.k) (ts := z.ts e.k) hf.obk (ad := ad) (v := v) (sz := op.Size) (by omega) (by omega)) rfl (fun _ => iM) (fun _ => Imp.refl _) (fun _ => iM) ?_
              rintro ⟨⟩ -
              refine DG.look rfl rfl (Yield.as (Yield.eql rfl rfl) (v' := .bool true) (bT rfl)) rfl ?_
              refine DG.look rfl rfl (Yield.assign rfl) rfl ?_
              refine DG.done ?_
              refine QG.then ?_
              refine CG.ret ?_
              refine QG.block_ret ?_
              refine QG.pass_ret ?_
              exact QG.ret1 rfl rfl ((writeO o e.k ad op.Size v).2, z.upd e.k (z.ts e.k) σ2) ⟨(zo_ok h hj stp_write.1 L2 (tsOk_write hf.ts)).mono (by omega), rfl, rfl⟩ rfl (Imp.trans (B := ZO n qs z e (s1F z j) (s2F o z j) (RS e.b z.bw e.k (pvs (writeO o e.k ad op.Size v).2 e.k) (z.ts e.k)) (RW z.bw o.fr (lefO qs (rtOf z.sl) o)) σ2 (old W0 :: Fr)) iM (zo_close0 h hj hf stp_write.1 stp_write.2))
            · try replace hc := of_decide_eq_false hc
              refine CG.seq ?_
              refine CG.region ?_
              refine OG.yield Yield.eqlA rfl ?_
              refine OG.sg rfl rfl ?_
              refine OG.nil ?_
              refine QG.then ?_
              refine CG.cond rfl (fun hc => ?_) (fun hc => ?_)
              · try replace hc := of_decide_eq_true hc
                refine CG.seq ?_
                refine CG.region ?_
                refine OG.mv rfl rfl ?_
                refine OG.yield (Yield.fieldAddr fa37_4 rfl) rfl ?_
                refine OG.yield (Yield.as (Yield.load (v := .int .u32 op.Addr) ti30 rfl (Cel.of_blk (b := b3) eX rfl)) (v' := .int .u32 ad) (by rw [had])) rfl ?_
                refine OG.yield (Yield.fieldAddr fa37_5 rfl) rfl ?_
                refine OG.yield (Yield.loadA ti3 rfl) rfl ?_
                refine OG.callo call15 rfl (iM) (in_spec W0 _ (s := e.s) (m := z.m) (f := z.f) (t := z.t) (k := e.k) (r := e.r) h.lk hf.rt (by omega) (ad := ad) (by omega) op.Size) rfl ?_
                rintro ⟨ia, ic, ib, σ2⟩ ⟨hib, L2⟩
                dsimp only at hib L2 ⊢
                refine OG.mv rfl rfl ?_
                refine OG.yield (Yield.extract rfl rfl) rfl ?_
                refine OG.yield (Yield.extract rfl rfl) rfl ?_
                refine OG.sg rfl rfl ?_
                refine OG.sg rfl rfl ?_
                refine OG.nil ?_
                refine QG.then ?_
                refine CG.seq ?_
                refine CG.region ?_
                refine OG.mv rfl rfl ?_
                refine OG.yield (Yield.fieldAddr fa37_4 rfl) rfl ?_
                refine OG.yield (Yield.as (Yield.load (v := .int .u32 op.Addr) ti30 rfl (Cel.of_blk (b := b3) eX rfl)) (v' := .int .u32 ad) (by rw [had])) rfl ?_
                refine OG.yield (Yield.fieldAddr fa37_5 rfl) rfl ?_
                refine OG.yield (Yield.loadA ti3 rfl) rfl ?_
                refine OG.callo call35 rfl (iM) (rin_spec W0 _ (o := o) (b := e.b) (w := z.bw) (k := e.k) (ts := z.ts e.k) hf.obk (ad := ad) (by omega) op.Size) rfl ?_
                rintro ⟨ja, jc, jb⟩ hjb
                dsimp only at hjb ⊢
                rw [← hib] at hjb
                subst hjb
                have hil := inO_len o e.k ad op.Size
                rw [← hib] at hil
                generalize (inO o e.k ad op.Size).2 = ie
                refine OG.mv rfl rfl ?_
                refine OG.yield (Yield.extract rfl rfl) rfl ?_
                refine OG.yield (Yield.extract rfl rfl) rfl ?_
                refine OG.sg rfl rfl ?_
                refine OG.sg rfl rfl ?_
                refine OG.nil ?_
                refine QG.then ?_
                refine CG.seq ?_
                refine CG.region ?_
                refine OG.mv rfl rfl ?_
                refine OG.mv rfl rfl ?_
                refine OG.yield (Yield.as (Yield.eql rfl rfl) (v' := .bool true) (bT rfl)) rfl ?_
                refine OG.mv rfl rfl ?_
                refine OG.gy rfl rfl rfl ?_
                refine OG.mv rfl rfl ?_
                refine OG.gy rfl rfl rfl ?_
                refine OG.yield (Yield.toStr (bs := jb) Tryz.underlying32 Tryz.underlying9 Tryz.underlying5 rfl (SlR.of_osl (E := 5) (a := ia) eX)) rfl ?_
                refine OG.gy rfl rfl rfl ?_
                refine OG.mv rfl rfl ?_
                refine OG.gy rfl rfl rfl ?_
                refine OG.yield (Yield.toStr (bs := jb) Tryz.underlying32 Tryz.underlying9 Tryz.underlying5 rfl (SlR.of_osl (E := 5) (a := ja) eX)) rfl ?_
                refine OG.gy rfl rfl rfl ?_
                refine OG.yield (by first | exact Yield.str_same rfl rfl | exact Yield.str_eql rfl rfl) rfl ?_
                refine OG.yield Yield.pickA rfl ?_
                refine OG.sg rfl rfl ?_
                refine OG.nil ?_
                refine QG.then ?_
                refine CG.seq ?_
                refine CG.seq ?_
                refine CG.region ?_
                refine OG.sg rfl rfl ?_
                refine OG.nil ?_
                refine QG.then ?_
                refine CG.block ?_
                refine CG.loop (fun y : Nat × List UInt8 => y.1 ≤ jb.length ∧ y.2.length = jb.length) (fun y => [(13, .slice ia y.2.length ic), (17, .bool true), (18, .int .i64 y.1)]) (fun y => oby 5 ia ic y.2 :: ZG n qs o (z.upd e.k (z.ts e.k) σ2) (old W0 :: Fr)) (fun y => jb.length - y.1) (0, jb) ⟨Nat.zero_le _, rfl⟩ eS (Imp.pull (A := oby 5 ia ic jb) eX (Imp.trans (B := ZO n qs z e (s1F z j) (s2F o z j) (RS e.b z.bw e.k (pvs o e.k) (z.ts e.k)) (RW z.bw o.fr (lefO qs (rtOf z.sl) o)) σ2 (old W0 :: Fr)) iM (zo_close0 h hj hf Stp.refl dO_same))) ?_
                rintro ⟨i, xs⟩ ⟨hi, hxl⟩
                dsimp only at hi hxl ⊢
                refine CG.seq ?_
                refine CG.seq ?_
                refine CG.region ?_
                refine OG.mv rfl rfl ?_
                refine OG.mv rfl rfl ?_
                refine OG.yield (Yield.len_slice Tryz.underlying32 rfl rfl) rfl ?_
                refine OG.yield Yield.lssA rfl ?_
                refine OG.nil ?_
                refine QG.then ?_
                refine CG.cond rfl (fun hc => ?_) (fun hc => ?_)
                · try replace hc := of_decide_eq_true hc
                  obtain ⟨b0, hb0⟩ : ∃ b0, xs[i]? = some b0 := ⟨_, List.getElem?_eq_getElem (by omega)⟩
                  refine CG.pure (fun w hw => SlR.shape (SlR.of_osl (W0 := W0) (E := 5) (a := ia) (c := ic) (m := xs.length) (xs := bytesV xs) eX) (fun q => by have := congrArg List.length q; rw [bytesV_length] at this; simp only [List.length_nil] at this; omega) w hw) ?_
                  rintro ⟨il, io, rfl⟩
                  refine CG.skip ?_
                  refine QG.then ?_
                  refine CG.seq ?_
                  refine CG.block ?_
                  refine CG.region ?_
                  refine OG.mv rfl rfl ?_
                  refine OG.mv rfl rfl ?_
                  refine OG.yield (Yield.index_slice Tryz.underlying32 ti5 rfl rfl (by omega) (by omega)) rfl ?_
                  refine OG.yield (Yield.load (v := byteV b0) ti5 rfl (by rw [show io + (i : Int).toNat * 1 = io + i by omega]; exact SlR.cel (i := i) (SlR.of_osl (W0 := W0) (E := 5) (a := some ⟨il, io, none⟩) (c := ic) (m := xs.length) (xs := bytesV xs) eX) (by rw [bytesV_get hb0]))) rfl ?_
                  refine OG.yield (Yield.as (Yield.add rfl rfl rfl) (v' := byteV (byteI ((b0.toNat : Int) + 1))) (by unfold byteV; rw [byteI_val])) rfl ?_
                  refine OG.yield (Yield.index_slice Tryz.underlying32 ti5 rfl rfl (by omega) (by omega)) rfl ?_
                  refine OG.eff (Eff.storeByteS (b := il) (o := io) (i := i) (bs := xs) (z := byteI ((b0.toNat : Int) + 1)) ti5 (show io + (i : Int).toNat * 1 = io + i by omega) rfl rfl fC (by omega)) rfl ?_
                  rintro ⟨⟩ -
                  refine OG.nil ?_
                  refine QG.block_normal ?_
                  refine QG.then ?_
                  refine CG.region ?_
                  refine OG.mv rfl rfl ?_
                  refine OG.yield (Yield.add rfl rfl (w64 (by omega) (by omega))) rfl ?_
                  refine OG.sg rfl rfl ?_
                  refine OG.nil ?_
                  exact QG.next (i + 1, xs.set i (byteI ((b0.toNat : Int) + 1))) ⟨by simp only; omega, by rw [List.length_set]; exact hxl⟩ (by simp only; omega) (by simp only [List.length_set]; exact eS) iM
                · try replace hc := of_decide_eq_false hc
                  refine CG.exit ?_
                  refine QG.pass_exit ?_
                  refine QG.pass_exit ?_
                  refine QG.block_exit ?_
                  refine QG.then ?_
                  refine CG.seq ?_
                  refine CG.region ?_
                  refine OG.mv rfl rfl ?_
                  refine OG.sg rfl rfl ?_
                  refine OG.nil ?_
                  refine QG.then ?_
                  refine CG.ret ?_
                  refine QG.block_ret ?_
                  refine QG.pass_ret ?_
                  exact QG.ret1 rfl rfl (o, z.upd e.k (z.ts e.k) σ2) ⟨(zo_ok h hj Stp.refl L2 hf.ts).mono (by omega), rfl, rfl⟩ rfl iM
              · try replace hc := of_decide_eq_false hc
                refine CG.seq ?_
                refine CG.region ?_
                refine OG.yield Yield.eqlA rfl ?_
                refine OG.sg rfl rfl ?_
                refine OG.nil ?_
                refine QG.then ?_
                refine CG.cond rfl (fun hc => ?_) (fun hc => ?_)
                · try replace hc := of_decide_eq_true hc
                  refine CG.seq ?_
                  refine CG.draw (.look 0 1 (.look 1 1 (.look 2 1 (.look 3 1 (.look 5 0 (.look 6 0 (.look 7 0 (.look 8 0 (.look 9 0 (.eff1 4 false (.eff1 10 false (.look 11 1 (.look 12 1 (.look 13 1 (.look 14 1 (.look 15 1 (.look 16 1 (.look 17 1 (.look 18 1 (.look 19 1 (.look 20 1 (.done)))))))))))))))))))))) [4, 10] [] ([blk b3 op.cells 37]) ([]) mixed (by kernel_rfl) (iM) (Imp.none _) ?_
                  refine DG.look rfl rfl (Yield.move rfl) rfl ?_
                  refine DG.look rfl rfl (Yield.fieldAddr fa37_4 rfl) rfl ?_
                  refine DG.look rfl rfl (Yield.as (Yield.load (v := .int .u32 op.Addr) ti30 rfl (Cel.of_blk (b := b3) eX rfl)) (v' := .int .u32 ad) (by rw [had])) rfl ?_
                  refine DG.look rfl rfl (Yield.move rfl) rfl ?_
                  refine DG.look rfl rfl (Yield.move rfl) rfl ?_
                  refine DG.look rfl rfl (Yield.fieldAddr fa37_4 rfl) rfl ?_
                  refine DG.look rfl rfl (Yield.as (Yield.load (v := .int .u32 op.Addr) ti30 rfl (Cel.of_blk (b := b3) eX rfl)) (v' := .int .u32 ad) (by rw [had])) rfl ?_
                  refine DG.look rfl rfl (Yield.fieldAddr fa37_7 rfl) rfl ?_
                  refine DG.look rfl rfl (Yield.load (v := .slice op.Ba op.B.length op.Bc) ti32 rfl (Cel.of_blk (b := b3) eX rfl)) rfl ?_
                  refine DG.eff1 ?_
                  refine Chg.callo rfl rfl call12 rfl (iM) (out_of W0 _ (s := e.s) (m := z.m) (f := z.f) (t := z.t) (k := e.k) (r := e.r) (ba := a59) (bc := c59) (b := op.B) (by exact RdB.of_osl (E := 5) eX rfl rfl) h.lk hf.rt (by omega) (ad := ad) (by omega)) rfl (fun _ => iM) (fun _ => Imp.refl _) (fun _ => iM) ?_
                  rintro σ2 L2
                  refine DG.eff1 ?_
                  refine Chg.callo rfl rfl call36 rfl (iM) (rout_spec W0 _ (o := o) (b := e.b) (w := z.bw) (k := e.k) (ts := z.ts e.k) hf.obk (ad := ad) (by omega) (ba := op.Ba) (bc := op.Bc) (bs := op.B) (by exact RdB.of_slR (hop.B.old eX) hop.Bc)) rfl (fun _ => iM) (fun _ => Imp.refl _) (fun _ => iM) ?_
                  rintro ⟨⟩ -
                  refine DG.look rfl rfl (Yield.as (Yield.eql rfl rfl) (v' := .bool true) (bT rfl)) rfl ?_
                  refine DG.look rfl rfl (Yield.move rfl) rfl ?_
                  refine DG.look rfl rfl (Yield.move rfl) rfl ?_
                  refine DG.look rfl rfl (Yield.toStr (bs := op.B) Tryz.underlying32 Tryz.underlying9 Tryz.underlying5 rfl (SlR.of_osl (E := 5) (a := a59) eX)) rfl ?_
                  refine DG.look rfl rfl (Yield.fieldAddr fa37_7 rfl) rfl ?_
                  refine DG.look rfl rfl (Yield.load (v := .slice op.Ba op.B.length op.Bc) ti32 rfl (Cel.of_blk (b := b3) eX rfl)) rfl ?_
                  refine DG.look rfl rfl (Yield.toStr (bs := op.B) Tryz.underlying32 Tryz.underlying9 Tryz.underlying5 rfl (hop.B.old eX)) rfl ?_
                  refine DG.look rfl rfl (by first | exact Yield.str_same rfl rfl | exact Yield.str_eql rfl rfl) rfl ?_
                  refine DG.look rfl rfl Yield.pickA rfl ?_
                  refine DG.look rfl rfl (Yield.assign rfl) rfl ?_
                  refine DG.done ?_
                  refine QG.then ?_
                  refine CG.seq ?_
                  refine CG.seq ?_
                  refine CG.region ?_
                  refine OG.sg rfl rfl ?_
                  refine OG.nil ?_
                  refine QG.then ?_
                  refine CG.block ?_
                  refine CG.loop (fun y : Nat × List UInt8 => y.1 ≤ op.B.length ∧ y.2.length = op.B.length) (fun y => [(8, .slice a59 y.2.length c59), (19, .bool true), (20, .int .i64 y.1)]) (fun y => oby 5 a59 c59 y.2 :: ZG n qs (outR o e.k ad op.B).2 (z.upd e.k (z.ts e.k) σ2) (old W0 :: Fr)) (fun y => op.B.length - y.1) (0, op.B) ⟨Nat.zero_le _, rfl⟩ eS (Imp.pull (A := oby 5 a59 c59 op.B) eX (Imp.trans (B := ZO n qs z e (s1F z j) (s2F o z j) (RS e.b z.bw e.k (pvs (outR o e.k ad op.B).2 e.k) (z.ts e.k)) (RW z.bw o.fr (lefO qs (rtOf z.sl) o)) σ2 (old W0 :: Fr)) iM (zo_close0 h hj hf stp_out.1 stp_out.2))) ?_
                  rintro ⟨i, xs⟩ ⟨hi, hxl⟩
                  dsimp only at hi hxl ⊢
                  refine CG.seq ?_
                  refine CG.seq ?_
                  refine CG.region ?_
                  refine OG.mv rfl rfl ?_
                  refine OG.mv rfl rfl ?_
                  refine OG.yield (Yield.len_slice Tryz.underlying32 rfl rfl) rfl ?_
                  refine OG.yield Yield.lssA rfl ?_
                  refine OG.nil ?_
                  refine QG.then ?_
                  refine CG.cond rfl (fun hc => ?_) (fun hc => ?_)
                  · try replace hc := of_decide_eq_true hc
                    refine CG.pure (fun w hw => SlR.shape (SlR.of_osl (W0 := W0) (E := 5) (a := a59) (c := c59) (m := xs.length) (xs := bytesV xs) eX) (fun q => by have := congrArg List.length q; rw [bytesV_length] at this; simp only [List.length_nil] at this; omega) w hw) ?_
                    rintro ⟨il, io, rfl⟩
                    refine CG.skip ?_
                    refine QG.then ?_
                    refine CG.seq ?_
                    refine CG.block ?_
                    refine CG.region ?_
                    refine OG.mv rfl rfl ?_
                    refine OG.mv rfl rfl ?_
                    refine OG.yield (Yield.index_slice Tryz.underlying32 ti5 rfl rfl (by omega) (by omega)) rfl ?_
                    refine OG.eff (Eff.storeByteS (b := il) (o := io) (i := i) (bs := xs) (z := 77) ti5 (show io + (i : Int).toNat * 1 = io + i by omega) rfl rfl fC (by omega)) rfl ?_
                    rintro ⟨⟩ -
                    refine OG.nil ?_
                    refine QG.block_normal ?_
                    refine QG.then ?_
                    refine CG.region ?_
                    refine OG.mv rfl rfl ?_
                    refine OG.yield (Yield.add rfl rfl (w64 (by omega) (by omega))) rfl ?_
                    refine OG.sg rfl rfl ?_
                    refine OG.nil ?_
                    exact QG.next (i + 1, xs.set i 77) ⟨by simp only; omega, by rw [List.length_set]; exact hxl⟩ (by simp only; omega) (by simp only [List.length_set]; exact eS) iM
                  · try replace hc := of_decide_eq_false hc
                    refine CG.exit ?_
                    refine QG.pass_exit ?_
                    refine QG.pass_exit ?_
                    refine QG.block_exit ?_
                    refine QG.then ?_
                    refine CG.seq ?_
                    refine CG.region ?_
                    refine OG.mv rfl rfl ?_
                    refine OG.sg rfl rfl ?_
                    refine OG.nil ?_
                    refine QG.then ?_
                    refine CG.ret ?_
                    refine QG.block_ret ?_
                    refine QG.pass_ret ?_
                    exact QG.ret1 rfl rfl ((outR o e.k ad op.B).2, z.upd e.k (z.ts e.k) σ2) ⟨(zo_ok h hj stp_out.1 L2 (tsOk_out hf.ts)).mono (by omega), rfl, rfl⟩ rfl iM
                · try replace hc := of_decide_eq_false hc
                  refine CG.seq ?_
                  refine CG.region ?_
                  refine OG.yield Yield.eqlA rfl ?_
                  refine OG.sg rfl rfl ?_
                  refine OG.nil ?_
                  refine QG.then ?_
                  refine CG.cond rfl (fun hc => ?_) (fun hc => ?_)
                  · try replace hc := of_decide_eq_true hc
                    refine CG.seq ?_
                    refine CG.region ?_
                    refine OG.yield (Yield.fieldAddr fa37_8 rfl) rfl ?_
                    refine OG.yield (Yield.load_agg (vs := [.int .u32 op.I_Entry, .slice op.I_Sectionsa op.I_Sections.length op.I_Sectionsc]) ti35 rfl rfl (Row.of_blk (b := b3) eX rfl)) rfl ?_
                    refine OG.callo call17 rfl (Imp.refl _) (rcopy_spec W0 _ (en := op.I_Entry) (a := op.I_Sectionsa) (l := op.I_Sections) (c := op.I_Sectionsc) hop.I_Sectionsm (by exact secR_old hop eX)) rfl ?_
                    rintro ⟨ca, cc, cl⟩ hcl
                    dsimp only [ISO, List.cons_append, List.nil_append] at hcl ⊢
                    have hcb : ∀ s ∈ cl, s.Bytes.length ≤ reachBytes := fun s hs => by
                      have : s.v ∈ op.I_Sections.map SSec.v := by rw [← hcl]; exact List.mem_map_of_mem hs
                      obtain ⟨x, hx, hxv⟩ := List.mem_map.1 this
                      have e1 : x.Bytes = s.Bytes := congrArg (·.2.2) hxv
                      rw [← e1]; exact (hop.I_Sectionsk x hx).Bytesm
                    have hcl2 : cl.length * 40 ≤ reachBytes := by
                      have := congrArg List.length hcl
                      rw [List.length_map, List.length_map] at this
                      rw [this]; exact hop.I_Sectionsm
                    have hld := load_congr (qk := qk) (o := o) (k := e.k) (en := op.I_Entry) hcl
                    have hSC : ∀ {G : List HProp}, Imp G [osl 82 3 ca cc cl.length ((cl.map SSec.cells).flatten), Star (cl.map secB)] → SecR W0 G ca cl := fun hi => SecR.imp (SecR.of (W0 := W0) (c := cc) (G := []) hcb) hi
                    refine OG.effd (Eff.alloc ti35) rfl ?_
                    rintro b21 -
                    refine OG.eff (Eff.storeAll (vs := [.int .u32 op.I_Entry, .slice ca cl.length cc]) ti35 rfl rfl fC rfl (by simp [one]) (by simp [Value.cells])) rfl ?_
                    rintro ⟨⟩ -
                    refine OG.nil ?_
                    refine QG.then ?_
                    refine CG.seq ?_
                    refine CG.draw (.look 0 1 (.look 1 1 (.look 3 0 (.look 4 0 (.look 5 0 (.eff1 2 false (.eff1 6 false (.look 7 1 (.look 8 1 (.look 9 1 (.look 10 1 (.look 11 1 (.eff1 12 false (.look 13 1 (.look 14 1 (.done)))))))))))))))) [2, 6, 12] [] ([blk b3 op.cells 37]) ([]) mixed (by kernel_rfl) (iM) (Imp.none _) ?_
                    refine DG.look rfl rfl (Yield.move rfl) rfl ?_
                    refine DG.look rfl rfl (Yield.load_agg (vs := [.int .u32 op.I_Entry, .slice ca cl.length cc]) ti35 rfl rfl (Row.of_blk (b := b21) eX rfl)) rfl ?_
                    refine DG.look rfl rfl (Yield.move rfl) rfl ?_
                    refine DG.look rfl rfl (Yield.fieldAddr fa37_8 rfl) rfl ?_
                    refine DG.look rfl rfl (Yield.load_agg (vs := [.int .u32 op.I_Entry, .slice op.I_Sectionsa op.I_Sections.length op.I_Sectionsc]) ti35 rfl rfl (Row.of_blk (b := b3) eX rfl)) rfl ?_
                    refine DG.eff1 ?_
                    refine Chg.callo rfl rfl call16 rfl (iM) (load_spec W0 _ (s := e.s) (m := z.m) (f := z.f) (t := z.t) (k := e.k) (r := e.r) (l := cl) (a := ca) (cc := cc) hE0 (by omega) (by exact hSC iM) h.lk hq hf.hq hf.rt) rfl (fun _ => iM) (fun _ => Imp.refl _) (fun _ => iM) ?_
                    rw [hld]
                    rintro σ2 L2
                    refine DG.eff1 ?_
                    refine Chg.callo rfl rfl call37 rfl (iM) (rload_spec W0 _ (o := o) (b := e.b) (w := z.bw) (k := e.k) (ts := z.ts e.k) (fr := (o.fr : Int)) (qk := qk) (ls := lefO qs (rtOf z.sl) o) (l := op.I_Sections) (a := op.I_Sectionsa) (c := op.I_Sectionsc) hE0 (by omega) (by exact secR_old hop eX) hf.ts hf.get hll (by omega) ⟨hle, by omega⟩) rfl (fun _ => iM) (fun _ => Imp.refl _) (fun _ => iM) ?_
                    rintro ts2 hT2
                    refine DG.look rfl rfl (Yield.as (Yield.eql rfl rfl) (v' := .bool true) (bT rfl)) rfl ?_
                    refine DG.look rfl rfl (Yield.move rfl) rfl ?_
                    refine DG.look rfl rfl (Yield.load_agg (vs := [.int .u32 op.I_Entry, .slice ca cl.length cc]) ti35 rfl rfl (Row.of_blk (b := b21) eX rfl)) rfl ?_
                    refine DG.look rfl rfl (Yield.fieldAddr fa37_8 rfl) rfl ?_
                    refine DG.look rfl rfl (Yield.load_agg (vs := [.int .u32 op.I_Entry, .slice op.I_Sectionsa op.I_Sections.length op.I_Sectionsc]) ti35 rfl rfl (Row.of_blk (b := b3) eX rfl)) rfl ?_
                    refine DG.eff1 ?_
                    refine Chg.callo rfl rfl call38 rfl (Imp.refl _) (rsame_spec W0 _ (en := op.I_Entry) (a1 := ca) (l1 := cl) (c1 := cc) (a2 := op.I_Sectionsa) (l2 := op.I_Sections) (c2 := op.I_Sectionsc) hop.I_Sectionsm (by exact hSC iM) (by exact secR_old hop eX) hcl) rfl (fun _ => iM) (fun _ => Imp.refl _) (fun _ => iM) ?_
                    rintro ⟨⟩ -
                    refine DG.look rfl rfl Yield.pickA rfl ?_
                    refine DG.look rfl rfl (Yield.assign rfl) rfl ?_
                    refine DG.done ?_
                    refine QG.then ?_
                    refine CG.seq ?_
                    refine CG.seq ?_
                    refine CG.region ?_
                    refine OG.sg rfl rfl ?_
                    refine OG.nil ?_
                    refine QG.then ?_
                    refine CG.block ?_
                    refine CG.loop (fun y : Nat × List SSec => y.1 ≤ cl.length ∧ y.2.map SSec.sk = cl.map SSec.sk) (fun y => [(21, .pointer (some ⟨b21, 0, none⟩)), (22, .bool true), (23, .int .i64 y.1)]) (fun y => blk b21 [.int .u32 op.I_Entry, .slice ca cl.length cc] 35 :: (ISO ca cc y.2 ++ ZG n qs (loadO qk o e.k op.I_Entry op.I_Sections).2 (z.upd e.k ts2 σ2) (old W0 :: Fr))) (fun y => cl.length - y.1) (0, cl) ⟨Nat.zero_le _, rfl⟩ eS (Imp.pull (A := blk b21 [.int .u32 op.I_Entry, .slice ca cl.length cc] 35) eX (Imp.pull (A := osl 82 3 ca cc cl.length ((cl.map SSec.cells).flatten)) eX (Imp.pull (A := Star (cl.map secB)) eX (Imp.trans (B := ZO n qs z e (s1F z j) (s2F o z j) (RS e.b z.bw e.k (pvs (loadO qk o e.k op.I_Entry op.I_Sections).2 e.k) (ts2)) (RWd z.bw e.k o (loadO qk o e.k op.I_Entry op.I_Sections).2 o.fr (qk - used o e.k) (lefO qs (rtOf z.sl) o)) σ2 (old W0 :: Fr)) iM (zo_close h hj hf.hq (stp_load hf.le)))))) ?_
                    rintro ⟨i, xs⟩ ⟨hi, hsk⟩
                    dsimp only [ISO, List.cons_append, List.nil_append] at hi hsk ⊢
                    have hxl : xs.length = cl.length := by have := congrArg List.length hsk; rwa [List.length_map, List.length_map] at this
                    have hxb : ∀ (i : Nat) (x : SSec), xs[i]? = some x → x.Bytes.length ≤ reachBytes := fun i x hx => by
                      have e1 : (xs.map SSec.sk)[i]? = some x.sk := by rw [List.getElem?_map, hx]; rfl
                      rw [hsk] at e1
                      obtain ⟨y, hy, hyv⟩ := List.mem_map.1 (List.mem_of_getElem? e1)
                      have e2 : y.Bytes.length = x.Bytes.length := congrArg (·.2.2) hyv
                      rw [← e2]; exact hcb y hy
                    unfold reachBytes at hcl2 hxb
                    refine CG.seq ?_
                    refine CG.seq ?_
                    refine CG.region ?_
                    refine OG.mv rfl rfl ?_
                    refine OG.yield (Yield.fieldAddr fa35_1 rfl) rfl ?_
                    refine OG.yield (Yield.loadA ti33 rfl) rfl ?_
                    refine OG.yield (Yield.len_slice Tryz.underlying33 rfl rfl) rfl ?_
                    refine OG.yield Yield.lssA rfl ?_
                    refine OG.nil ?_
                    refine QG.then ?_
                    refine CG.cond rfl (fun hc => ?_) (fun hc => ?_)
                    · try replace hc := of_decide_eq_true hc
                      obtain ⟨x0, hx0⟩ : ∃ x, xs[i]? = some x := ⟨_, List.getElem?_eq_getElem (by omega)⟩
                      refine CG.pure (fun w hw => SlR.elem_shape (W0 := W0) (f := SSec.cells) (xs := xs) (i := i) (SlR.of_osl (E := 82) (a := ca) (c := cc) eX) SSec.len (by decide) (by omega) w hw) ?_
                      rintro ⟨ol, oo, rfl⟩
                      refine CG.skip ?_
                      refine QG.then ?_
                      refine CG.seq ?_
                      refine CG.block ?_
                      refine CG.seq ?_
                      refine CG.region ?_
                      refine OG.sg rfl rfl ?_
                      refine OG.nil ?_
                      refine QG.then ?_
                      refine CG.block ?_
                      refine CG.loop (fun y : Nat × List SSec => y.2.map SSec.sk = cl.map SSec.sk ∧ y.1 ≤ x0.Bytes.length) (fun y => [(21, .pointer (some ⟨b21, 0, none⟩)), (22, .bool true), (23, .int .i64 i), (24, .int .i64 y.1)]) (fun y => blk b21 [.int .u32 op.I_Entry, .slice (some ⟨ol, oo, none⟩) cl.length cc] 35 :: (ISO (some ⟨ol, oo, none⟩) cc y.2 ++ ZG n qs (loadO qk o e.k op.I_Entry op.I_Sections).2 (z.upd e.k ts2 σ2) (old W0 :: Fr))) (fun y => x0.Bytes.length - y.1) (0, xs) ⟨hsk, Nat.zero_le _⟩ eS iM ?_
                      rintro ⟨jj, ys⟩ ⟨hsk2, hjj⟩
                      dsimp only [ISO, List.cons_append, List.nil_append] at hsk2 hjj ⊢
                      have hyl : ys.length = cl.length := by have := congrArg List.length hsk2; rwa [List.length_map, List.length_map] at this
                      obtain ⟨y, hy⟩ : ∃ y, ys[i]? = some y := ⟨_, List.getElem?_eq_getElem (by omega)⟩
                      have hyx : y.Bytes.length = x0.Bytes.length := by
                        have e1 : (xs.map SSec.sk)[i]? = some x0.sk := by rw [List.getElem?_map, hx0]; rfl
                        have e2 : (ys.map SSec.sk)[i]? = some y.sk := by rw [List.getElem?_map, hy]; rfl
                        rw [hsk] at e1
                        rw [hsk2, e1] at e2
                        exact (congrArg (·.2.2) (Option.some.inj e2)).symm
                      have hxi := hxb i x0 hx0
                      refine CG.seq ?_
                      refine CG.seq ?_
                      refine CG.region ?_
                      refine OG.mv rfl rfl ?_
                      refine OG.yield (Yield.fieldAddr fa35_1 rfl) rfl ?_
                      refine OG.yield (Yield.loadA ti33 rfl) rfl ?_
                      refine OG.mv rfl rfl ?_
                      refine OG.yield (Yield.index_slice Tryz.underlying33 ti82 rfl rfl (by omega) (by omega)) rfl ?_
                      refine OG.yield (Yield.fieldAddr fa82_2 rfl) rfl ?_
                      refine OG.yield (Yield.load (v := .slice y.Bytesa y.Bytes.length y.Bytesc) ti32 rfl (by rw [show oo + (i : Int).toNat * 3 + 2 = oo + i * 3 + 2 by omega]; exact (SlR.elem (f := SSec.cells) (xs := ys) (i := i) (SlR.of_osl (W0 := W0) (E := 82) (a := some ⟨ol, oo, none⟩) (c := cc) eX) SSec.len hy) 2 _ rfl)) rfl ?_
                      refine OG.yield (Yield.len_slice Tryz.underlying32 rfl rfl) rfl ?_
                      refine OG.yield Yield.lssA rfl ?_
                      refine OG.nil ?_
                      refine QG.then ?_
                      refine CG.cond rfl (fun hc => ?_) (fun hc => ?_)
                      · try replace hc := of_decide_eq_true hc
                        have hyS : (ys.map secB)[i]? = some (secB y) := by rw [List.getElem?_map, hy]; rfl
                        refine CG.imp (Imp.trans (B := Star (ys.map secB) :: osl 82 3 (some ⟨ol, oo, none⟩) cc ys.length ((ys.map SSec.cells).flatten) :: blk b21 [.int .u32 op.I_Entry, .slice (some ⟨ol, oo, none⟩) cl.length cc] 35 :: ZG n qs (loadO qk o e.k op.I_Entry op.I_Sections).2 (z.upd e.k ts2 σ2) (old W0 :: Fr)) iM (star_take hyS)) ?_
                        obtain ⟨yp, ypm, ya, yc, yb⟩ := y
                        dsimp only at hyx hy hc ⊢
                        refine CG.pure (fun w hw => SlR.shape (SlR.of_osl (W0 := W0) (E := 5) (a := ya) (c := yc) eX) (fun q => by have := congrArg List.length q; rw [bytesV_length] at this; simp only [List.length_nil] at this; omega) w hw) ?_
                        rintro ⟨yl, yo, rfl⟩
                        obtain ⟨b0, hb0⟩ : ∃ b0, yb[jj]? = some b0 := ⟨_, List.getElem?_eq_getElem (by omega)⟩
                        refine CG.skip ?_
                        refine QG.then ?_
                        refine CG.seq ?_
                        refine CG.block ?_
                        refine CG.region ?_
                        refine OG.yield (Yield.fieldAddr fa35_1 rfl) rfl ?_
                        refine OG.yield (Yield.loadA ti33 rfl) rfl ?_
                        refine OG.mv rfl rfl ?_
                        refine OG.yield (Yield.index_slice Tryz.underlying33 ti82 rfl rfl (by omega) (by omega)) rfl ?_
                        refine OG.yield (Yield.fieldAddr fa82_2 rfl) rfl ?_
                        refine OG.yield (Yield.load (v := .slice (some ⟨yl, yo, none⟩) yb.length yc) ti32 rfl (by rw [show oo + (i : Int).toNat * 3 + 2 = oo + i * 3 + 2 by omega]; exact (SlR.elem (f := SSec.cells) (xs := ys) (i := i) (SlR.of_osl (W0 := W0) (E := 82) (a := some ⟨ol, oo, none⟩) (c := cc) eX) SSec.len hy) 2 _ rfl)) rfl ?_
                        refine OG.mv rfl rfl ?_
                        refine OG.yield (Yield.index_slice Tryz.underlying32 ti5 rfl rfl (by omega) (by omega)) rfl ?_
                        refine OG.yield (Yield.load (v := byteV b0) ti5 rfl (by rw [show yo + (jj : Int).toNat * 1 = yo + jj by omega]; exact SlR.cel (i := jj) (SlR.of_osl (W0 := W0) (E := 5) (a := some ⟨yl, yo, none⟩) (c := yc) (m := yb.length) (xs := bytesV yb) eX) (by rw [bytesV_get hb0]))) rfl ?_
                        refine OG.yield (Yield.as (Yield.add rfl rfl rfl) (v' := byteV (byteI ((b0.toNat : Int) + 1))) (by unfold byteV; rw [byteI_val])) rfl ?_
                        refine OG.yield (Yield.index_slice Tryz.underlying32 ti5 rfl rfl (by omega) (by omega)) rfl ?_
                        refine OG.eff (Eff.storeByteS (b := yl) (o := yo) (i := jj) (bs := yb) (z := byteI ((b0.toNat : Int) + 1)) ti5 (show yo + (jj : Int).toNat * 1 = yo + jj by omega) rfl rfl fC (by omega)) rfl ?_
                        rintro ⟨⟩ -
                        refine OG.nil ?_
                        refine QG.block_normal ?_
                        refine QG.then ?_
                        refine CG.region ?_
                        refine OG.mv rfl rfl ?_
                        refine OG.yield (Yield.add rfl rfl (w64 (by omega) (by omega))) rfl ?_
                        refine OG.sg rfl rfl ?_
                        refine OG.nil ?_
                        refine QG.next (jj + 1, ys.set i ⟨yp, ypm, some ⟨yl, yo, none⟩, yc, yb.set jj (byteI ((b0.toNat : Int) + 1))⟩) ⟨?_, by simp only; omega⟩ (by simp only; omega) eS ?_
                        · dsimp only
                          rw [List.map_set, ← hsk2]
                          exact Ms.set_self (by rw [List.getElem?_map, hy]; simp [SSec.sk])
                        · exact Imp.pull (A := blk b21 [.int .u32 op.I_Entry, .slice (some ⟨ol, oo, none⟩) cl.length cc] 35) eX (Imp.trans (B := secB ⟨yp, ypm, some ⟨yl, yo, none⟩, yc, yb.set jj (byteI ((b0.toNat : Int) + 1))⟩ :: Star ((ys.map secB).eraseIdx i) :: osl 82 3 (some ⟨ol, oo, none⟩) cc ys.length ((ys.map SSec.cells).flatten) :: ZG n qs (loadO qk o e.k op.I_Entry op.I_Sections).2 (z.upd e.k ts2 σ2) (old W0 :: Fr)) iM (sec_upd (y' := ⟨yp, ypm, some ⟨yl, yo, none⟩, yc, yb.set jj (byteI ((b0.toNat : Int) + 1))⟩) hy (by simp [SSec.cells])))
                      · try replace hc := of_decide_eq_false hc
                        refine CG.exit ?_
                        refine QG.pass_exit ?_
                        refine QG.pass_exit ?_
                        refine QG.block_exit ?_
                        refine QG.block_normal ?_
                        refine QG.then ?_
                        refine CG.region ?_
                        refine OG.mv rfl rfl ?_
                        refine OG.yield (Yield.add rfl rfl (w64 (by omega) (by omega))) rfl ?_
                        refine OG.sg rfl rfl ?_
                        refine OG.nil ?_
                        exact QG.next (i + 1, ys) ⟨by simp only; omega, hsk2⟩ (by simp only; omega) eS iM
                    · try replace hc := of_decide_eq_false hc
                      refine CG.exit ?_
                      refine QG.pass_exit ?_
                      refine QG.pass_exit ?_
                      refine QG.block_exit ?_
                      refine QG.then ?_
                      refine CG.seq ?_
                      refine CG.region ?_
                      refine OG.mv rfl rfl ?_
                      refine OG.sg rfl rfl ?_
                      refine OG.nil ?_
                      refine QG.then ?_
                      refine CG.ret ?_
                      refine QG.block_ret ?_
                      refine QG.pass_ret ?_
                      exact QG.ret1 rfl rfl ((loadO qk o e.k op.I_Entry op.I_Sections).2, z.upd e.k ts2 σ2) ⟨(zo_ok h hj (stp_load hf.le) L2 hT2).mono (by omega), rfl, rfl⟩ rfl iM
                  · try replace hc := of_decide_eq_false hc
                    refine CG.skip ?_
                    refine QG.block_normal ?_
                    refine QG.then ?_
                    refine CG.seq ?_
                    refine CG.region ?_
                    refine OG.mv rfl rfl ?_
                    refine OG.callo call39 rfl ((Imp.trans (B := ZO n qs z e (s1F z j) (s2F o z j) (rsF o z.bw z.ts e) (RW z.bw o.fr (lefO qs (rtOf z.sl) o)) z.σ (old W0 :: Fr)) iM (zo_back hj))) (moves_spec W0 (old W0 :: Fr) (z := z) h hq hql hzl hc8) rfl ?_
                    rintro y ⟨hy1, hy2, hy3⟩
                    refine OG.sg rfl rfl ?_
                    refine OG.nil ?_
                    refine QG.then ?_
                    refine CG.ret ?_
                    exact QG.ret1 rfl rfl (o, y) ⟨hy1.mono (by omega), hy2, hy3⟩ rfl iM
end
end Go.Proofs.YtmlfcfbblfcpdaaGreat.Sp
/- The laws' world as it is made; how many frames and quotas. -/
namespace Go.Proofs.YtmlfcfbblfcpdaaGreat.Sp
open Go Go.Sl Go.RowKit Go.Proofs Go.Proofs.YtmlfcfbblfcpdaaGreat.T Go.Proofs.YtmlfcfbblfcpdaaGreat.Me Go.Proofs.YtmlfcfbblfcpdaaGreat.Pe Go.Proofs.YtmlfcfbblfcpdaaGreat.Pg
open Go.Proofs.YtmlfcfbblfcpdaaGreat.Fz (iv oiv iv_append iv_ones iv_get iv_len cnt free_frame left left_in nerr nerr_ok)
set_option maxRecDepth 100000
theorem star_mono {α : Type} {f g : α → HProp} : ∀ {l : List α}, (∀ e ∈ l, ∀ y, f e y → g e y) → ∀ y, Star (l.map f) y → Star (l.map g) y
  | [], _, _, h => h
  | e :: l, h, y, ⟨p, hp, hf, hs⟩ => ⟨p, hp, h e (List.mem_cons_self ..) _ hf, star_mono (l := l) (fun x hx => h x (List.mem_cons_of_mem _ hx)) _ hs⟩
abbrev ob0 (fr : Nat) : Ob := ⟨fun _ _ => none, fun _ _ => false, fr⟩
theorem pvTo_zero {fr k : Nat} : ∀ p, pvTo (ob0 fr) k p = []
  | 0 => rfl
  | p + 1 => by unfold pvTo; rw [pvTo_zero p]; rfl
theorem rs_new {b bw k fr : Nat} (y : Heaplet) (h : rsb0 b bw k y) : RS b bw k (pvs (ob0 fr) k) [] y := by
  refine ⟨⟨none, 0, [], none, 0⟩, (pvTo_zero 4096).symm, y, hle_refl y, h, ?_⟩
  have : Imp [] [osl 61 3 none 0 0 [], Star [], oiv none 0 []] := Imp.trans (osl_nil (E := 3) (sz := 1)) (Imp.trans star_nil (Imp.trans (osl_nil (E := 61) (sz := 3)) iM))
  exact this _ trivial
theorem lefO_new {n : Nat} {qs : List Int} {sl : List SpE} {fr : Nat} (hk : sl.map (·.k) = posK qs qs.length) : lefO qs (rtOf sl) (ob0 fr) = lft qs qs.length := by
  have hnd : (sl.map (·.k)).Nodup := by rw [hk]; exact posK_nodup _ _
  apply List.ext_getElem?
  intro k
  cases h : qs[k]? with
  | none => rw [List.getElem?_eq_none (by rw [lefO_len]; exact List.getElem?_eq_none_iff.1 h), List.getElem?_eq_none (by rw [lft_len]; exact List.getElem?_eq_none_iff.1 h)]
  | some q =>
    have hkl := (List.getElem?_eq_some_iff.1 h).1
    rw [lefO_get h, lft_get h, used_zero]
    by_cases hq : 0 < q
    · have hm : k ∈ sl.map (·.k) := by
        rw [hk]; unfold posK
        rw [List.mem_filter, List.mem_range, decide_eq_true_iff, List.getD_eq_getElem?_getD, h]
        exact ⟨hkl, hq⟩
      obtain ⟨e, he, rfl⟩ := List.mem_map.1 hm
      simp [rtOf_mem hnd he, hkl, hq]
    · have hno : rtOf sl k = none := rtOf_none fun x hx e => by
        have hm : x.k ∈ posK qs qs.length := by rw [← hk]; exact List.mem_map_of_mem hx
        obtain ⟨q2, h1, h2⟩ := posK_pos hm
        rw [e, h] at h1
        exact hq (by rw [Option.some.inj h1]; exact h2)
      rw [hno, if_neg (by simp), if_neg (fun c => hq c.2)]
abbrev MD.zs (z : MD) : ZS := ⟨z.m, z.f, z.t, z.bx, z.bw, z.sa, z.sc, z.ra, z.rc, z.sl, z.σ, fun _ => []⟩
theorem mg_zg {n : Nat} {qs : List Int} {z : MD} {Fr : List HProp} (hk : z.sl.map (·.k) = posK qs qs.length) (hn : z.sl.length ≤ n) : Imp (MG n qs qs.length z Fr) (ZG n qs (ob0 (n - z.sl.length)) z.zs Fr) := by
  dsimp only [MG, ZG, bxF]
  rw [lefO_new (n := n) hk, show (((n - z.sl.length : Nat) : Int)) = (n : Int) - z.sl.length by omega]
  refine Imp.trans (B := Star (z.sl.map fun e => rsb0 e.b z.bw e.k) :: blk z.bx [.pointer (some ⟨z.m, 0, none⟩), .pointer (some ⟨z.f, 0, none⟩), .pointer (some ⟨z.t, 0, none⟩), .slice z.sa z.sl.length z.sc, .pointer (some ⟨z.bw, 0, none⟩), .slice z.ra z.sl.length z.rc] 47 ::
    osl 48 1 z.sa z.sc z.sl.length (ptrs (z.sl.map (·.s))) :: osl 73 1 z.ra z.rc z.sl.length (ptrs (z.sl.map (·.b))) :: RW z.bw ((n : Int) - z.sl.length) (lft qs qs.length) :: Star (z.sl.map fun e => sb e.s e.k e.r z.m z.f z.t) :: WG z.m z.f z.t n qs z.σ Fr) iM ?_
  refine Imp.trans (Imp.head (B := Star (z.sl.map (rsF (ob0 (n - z.sl.length)) z.bw fun _ => []))) (star_mono fun e _ y hy => rs_new y hy)) ?_
  exact iM
theorem zok_new {n : Nat} {qs : List Int} {z : MD} (hk : z.sl.map (·.k) = posK qs qs.length) (L : Lk n qs (rtOf z.sl) (ob0 (n - z.sl.length)) 0 z.σ) : ZOk n qs (ob0 (n - z.sl.length)) 0 z.zs :=
  ⟨hk, L, fun e _ => ⟨fun g => by simp, by rw [show (ob0 (n - z.sl.length)).ts e.k = fun _ => false from rfl, cN_zero]; rfl⟩⟩
section
variable (W0 : World) (Fr : List HProp)
theorem made_zg {n qc : Nat} {qa : Option Addr} {qs : List Int} (hne : nerr n qs = 0) (hqs : SlR W0 Fr 1 qa qs.length (iv qs)) : Ctr Tryz.prog W0 6 [.int .i64 n, .slice qa qs.length qc] Fr
    (fun y : Ob × ZS => ZOk n qs y.1 0 y.2 ∧ y.2.sl.length ≤ 1024) (fun y => .tuple #[.pointer (some ⟨y.2.bx, 0, none⟩), .bool true]) (fun y => ZG n qs y.1 y.2 Fr) := by
  obtain ⟨hn, -⟩ := nerr_ok hne
  intro w hw
  refine (made_spec W0 Fr hne hqs w hw).mono ?_
  rintro e w' ⟨z, ⟨hk, L, hzl⟩, he, hs⟩
  exact ⟨(ob0 (n - z.sl.length), z.zs), ⟨zok_new hk L, by show z.sl.length ≤ 1024; omega⟩, he, hs.imp (mg_zg hk hzl)⟩
structure TZ where
  n : Nat
  qs : List Int
  a : Option Addr
  c : Nat
theorem sum_snoc (l : List Int) (x : Int) : (l ++ [x]).sum = l.sum + x := by simp
set_option maxHeartbeats 1000000 in
theorem totals_spec {tot : Int} {a : Option Addr} {quotas : List Int} {c : Nat} (hq : SlR W0 Fr 1 a quotas.length (iv quotas)) : Ctr Tryz.prog W0 5 [.int .i64 tot, .slice a quotas.length c] Fr (fun z : TZ => nerr z.n z.qs = 0 ∧ z.qs.length ≤ 4) (fun z => .tuple #[.int .i64 z.n, .slice z.a z.qs.length z.c]) (fun z => oiv z.a z.c z.qs :: Fr) := by
  have hwr := wrap_u64_range tot
  obtain ⟨n, hnm, hn1, hn2⟩ : ∃ n : Nat, 4 + Int.tmod (IntKind.u64.wrap tot) 30 = (n : Int) ∧ 4 ≤ n ∧ n ≤ 33 := by
    rw [Int.tmod_eq_emod_of_nonneg hwr.1]
    have h1 := Int.emod_nonneg (IntKind.u64.wrap tot) (show (30 : Int) ≠ 0 by decide)
    have h2 := Int.emod_lt_of_pos (IntKind.u64.wrap tot) (show (0 : Int) < 30 by decide)
    exact ⟨(4 + IntKind.u64.wrap tot % 30).toNat, by omega, by omega, by omega⟩
  refine Ctr.of_body Tryz.func5 rfl Tryz.ntmps5 rfl ?_
  refine CG.seq ?_
  refine CG.region ?_
  refine OG.sg rfl rfl ?_
  refine OG.sg rfl rfl ?_
  refine OG.nil ?_
  refine QG.then ?_
  refine CG.seq ?_
  refine CG.region ?_
  refine OG.mv rfl rfl ?_
  refine OG.yield (by first | exact Yield.conv Tryz.underlying31 rfl rfl (wu64 (by omega) (by omega)) | exact Yield.conv Tryz.underlying31 rfl rfl rfl) rfl ?_
  refine OG.yield (Yield.rem (c := (n : Int) - 4) rfl rfl (by decide) (by omega)) rfl ?_
  refine OG.yield (by first | exact Yield.conv Tryz.underlying3 rfl rfl (w64 (by omega) (by omega)) | exact Yield.conv Tryz.underlying3 rfl rfl rfl) rfl ?_
  refine OG.yield (Yield.add rfl rfl (w64 (by omega) (by omega))) rfl ?_
  refine OG.sg rfl rfl ?_
  refine OG.nil ?_
  refine QG.then ?_
  refine CG.seq ?_
  refine CG.region ?_
  refine OG.sg rfl rfl ?_
  refine OG.nil ?_
  refine QG.then ?_
  refine CG.seq ?_
  refine CG.region ?_
  refine OG.mv rfl rfl ?_
  refine OG.sg rfl rfl ?_
  refine OG.nil ?_
  refine QG.then ?_
  refine CG.seq ?_
  refine CG.seq ?_
  refine CG.region ?_
  refine OG.sg rfl rfl ?_
  refine OG.nil ?_
  refine QG.then ?_
  refine CG.block ?_
  refine CG.loop (fun y : Nat × TZ => y.1 ≤ quotas.length ∧ y.2.n = n ∧ y.2.qs.length = y.1 ∧ y.1 ≤ 4 ∧ (∀ q ∈ y.2.qs, 0 ≤ q ∧ q ≤ 33) ∧ 0 ≤ y.2.qs.sum ∧ y.2.qs.sum ≤ n) (fun y => [(0, .int .i64 n), (1, .slice a quotas.length c), (6, .slice y.2.a y.2.qs.length y.2.c), (7, .int .i64 (n - y.2.qs.sum)), (8, .int .i64 y.1)]) (fun y => oiv y.2.a y.2.c y.2.qs :: Fr) (fun y => quotas.length - y.1) (0, ⟨n, [], none, 0⟩) ⟨Nat.zero_le _, rfl, rfl, Nat.zero_le _, (fun q h => by cases h), Int.le_refl 0, (show (0 : Int) ≤ n by omega)⟩ ?_ (Imp.trans osl_nil iM) ?_
  · dsimp only
    rw [show (n : Int) - (([] : List Int).sum : Int) = 4 + ((n : Int) - 4) by simp only [List.sum_nil]; omega, show (4 : Int) + ((n : Int) - 4) = n by omega]
    exact eS
  rintro ⟨i, m, qs, qa, qc⟩ ⟨hi, rfl, hql, hi4, hqr, hs0, hs1⟩
  dsimp only at hi hql hi4 hqr hs0 hs1 hn1 hn2 hnm ⊢
  refine CG.seq ?_
  refine CG.seq ?_
  rcases loop_head (i) (quotas.length) 4 with hh | hh | hh
  · skip
    refine CG.region ?_
    refine OG.mv rfl rfl ?_
    refine OG.mv rfl rfl ?_
    refine OG.yield (Yield.len_slice Tryz.underlying22 rfl rfl) rfl ?_
    refine OG.yield Yield.lssA rfl ?_
    refine OG.mv rfl rfl ?_
    refine OG.gy rfl rfl rfl ?_
    refine OG.mv rfl rfl ?_
    refine OG.gy rfl rfl rfl ?_
    refine OG.yield Yield.lssA rfl ?_
    refine OG.yield Yield.pickA rfl ?_
    refine OG.nil ?_
    refine QG.then ?_
    refine CG.cond_t rfl ?_
    refine CG.skip ?_
    refine QG.then ?_
    refine CG.seq ?_
    refine CG.block ?_
    refine CG.seq ?_
    refine CG.pure (fun w hw => iv_shape (hq.imp (G := oiv qa qc qs :: Fr) iM) (by omega) w hw) ?_
    rintro ⟨bq, oq, rfl⟩
    have hwq := wrap_u64_range (quotas.getD i 0)
    obtain ⟨q, hqm, hq0, hq1⟩ : ∃ q : Int, Int.tmod (IntKind.u64.wrap (quotas.getD i 0)) ((m : Int) - qs.sum + 1) = q ∧ 0 ≤ q ∧ q ≤ (m : Int) - qs.sum := by
      rw [Int.tmod_eq_emod_of_nonneg hwq.1]
      have h1 := Int.emod_nonneg (IntKind.u64.wrap (quotas.getD i 0)) (show (m : Int) - qs.sum + 1 ≠ 0 by omega)
      have h2 := Int.emod_lt_of_pos (IntKind.u64.wrap (quotas.getD i 0)) (show (0 : Int) < (m : Int) - qs.sum + 1 by omega)
      exact ⟨_, rfl, h1, by omega⟩
    refine CG.region ?_
    refine OG.mv rfl rfl ?_
    refine OG.mv rfl rfl ?_
    refine OG.yield (Yield.index_slice Tryz.underlying22 ti3 rfl rfl (by omega) (by omega)) rfl ?_
    refine OG.yield (Yield.load (v := .int .i64 (quotas.getD i 0)) ti3 rfl (by rw [show oq + (i : Int).toNat * 1 = oq + i by omega]; exact ((hq.imp iM).cel (iv_get (by rw [List.getElem?_eq_getElem hh.1, List.getD_eq_getElem?_getD, List.getElem?_eq_getElem hh.1]; rfl))))) rfl ?_
    refine OG.yield (by first | exact Yield.conv Tryz.underlying31 rfl rfl (wu64 (by omega) (by omega)) | exact Yield.conv Tryz.underlying31 rfl rfl rfl) rfl ?_
    refine OG.mv rfl rfl ?_
    refine OG.yield (Yield.add rfl rfl (w64 (by omega) (by omega))) rfl ?_
    refine OG.yield (by first | exact Yield.conv Tryz.underlying31 rfl rfl (wu64 (by omega) (by omega)) | exact Yield.conv Tryz.underlying31 rfl rfl rfl) rfl ?_
    refine OG.yield (Yield.rem (c := q) rfl rfl (by omega) hqm) rfl ?_
    refine OG.yield (by first | exact Yield.conv Tryz.underlying3 rfl rfl (w64 (by omega) (by omega)) | exact Yield.conv Tryz.underlying3 rfl rfl rfl) rfl ?_
    refine OG.sg rfl rfl ?_
    refine OG.nil ?_
    refine QG.then ?_
    refine CG.seq ?_
    refine CG.region ?_
    refine OG.mv rfl rfl ?_
    refine OG.mv rfl rfl ?_
    refine OG.effd (Eff.lit1 Tryz.underlying22 ti3 rfl rfl rfl) rfl ?_
    rintro b38 -
    refine OG.effd (Eff.append (a := qa) (c := qc) (m := qs.length) (xs := iv qs) (k := 1) (ys := iv [q]) rfl rfl rfl Tryz.underlying22 Tryz.underlying22 ti3 rfl (by decide) fC (SlR.of_osl (a := some ⟨b38, 0, none⟩) eX) (iv_ones _) (by omega)) rfl ?_
    rintro ⟨a39, c39⟩ -
    refine OG.sg rfl rfl ?_
    refine OG.nil ?_
    refine QG.then ?_
    refine CG.region ?_
    refine OG.mv rfl rfl ?_
    refine OG.mv rfl rfl ?_
    refine OG.yield (Yield.sub rfl rfl (w64 (by omega) (by omega))) rfl ?_
    refine OG.sg rfl rfl ?_
    refine OG.nil ?_
    refine QG.block_normal ?_
    refine QG.then ?_
    refine CG.region ?_
    refine OG.mv rfl rfl ?_
    refine OG.yield (Yield.add rfl rfl (w64 (by omega) (by omega))) rfl ?_
    refine OG.sg rfl rfl ?_
    refine OG.nil ?_
    refine QG.next (i + 1, ⟨m, qs ++ [q], a39, c39⟩) ⟨by simp only; omega, rfl, by simp only [List.length_append, List.length_cons, List.length_nil]; omega, by simp only; omega, ?_, by simp only [sum_snoc]; omega, by simp only [sum_snoc]; omega⟩ (by simp only; omega) ?_ (Imp.trans (B := osl 3 1 a39 c39 (qs.length + 1) (iv qs ++ iv [q]) :: Fr) iM oiv_snoc)
    · intro x hx
      rcases List.mem_append.1 hx with hx | hx
      · exact hqr x hx
      · rw [List.mem_singleton] at hx; subst hx; omega
    · dsimp only
      rw [sum_snoc, List.length_append, show (m : Int) - (qs.sum + q) = (m : Int) - qs.sum - q by omega]
      exact eS
  · skip
    refine CG.region ?_
    refine OG.mv rfl rfl ?_
    refine OG.mv rfl rfl ?_
    refine OG.yield (Yield.len_slice Tryz.underlying22 rfl rfl) rfl ?_
    refine OG.yield Yield.lssA rfl ?_
    refine OG.mv rfl rfl ?_
    refine OG.gy rfl rfl rfl ?_
    refine OG.mv rfl rfl ?_
    refine OG.gy rfl rfl rfl ?_
    refine OG.yield Yield.lssA rfl ?_
    refine OG.yield Yield.pickA rfl ?_
    refine OG.nil ?_
    refine QG.then ?_
    refine CG.cond_f rfl ?_
    refine CG.exit ?_
    refine QG.pass_exit ?_
    refine QG.pass_exit ?_
    refine QG.block_exit ?_
    refine QG.then ?_
    refine CG.seq ?_
    refine CG.region ?_
    refine OG.mv rfl rfl ?_
    refine OG.mv rfl rfl ?_
    refine OG.sg rfl rfl ?_
    refine OG.sg rfl rfl ?_
    refine OG.nil ?_
    refine QG.then ?_
    refine CG.ret ?_
    refine QG.ret2 rfl rfl rfl ⟨m, qs, qa, qc⟩ ⟨?_, by show qs.length ≤ 4; omega⟩ rfl iM
    show nerr m qs = 0
    unfold nerr
    rw [if_neg (by omega), if_neg (by omega), if_neg (by rintro ⟨q, h1, h2⟩; have := hqr q h1; omega), if_neg (by omega)]
  · skip
    refine CG.region ?_
    refine OG.mv rfl rfl ?_
    refine OG.mv rfl rfl ?_
    refine OG.yield (Yield.len_slice Tryz.underlying22 rfl rfl) rfl ?_
    refine OG.yield Yield.lssA rfl ?_
    refine OG.mv rfl rfl ?_
    refine OG.gn rfl rfl rfl rfl rfl ?_
    refine OG.gn rfl rfl rfl rfl rfl ?_
    refine OG.yield Yield.pickA rfl ?_
    refine OG.nil ?_
    refine QG.then ?_
    refine CG.cond_f rfl ?_
    refine CG.exit ?_
    refine QG.pass_exit ?_
    refine QG.pass_exit ?_
    refine QG.block_exit ?_
    refine QG.then ?_
    refine CG.seq ?_
    refine CG.region ?_
    refine OG.mv rfl rfl ?_
    refine OG.mv rfl rfl ?_
    refine OG.sg rfl rfl ?_
    refine OG.sg rfl rfl ?_
    refine OG.nil ?_
    refine QG.then ?_
    refine CG.ret ?_
    refine QG.ret2 rfl rfl rfl ⟨m, qs, qa, qc⟩ ⟨?_, by show qs.length ≤ 4; omega⟩ rfl iM
    show nerr m qs = 0
    unfold nerr
    rw [if_neg (by omega), if_neg (by omega), if_neg (by rintro ⟨q, h1, h2⟩; have := hqr q h1; omega), if_neg (by omega)]
end
end Go.Proofs.YtmlfcfbblfcpdaaGreat.Sp
/- SpacePlays: spaces of several partitions in one memory do what the chapter says: the law returns true and changes nothing that was there. -/
namespace Go.Proofs.YtmlfcfbblfcpdaaGreat.spacePlays
open Go Go.Sl Go.RowKit Go.Proofs Go.Proofs.YtmlfcfbblfcpdaaGreat.T Go.Proofs.YtmlfcfbblfcpdaaGreat.Me Go.Proofs.YtmlfcfbblfcpdaaGreat.Pe Go.Proofs.YtmlfcfbblfcpdaaGreat.Pg Go.Proofs.YtmlfcfbblfcpdaaGreat.Sp
open Go.Proofs.YtmlfcfbblfcpdaaGreat.Fz (iv oiv iv_append iv_ones iv_get iv_len nerr nerr_ok flat_ints)
set_option maxRecDepth 100000
set_option maxHeartbeats 4000000 in
theorem walk (W : World) {tot : Int} {a1 a2 : Option Addr} {c1 c2 : Nat} {quotas : List Int} {ops : List SOp} (hqs0 : SlAt W 1 a1 quotas.length ((quotas.map (intC .i64)).flatten)) (hops : SlAt W 10 a2 ops.length ((ops.map SOp.cells).flatten)) (hok : ∀ o ∈ ops, o.OK W) :
    Ctr Tryz.prog W 3 [.int .i64 tot, .slice a1 quotas.length c1, .slice a2 ops.length c2] [old W] (fun _ : Unit => True) (fun _ => .bool true) (fun _ => [old W]) := by
  rw [flat_ints] at hqs0
  refine Ctr.of_body Tryz.func3 rfl Tryz.ntmps3 rfl ?_
  refine CG.seq ?_
  refine CG.region ?_
  refine OG.sg rfl rfl ?_
  refine OG.nil ?_
  refine QG.then ?_
  refine CG.seq ?_
  refine CG.region ?_
  refine OG.mv rfl rfl ?_
  refine OG.mv rfl rfl ?_
  refine OG.callo call5 rfl (Imp.refl _) (totals_spec W _ (tot := tot) (a := a1) (quotas := quotas) (c := c1) (by exact hqs0.old eX)) rfl ?_
  rintro ⟨n, qs, qa, qc⟩ ⟨hne, hql⟩
  dsimp only at hne hql ⊢
  obtain ⟨hn, -, hq, -⟩ := nerr_ok hne
  refine OG.mv rfl rfl ?_
  refine OG.yield (Yield.extract rfl rfl) rfl ?_
  refine OG.yield (Yield.extract rfl rfl) rfl ?_
  refine OG.sg rfl rfl ?_
  refine OG.sg rfl rfl ?_
  refine OG.nil ?_
  refine QG.then ?_
  refine CG.seq ?_
  refine CG.region ?_
  refine OG.mv rfl rfl ?_
  refine OG.mv rfl rfl ?_
  refine OG.callo call6 rfl (Imp.refl _) (made_zg W _ (n := n) (qs := qs) (qa := qa) (qc := qc) hne (by exact SlR.of_osl (E := 3) (a := qa) eX)) rfl ?_
  rintro ⟨o0, z0⟩ ⟨h0, hz0⟩
  dsimp only at h0 hz0 ⊢
  refine OG.mv rfl rfl ?_
  refine OG.yield (Yield.extract rfl rfl) rfl ?_
  refine OG.yield (Yield.extract rfl rfl) rfl ?_
  refine OG.sg rfl rfl ?_
  refine OG.sg rfl rfl ?_
  refine OG.nil ?_
  refine QG.then ?_
  refine CG.seq ?_
  refine CG.seq ?_
  refine CG.region ?_
  refine OG.mv rfl rfl ?_
  refine OG.yield (Yield.not rfl) rfl ?_
  refine OG.nil ?_
  refine QG.then ?_
  refine CG.cond_f rfl ?_
  refine CG.skip ?_
  refine QG.then ?_
  refine CG.seq ?_
  refine CG.seq ?_
  refine CG.region ?_
  refine OG.sg rfl rfl ?_
  refine OG.nil ?_
  refine QG.then ?_
  refine CG.block ?_
  refine CG.loop (fun y : Nat × Ob × ZS => y.1 ≤ 80 ∧ y.1 ≤ ops.length ∧ ZOk n qs y.2.1 (y.1 * 8192) y.2.2 ∧ y.2.2.bx = z0.bx ∧ y.2.2.sl.length ≤ 1024) (fun y => [(2, .slice a2 ops.length c2), (7, .pointer (some ⟨z0.bx, 0, none⟩)), (9, .int .i64 y.1)]) (fun y => ZG n qs y.2.1 y.2.2 [old W]) (fun y => ops.length - y.1) (0, o0, z0) ⟨Nat.zero_le _, Nat.zero_le _, h0.mono (Nat.zero_le _), rfl, hz0⟩ eS iM ?_
  rintro ⟨i, o, z⟩ ⟨hi80, hi, h, hbx, hzl⟩
  dsimp only at hi80 hi h hbx hzl ⊢
  refine CG.seq ?_
  refine CG.seq ?_
  rcases loop_head (i) (ops.length) 80 with hh | hh | hh
  · skip
    refine CG.region ?_
    refine OG.mv rfl rfl ?_
    refine OG.mv rfl rfl ?_
    refine OG.yield (Yield.len_slice Tryz.underlying23 rfl rfl) rfl ?_
    refine OG.yield Yield.lssA rfl ?_
    refine OG.mv rfl rfl ?_
    refine OG.gy rfl rfl rfl ?_
    refine OG.mv rfl rfl ?_
    refine OG.gy rfl rfl rfl ?_
    refine OG.yield Yield.lssA rfl ?_
    refine OG.yield Yield.pickA rfl ?_
    refine OG.nil ?_
    refine QG.then ?_
    refine CG.cond_t rfl ?_
    refine CG.skip ?_
    refine QG.then ?_
    refine CG.seq ?_
    refine CG.block ?_
    refine CG.seq ?_
    obtain ⟨op, hop⟩ : ∃ op, ops[i]? = some op := ⟨_, List.getElem?_eq_getElem hh.1⟩
    have hopk := hok op (List.mem_of_getElem? hop)
    refine CG.pure (fun w hw => SlR.elem_shape (W0 := W) (f := SOp.cells) (xs := ops) (i := i) (hops.old eX) SOp.len (by decide) hh.1 w hw) ?_
    rintro ⟨ol, oo, rfl⟩
    refine CG.region ?_
    refine OG.yield (Yield.as (Yield.move rfl) (v' := .pointer (some ⟨z.bx, 0, none⟩)) (by rw [hbx])) rfl ?_
    refine OG.mv rfl rfl ?_
    refine OG.mv rfl rfl ?_
    refine OG.yield (Yield.index_slice Tryz.underlying23 ti37 rfl rfl (by omega) (by omega)) rfl ?_
    refine OG.yield (Yield.load_agg (vs := op.cells) ti37 rfl (SOp.len _) (by rw [show oo + (i : Int).toNat * 10 = oo + i * 10 by omega]; exact SlR.elem (f := SOp.cells) (xs := ops) (i := i) (hops.old eX) SOp.len hop)) rfl ?_
    refine OG.callo call7 rfl (iM) (act_spec W [] (z := z) hopk h hq (by omega) (by omega) hzl (by omega)) rfl ?_
    rintro ⟨o2, z2⟩ ⟨h2, hbx2, hzl2⟩
    dsimp only at h2 hbx2 hzl2 ⊢
    rw [hbx] at hbx2
    refine OG.yield (Yield.not rfl) rfl ?_
    refine OG.mv rfl rfl ?_
    refine OG.gy rfl rfl rfl ?_
    refine OG.yield (Yield.as (Yield.move rfl) (v' := .pointer (some ⟨z2.bx, 0, none⟩)) (by rw [hbx2])) rfl ?_
    refine OG.gy rfl rfl rfl ?_
    refine OG.callo call8 rfl (iM) (wsame_spec W [old W] (z := z2) h2 hq (by omega) (by omega)) rfl ?_
    rintro ⟨⟩ -
    refine OG.gy rfl rfl rfl ?_
    refine OG.yield (Yield.not rfl) rfl ?_
    refine OG.yield Yield.pickA rfl ?_
    refine OG.nil ?_
    refine QG.then ?_
    refine CG.cond_f rfl ?_
    refine CG.skip ?_
    refine QG.block_normal ?_
    refine QG.then ?_
    refine CG.region ?_
    refine OG.mv rfl rfl ?_
    refine OG.yield (Yield.add rfl rfl (w64 (by omega) (by omega))) rfl ?_
    refine OG.sg rfl rfl ?_
    refine OG.nil ?_
    exact QG.next (i + 1, o2, z2) ⟨by simp only; omega, by simp only; omega, h2.mono (by simp only; omega), hbx2, by simp only; omega⟩ (by simp only; omega) eS iM
  · skip
    refine CG.region ?_
    refine OG.mv rfl rfl ?_
    refine OG.mv rfl rfl ?_
    refine OG.yield (Yield.len_slice Tryz.underlying23 rfl rfl) rfl ?_
    refine OG.yield Yield.lssA rfl ?_
    refine OG.mv rfl rfl ?_
    refine OG.gy rfl rfl rfl ?_
    refine OG.mv rfl rfl ?_
    refine OG.gy rfl rfl rfl ?_
    refine OG.yield Yield.lssA rfl ?_
    refine OG.yield Yield.pickA rfl ?_
    refine OG.nil ?_
    refine QG.then ?_
    refine CG.cond_f rfl ?_
    refine CG.exit ?_
    refine QG.pass_exit ?_
    refine QG.pass_exit ?_
    refine QG.block_exit ?_
    refine QG.then ?_
    refine CG.seq ?_
    refine CG.region ?_
    refine OG.yield (Yield.as (Yield.move rfl) (v' := .pointer (some ⟨z.bx, 0, none⟩)) (by rw [hbx])) rfl ?_
    refine OG.callo call8 rfl (iM) (wsame_spec W [old W] (z := z) h hq (by omega) hzl) rfl ?_
    rintro ⟨⟩ -
    refine OG.sg rfl rfl ?_
    refine OG.nil ?_
    refine QG.then ?_
    refine CG.ret ?_
    exact QG.ret1 rfl rfl () trivial rfl iM
  · skip
    refine CG.region ?_
    refine OG.mv rfl rfl ?_
    refine OG.mv rfl rfl ?_
    refine OG.yield (Yield.len_slice Tryz.underlying23 rfl rfl) rfl ?_
    refine OG.yield Yield.lssA rfl ?_
    refine OG.mv rfl rfl ?_
    refine OG.gn rfl rfl rfl rfl rfl ?_
    refine OG.gn rfl rfl rfl rfl rfl ?_
    refine OG.yield Yield.pickA rfl ?_
    refine OG.nil ?_
    refine QG.then ?_
    refine CG.cond_f rfl ?_
    refine CG.exit ?_
    refine QG.pass_exit ?_
    refine QG.pass_exit ?_
    refine QG.block_exit ?_
    refine QG.then ?_
    refine CG.seq ?_
    refine CG.region ?_
    refine OG.yield (Yield.as (Yield.move rfl) (v' := .pointer (some ⟨z.bx, 0, none⟩)) (by rw [hbx])) rfl ?_
    refine OG.callo call8 rfl (iM) (wsame_spec W [old W] (z := z) h hq (by omega) hzl) rfl ?_
    rintro ⟨⟩ -
    refine OG.sg rfl rfl ?_
    refine OG.nil ?_
    refine QG.then ?_
    refine CG.ret ?_
    exact QG.ret1 rfl rfl () trivial rfl iM
open Go.ChangeShapes Go.WideShapes Go.ChangeAt
theorem own : ownKnob Tryz.prog.godebug = none := by kernel_rfl
theorem laid : laidOutB Tryz.prog = true := by kernel_rfl
set_option maxRecDepth 100000 in
theorem lifted (os : Os) (started : os.Started) (H : Type) (enc : TypeId × Value → H) :
    ReturnsInHanded {} Tryz.checked os 3 .any (Rows.spacePlaysSpec.pre6 enc Tryz.prog Tryz.f3 Rows.spacePlaysRow.domain false) (Rows.spacePlaysSpec.post enc Tryz.prog Tryz.f3 false true false false) := by
  refine returnsInHanded_of_change_sized (C := Tryz.checked) own started (by kernel_rfl) Tryz.func3
    (ChangeSpec.witness6 (enc := enc) (C := Tryz.checked) false ⟨#[], #[.int .i64 0, .slice none 0 0, .slice none 0 0], []⟩ 8 (by kernel_rfl) (by kernel_rfl) (by kernel_rfl) (by kernel_rfl)) ?_
  intro W base args ds gs before hval0 hW hcnd hsz0 _
  have hsz : (DataW.weightsEach Tryz.prog (Tryz.f3.params.toList ++ Rows.spacePlaysSpec.plain.varTypes Tryz.prog) (ds ++ gs)).all (· ≤ reachBytes) = true := hsz0
  have hval : ∀ (j : Nat) t v, Tryz.f3.params[j]? = some t → args[j]? = some v → Value.okWide Tryz.prog W .any base t v := hval0
  have hW' := hW
  obtain ⟨p, q, hA0, hV, rfl, hfz, hnd⟩ := hW
  have hA : DataW.TrodAll enc Tryz.prog W 0 (fun _ => true) true Tryz.f3.params.toList args.toList ds p := hA0
  rw [Tryz.params3] at hA hval hsz
  obtain ⟨v0, vs0, d0, ds0, p0, q0, hargs, rfl, rfl, h0, r0⟩ := trodAll_cons hA
  obtain ⟨v1, vs1, d1, ds1, p1, q1, rfl, rfl, rfl, h1, r1⟩ := trodAll_cons r0
  obtain ⟨v2, vs2, d2, ds2, p2, q2, rfl, rfl, rfl, h2, r2⟩ := trodAll_cons r1
  obtain ⟨rfl, rfl, rfl⟩ := trodAll_nil r2
  obtain rfl : args = #[v0, v1, v2] := by cases args; simp_all
  obtain ⟨rfl, rfl⟩ := trodVars_none hV
  obtain ⟨a0, rfl, rfl, rfl, w0⟩ := open_int Tryz.underlying3 (hval 0 3 v0 rfl rfl) h0
  have k1 := weights_le hsz 1 (t := 22) (d := d1) rfl rfl
  have s1 := Opn.param Tryz.underlying22 (Opn.ints (by' := 8) Tryz.underlying22 Tryz.underlying3 (by kernel_rfl) (by kernel_rfl)) (hval 1 22 v1 rfl rfl) h1 k1
  obtain ⟨x1, c1, qs, e1, l1, ok1, s1, m1⟩ := s1
  cases e1
  have k2 := weights_le hsz 2 (t := 23) (d := d2) rfl rfl
  have s2 := Opn.param Tryz.underlying23 (SOp.list W) (hval 2 23 v2 rfl rfl) h2 k2
  obtain ⟨x2, c2, ops, e2, l2, ok2, s2, m2⟩ := s2
  cases e2
  clear hA0 hval0 hsz0 hsz
  refine ((walk W s1 s2 ok2) W (Sat.start W)).mono fun e W' he => ?_
  obtain ⟨_, _, he, hs⟩ := he
  subst he
  exact ⟨_, rfl, law_post laid (params_ok (by kernel_rfl)) rfl Tryz.underlying4 hW' rfl rfl (Sat.below eX hs)⟩
theorem over : Rows.spacePlaysRow.holds Tryz.pinned (OpenSpec.ofChange Rows.spacePlaysSpec) :=
  OpenClaim.holds_of_wide 3 Tryz.f3 rfl rfl rfl rfl rfl rfl rfl ⟨rfl, rfl, rfl, rfl, rfl⟩ rfl rfl rfl rfl rfl (by kernel_rfl) Tryz.func3 (by kernel_rfl)
    (of_decide_eq_true (by kernel_rfl)) (by unfold Func.isWrapper; first | (rw [if_pos (by decide +kernel)]; kernel_rfl) | (rw [if_neg (by decide +kernel)]; exact ⟨rfl, rfl⟩))
    (fun os started H enc _ => lifted os started H enc)
theorem proved : Rows.SpacePlaysSaid := over
#print axioms proved
end Go.Proofs.YtmlfcfbblfcpdaaGreat.spacePlays
